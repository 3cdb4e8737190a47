-- written by this session's own driver (wip/gen.py) with the kit's print and contracts of our own
import Derived.Test.YtbiibhfcclfoiaaPrintA0
import Derived.Test.YtbiibhfcclfoiaaPrintA10
namespace Go.Proofs.Ytbiibhfcclfoiaa.PrintA
open Go.RowKit Go.Proofs.YtbiibhfcclfoiaaLib Go.Proofs.YtbiibhfcclfoiaaW.PrintWords Go.Proofs.YtbiibhfcclfoiaaW.PrintLast Go.Proofs.YtbiibhfcclfoiaaW.PrintMore
attribute [local go_sem] max2_int min2_int max_two min_two max_three min_three max_four min_four   -- for this text's walks alone
set_option linter.unusedVariables false
set_option linter.unusedSimpArgs false

/-! ### impl_roundReaches_fewest: function 49, a contract of our own -/
set_option maxHeartbeats 8000000 in
set_option maxRecDepth 100000 in
theorem fewestR_calls (g h e : Nat) (n : Int) (w : World) (he : e ≤ 10) (hI : IsRR w g h) :
    Calls Try.prog 49 #[.pointer (some ⟨g, 0, none⟩), .int .i64 e, .int .i64 n] w fun e' w' => e' = .returned (.int .i64 (fewR h e n)) ∧ w = w' := by
  have HI := Aside0.mk hI
  have hz2 : (e : Int) < 11 := by omega
  clear hI
  go_enter Try.func49, Try.ntmps49
  go_wp2
  go_loopg [7, 8] 1001 (fun gg _ v8 wr => ∃ t : Nat, t ≤ 1001 ∧ 1001 - t ≤ gg ∧ v8 = .int .i64 t ∧ Aside0 (∀ s, s < t → ¬ n ≤ rr h s e) ∧ w = wr)
  case atStart => exact ⟨0, by omega, by omega, rfl, ⟨fun s hs => absurd hs (Nat.not_lt_zero _)⟩, rfl⟩
  case round =>
    obtain ⟨t, ht, hgg, rfl, HN, rfl⟩ := hrel
    by_cases hlt : t < 1001
    · have hltz : (t : Int) < 1001 := by omega
      have hx := HI.out.at_ t e (by omega) he
      by_cases hc : n ≤ rr h t e
      · have hf := fewR_eq h e n t (by omega) HN.out (fun _ => hc)
        have HF := Aside0.mk hf
        have hd : decide (n ≤ rr h t e) = true := decide_eq_true hc
        clear hf hc
        generalize rr h t e = x at hx hd
        go_wp2
        go_ret
        exact ⟨by rw [HF.out]; rfl, rfl⟩
      · have hd : decide (n ≤ rr h t e) = false := decide_eq_false hc
        have HN2 : Aside0 (∀ s, s < t + 1 → ¬ n ≤ rr h s e) := ⟨fun s hs => by
          by_cases hst : s = t
          · subst hst; exact hc
          · exact HN.out s (by omega)⟩
        clear hc
        generalize rr h t e = x at hx hd
        go_wp2
        go_roundg (1001 - (t + 1))
        case measure => omega
        case rel => exact ⟨t + 1, by omega, by omega, by go_num, HN2, rfl⟩
    · have hltz : ¬ (t : Int) < 1001 := by omega
      have hf := fewR_eq h e n 1000 (by omega) (fun s hs => HN.out s (by omega)) (fun h => absurd h (by omega))
      have HF := Aside0.mk hf
      clear hf
      go_wp2
      go_ret
      exact ⟨by rw [HF.out]; rfl, rfl⟩

/-! ### impl_roundReaches_firstOf: function 50, a contract of our own -/
theorem IsRR.grown {w w1 : World} {g h : Nat} {u : Value} {base : Nat} {ok : Nat → Prop} {xs : List Int} (x : IsRR w g h) (ho : (Kd.int .i64).R 3 w base ok u xs) (hg : w.grownBy w1 u.ownBlock) : IsRR w1 g h :=
  ⟨blk_grown x.out hg (fun he => by
    obtain ⟨c, hc⟩ := Kd.R_typed ho g he.symm
    rw [x.out] at hc
    injection hc with hc
    injection hc with _ h3
    exact absurd h3 (by decide))⟩
set_option maxHeartbeats 8000000 in
set_option maxRecDepth 100000 in
theorem firstOf_calls (g h e s m : Nat) (n : Int) (w : World) (hI : IsRR w g h) (he : e ≤ 10) (hs : s ≤ 999) (hn0 : 0 ≤ n) (hn : n ≤ 1000) (hm : m ≤ e) :
    Calls Try.prog 50 #[.pointer (some ⟨g, 0, none⟩), .int .i64 ((s : Int) + 1), .int .i64 e, .int .i64 n, .int .i64 m] w fun e' w' => ∃ v, e' = .returned (.tuple #[v, .bool (fOf (rr h s) e n m [] 0).isSome]) ∧ Kd.R (Kd.int .i64) 3 w' w.heap.size (fun _ => True) v ((fOf (rr h s) e n m [] 0).getD []) ∧ Below w.heap.size w w' := by
  generalize hres : fOf (rr h s) e n m [] 0 = res
  have HB := Aside0.mk (Below.refl w.heap.size w)
  have HI := Aside0.mk hI
  have HRES := Aside0.mk hres
  have hzs : (s : Int) < 1001 := by omega
  clear hI hres
  go_enter Try.func50, Try.ntmps50
  go_wp2_with ((with_reducible refine gate_dst (N := 16) rfl ?_); refine Kd.R_lit (Kd.int .i64) _ 3 ?hg (N := 16) ?hd (xs := ([] : List Int)) (inner := []) (ok := fun _ => True) (okp := fun _ => True) ?hr ?hp (fun _ hk => hk) trivial (Below.refl _ _) (Nat.le_refl _) (by simp) ?_; (case hd => rfl); (case hg => rfl); (case hr => first | (go_simp; done) | (go_simp; rfl)); (case hp => exact (Reps.none _ _)); intro vl_ wl_ ho4 hb hg_ hnew_; clear hg_ hnew_; have HI := Aside0.mk (IsRR.below HI.out hb); have n0_ := Aside0.mk (Kd.R_lower ho4 (below_size (by repeat (first | (with_reducible first | exact HB.out | apply below_alloc | apply pw_below_drewN | apply below_drew1) | exact HB.out)))); have n1_ := Aside0.mk (below_step (by repeat (first | (with_reducible first | exact HB.out | apply below_alloc | apply pw_below_drewN | apply below_drew1) | exact HB.out)) hb); clear HB; have HO := n0_; have HB := n1_; clear n0_ n1_; clear hb ho4)
  go_loopg [12, 13, 14, 15] m (fun gg v12 v13 v14 _ wr => ∃ (l : Nat) (z last : Int) (out : List Int), v14 = .int .i64 z ∧ v13 = .int .i64 last ∧ z = (l : Int) - 1 ∧ l ≤ m ∧ l ≤ gg ∧ 0 ≤ last ∧ last ≤ n ∧ Aside0 (out.length + l = m) ∧ Aside0 (fOf (rr h s) e n l out last = res) ∧ Aside0 (IsRR wr g h) ∧ Aside0 (Kd.R (Kd.int .i64) 3 wr w.heap.size (fun _ => True) v12 out) ∧ Aside0 (Below w.heap.size w wr))
  case atStart => exact ⟨m, (m : Int) - 1, 0, [], by go_num, rfl, rfl, Nat.le_refl _, Nat.le_refl _, Int.le_refl _, hn0, ⟨by simp⟩, HRES, HI, HO, HB⟩
  case round =>
    clear HI HO HB HRES
    obtain ⟨l, z, last, out, rfl, rfl, hz, hl, hgg, hla0, hla1, HLEN, HRES, HI, HO, HB⟩ := hrel
    cases l with
    | zero =>
      obtain rfl : z = -1 := by omega
      have HR : Aside0 (some out = res) := ⟨HRES.out⟩
      clear HRES hz
      go_wp2
      go_ret2
      exact ⟨_, by rw [← HR.out]; rfl, by rw [← HR.out]; exact HO.out, HB.out⟩
    | succ q =>
      obtain rfl : z = (q : Int) := by omega
      clear hz
      have hres := HRES.out
      rw [fOf_step] at hres
      have hsr := sumR_range (rr h s) (rr_range h s) e (q + 1)
      have hcr : 0 ≤ covR (rr h s) e q ∧ covR (rr h s) e q ≤ 20000000000 := by unfold covR; omega
      have HCV : Aside0 (∀ W : World, IsRR W g h → Calls Try.prog 40 #[.pointer (some ⟨g, 0, none⟩), .int .i64 ((s : Int) + 1), .int .i64 e, .int .i64 q] W fun e' w' => e' = .returned (.int .i64 (covR (rr h s) e q)) ∧ W = w') :=
        ⟨fun W hI => cover_calls g s e q (rr h s) W (fun j hj => hI.at_ s j (by omega) hj) (rr_range h s) he (by omega) hs⟩
      have hx := HI.out.at_ s (e - q - 1) (by omega) (by omega)
      have hxr := rr_range h s (e - q - 1)
      generalize rr h s (e - q - 1) = x at hx hxr hres
      generalize covR (rr h s) e q = c at hres hcr HCV
      have hmx : (if last + 1 < n - c then n - c else last + 1) = max (last + 1) (n - c) := by split <;> omega
      have hfr : last + 1 ≤ max (last + 1) (n - c) ∧ max (last + 1) (n - c) ≤ 1001 := by omega
      generalize max (last + 1) (n - c) = f at hres hmx hfr
      have hz0 : (0 : Int) ≤ (e : Int) - (q : Int) - 1 := by omega
      have hz1 : (e : Int) - (q : Int) - 1 < 11 := by omega
      have hz2 : ((e : Int) - (q : Int) - 1).toNat = e - q - 1 := by omega
      have hzn : n ≤ 1000 := hn
      obtain ⟨hw1, hw2, hw3, hw4, hw5, hw6⟩ : IntKind.i64.wrap (last + 1) = last + 1 ∧ IntKind.i64.wrap (n - c) = n - c ∧ IntKind.i64.wrap (f - last) = f - last ∧ IntKind.i64.wrap (f - last - 1) = f - last - 1 ∧ IntKind.i64.wrap ((e : Int) - (q : Int)) = (e : Int) - (q : Int) ∧ IntKind.i64.wrap ((e : Int) - (q : Int) - 1) = (e : Int) - (q : Int) - 1 := by
        clear hmx
        refine ⟨?_, ?_, ?_, ?_, ?_, ?_⟩ <;> (rw [i64_w]; unfold wrap64; omega)
      have HLN : Aside0 (out.length ≤ 100) := ⟨by have := HLEN.out; clear hw1 hw2 hw3 hw4 hw5 hw6; omega⟩
      have HLE2 : Aside0 (out.length + 1 + q = m) := ⟨by have := HLEN.out; clear hw1 hw2 hw3 hw4 hw5 hw6; omega⟩
      clear HRES hsr HLEN
      by_cases c1 : f > n
      · rw [if_pos (Or.inl c1)] at hres
        have HR := Aside0.mk hres
        have hd1 : decide (n < f) = true := decide_eq_true c1
        clear hres c1
        go_wp2_with (go_at_call 40; refine (HCV.out _ HI.out).mono ?_; rintro e_ w_ ⟨rfl, rfl⟩)
        go_ret2
        exact ⟨_, by rw [← HR.out]; rfl, by rw [← HR.out]; exact Kd.R_nil _ _ _ _ _, HB.out⟩
      · have hd1 : decide (n < f) = false := decide_eq_false (by clear hw1 hw2 hw3 hw4 hw5 hw6; omega)
        by_cases c2 : f - last - 1 > x
        · rw [if_pos (Or.inr c2)] at hres
          have HR := Aside0.mk hres
          have hd2 : decide (x < f - last - 1) = true := decide_eq_true c2
          clear hres c1 c2
          go_wp2_with (go_at_call 40; refine (HCV.out _ HI.out).mono ?_; rintro e_ w_ ⟨rfl, rfl⟩)
          go_ret2
          exact ⟨_, by rw [← HR.out]; rfl, by rw [← HR.out]; exact Kd.R_nil _ _ _ _ _, HB.out⟩
        · rw [if_neg (fun h => h.elim c1 c2)] at hres
          have hd2 : decide (x < f - last - 1) = false := decide_eq_false (by clear hw1 hw2 hw3 hw4 hw5 hw6; omega)
          obtain ⟨out2, ho2⟩ : ∃ out2, out2 = out ++ [f] := ⟨_, rfl⟩
          rw [← ho2] at hres
          have HR := Aside0.mk hres
          have Hy := Aside0.mk ho2
          have HFN : Aside0 (f ≤ n) := ⟨by clear hw1 hw2 hw3 hw4 hw5 hw6; omega⟩
          have HF0 : Aside0 (0 ≤ f) := ⟨by clear hw1 hw2 hw3 hw4 hw5 hw6; omega⟩
          clear hres ho2 c1 c2
          go_wp2_with (first
            | (go_at_call 40; refine (HCV.out _ HI.out).mono ?_; rintro e_ w_ ⟨rfl, rfl⟩)
            | ((with_reducible refine gate_builtin (b := .append) (xs := #[.tmp 55, .tmp 57]) rfl ?_); at_builtin; refine Kd.R_append (Kd.int .i64) (w0 := w) w.heap.size rfl (.tmp 55) (.tmp 57) 25 3 (.int .i64 0) 8 rfl Try.underlying25 info3 rfl (by decide) (by omega) _ out f [.int .i64 f] (fun _ => True) (fun _ => False) rfl rfl ?aP (fun _ hk => hk.elim) ?aF ?aO ?aB ?aS ?aL ?_; (case aP => exact rfl); (case aB => exact (by repeat (first | (with_reducible first | exact HB.out | apply below_alloc | apply pw_below_drewN | apply below_drew1) | exact HB.out))); (case aF => exact (fun _ _ => trivial)); (case aO => exact (by (with_reducible repeat (first | apply Kd.R_alloc | apply Kd.R_drewN | apply Kd.R_drew)); exact HO.out)); (case aS => exact (below_size (by repeat (first | (with_reducible first | exact HB.out | apply below_alloc | apply pw_below_drewN | apply below_drew1) | exact HB.out)))); (case aL => (have := HLN.out; omega)); intro va_ wa_ ho hb hg hat; rw [← Hy.out] at ho; have HI := Aside0.mk (IsRR.grown HI.out HO.out hg); have n0_ := Aside0.mk (hb); have n1_ := Aside0.mk (ho); clear HB; clear HO; have HB := n0_; have HO := n1_; clear n0_ n1_; clear ho hb hg hat))
          go_roundg q
          case measure => omega
          case rel => exact ⟨q, (q : Int) - 1, f, out2, by go_num, rfl, rfl, by clear hw1 hw2 hw3 hw4 hw5 hw6; omega, Nat.le_refl _, HF0.out, HFN.out, ⟨by have h1 := HLE2.out; have h2 : out2.length = out.length + 1 := (by rw [Hy.out]; simp); clear hw1 hw2 hw3 hw4 hw5 hw6; omega⟩, HR, HI, HO, HB⟩

/-! ### cmp_isNaN_int: function 55 -/
def cmp_isNaN_int.f (a0 : Int) : Option (Bool) := some (a0 != a0)
set_option maxHeartbeats 8000000 in
set_option maxRecDepth 100000 in
theorem cmp_isNaN_int.calls (a0 : Int) (r : Bool) (w : World) (h : cmp_isNaN_int.f a0 = some r) :
    Calls Try.prog 55 #[.int .i64 a0] w fun e w' => e = .returned (.bool r) ∧ Drawn0 w w' := by
  have H : (some (a0 != a0)) = some r := h
  clear h
  obtain rfl := Option.some.inj H
  go_enter Try.func55, Try.ntmps55
  go_wp2
  go_ret
  exact ⟨by first | rfl | (simp; done) | (simp [*]; done), by repeat (first | exact Drawn0.refl _ | apply Drawn0.step)⟩

set_option maxHeartbeats 8000000 in
set_option maxRecDepth 100000 in
theorem cmp_isNaN_int.calls0 (a0 : Int) (r : Bool) (w : World) (h : cmp_isNaN_int.f a0 = some r) :
    Calls Try.prog 55 #[.int .i64 a0] w fun e w' => e = .returned (.bool r) ∧ w = w' := by
  have H : (some (a0 != a0)) = some r := h
  clear h
  obtain rfl := Option.some.inj H
  go_enter Try.func55, Try.ntmps55
  go_wp2
  go_ret
  exact ⟨by first | rfl | (simp; done) | (simp [*]; done), by first | rfl | simp⟩

end Go.Proofs.Ytbiibhfcclfoiaa.PrintA
