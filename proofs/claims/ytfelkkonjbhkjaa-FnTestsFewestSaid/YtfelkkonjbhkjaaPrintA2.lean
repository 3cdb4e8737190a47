-- written by this session's own driver (wip/gen.py) with the kit's print and contracts of our own
import Derived.Test.YtfelkkonjbhkjaaPrintA0
import Derived.Test.YtfelkkonjbhkjaaPrintA1
import Derived.BigRegion
namespace Go.Proofs.Ytfelkkonjbhkjaa.PrintA
open Go.RowKit Go.Proofs.YtfelkkonjbhkjaaLib Go.Proofs.YtfelkkonjbhkjaaW.PrintWords Go.Proofs.YtfelkkonjbhkjaaW.PrintLast Go.Proofs.YtfelkkonjbhkjaaW.PrintMore
attribute [local go_sem] max2_int min2_int max_two min_two max_three min_three max_four min_four   -- for this text's walks alone
set_option linter.unusedVariables false
set_option linter.unusedSimpArgs false

/-! ### impl_isHouse: function 33 -/
def impl_isHouse.f (a0 : Int) (a1 : Int) : Option (Bool) := (impl_isEggs.f a0).bind fun t129 => (if t129 = true then ((impl_isFloors.f a1).bind fun t130 => (some t130)) else (some false))
set_option maxHeartbeats 8000000 in
set_option maxRecDepth 100000 in
theorem impl_isHouse.calls (a0 : Int) (a1 : Int) (r : Bool) (w : World) (h : impl_isHouse.f a0 a1 = some r) :
    Calls Try.prog 33 #[.int .i64 a0, .int .i64 a1] w fun e w' => e = .returned (.bool r) ∧ Drawn0 w w' := by
  have H : ((impl_isEggs.f a0).bind fun t129 => (if t129 = true then ((impl_isFloors.f a1).bind fun t130 => (some t130)) else (some false))) = some r := h
  clear h
  replace H := Option.bind_eq_some_iff.mp H
  obtain ⟨t129, A30, H⟩ := H
  replace H : (if t129 = true then ((impl_isFloors.f a1).bind fun t130 => (some t130)) else (some false)) = some r := H
  have A3 := Aside0.mk A30
  clear A30
  by_cases c4 : t129 = true
  · subst c4
    have H1 : ((impl_isFloors.f a1).bind fun t130 => (some t130)) = some r := by rw [if_pos rfl] at H; exact H
    clear H
    have H := H1
    clear H1
    replace H := Option.bind_eq_some_iff.mp H
    obtain ⟨t130, A50, H⟩ := H
    replace H : (some t130) = some r := H
    have A5 := Aside0.mk A50
    clear A50
    obtain rfl := Option.some.inj H
    go_enter Try.func33, Try.ntmps33
    go_wp2_with (first | ((with_reducible refine gate_callee (f := 49) rfl ?_); refine goesL_ (some 6) rfl rfl Try.func49 (by kernel_rfl) rfl #[.int .i64 a0] rfl (by (try simp only [List.map_toArray, List.map_cons, List.map_nil]); first | done | rfl | (simp only [List.length_drop, List.length_take]; rfl)) ?_; (with_reducible refine (impl_isEggs.calls0 a0 true _ A3.out).mono ?_); rintro e w' ⟨rfl, rfl⟩; refine ⟨_, rfl, ?_⟩) | (go_at_call 55; (with_reducible refine (impl_isFloors.calls0 a1 t130 _ A5.out).mono ?_); rintro e w' ⟨rfl, rfl⟩))
    go_ret
    exact ⟨by first | rfl | (simp; done) | (simp [*]; done), by repeat (first | exact Drawn0.refl _ | apply Drawn0.step)⟩
  · replace c4 := Bool.eq_false_iff.mpr c4
    subst c4
    have H1 : (some false) = some r := by rw [if_neg (show ¬ (false = true) by decide)] at H; exact H
    clear H
    have H := H1
    clear H1
    obtain rfl := Option.some.inj H
    go_enter Try.func33, Try.ntmps33
    go_wp2_with (first | ((with_reducible refine gate_callee (f := 49) rfl ?_); refine goesL_ (some 6) rfl rfl Try.func49 (by kernel_rfl) rfl #[.int .i64 a0] rfl (by (try simp only [List.map_toArray, List.map_cons, List.map_nil]); first | done | rfl | (simp only [List.length_drop, List.length_take]; rfl)) ?_; (with_reducible refine (impl_isEggs.calls0 a0 false _ A3.out).mono ?_); rintro e w' ⟨rfl, rfl⟩; refine ⟨_, rfl, ?_⟩))
    go_ret
    exact ⟨by first | rfl | (simp; done) | (simp [*]; done), by repeat (first | exact Drawn0.refl _ | apply Drawn0.step)⟩

set_option maxHeartbeats 8000000 in
set_option maxRecDepth 100000 in
theorem impl_isHouse.calls0 (a0 : Int) (a1 : Int) (r : Bool) (w : World) (h : impl_isHouse.f a0 a1 = some r) :
    Calls Try.prog 33 #[.int .i64 a0, .int .i64 a1] w fun e w' => e = .returned (.bool r) ∧ w = w' := by
  have H : ((impl_isEggs.f a0).bind fun t129 => (if t129 = true then ((impl_isFloors.f a1).bind fun t130 => (some t130)) else (some false))) = some r := h
  clear h
  replace H := Option.bind_eq_some_iff.mp H
  obtain ⟨t129, A30, H⟩ := H
  replace H : (if t129 = true then ((impl_isFloors.f a1).bind fun t130 => (some t130)) else (some false)) = some r := H
  have A3 := Aside0.mk A30
  clear A30
  by_cases c4 : t129 = true
  · subst c4
    have H1 : ((impl_isFloors.f a1).bind fun t130 => (some t130)) = some r := by rw [if_pos rfl] at H; exact H
    clear H
    have H := H1
    clear H1
    replace H := Option.bind_eq_some_iff.mp H
    obtain ⟨t130, A50, H⟩ := H
    replace H : (some t130) = some r := H
    have A5 := Aside0.mk A50
    clear A50
    obtain rfl := Option.some.inj H
    go_enter Try.func33, Try.ntmps33
    go_wp2_with (first | ((with_reducible refine gate_callee (f := 49) rfl ?_); refine goesL_ (some 6) rfl rfl Try.func49 (by kernel_rfl) rfl #[.int .i64 a0] rfl (by (try simp only [List.map_toArray, List.map_cons, List.map_nil]); first | done | rfl | (simp only [List.length_drop, List.length_take]; rfl)) ?_; (with_reducible refine (impl_isEggs.calls0 a0 true _ A3.out).mono ?_); rintro e w' ⟨rfl, rfl⟩; refine ⟨_, rfl, ?_⟩) | (go_at_call 55; (with_reducible refine (impl_isFloors.calls0 a1 t130 _ A5.out).mono ?_); rintro e w' ⟨rfl, rfl⟩))
    go_ret
    exact ⟨by first | rfl | (simp; done) | (simp [*]; done), by first | rfl | simp⟩
  · replace c4 := Bool.eq_false_iff.mpr c4
    subst c4
    have H1 : (some false) = some r := by rw [if_neg (show ¬ (false = true) by decide)] at H; exact H
    clear H
    have H := H1
    clear H1
    obtain rfl := Option.some.inj H
    go_enter Try.func33, Try.ntmps33
    go_wp2_with (first | ((with_reducible refine gate_callee (f := 49) rfl ?_); refine goesL_ (some 6) rfl rfl Try.func49 (by kernel_rfl) rfl #[.int .i64 a0] rfl (by (try simp only [List.map_toArray, List.map_cons, List.map_nil]); first | done | rfl | (simp only [List.length_drop, List.length_take]; rfl)) ?_; (with_reducible refine (impl_isEggs.calls0 a0 false _ A3.out).mono ?_); rintro e w' ⟨rfl, rfl⟩; refine ⟨_, rfl, ?_⟩))
    go_ret
    exact ⟨by first | rfl | (simp; done) | (simp [*]; done), by first | rfl | simp⟩

/-! behind impl_isHouse -/
theorem impl_isHouse_is (a b : Int) : impl_isHouse.f a b = some ((decide (1 ≤ a) && decide (a ≤ 10)) && (decide (0 ≤ b) && decide (b ≤ 1000))) := by
  unfold impl_isHouse.f; rw [impl_isEggs_is, Option.bind_some, impl_isFloors_is]
  cases (decide (1 ≤ a) && decide (a ≤ 10)) <;> rfl

/-! ### impl_greatest: function 35, a contract of our own -/
/-- All numbers up to n at which G is greatest. -/
def greatL (G : Int → Int) (n : Int) : Nat → Int → List Int → Int → List Int
  | 0, _, out, _ => out
  | d + 1, b, out, most => if b ≤ n then (if G b > most then greatL G n d (b + 1) [b] (G b) else if G b = most then greatL G n d (b + 1) (out ++ [b]) most else greatL G n d (b + 1) out most) else out
set_option maxHeartbeats 8000000 in
set_option maxRecDepth 100000 in
theorem greatest_calls (gf : Nat) (fb lb : Array Value) (G : Int → Int) (n : Int) (w : World) (hn : 0 ≤ n) (hn2 : n ≤ 1000)
    (eg : ∀ args w, (callFunc gf args).run Try.prog w = .ok (.enter gf args) w) 
    (hG : ∀ (W : World) (b : Int), Below w.heap.size w W → 0 ≤ b → b ≤ n → Calls Try.prog gf (fb ++ #[.int .i64 b] ++ lb) W fun e' w' => e' = .returned (.int .i64 (G b)) ∧ Below W.heap.size W w') :
    Calls Try.prog 35 #[.int .i64 n, .func (.func gf) fb lb] w fun e' w' => ∃ v, e' = .returned v ∧ Kd.R (Kd.int .i64) 3 w' w.heap.size (fun _ => True) v (greatL G n (n + 1).toNat 0 [] (-1)) ∧ Below w.heap.size w w' := by
  have HB := Aside0.mk (Below.refl w.heap.size w)
  have HG := Aside0.mk hG
  have EG := Aside0.mk eg
  clear hG eg
  generalize hr : greatL G n (n + 1).toNat 0 [] (-1) = r
  have HR := Aside0.mk hr
  clear hr
  go_enter Try.func35, Try.ntmps35
  go_wp2_with ((with_reducible refine gate_dst (N := 9) rfl ?_); refine Kd.R_lit (Kd.int .i64) _ 3 ?hg (N := 9) ?hd (xs := ([] : List Int)) (inner := []) (ok := fun _ => True) (okp := fun _ => True) ?hr ?hp (fun _ hk => hk) trivial (Below.refl _ _) (Nat.le_refl _) (by simp) ?_; (case hd => rfl); (case hg => rfl); (case hr => first | (go_simp; done) | (go_simp; rfl)); (case hp => exact (Reps.none _ _)); intro v113 w3 ho4 hb hg_ hnew_; clear hg_ hnew_; have n0_ := Aside0.mk (Kd.R_lower ho4 (below_size (by repeat (first | (with_reducible first | exact HB.out | apply below_alloc | apply pw_below_drewN | apply below_drew1) | exact HB.out)))); have n1_ := Aside0.mk (below_step (by repeat (first | (with_reducible first | exact HB.out | apply below_alloc | apply pw_below_drewN | apply below_drew1) | exact HB.out)) hb); clear HB; have HO := n0_; have HB := n1_; clear n0_ n1_; clear hb ho4)
  go_loopg [5, 6, 12] (n + 1).toNat (fun gg v5 v6 v12 wr => ∃ (b most : Int) (out : List Int), v12 = .int .i64 b ∧ v6 = .int .i64 most ∧ 0 ≤ b ∧ b ≤ n + 1 ∧ Aside0 ((n + 1 - b).toNat ≤ gg) ∧ Aside0 ((out.length : Int) ≤ b) ∧ Aside0 (greatL G n gg b out most = r) ∧ Aside0 (Kd.R (Kd.int .i64) 3 wr w.heap.size (fun _ => True) v5 out) ∧ Aside0 (Below w.heap.size w wr))
  case atStart => exact ⟨0, -1, [], rfl, rfl, by omega, by omega, ⟨by omega⟩, ⟨by simp⟩, HR, HO, HB⟩
  case round =>
    clear HR HB HO
    obtain ⟨b, most, out, rfl, rfl, hb0, hb1, HK, HL, HR, HO, HB⟩ := hrel
    by_cases hp : b ≤ n
    · have hlt : decide (b < n + 1) = true := decide_eq_true (by omega)
      obtain ⟨k, rfl⟩ : ∃ k, gk = k + 1 := ⟨gk - 1, by have := HK.out; omega⟩
      have hcall := HG.out
      have hr := HR.out
      rw [greatL, if_pos hp] at hr
      have HC : Aside0 (∀ W, Below w.heap.size w W → Calls Try.prog gf (fb ++ #[.int .i64 b] ++ lb) W fun e' w' => e' = .returned (.int .i64 (G b)) ∧ Below W.heap.size W w') :=
        ⟨fun W hW => hcall W b hW hb0 hp⟩
      clear hcall HR
      generalize G b = m at hr HC
      by_cases h1 : m > most
      · rw [if_pos h1] at hr
        have HR := Aside0.mk hr
        clear hr
        obtain ⟨out2, h2⟩ : ∃ out2, out2 = ([] : List Int) ++ [b] := ⟨_, rfl⟩
        rw [show [b] = ([] : List Int) ++ [b] from rfl, ← h2] at HR
        have Hy := Aside0.mk h2
        clear h2
        have hd1 : decide (most < m) = true := decide_eq_true h1
        go_wp2_with (first
          | ((with_reducible refine gate_dst (N := 17) rfl ?_); refine goesV_ (some 17) rfl rfl EG.out #[.int .i64 b] rfl rfl (by (try simp only [List.map_toArray, List.map_cons, List.map_nil]); first | done | rfl) ?_; refine (HC.out _ (by repeat (first | (with_reducible first | exact HB.out | apply below_alloc | apply pw_below_drewN | apply below_drew1) | exact HB.out))).mono ?_; rintro e_ w9 ⟨rfl, hb⟩; refine ⟨_, rfl, ?_⟩; have n0_ := Aside0.mk (Kd.R_below (by (with_reducible repeat (first | apply Kd.R_alloc | apply Kd.R_drewN | apply Kd.R_drew)); exact HO.out) hb); have n2_ := Aside0.mk (below_step (by repeat (first | (with_reducible first | exact HB.out | apply below_alloc | apply pw_below_drewN | apply below_drew1) | exact HB.out)) hb); clear HO; clear HB; have HO := n0_; have HB := n2_; clear n0_ n2_; clear hb)
          | ((with_reducible refine gate_builtin (b := .append) (xs := #[.tmp 25, .tmp 27]) rfl ?_); at_builtin; refine Kd.R_append (Kd.int .i64) (w0 := w) w.heap.size rfl (.tmp 25) (.tmp 27) 26 3 (.int .i64 0) 8 rfl Try.underlying26 info3 rfl (by decide) (by omega) _ ([] : List Int) b [.int .i64 b] (fun _ => True) (fun _ => False) rfl rfl ?aP (fun _ hk => hk.elim) ?aF ?aO ?aB ?aS ?aL ?_; (case aP => exact rfl); (case aB => exact (by repeat (first | (with_reducible first | exact HB.out | apply below_alloc | apply pw_below_drewN | apply below_drew1) | exact HB.out))); (case aF => exact (fun _ _ => trivial)); (case aO => exact (Kd.R_nil _ _ _ _ _)); (case aS => exact (below_size (by repeat (first | (with_reducible first | exact HB.out | apply below_alloc | apply pw_below_drewN | apply below_drew1) | exact HB.out)))); (case aL => simp); intro v127 w13 ho hb hg hat; rw [← Hy.out] at ho; have n0_ := Aside0.mk (hb); have n1_ := Aside0.mk (ho); clear HB; clear HO; have HB := n0_; have HO := n1_; clear n0_ n1_; clear ho hb hg hat))
        go_roundg k
        case measure => omega
        case rel =>
          exact ⟨b + 1, m, out2, by go_num, rfl, by omega, by omega, ⟨by have := HK.out; omega⟩, ⟨by rw [Hy.out]; simp; omega⟩, HR, ⟨(by (with_reducible repeat (first | apply Kd.R_alloc | apply Kd.R_drewN | apply Kd.R_drew)); exact HO.out)⟩, ⟨(by repeat (first | (with_reducible first | exact HB.out | apply below_alloc | apply pw_below_drewN | apply below_drew1) | exact HB.out))⟩⟩
      · rw [if_neg h1] at hr
        have hd1 : decide (most < m) = false := decide_eq_false h1
        by_cases h3 : m = most
        · subst h3
          rw [if_pos rfl] at hr
          have HR := Aside0.mk hr
          clear hr
          obtain ⟨out2, h2⟩ : ∃ out2, out2 = out ++ [b] := ⟨_, rfl⟩
          rw [← h2] at HR
          have Hy := Aside0.mk h2
          clear h2
          go_wp2_with (first
            | ((with_reducible refine gate_dst (N := 17) rfl ?_); refine goesV_ (some 17) rfl rfl EG.out #[.int .i64 b] rfl rfl (by (try simp only [List.map_toArray, List.map_cons, List.map_nil]); first | done | rfl) ?_; refine (HC.out _ (by repeat (first | (with_reducible first | exact HB.out | apply below_alloc | apply pw_below_drewN | apply below_drew1) | exact HB.out))).mono ?_; rintro e_ w9 ⟨rfl, hb⟩; refine ⟨_, rfl, ?_⟩; have n0_ := Aside0.mk (Kd.R_below (by (with_reducible repeat (first | apply Kd.R_alloc | apply Kd.R_drewN | apply Kd.R_drew)); exact HO.out) hb); have n2_ := Aside0.mk (below_step (by repeat (first | (with_reducible first | exact HB.out | apply below_alloc | apply pw_below_drewN | apply below_drew1) | exact HB.out)) hb); clear HO; clear HB; have HO := n0_; have HB := n2_; clear n0_ n2_; clear hb)
            | ((with_reducible refine gate_builtin (b := .append) (xs := #[.tmp 25, .tmp 27]) rfl ?_); at_builtin; refine Kd.R_append (Kd.int .i64) (w0 := w) w.heap.size rfl (.tmp 25) (.tmp 27) 26 3 (.int .i64 0) 8 rfl Try.underlying26 info3 rfl (by decide) (by omega) _ out b [.int .i64 b] (fun _ => True) (fun _ => False) rfl rfl ?aP (fun _ hk => hk.elim) ?aF ?aO ?aB ?aS ?aL ?_; (case aP => exact rfl); (case aB => exact (by repeat (first | (with_reducible first | exact HB.out | apply below_alloc | apply pw_below_drewN | apply below_drew1) | exact HB.out))); (case aF => exact (fun _ _ => trivial)); (case aO => exact (by (with_reducible repeat (first | apply Kd.R_alloc | apply Kd.R_drewN | apply Kd.R_drew)); exact HO.out)); (case aS => exact (below_size (by repeat (first | (with_reducible first | exact HB.out | apply below_alloc | apply pw_below_drewN | apply below_drew1) | exact HB.out)))); (case aL => have := HL.out; omega); intro v127 w13 ho hb hg hat; rw [← Hy.out] at ho; have n0_ := Aside0.mk (hb); have n1_ := Aside0.mk (ho); clear HB; clear HO; have HB := n0_; have HO := n1_; clear n0_ n1_; clear ho hb hg hat))
          go_roundg k
          case measure => omega
          case rel =>
            exact ⟨b + 1, m, out2, by go_num, rfl, by omega, by omega, ⟨by have := HK.out; omega⟩, ⟨by have := HL.out; rw [Hy.out]; simp; omega⟩, HR, ⟨(by (with_reducible repeat (first | apply Kd.R_alloc | apply Kd.R_drewN | apply Kd.R_drew)); exact HO.out)⟩, ⟨(by repeat (first | (with_reducible first | exact HB.out | apply below_alloc | apply pw_below_drewN | apply below_drew1) | exact HB.out))⟩⟩
        · rw [if_neg h3] at hr
          have HR := Aside0.mk hr
          clear hr
          have hd3 : decide (m = most) = false := decide_eq_false h3
          have hd4 : (m == most) = false := beq_eq_false_iff_ne.mpr h3
          go_wp2_with ((with_reducible refine gate_dst (N := 17) rfl ?_); refine goesV_ (some 17) rfl rfl EG.out #[.int .i64 b] rfl rfl (by (try simp only [List.map_toArray, List.map_cons, List.map_nil]); first | done | rfl) ?_; refine (HC.out _ (by repeat (first | (with_reducible first | exact HB.out | apply below_alloc | apply pw_below_drewN | apply below_drew1) | exact HB.out))).mono ?_; rintro e_ w9 ⟨rfl, hb⟩; refine ⟨_, rfl, ?_⟩; have n0_ := Aside0.mk (Kd.R_below (by (with_reducible repeat (first | apply Kd.R_alloc | apply Kd.R_drewN | apply Kd.R_drew)); exact HO.out) hb); have n2_ := Aside0.mk (below_step (by repeat (first | (with_reducible first | exact HB.out | apply below_alloc | apply pw_below_drewN | apply below_drew1) | exact HB.out)) hb); clear HO; clear HB; have HO := n0_; have HB := n2_; clear n0_ n2_; clear hb)
          go_roundg k
          case measure => omega
          case rel =>
            exact ⟨b + 1, most, out, by go_num, rfl, by omega, by omega, ⟨by have := HK.out; omega⟩, ⟨by have := HL.out; omega⟩, HR, ⟨(by (with_reducible repeat (first | apply Kd.R_alloc | apply Kd.R_drewN | apply Kd.R_drew)); exact HO.out)⟩, ⟨(by repeat (first | (with_reducible first | exact HB.out | apply below_alloc | apply pw_below_drewN | apply below_drew1) | exact HB.out))⟩⟩
    · have hlt : decide (b < n + 1) = false := decide_eq_false (by omega)
      have hq : out = r := by
        rw [← HR.out]
        cases gk with
        | zero => rfl
        | succ k => rw [greatL, if_neg hp]
      have HQ := Aside0.mk hq
      clear hq
      go_wp2
      go_ret
      exact ⟨_, rfl, by rw [← HQ.out]; (with_reducible repeat (first | apply Kd.R_alloc | apply Kd.R_drewN | apply Kd.R_drew)); exact HO.out, (by repeat (first | (with_reducible first | exact HB.out | apply below_alloc | apply pw_below_drewN | apply below_drew1) | exact HB.out))⟩


/-! ### impl_newReaches: function 34, a contract of our own -/
-- IMPORT Derived.BigRegion
theorem zeroReaches : Try.zeroCells64 = arrV 11011 (fun _ => 0) := by
  apply Array.ext'
  rw [chkZ_is Try.zeroCells64.toList 11011 (by kernel_rfl)]
  simp [arrV]
set_option maxHeartbeats 4000000 in
set_option maxRecDepth 100000 in
theorem newReaches_calls (w : World) : Calls Try.prog 34 #[] w fun e w' => ∃ g, e = .returned (.pointer (some ⟨g, 0, none⟩)) ∧ IsReaches w' g ∧ w.heap.size ≤ g ∧ Below w.heap.size w w' := by
  have HA0 := Aside0.mk (show ArrI (w.alloc (.cells Try.zeroCells64 64 (0, 0))) w.heap.size 64 11011 (reachArr (1 * 11 + 1)) from
    ArrI.congr (f := fun _ => 0) ⟨by rw [zeroReaches]; exact blk_new w _⟩ (fun i _ => (reachArr_start i).symm))
  have HB0 := Aside0.mk (below_alloc (Below.refl w.heap.size w) (.cells Try.zeroCells64 64 (0, 0)))
  go_enter Try.func34, Try.ntmps34
  go_wp2
  generalize hg : w.heap.size = g at HA0 ⊢
  have HG := Aside0.mk hg
  clear hg
  go_loopg [2] 1001 (fun gg v2 wr => ∃ t : Nat, 1 ≤ t ∧ t ≤ 1001 ∧ 1001 - t ≤ gg ∧ v2 = .int .i64 t ∧ Aside0 (ArrI wr g 64 11011 (reachArr (t * 11 + 1))) ∧ Aside0 (Below w.heap.size w wr))
  case atStart => exact ⟨1, by omega, by omega, by omega, rfl, HA0, HB0⟩
  case round =>
    clear HA0 HB0
    obtain ⟨t, ht1, ht2, hgg, rfl, HA, HB⟩ := hrel
    by_cases hlt : t ≤ 1000
    · have hltz : (t : Int) ≤ 1000 := by omega
      go_wp2
      go_loopg [3] 11 (fun gg v3 wr => ∃ e : Nat, 1 ≤ e ∧ e ≤ 11 ∧ 11 - e ≤ gg ∧ v3 = .int .i64 e ∧ Aside0 (ArrI wr g 64 11011 (reachArr (t * 11 + e))) ∧ Aside0 (Below w.heap.size w wr))
      case atStart => exact ⟨1, by omega, by omega, by omega, rfl, HA, HB⟩
      case round =>
        clear HA HB
        obtain ⟨e, he1, he2, hg2, rfl, HA, HB⟩ := hrel
        by_cases hle : e ≤ 10
        · have hlez : (e : Int) ≤ 10 := by omega
          obtain ⟨s, rfl⟩ : ∃ s, t = s + 1 := ⟨t - 1, by omega⟩
          obtain ⟨q, rfl⟩ : ∃ q, e = q + 1 := ⟨e - 1, by omega⟩
          have hv1 : reachArr ((s + 1) * 11 + (q + 1)) (s * 11 + q) = rch s q := by unfold reachArr; rw [if_pos (by omega), show (s * 11 + q) / 11 = s by omega, show (s * 11 + q) % 11 = q by omega]
          have hv2 : reachArr ((s + 1) * 11 + (q + 1)) (s * 11 + (q + 1)) = rch s (q + 1) := by unfold reachArr; rw [if_pos (by omega), show (s * 11 + (q + 1)) / 11 = s by omega, show (s * 11 + (q + 1)) % 11 = q + 1 by omega]
          have hx1 := HA.out.cell (s * 11 + q) (by omega)
          have hx2 := HA.out.cell (s * 11 + (q + 1)) (by omega)
          have hx3 := HA.out.cell ((s + 1) * 11 + (q + 1)) (by omega)
          have hf3 := HA.out.frozen ((s + 1) * 11 + (q + 1))
          rw [hv1] at hx1
          rw [hv2] at hx2
          have hr1 := rch_range s q
          have hr2 := rch_range s (q + 1)
          clear hv1 hv2
          generalize reachArr ((s + 1) * 11 + (q + 1)) ((s + 1) * 11 + (q + 1)) = z at hx3
          have hset := Aside0.mk ((HA.out.set ((s + 1) * 11 + (q + 1)) (min 1000000001 (rch s q + rch s (q + 1) + 1))).congr (fun i _ => reachArr_set (s + 1) (q + 1) i (by omega) (by omega) (by omega)))
          clear HA
          rcases (by omega : rch s q + rch s (q + 1) + 1 < 1000000001 ∨ 1000000001 ≤ rch s q + rch s (q + 1) + 1) with hm | hm
          case' inl => rw [show min 1000000001 (rch s q + rch s (q + 1) + 1) = rch s q + rch s (q + 1) + 1 by omega] at hset
          case' inr => rw [show min 1000000001 (rch s q + rch s (q + 1) + 1) = 1000000001 by omega] at hset
          all_goals
            go_wp2
            go_region
            go_wp2
            go_roundg (11 - (q + 1 + 1))
            case measure => omega
            case rel => exact ⟨q + 1 + 1, by omega, by omega, by omega, by go_num, ⟨ArrI.below hset.out (below_drew1 (Below.refl _ _))⟩, ⟨below_drew1 (below_set HB.out (by rw [HG.out]; exact Nat.le_refl _))⟩⟩
        · have hlez : ¬ (e : Int) ≤ 10 := by omega
          obtain rfl : e = 11 := by omega
          go_wp2
          go_roundg (1001 - (t + 1))
          case measure => omega
          case rel =>
            exact ⟨t + 1, by omega, by omega, by omega, by go_num, ⟨HA.out.congr (fun i _ => reachArr_row t i)⟩, HB⟩
    · have hltz : ¬ (t : Int) ≤ 1000 := by omega
      obtain rfl : t = 1001 := by omega
      go_wp2
      go_ret
      exact ⟨g, rfl, HA.out.congr (fun i hi => by unfold reachArr; rw [if_pos (by omega), if_pos hi]), by rw [HG.out]; exact Nat.le_refl _, HB.out⟩

/-! ### impl_reaches_fewest: function 41, a contract of our own -/
set_option maxHeartbeats 4000000 in
set_option maxRecDepth 100000 in
theorem fewest_calls (g e : Nat) (n : Int) (w : World) (he0 : 1 ≤ e) (he : e ≤ 10) (hR : IsReaches w g) :
    Calls Try.prog 41 #[.pointer (some ⟨g, 0, none⟩), .int .i64 e, .int .i64 n] w fun e' w' => e' = .returned (.int .i64 (few e n)) ∧ w = w' := by
  have HR := Aside0.mk hR
  clear hR
  have hz0 : (0 : Int) ≤ (e : Int) := by omega
  have hz1 : (e : Int) < 11 := by omega
  go_enter Try.func41, Try.ntmps41
  go_wp2
  go_loopg [7, 8] 1001 (fun gg v7 v8 wr => ∃ lo hi : Nat, lo ≤ few e n ∧ few e n ≤ hi ∧ hi ≤ 1000 ∧ hi - lo ≤ gg ∧ v7 = .int .i64 lo ∧ v8 = .int .i64 hi ∧ w = wr)
  case atStart => exact ⟨0, 1000, Nat.zero_le _, few_le e n, by omega, by omega, rfl, rfl, rfl⟩
  case round =>
    obtain ⟨lo, hi, h1, h2, h3, h4, rfl, rfl, rfl⟩ := hrel
    by_cases hlt : lo < hi
    · have hltz : (lo : Int) < (hi : Int) := by omega
      obtain ⟨m, hm⟩ : ∃ m : Nat, m = (lo + hi) / 2 := ⟨_, rfl⟩
      have hm1 : lo ≤ m := by omega
      have hm2 : m < hi := by omega
      have hmz : ((lo : Int) + (hi : Int)) / 2 = (m : Int) := by omega
      have hx := HR.out.at_ m e (by omega) he
      have hb1 : (m : Int) < 1001 := by omega
      have hfew := few_le_iff e n m (by omega)
      clear hm
      by_cases ht : n ≤ rch m e
      · have hle := hfew.2 ht
        have hdt : decide (n ≤ rch m e) = true := decide_eq_true ht
        clear hfew ht
        go_wp2
        go_roundg (m - lo)
        case measure => omega
        case rel => exact ⟨lo, m, h1, hle, by omega, Nat.le_refl _, rfl, by rw [hmz], rfl⟩
      · have hle : m < few e n := Nat.lt_of_not_le (fun h => ht (hfew.1 h))
        have hdt : decide (n ≤ rch m e) = false := decide_eq_false ht
        clear hfew ht
        go_wp2
        go_roundg (hi - (m + 1))
        case measure => omega
        case rel => exact ⟨m + 1, hi, hle, h2, h3, Nat.le_refl _, by go_num, rfl, rfl⟩
    · have hltz : ¬ (lo : Int) < (hi : Int) := by omega
      have hq : lo = few e n := by omega
      have HQ := Aside0.mk hq
      clear hq
      go_wp2
      go_ret
      exact ⟨by rw [← HQ.out]; rfl, rfl⟩

/-! ### impl_reaches_best: function 38, a contract of our own -/
set_option maxHeartbeats 4000000 in
set_option maxRecDepth 100000 in
theorem best_calls (g e : Nat) (n : Int) (w : World) (he0 : 1 ≤ e) (he : e ≤ 10) (hn : 1 ≤ n) (hn2 : n ≤ 1000) (hR : IsReaches w g) :
    Calls Try.prog 38 #[.pointer (some ⟨g, 0, none⟩), .int .i64 e, .int .i64 n] w fun e' w' => e' = .returned (.int .i64 (bestF e n)) ∧ ∃ m, w' = w.drewN m := by
  have HF : Aside0 (∀ q, Calls Try.prog 41 #[.pointer (some ⟨g, 0, none⟩), .int .i64 e, .int .i64 n] (w.drewN q) fun e' w' => e' = .returned (.int .i64 (few e n)) ∧ w' = w.drewN q) :=
    ⟨fun q => (fewest_calls g e n (w.drewN q) he0 he ⟨hR.out⟩).mono fun _ _ h => ⟨h.1, h.2.symm⟩⟩
  obtain ⟨t, ht⟩ : ∃ t, few e n = t + 1 := ⟨few e n - 1, by have := few_pos e n hn; omega⟩
  have ht2 : t ≤ 999 := by have := few_le e n; omega
  have hx := hR.at_ t e (by omega) he
  have hb : bestF e n = max 1 (n - rch t e) := by unfold bestF; rw [ht]; rfl
  rw [ht] at HF
  rw [hb]
  have hr := rch_range t e
  clear hb ht hR
  generalize rch t e = y at hx hr ⊢
  have hz0 : (0 : Int) ≤ (e : Int) := by omega
  have hz1 : (e : Int) < 11 := by omega
  rcases (by omega : 1 < n - y ∨ n - y ≤ 1) with hm | hm
  case' inl => rw [show max 1 (n - y) = n - y by omega]
  case' inr => rw [show max 1 (n - y) = 1 by omega]
  all_goals
    go_enter Try.func38, Try.ntmps38
    go_wp2
    go_quiet (first | (go_at_call 41; refine Calls.quiet_of_same (HF.out _)))
    go_wp2
    go_ret
    exact ⟨rfl, _, rfl⟩

/-! ### impl_play: function 37, a contract of our own -/
/-- The drops of a plan that drops first from F. -/
def playF (F : Nat → Int → Int) (b : Int) : Nat → Nat → Int → Int → List S61 → List S61
  | 0, _, _, _, acc => acc
  | k + 1, e, n, low, acc => if 0 < n then (if low + F e n > b then playF F b k (e - 1) (F e n - 1) low (acc ++ [⟨low + F e n, true⟩]) else playF F b k e (n - F e n) (low + F e n) (acc ++ [⟨low + F e n, false⟩])) else acc
theorem playF_zero (F : Nat → Int → Int) (b : Int) (k e : Nat) (low : Int) (acc) : playF F b k e 0 low acc = acc := by
  cases k <;> simp [playF]
set_option maxHeartbeats 8000000 in
set_option maxRecDepth 100000 in
theorem play_calls (gf : Nat) (fb lb : Array Value) (F : Nat → Int → Int) (e0 : Nat) (n0 b : Int) (w : World) (he : 1 ≤ e0) (he2 : e0 ≤ 10) (hn : 0 ≤ n0) (hn2 : n0 ≤ 1000) (hb0 : 0 ≤ b) (hb2 : b ≤ 1000)
    (eg : ∀ args w, (callFunc gf args).run Try.prog w = .ok (.enter gf args) w) (hF0 : ∀ e n, 1 ≤ n → 1 ≤ F e n ∧ F e n ≤ n) (hF1 : ∀ n, 1 ≤ n → n ≤ 1000 → F 1 n = 1)
    (hF : ∀ (W : World) (e : Nat) (n : Int), Below w.heap.size w W → 1 ≤ e → e ≤ 10 → 1 ≤ n → n ≤ 1000 → Calls Try.prog gf (fb ++ #[.int .i64 e, .int .i64 n] ++ lb) W fun e' w' => e' = .returned (.int .i64 (F e n)) ∧ Below W.heap.size W w') :
    Calls Try.prog 37 #[.int .i64 e0, .int .i64 n0, .int .i64 b, .func (.func gf) fb lb] w fun e' w' => ∃ v, e' = .returned v ∧ Kd.R k61 61 w' w.heap.size (fun _ => True) v (playF F b n0.toNat e0 n0 0 []) ∧ Below w.heap.size w w' := by
  have hu56 := Try.underlying61
  have HB := Aside0.mk (Below.refl w.heap.size w)
  have HF := Aside0.mk hF
  have HF0 := Aside0.mk hF0
  have HF1 := Aside0.mk hF1
  have EG := Aside0.mk eg
  clear hF hF0 hF1 eg
  generalize hr : playF F b n0.toNat e0 n0 0 [] = r
  have HR := Aside0.mk hr
  clear hr
  go_enter Try.func37, Try.ntmps37
  go_wp2_with ((with_reducible refine gate_dst (N := 13) rfl ?_); refine Kd.R_lit k61 _ 61 ?hg (N := 13) ?hd (xs := ([] : List S61)) (inner := []) (ok := fun _ => True) (okp := fun _ => True) ?hr ?hp (fun _ hk => hk) trivial (Below.refl _ _) (Nat.le_refl _) (by simp) ?_; (case hd => rfl); (case hg => rfl); (case hr => first | (go_simp; done) | (go_simp; rfl)); (case hp => exact (Reps.none _ _)); intro v113 w3 ho4 hb hg_ hnew_; clear hg_ hnew_; have n0_ := Aside0.mk (Kd.R_lower ho4 (below_size (by repeat (first | (with_reducible first | exact HB.out | apply below_alloc | apply pw_below_drewN | apply below_drew1) | exact HB.out)))); have n1_ := Aside0.mk (below_step (by repeat (first | (with_reducible first | exact HB.out | apply below_alloc | apply pw_below_drewN | apply below_drew1) | exact HB.out)) hb); clear HB; have HO := n0_; have HB := n1_; clear n0_ n1_; clear hb ho4)
  go_loopg [0, 1, 9, 10] n0.toNat (fun gg v0 v1 v9 v10 wr => ∃ (e : Nat) (n low : Int) (acc : List S61), v0 = .int .i64 e ∧ v1 = .int .i64 n ∧ v10 = .int .i64 low ∧ 0 ≤ n ∧ 0 ≤ low ∧ low + n ≤ 1000 ∧ e ≤ 10 ∧ Aside0 (0 < n → 1 ≤ e) ∧ Aside0 (n.toNat ≤ gg ∧ acc.length + n.toNat ≤ 1000) ∧ Aside0 (playF F b gg e n low acc = r) ∧ Aside0 (Kd.R k61 61 wr w.heap.size (fun _ => True) v9 acc) ∧ Aside0 (Below w.heap.size w wr))
  case atStart => exact ⟨e0, n0, 0, [], rfl, rfl, rfl, hn, by omega, by omega, he2, ⟨fun _ => he⟩, ⟨Nat.le_refl _, by simp; omega⟩, HR, HO, HB⟩
  case round =>
    clear HR HB HO
    obtain ⟨e, n, low, acc, rfl, rfl, rfl, hn', hl0, hln, he', HE, HM, HR, HO, HB⟩ := hrel
    by_cases hp : 0 < n
    · have he1 := HE.out hp
      obtain ⟨k, rfl⟩ : ∃ k, gk = k + 1 := ⟨gk - 1, by have := HM.out.1; omega⟩
      have hcall := HF.out
      have hrange := HF0.out e n (by omega)
      have h1 := HF1.out n (by omega) (by omega)
      have hr := HR.out
      rw [playF, if_pos hp] at hr
      have HEQ : Aside0 (e = 1 → F e n = 1) := ⟨fun h => by subst h; exact h1⟩
      have HC : Aside0 (∀ W, Below w.heap.size w W → Calls Try.prog gf (fb ++ #[.int .i64 e, .int .i64 n] ++ lb) W fun e' w' => e' = .returned (.int .i64 (F e n)) ∧ Below W.heap.size W w') :=
        ⟨fun W hW => hcall W e n hW he1 he' (by omega) (by omega)⟩
      clear hcall h1 HR
      generalize F e n = f at hrange hr HEQ HC
      by_cases hbr : low + f > b
      · rw [if_pos hbr] at hr
        obtain ⟨e', rfl⟩ : ∃ e', e = e' + 1 := ⟨e - 1, by omega⟩
        rw [Nat.add_sub_cancel] at hr
        have HR := Aside0.mk hr
        clear hr
        obtain ⟨acc2, h2⟩ : ∃ acc2, acc2 = acc ++ [(⟨low + f, true⟩ : S61)] := ⟨_, rfl⟩
        rw [← h2] at HR
        have Hy := Aside0.mk h2
        clear h2
        have hbd : decide (b < low + f) = true := decide_eq_true hbr
        go_wp2_with (first
          | ((with_reducible refine gate_dst (N := 19) rfl ?_); refine goesV_ (some 19) rfl rfl EG.out #[.int .i64 ((e' + 1 : Nat) : Int), .int .i64 n] rfl rfl (by (try simp only [List.map_toArray, List.map_cons, List.map_nil]); first | done | rfl) ?_; refine (HC.out _ (by repeat (first | (with_reducible first | exact HB.out | apply below_alloc | apply pw_below_drewN | apply below_drew1) | exact HB.out))).mono ?_; rintro e_ w9 ⟨rfl, hb⟩; refine ⟨_, rfl, ?_⟩; have n0_ := Aside0.mk (Kd.R_below (by (with_reducible repeat (first | apply Kd.R_alloc | apply Kd.R_drewN | apply Kd.R_drew)); exact HO.out) hb); have n2_ := Aside0.mk (below_step (by repeat (first | (with_reducible first | exact HB.out | apply below_alloc | apply pw_below_drewN | apply below_drew1) | exact HB.out)) hb); clear HO; clear HB; have HO := n0_; have HB := n2_; clear n0_ n2_; clear hb)
          | ((with_reducible refine gate_builtin (b := .append) (xs := #[.tmp 25, .tmp 31]) rfl ?_); at_builtin; refine Kd.R_append k61 (w0 := w) w.heap.size rfl (.tmp 25) (.tmp 31) 33 61 (.agg #[(.int .i64 0), (.bool false)]) 16 rfl Try.underlying33 info61 rfl (by decide) (by omega) _ acc (⟨low + f, true⟩ : S61) [.int .i64 (low + f), .bool true] (fun _ => True) (fun _ => False) rfl rfl ?aP (fun _ hk => hk.elim) ?aF ?aO ?aB ?aS ?aL ?_; (case aP => exact k61_mkM _ _ _ (⟨low + f, true⟩ : S61)); (case aB => exact (by repeat (first | (with_reducible first | exact HB.out | apply below_alloc | apply pw_below_drewN | apply below_drew1) | exact HB.out))); (case aF => exact (fun _ _ => trivial)); (case aO => exact (by (with_reducible repeat (first | apply Kd.R_alloc | apply Kd.R_drewN | apply Kd.R_drew)); exact HO.out)); (case aS => exact (below_size (by repeat (first | (with_reducible first | exact HB.out | apply below_alloc | apply pw_below_drewN | apply below_drew1) | exact HB.out)))); (case aL => have := HM.out.2; omega); intro v134 w11 ho hb hg hat; rw [← Hy.out] at ho; have n1_ := Aside0.mk (hb); have n2_ := Aside0.mk (ho); clear HB; clear HO; have HB := n1_; have HO := n2_; clear n1_ n2_; clear ho hb hg hat))
        go_roundg k
        case measure => omega
        case rel =>
          exact ⟨e', f - 1, low, acc2, by go_num, by go_num, rfl, by omega, by omega, by omega, by omega, ⟨fun h => by have := HEQ.out; omega⟩, ⟨by have := HM.out.1; omega, by have := HM.out.2; rw [Hy.out]; simp; omega⟩, HR, ⟨by (with_reducible repeat (first | apply Kd.R_alloc | apply Kd.R_drewN | apply Kd.R_drew)); exact HO.out⟩, ⟨by repeat (first | (with_reducible first | exact HB.out | apply below_alloc | apply pw_below_drewN | apply below_drew1) | exact HB.out)⟩⟩
      · rw [if_neg hbr] at hr
        have HR := Aside0.mk hr
        clear hr
        obtain ⟨acc2, h2⟩ : ∃ acc2, acc2 = acc ++ [(⟨low + f, false⟩ : S61)] := ⟨_, rfl⟩
        rw [← h2] at HR
        have Hy := Aside0.mk h2
        clear h2
        have hbd : decide (b < low + f) = false := decide_eq_false hbr
        go_wp2_with (first
          | ((with_reducible refine gate_dst (N := 19) rfl ?_); refine goesV_ (some 19) rfl rfl EG.out #[.int .i64 (e : Int), .int .i64 n] rfl rfl (by (try simp only [List.map_toArray, List.map_cons, List.map_nil]); first | done | rfl) ?_; refine (HC.out _ (by repeat (first | (with_reducible first | exact HB.out | apply below_alloc | apply pw_below_drewN | apply below_drew1) | exact HB.out))).mono ?_; rintro e_ w9 ⟨rfl, hb⟩; refine ⟨_, rfl, ?_⟩; have n0_ := Aside0.mk (Kd.R_below (by (with_reducible repeat (first | apply Kd.R_alloc | apply Kd.R_drewN | apply Kd.R_drew)); exact HO.out) hb); have n2_ := Aside0.mk (below_step (by repeat (first | (with_reducible first | exact HB.out | apply below_alloc | apply pw_below_drewN | apply below_drew1) | exact HB.out)) hb); clear HO; clear HB; have HO := n0_; have HB := n2_; clear n0_ n2_; clear hb)
          | ((with_reducible refine gate_builtin (b := .append) (xs := #[.tmp 25, .tmp 31]) rfl ?_); at_builtin; refine Kd.R_append k61 (w0 := w) w.heap.size rfl (.tmp 25) (.tmp 31) 33 61 (.agg #[(.int .i64 0), (.bool false)]) 16 rfl Try.underlying33 info61 rfl (by decide) (by omega) _ acc (⟨low + f, false⟩ : S61) [.int .i64 (low + f), .bool false] (fun _ => True) (fun _ => False) rfl rfl ?aP (fun _ hk => hk.elim) ?aF ?aO ?aB ?aS ?aL ?_; (case aP => exact k61_mkM _ _ _ (⟨low + f, false⟩ : S61)); (case aB => exact (by repeat (first | (with_reducible first | exact HB.out | apply below_alloc | apply pw_below_drewN | apply below_drew1) | exact HB.out))); (case aF => exact (fun _ _ => trivial)); (case aO => exact (by (with_reducible repeat (first | apply Kd.R_alloc | apply Kd.R_drewN | apply Kd.R_drew)); exact HO.out)); (case aS => exact (below_size (by repeat (first | (with_reducible first | exact HB.out | apply below_alloc | apply pw_below_drewN | apply below_drew1) | exact HB.out)))); (case aL => have := HM.out.2; omega); intro v134 w11 ho hb hg hat; rw [← Hy.out] at ho; have n1_ := Aside0.mk (hb); have n2_ := Aside0.mk (ho); clear HB; clear HO; have HB := n1_; have HO := n2_; clear n1_ n2_; clear ho hb hg hat))
        go_roundg k
        case measure => omega
        case rel =>
          exact ⟨e, n - f, low + f, acc2, by go_num, by go_num, by go_num, by omega, by omega, by omega, by omega, ⟨fun h => by omega⟩, ⟨by have := HM.out.1; omega, by have := HM.out.2; rw [Hy.out]; simp; omega⟩, HR, ⟨by (with_reducible repeat (first | apply Kd.R_alloc | apply Kd.R_drewN | apply Kd.R_drew)); exact HO.out⟩, ⟨by repeat (first | (with_reducible first | exact HB.out | apply below_alloc | apply pw_below_drewN | apply below_drew1) | exact HB.out)⟩⟩
    · have hz : n = 0 := by omega
      have hq : acc = r := by rw [← HR.out, hz, playF_zero]
      have HQ := Aside0.mk hq
      clear hq hz
      go_wp2
      go_ret
      exact ⟨_, rfl, by rw [← HQ.out]; (with_reducible repeat (first | apply Kd.R_alloc | apply Kd.R_drewN | apply Kd.R_drew)); exact HO.out, by repeat (first | (with_reducible first | exact HB.out | apply below_alloc | apply pw_below_drewN | apply below_drew1) | exact HB.out)⟩
theorem playF_len (F : Nat → Int → Int) (b : Int) : ∀ (k e : Nat) (n low : Int) (acc), (playF F b k e n low acc).length ≤ acc.length + k
  | 0, _, _, _, acc => by simp [playF]
  | k + 1, e, n, low, acc => by
    rw [playF]
    split
    · split
      · have := playF_len F b k (e - 1) (F e n - 1) low (acc ++ [⟨low + F e n, true⟩])
        simp at this; omega
      · have := playF_len F b k e (n - F e n) (low + F e n) (acc ++ [⟨low + F e n, false⟩])
        simp at this; omega
    · omega

/-! ### impl_HardestBreaks: function 6, a contract of our own -/
/-- How many drops a plan needs for a break. -/
def playN (e : Nat) (n b : Int) : Int := ((playF bestF b n.toNat e n 0 []).length : Int)
set_option maxHeartbeats 4000000 in
set_option maxRecDepth 100000 in
theorem hardest_1 (g2 g3 g6 g e : Nat) (n b : Int) (W : World) (he : 1 ≤ e) (he2 : e ≤ 10) (hn : 0 ≤ n) (hn2 : n ≤ 1000) (hb0 : 0 ≤ b) (hbn : b ≤ n)
    (h2 : W.heap[g2]? = some (.cells #[.int .i64 e] 3 (0, 0))) (h3 : W.heap[g3]? = some (.cells #[.int .i64 n] 3 (0, 0))) (h6 : W.heap[g6]? = some (.cells #[.pointer (some ⟨g, 0, none⟩)] 50 (0, 0))) (hR : IsReaches W g) :
    Calls Try.prog 36 #[.int .i64 b, .pointer (some ⟨g2, 0, none⟩), .pointer (some ⟨g3, 0, none⟩), .pointer (some ⟨g6, 0, none⟩)] W fun e' w' => e' = .returned (.int .i64 (playN e n b)) ∧ Below W.heap.size W w' := by
  have hp := play_calls 38 #[.pointer (some ⟨g, 0, none⟩)] #[] bestF e n b W he he2 hn hn2 hb0 (by omega) (enters_ Try.func38 (by kernel_rfl) rfl) bestF_range bestF_one
    (fun W2 e n hW h1 h2 h3 h4 => (best_calls g e n W2 h1 h2 h3 h4 (IsReaches.below hR hW)).mono fun e' w' hh => ⟨hh.1, by obtain ⟨m, hm⟩ := hh.2; rw [hm]; exact pw_below_drewN (Below.refl _ _) _⟩)
  unfold playN
  have hlen := playF_len bestF b n.toNat e n 0 []
  generalize playF bestF b n.toNat e n 0 [] = L at hp hlen ⊢
  have HP := Aside0.mk hp
  have hl : L.length ≤ 1000 := by simp at hlen; omega
  have hx2 : W.cell? ⟨g2, 0, none⟩ = some (.int .i64 e) := (blk_cell h2 0).trans rfl
  have hx3 : W.cell? ⟨g3, 0, none⟩ = some (.int .i64 n) := (blk_cell h3 0).trans rfl
  have hx6 : W.cell? ⟨g6, 0, none⟩ = some (.pointer (some ⟨g, 0, none⟩)) := (blk_cell h6 0).trans rfl
  clear hp h2 h3 h6 hR hlen
  go_enter Try.func36, Try.ntmps36
  go_wp2_with (go_at_call 37; refine (HP.out).mono ?_; rintro e w' ⟨v, rfl, hr, hb⟩; have HB := Aside0.mk hb; obtain ⟨A_, c_, hv_⟩ := Kd.R_slice hr; subst hv_; clear hr hb)
  go_ret
  exact ⟨rfl, HB.out⟩
def impl_HardestBreaks.f (a0 : Int) (a1 : Int) : Option ((List Int) × Bool) := (impl_isHouse.f a0 a1).bind fun t => if t = true then some (greatL (playN a0.toNat a1) a1 (a1 + 1).toNat 0 [] (-1), true) else some ([], false)
set_option maxHeartbeats 4000000 in
set_option maxRecDepth 100000 in
theorem impl_HardestBreaks.calls (a0 : Int) (a1 : Int) (r1 : List Int) (r2 : Bool) (w : World) (h : impl_HardestBreaks.f a0 a1 = some (r1, r2)) :
    Calls Try.prog 6 #[.int .i64 a0, .int .i64 a1] w fun e w' => ∃ v0_ : Value, e = .returned (.tuple #[v0_, .bool r2]) ∧ Kd.R (Kd.int .i64) 3 w' w.heap.size (fun _ => True) v0_ r1 ∧ Below w.heap.size w w' := by
  unfold impl_HardestBreaks.f at h
  rw [impl_isHouse_is, Option.bind_some] at h
  have HW := fun b (W : World) (hb : impl_isHouse.f a0 a1 = some b) => impl_isHouse.calls0 a0 a1 b W hb
  rw [impl_isHouse_is] at HW
  have HB := Aside0.mk (Below.refl w.heap.size w)
  by_cases hp : (1 ≤ a0 ∧ a0 ≤ 10) ∧ (0 ≤ a1 ∧ a1 ≤ 1000)
  · have hpd : ((decide (1 ≤ a0) && decide (a0 ≤ 10)) && (decide (0 ≤ a1) && decide (a1 ≤ 1000))) = true := by simp [hp]
    rw [hpd] at h HW
    rw [if_pos rfl] at h
    have HW := Aside0.mk (fun W => HW true W rfl)
    obtain ⟨hq1, rfl⟩ := Prod.mk.inj (Option.some.inj h)
    have HQ := Aside0.mk hq1
    obtain ⟨⟨ha, hb⟩, ⟨hc, hd⟩⟩ := hp
    obtain ⟨n0, rfl⟩ : ∃ m : Nat, a0 = m := ⟨a0.toNat, by omega⟩
    have HP : Aside0 (∀ (g2 g3 g6 g : Nat) (W : World), W.heap[g2]? = some (.cells #[.int .i64 n0] 3 (0, 0)) → W.heap[g3]? = some (.cells #[.int .i64 a1] 3 (0, 0)) → W.heap[g6]? = some (.cells #[.pointer (some ⟨g, 0, none⟩)] 50 (0, 0)) → IsReaches W g →
        Calls Try.prog 35 #[.int .i64 a1, .func (.func 36) #[] #[.pointer (some ⟨g2, 0, none⟩), .pointer (some ⟨g3, 0, none⟩), .pointer (some ⟨g6, 0, none⟩)]] W fun e' w' => ∃ v, e' = .returned v ∧ Kd.R (Kd.int .i64) 3 w' W.heap.size (fun _ => True) v r1 ∧ Below W.heap.size W w') :=
      ⟨fun g2 g3 g6 g W h2 h3 h6 hR => by
        have := greatest_calls 36 #[] #[.pointer (some ⟨g2, 0, none⟩), .pointer (some ⟨g3, 0, none⟩), .pointer (some ⟨g6, 0, none⟩)] (playN n0 a1) a1 W hc hd (enters_ Try.func36 (by kernel_rfl) rfl)
          (fun W2 b hW h1 h2' => hardest_1 g2 g3 g6 g n0 a1 b W2 (by omega) (by omega) hc hd h1 h2' (blk_below h2 hW) (blk_below h3 hW) (blk_below h6 hW) (IsReaches.below hR hW))
        rw [← HQ.out]; simpa using this⟩
    clear hpd h hq1 ha hb hc hd
    go_enter Try.func6, Try.ntmps6
    go_wp2_with (first
      | ((with_reducible refine gate_dst (N := 2) rfl ?_); refine box_event ?hg (N := 2) ?hd (cs := #[.int .i64 n0]) (t := 3) ?hr ?_; (case hd => rfl); (case hg => rfl); (case hr => first | (go_simp; done) | (go_simp; rfl)); intro g2 hg w2 hbox hb; have HB := Aside0.mk (below_step HB.out hb); have K2 := Aside0.mk hbox; have G2 := Aside0.mk hg; have hx2 : w2.cell? ⟨g2, 0, none⟩ = some (.int .i64 n0) := (blk_cell K2.out 0).trans rfl; clear hg hbox hb)
      | ((with_reducible refine gate_dst (N := 3) rfl ?_); refine box_event ?hg (N := 3) ?hd (cs := #[.int .i64 a1]) (t := 3) ?hr ?_; (case hd => rfl); (case hg => rfl); (case hr => first | (go_simp; done) | (go_simp; rfl)); intro g3 hg w3 hbox hb; have HB := Aside0.mk (below_step HB.out hb); have K2 := Aside0.mk (blk_below K2.out hb); have K3 := Aside0.mk hbox; clear hx2; have hx2 : w3.cell? ⟨g2, 0, none⟩ = some (.int .i64 n0) := (blk_cell K2.out 0).trans rfl; have hx3 : w3.cell? ⟨g3, 0, none⟩ = some (.int .i64 a1) := (blk_cell K3.out 0).trans rfl; clear hg hbox hb)
      | (go_at_call 33; refine (HW.out _).mono ?_; rintro e w' ⟨rfl, rfl⟩)
      | (go_at_call 34; refine (newReaches_calls _).mono ?_; rintro e w' ⟨g, rfl, hR, hg, hb⟩; have hbs := below_alloc (Below.refl w'.heap.size w') (.cells #[.pointer (some ⟨g, 0, none⟩)] 50 (0, 0)); have HB := Aside0.mk (below_step (below_step HB.out hb) hbs); have K2 := Aside0.mk (blk_below (blk_below K2.out hb) hbs); have K3 := Aside0.mk (blk_below (blk_below K3.out hb) hbs); have HR := Aside0.mk (IsReaches.below hR hbs); have HS := Aside0.mk (blk_new w' (.cells #[.pointer (some ⟨g, 0, none⟩)] 50 (0, 0))); clear hx2 hx3; have hx3 : (w'.alloc (.cells #[.pointer (some ⟨g, 0, none⟩)] 50 (0, 0))).cell? ⟨g3, 0, none⟩ = some (.int .i64 a1) := (blk_cell K3.out 0).trans rfl; clear hR hb hg hbs)
      | (go_at_call 35; refine (HP.out _ _ _ _ _ K2.out K3.out HS.out HR.out).mono ?_; rintro e w' ⟨v, rfl, hr, hb⟩; have HO := Aside0.mk (Kd.R_lower hr (below_size HB.out)); have HB := Aside0.mk (below_step HB.out hb); clear hr hb))
    go_ret2
    exact ⟨_, rfl, HO.out, HB.out⟩
  · have hpd : ((decide (1 ≤ a0) && decide (a0 ≤ 10)) && (decide (0 ≤ a1) && decide (a1 ≤ 1000))) = false := by
      simp only [Bool.and_eq_false_iff, decide_eq_false_iff_not]; omega
    rw [hpd] at h HW
    rw [if_neg (by decide)] at h
    have HW := Aside0.mk (fun W => HW false W rfl)
    obtain ⟨rfl, rfl⟩ := Prod.mk.inj (Option.some.inj h)
    clear hpd h hp
    go_enter Try.func6, Try.ntmps6
    go_wp2_with (first
      | ((with_reducible refine gate_dst (N := 2) rfl ?_); refine box_event ?hg (N := 2) ?hd (cs := #[.int .i64 a0]) (t := 3) ?hr ?_; (case hd => rfl); (case hg => rfl); (case hr => first | (go_simp; done) | (go_simp; rfl)); intro g2 hg w2 hbox hb; have HB := Aside0.mk (below_step HB.out hb); have K2 := Aside0.mk hbox; have hx2 : w2.cell? ⟨g2, 0, none⟩ = some (.int .i64 a0) := (blk_cell K2.out 0).trans rfl; clear hg hbox hb)
      | ((with_reducible refine gate_dst (N := 3) rfl ?_); refine box_event ?hg (N := 3) ?hd (cs := #[.int .i64 a1]) (t := 3) ?hr ?_; (case hd => rfl); (case hg => rfl); (case hr => first | (go_simp; done) | (go_simp; rfl)); intro g3 hg w3 hbox hb; have HB := Aside0.mk (below_step HB.out hb); have K2 := Aside0.mk (blk_below K2.out hb); have K3 := Aside0.mk hbox; clear hx2; have hx2 : w3.cell? ⟨g2, 0, none⟩ = some (.int .i64 a0) := (blk_cell K2.out 0).trans rfl; have hx3 : w3.cell? ⟨g3, 0, none⟩ = some (.int .i64 a1) := (blk_cell K3.out 0).trans rfl; clear hg hbox hb)
      | (go_at_call 33; refine (HW.out _).mono ?_; rintro e w' ⟨rfl, rfl⟩))
    go_ret2
    exact ⟨_, rfl, Kd.R_nil _ _ _ _ _, HB.out⟩

end Go.Proofs.Ytfelkkonjbhkjaa.PrintA
