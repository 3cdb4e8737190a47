-- written by this session's own driver (wip/gen.py) with the kit's print and contracts of our own
import Derived.Test.YtbiibhfcclfoiaaPrintA0
import Derived.Test.YtbiibhfcclfoiaaPrintA1
import Derived.Test.YtbiibhfcclfoiaaPrintA2
import Derived.Test.YtbiibhfcclfoiaaPrintA9
import Derived.Test.YtbiibhfcclfoiaaPrintA10
import Derived.Test.YtbiibhfcclfoiaaPrintA11
import Derived.Test.YtbiibhfcclfoiaaPrintA16
import Derived.Test.YtbiibhfcclfoiaaPrintA17
namespace Go.Proofs.Ytbiibhfcclfoiaa.PrintA
open Go.RowKit Go.Proofs.YtbiibhfcclfoiaaLib Go.Proofs.YtbiibhfcclfoiaaW.PrintWords Go.Proofs.YtbiibhfcclfoiaaW.PrintLast Go.Proofs.YtbiibhfcclfoiaaW.PrintMore
attribute [local go_sem] max2_int min2_int max_two min_two max_three min_three max_four min_four   -- for this text's walks alone
set_option linter.unusedVariables false
set_option linter.unusedSimpArgs false

/-! ### spec_SlowestBreaks: function 11, a contract of our own -/
def spec_SlowestBreaks.f (a0 a1 a2 : Int) : Option ((List Int) × Bool) := some (if slowG a0 a1 a2 = true then slowL a0 a1 a2 else [], slowG a0 a1 a2)
set_option maxHeartbeats 8000000 in
set_option maxRecDepth 100000 in
theorem spec_SlowestBreaks.calls (a0 a1 a2 : Int) (r1 : List Int) (r2 : Bool) (w : World) (h : spec_SlowestBreaks.f a0 a1 a2 = some (r1, r2)) :
    Calls Try.prog 11 #[.int .i64 a0, .int .i64 a1, .int .i64 a2] w fun e w' => ∃ v0_ : Value, e = .returned (.tuple #[v0_, .bool r2]) ∧ Kd.R (Kd.int .i64) 3 w' w.heap.size (fun _ => True) v0_ r1 ∧ Below w.heap.size w w' := by
  have HB := Aside0.mk (Below.refl w.heap.size w)
  unfold spec_SlowestBreaks.f slowG at h
  have HG := Aside0.mk (fun (W : World) => spec_roFloors.calls0 a0 a1 a2 (rhouse a0 a1 a2) W (spec_roFloors_is a0 a1 a2))
  by_cases hgd : rhouse a0 a1 a2 = true
  · rw [hgd] at HG h
    by_cases h2 : a2 ≤ 200
    · have hd2 : decide (200 < a2) = false := decide_eq_false (by omega)
      rw [decide_eq_true h2, Bool.and_self, if_pos rfl] at h
      obtain ⟨hq1, rfl⟩ := Prod.mk.inj (Option.some.inj h)
      have HP : Aside0 (∀ (b : Int) (W : World), 0 ≤ b → b ≤ a2 → (rplay a0 a1 a2 b).length ≤ 1000 ∧ Calls Try.prog 22 #[.int .i64 a0, .int .i64 a1, .int .i64 a2, .int .i64 b] W fun e' w' => (∃ (A : Option Addr) (c : Nat) (x : Int), e' = .returned (.tuple #[.slice A (rplay a0 a1 a2 b).length c, .int .i64 x])) ∧ Below W.heap.size W w') := ⟨fun b W hb0 hbn => by
        obtain ⟨e, hn, rfl, rfl, he1, he2, hh1, hh2, hp0, hp1⟩ := rhouse_true hgd
        refine ⟨playR_len _ _ _ _ _ _, ?_⟩
        refine (roPlay_calls hn e a2 b W he2 (PlayAt.start hn e a2 b hh1 hh2 he1 he2 hp1 hb0 hbn)).mono ?_
        rintro e_ w_ ⟨v, rfl, hr, hb⟩
        refine ⟨?_, hb⟩
        obtain ⟨A, c, hv⟩ := Kd.R_slice hr
        exact ⟨A, c, _, by rw [hv]; rfl⟩⟩
      have hp0 : 0 ≤ a2 := by
        obtain ⟨e, hn, rfl, rfl, he1, he2, hh1, hh2, hp0, hp1⟩ := rhouse_true hgd
        exact hp0
      obtain ⟨n, rfl⟩ : ∃ n : Nat, a2 = n := ⟨a2.toNat, by omega⟩
      obtain ⟨G, hGd⟩ : ∃ G : Int → Nat, G = fun b => (rplay a0 a1 n b).length := ⟨_, rfl⟩
      have hGe : ∀ b, (rplay a0 a1 n b).length = G b := fun b => by rw [hGd]
      simp only [hGe] at HP
      unfold slowL at hq1
      simp only [hGe] at hq1
      rw [greatR_zero _ _ _ _ (by omega), show ((n : Int) + 1).toNat = n + 1 by omega] at hq1
      have HQ := Aside0.mk hq1
      clear hgd h hq1 hGd hGe hp0
      go_enter Try.func11, Try.ntmps11
      go_wp2_with (go_at_call 25; refine (HG.out _).mono ?_; rintro e w' ⟨rfl, rfl⟩)
      go_loopg [8, 9, 10] (n + 1) (fun gg v8 v9 v10 wr => ∃ (b most : Nat) (out : List Int), v10 = .int .i64 b ∧ v8 = .int .i64 most ∧ b ≤ n + 1 ∧ n + 1 - b ≤ gg ∧ Aside0 (out.length ≤ b) ∧ Aside0 (greatR (fun b => (G b : Int)) n (n + 1 - b) b out most = r1) ∧ Aside0 (Kd.R (Kd.int .i64) 3 wr w.heap.size (fun _ => True) v9 out) ∧ Aside0 (Below w.heap.size w wr))
      case atStart => exact ⟨0, 0, [], rfl, rfl, Nat.zero_le _, Nat.le_refl _, ⟨by simp⟩, HQ, ⟨Kd.R_nil _ _ _ _ _⟩, HB⟩
      case round =>
        clear HB HQ
        obtain ⟨b, most, out, rfl, rfl, hbn, hgg, HLN, HQ, HO, HB⟩ := hrel
        by_cases hlt : b ≤ n
        · have hltz : (b : Int) ≤ (n : Int) := by omega
          have hq := HQ.out
          rw [show n + 1 - b = (n + 1 - (b + 1)) + 1 by omega, greatR_step _ _ _ _ _ _ hltz, show (b : Int) + 1 = ((b + 1 : Nat) : Int) by omega] at hq
          have hP := fun W => HP.out (b : Int) W (by omega) hltz
          have hL := (hP w).1
          have HC := Aside0.mk (fun W => (hP W).2)
          have HOL : Aside0 (out.length ≤ 1000) := ⟨by have := HLN.out; omega⟩
          generalize G (b : Int) = L at hq hL HC
          clear hP HQ
          rcases Nat.lt_trichotomy most L with hc | hc | hc
          · rw [if_pos (by omega)] at hq
            have HQ := Aside0.mk hq
            have hd1 : decide (most < L) = true := decide_eq_true hc
            have hd2 : decide ((most : Int) < (L : Int)) = true := decide_eq_true (by omega)
            clear hq HLN HOL
            go_wp2_with (first
              | (go_at_call 22; refine (HC.out _).mono ?_; rintro e_ w3 ⟨⟨A, c, x, rfl⟩, hb⟩; have n0_ := Aside0.mk (below_step HB.out hb); clear HB hb; have HB := n0_; clear n0_)
              | ((with_reducible refine gate_builtin (b := .append) (xs := #[.tmp 45, .tmp 47]) rfl ?_); at_builtin; refine Kd.R_append (Kd.int .i64) (w0 := w) w.heap.size rfl (.tmp 45) (.tmp 47) 25 3 (.int .i64 0) 8 rfl Try.underlying25 info3 rfl (by decide) (by omega) _ [] b [.int .i64 b] (fun _ => True) (fun _ => False) rfl rfl ?aP (fun _ hk => hk.elim) ?aF ?aO ?aB ?aS ?aL ?_; (case aP => exact rfl); (case aB => exact (by repeat (first | (with_reducible first | exact HB.out | apply below_alloc | apply pw_below_drewN | apply below_drew1) | exact HB.out))); (case aF => exact (fun _ _ => trivial)); (case aO => exact (Kd.R_nil _ _ _ _ _)); (case aS => exact (below_size (by repeat (first | (with_reducible first | exact HB.out | apply below_alloc | apply pw_below_drewN | apply below_drew1) | exact HB.out)))); (case aL => (simp)); intro va_ wa_ ho hb hg hat; have n0_ := Aside0.mk (hb); have n1_ := Aside0.mk (ho); clear HB; clear HO; have HB := n0_; have HO := n1_; clear n0_ n1_; clear ho hb hg hat))
            go_roundg (n + 1 - (b + 1))
            case measure => omega
            case rel => exact ⟨b + 1, L, [(b : Int)], by go_num, rfl, by omega, by omega, ⟨by simp⟩, HQ, HO, HB⟩
          · subst hc
            rw [if_neg (by omega), if_pos rfl] at hq
            obtain ⟨out2, ho2⟩ : ∃ out2, out2 = out ++ [(b : Int)] := ⟨_, rfl⟩
            rw [← ho2] at hq
            have HQ := Aside0.mk hq
            have Hy := Aside0.mk ho2
            have HLN2 : Aside0 (out2.length ≤ b + 1) := ⟨by rw [ho2, List.length_append]; have := HLN.out; simp; omega⟩
            clear hq ho2 HLN
            go_wp2_with (first
              | (go_at_call 22; refine (HC.out _).mono ?_; rintro e_ w3 ⟨⟨A, c, x, rfl⟩, hb⟩; have n0_ := Aside0.mk (below_step HB.out hb); have n1_ := Aside0.mk (Kd.R_below HO.out hb); clear HB HO hb; have HB := n0_; have HO := n1_; clear n0_ n1_)
              | ((with_reducible refine gate_builtin (b := .append) (xs := #[.tmp 45, .tmp 47]) rfl ?_); at_builtin; refine Kd.R_append (Kd.int .i64) (w0 := w) w.heap.size rfl (.tmp 45) (.tmp 47) 25 3 (.int .i64 0) 8 rfl Try.underlying25 info3 rfl (by decide) (by omega) _ out b [.int .i64 b] (fun _ => True) (fun _ => False) rfl rfl ?aP (fun _ hk => hk.elim) ?aF ?aO ?aB ?aS ?aL ?_; (case aP => exact rfl); (case aB => exact (by repeat (first | (with_reducible first | exact HB.out | apply below_alloc | apply pw_below_drewN | apply below_drew1) | exact HB.out))); (case aF => exact (fun _ _ => trivial)); (case aO => exact (by (with_reducible repeat (first | apply Kd.R_alloc | apply Kd.R_drewN | apply Kd.R_drew)); exact HO.out)); (case aS => exact (below_size (by repeat (first | (with_reducible first | exact HB.out | apply below_alloc | apply pw_below_drewN | apply below_drew1) | exact HB.out)))); (case aL => (have := HOL.out; omega)); intro va_ wa_ ho hb hg hat; rw [← Hy.out] at ho; have n0_ := Aside0.mk (hb); have n1_ := Aside0.mk (ho); clear HB; clear HO; have HB := n0_; have HO := n1_; clear n0_ n1_; clear ho hb hg hat))
            go_roundg (n + 1 - (b + 1))
            case measure => omega
            case rel => exact ⟨b + 1, most, out2, by go_num, rfl, by omega, by omega, HLN2, HQ, HO, HB⟩
          · rw [if_neg (by omega), if_neg (by omega)] at hq
            have HQ := Aside0.mk hq
            have hd1 : decide (most < L) = false := decide_eq_false (by omega)
            have hd2 : decide ((most : Int) < (L : Int)) = false := decide_eq_false (by omega)
            have hd3 : decide (L = most) = false := decide_eq_false (by omega)
            have hd4 : decide ((L : Int) = (most : Int)) = false := decide_eq_false (by omega)
            have HLN2 : Aside0 (out.length ≤ b + 1) := ⟨by have := HLN.out; omega⟩
            clear hq HLN HOL
            go_wp2_with (go_at_call 22; refine (HC.out _).mono ?_; rintro e_ w3 ⟨⟨A, c, x, rfl⟩, hb⟩; have n0_ := Aside0.mk (below_step HB.out hb); have n1_ := Aside0.mk (Kd.R_below HO.out hb); clear HB HO hb; have HB := n0_; have HO := n1_; clear n0_ n1_)
            go_roundg (n + 1 - (b + 1))
            case measure => omega
            case rel => exact ⟨b + 1, most, out, by go_num, rfl, by omega, by omega, HLN2, HQ, HO, HB⟩
        · have hltz : ¬ (b : Int) ≤ (n : Int) := by omega
          obtain rfl : b = n + 1 := by omega
          have HR : Aside0 (out = r1) := ⟨by have := HQ.out; rw [Nat.sub_self] at this; exact this⟩
          clear HQ
          go_wp2
          go_ret2
          exact ⟨_, rfl, by rw [← HR.out]; exact HO.out, HB.out⟩
    · have hd2 : decide (200 < a2) = true := decide_eq_true (by omega)
      rw [decide_eq_false h2, Bool.and_false, if_neg (by decide)] at h
      obtain ⟨rfl, rfl⟩ := Prod.mk.inj (Option.some.inj h)
      clear hgd h
      go_enter Try.func11, Try.ntmps11
      go_wp2_with (go_at_call 25; refine (HG.out _).mono ?_; rintro e w' ⟨rfl, rfl⟩)
      go_ret2
      exact ⟨_, rfl, Kd.R_nil _ _ _ _ _, HB.out⟩
  · rw [Bool.not_eq_true] at hgd
    rw [hgd] at HG h
    rw [Bool.false_and, if_neg (by decide)] at h
    obtain ⟨rfl, rfl⟩ := Prod.mk.inj (Option.some.inj h)
    clear hgd h
    go_enter Try.func11, Try.ntmps11
    go_wp2_with (go_at_call 25; refine (HG.out _).mono ?_; rintro e w' ⟨rfl, rfl⟩)
    go_ret2
    exact ⟨_, rfl, Kd.R_nil _ _ _ _ _, HB.out⟩


/-! ### impl_greatest: function 28, a contract of our own -/
/-- All numbers up to n at which G is greatest. -/
def greatL (G : Int → Int) (n : Int) : Nat → Int → List Int → Int → List Int
  | 0, _, out, _ => out
  | d + 1, b, out, most => if b ≤ n then (if G b > most then greatL G n d (b + 1) [b] (G b) else if G b = most then greatL G n d (b + 1) (out ++ [b]) most else greatL G n d (b + 1) out most) else out
set_option maxHeartbeats 8000000 in
set_option maxRecDepth 100000 in
theorem greatest_calls (gf : Nat) (fb lb : Array Value) (G : Int → Int) (n : Int) (w : World) (hn : 0 ≤ n) (hn2 : n ≤ 1000)
    (eg : ∀ args w, (callFunc gf args).run Try.prog w = .ok (.enter gf args) w) 
    (hG : ∀ (W : World) (b : Int), Below w.heap.size w W → 0 ≤ b → b ≤ n → Calls Try.prog gf (fb ++ #[.int .i64 b] ++ lb) W fun e' w' => e' = .returned (.int .i64 (G b)) ∧ Below W.heap.size W w') :
    Calls Try.prog 28 #[.int .i64 n, .func (.func gf) fb lb] w fun e' w' => ∃ v, e' = .returned v ∧ Kd.R (Kd.int .i64) 3 w' w.heap.size (fun _ => True) v (greatL G n (n + 1).toNat 0 [] (-1)) ∧ Below w.heap.size w w' := by
  have HB := Aside0.mk (Below.refl w.heap.size w)
  have HG := Aside0.mk hG
  have EG := Aside0.mk eg
  clear hG eg
  generalize hr : greatL G n (n + 1).toNat 0 [] (-1) = r
  have HR := Aside0.mk hr
  clear hr
  go_enter Try.func28, Try.ntmps28
  go_wp2_with ((with_reducible refine gate_dst (N := 9) rfl ?_); refine Kd.R_lit (Kd.int .i64) _ 3 ?hg (N := 9) ?hd (xs := ([] : List Int)) (inner := []) (ok := fun _ => True) (okp := fun _ => True) ?hr ?hp (fun _ hk => hk) trivial (Below.refl _ _) (Nat.le_refl _) (by simp) ?_; (case hd => rfl); (case hg => rfl); (case hr => first | (go_simp; done) | (go_simp; rfl)); (case hp => exact (Reps.none _ _)); intro v113 w3 ho4 hb hg_ hnew_; clear hg_ hnew_; have n0_ := Aside0.mk (Kd.R_lower ho4 (below_size (by repeat (first | (with_reducible first | exact HB.out | apply below_alloc | apply pw_below_drewN | apply below_drew1) | exact HB.out)))); have n1_ := Aside0.mk (below_step (by repeat (first | (with_reducible first | exact HB.out | apply below_alloc | apply pw_below_drewN | apply below_drew1) | exact HB.out)) hb); clear HB; have HO := n0_; have HB := n1_; clear n0_ n1_; clear hb ho4)
  go_loopg [5, 6, 12] (n + 1).toNat (fun gg v5 v6 v12 wr => ∃ (b most : Int) (out : List Int), v12 = .int .i64 b ∧ v6 = .int .i64 most ∧ 0 ≤ b ∧ b ≤ n + 1 ∧ Aside0 ((n + 1 - b).toNat ≤ gg) ∧ Aside0 ((out.length : Int) ≤ b) ∧ Aside0 (greatL G n gg b out most = r) ∧ Aside0 (Kd.R (Kd.int .i64) 3 wr w.heap.size (fun _ => True) v5 out) ∧ Aside0 (Below w.heap.size w wr))
  case atStart => exact ⟨0, -1, [], rfl, rfl, by omega, by omega, ⟨by omega⟩, ⟨by simp⟩, HR, HO, HB⟩
  case round =>
    clear HR HB HO
    obtain ⟨b, most, out, rfl, rfl, hb0, hb1, HK, HL, HR, HO, HB⟩ := hrel
    by_cases hp : b ≤ n
    · have hlt : decide (b < n + 1) = true := decide_eq_true (by omega)
      obtain ⟨k, rfl⟩ : ∃ k, gk = k + 1 := ⟨gk - 1, by have := HK.out; omega⟩
      have hcall := HG.out
      have hr := HR.out
      rw [greatL, if_pos hp] at hr
      have HC : Aside0 (∀ W, Below w.heap.size w W → Calls Try.prog gf (fb ++ #[.int .i64 b] ++ lb) W fun e' w' => e' = .returned (.int .i64 (G b)) ∧ Below W.heap.size W w') :=
        ⟨fun W hW => hcall W b hW hb0 hp⟩
      clear hcall HR
      generalize G b = m at hr HC
      by_cases h1 : m > most
      · rw [if_pos h1] at hr
        have HR := Aside0.mk hr
        clear hr
        obtain ⟨out2, h2⟩ : ∃ out2, out2 = ([] : List Int) ++ [b] := ⟨_, rfl⟩
        rw [show [b] = ([] : List Int) ++ [b] from rfl, ← h2] at HR
        have Hy := Aside0.mk h2
        clear h2
        have hd1 : decide (most < m) = true := decide_eq_true h1
        go_wp2_with (first
          | ((with_reducible refine gate_dst (N := 17) rfl ?_); refine goesV_ (some 17) rfl rfl EG.out #[.int .i64 b] rfl rfl (by (try simp only [List.map_toArray, List.map_cons, List.map_nil]); first | done | rfl) ?_; refine (HC.out _ (by repeat (first | (with_reducible first | exact HB.out | apply below_alloc | apply pw_below_drewN | apply below_drew1) | exact HB.out))).mono ?_; rintro e_ w9 ⟨rfl, hb⟩; refine ⟨_, rfl, ?_⟩; have n0_ := Aside0.mk (Kd.R_below (by (with_reducible repeat (first | apply Kd.R_alloc | apply Kd.R_drewN | apply Kd.R_drew)); exact HO.out) hb); have n2_ := Aside0.mk (below_step (by repeat (first | (with_reducible first | exact HB.out | apply below_alloc | apply pw_below_drewN | apply below_drew1) | exact HB.out)) hb); clear HO; clear HB; have HO := n0_; have HB := n2_; clear n0_ n2_; clear hb)
          | ((with_reducible refine gate_builtin (b := .append) (xs := #[.tmp 25, .tmp 27]) rfl ?_); at_builtin; refine Kd.R_append (Kd.int .i64) (w0 := w) w.heap.size rfl (.tmp 25) (.tmp 27) 25 3 (.int .i64 0) 8 rfl Try.underlying25 info3 rfl (by decide) (by omega) _ ([] : List Int) b [.int .i64 b] (fun _ => True) (fun _ => False) rfl rfl ?aP (fun _ hk => hk.elim) ?aF ?aO ?aB ?aS ?aL ?_; (case aP => exact rfl); (case aB => exact (by repeat (first | (with_reducible first | exact HB.out | apply below_alloc | apply pw_below_drewN | apply below_drew1) | exact HB.out))); (case aF => exact (fun _ _ => trivial)); (case aO => exact (Kd.R_nil _ _ _ _ _)); (case aS => exact (below_size (by repeat (first | (with_reducible first | exact HB.out | apply below_alloc | apply pw_below_drewN | apply below_drew1) | exact HB.out)))); (case aL => simp); intro v127 w13 ho hb hg hat; rw [← Hy.out] at ho; have n0_ := Aside0.mk (hb); have n1_ := Aside0.mk (ho); clear HB; clear HO; have HB := n0_; have HO := n1_; clear n0_ n1_; clear ho hb hg hat))
        go_roundg k
        case measure => omega
        case rel =>
          exact ⟨b + 1, m, out2, by go_num, rfl, by omega, by omega, ⟨by have := HK.out; omega⟩, ⟨by rw [Hy.out]; simp; omega⟩, HR, ⟨(by (with_reducible repeat (first | apply Kd.R_alloc | apply Kd.R_drewN | apply Kd.R_drew)); exact HO.out)⟩, ⟨(by repeat (first | (with_reducible first | exact HB.out | apply below_alloc | apply pw_below_drewN | apply below_drew1) | exact HB.out))⟩⟩
      · rw [if_neg h1] at hr
        have hd1 : decide (most < m) = false := decide_eq_false h1
        by_cases h3 : m = most
        · subst h3
          rw [if_pos rfl] at hr
          have HR := Aside0.mk hr
          clear hr
          obtain ⟨out2, h2⟩ : ∃ out2, out2 = out ++ [b] := ⟨_, rfl⟩
          rw [← h2] at HR
          have Hy := Aside0.mk h2
          clear h2
          go_wp2_with (first
            | ((with_reducible refine gate_dst (N := 17) rfl ?_); refine goesV_ (some 17) rfl rfl EG.out #[.int .i64 b] rfl rfl (by (try simp only [List.map_toArray, List.map_cons, List.map_nil]); first | done | rfl) ?_; refine (HC.out _ (by repeat (first | (with_reducible first | exact HB.out | apply below_alloc | apply pw_below_drewN | apply below_drew1) | exact HB.out))).mono ?_; rintro e_ w9 ⟨rfl, hb⟩; refine ⟨_, rfl, ?_⟩; have n0_ := Aside0.mk (Kd.R_below (by (with_reducible repeat (first | apply Kd.R_alloc | apply Kd.R_drewN | apply Kd.R_drew)); exact HO.out) hb); have n2_ := Aside0.mk (below_step (by repeat (first | (with_reducible first | exact HB.out | apply below_alloc | apply pw_below_drewN | apply below_drew1) | exact HB.out)) hb); clear HO; clear HB; have HO := n0_; have HB := n2_; clear n0_ n2_; clear hb)
            | ((with_reducible refine gate_builtin (b := .append) (xs := #[.tmp 25, .tmp 27]) rfl ?_); at_builtin; refine Kd.R_append (Kd.int .i64) (w0 := w) w.heap.size rfl (.tmp 25) (.tmp 27) 25 3 (.int .i64 0) 8 rfl Try.underlying25 info3 rfl (by decide) (by omega) _ out b [.int .i64 b] (fun _ => True) (fun _ => False) rfl rfl ?aP (fun _ hk => hk.elim) ?aF ?aO ?aB ?aS ?aL ?_; (case aP => exact rfl); (case aB => exact (by repeat (first | (with_reducible first | exact HB.out | apply below_alloc | apply pw_below_drewN | apply below_drew1) | exact HB.out))); (case aF => exact (fun _ _ => trivial)); (case aO => exact (by (with_reducible repeat (first | apply Kd.R_alloc | apply Kd.R_drewN | apply Kd.R_drew)); exact HO.out)); (case aS => exact (below_size (by repeat (first | (with_reducible first | exact HB.out | apply below_alloc | apply pw_below_drewN | apply below_drew1) | exact HB.out)))); (case aL => have := HL.out; omega); intro v127 w13 ho hb hg hat; rw [← Hy.out] at ho; have n0_ := Aside0.mk (hb); have n1_ := Aside0.mk (ho); clear HB; clear HO; have HB := n0_; have HO := n1_; clear n0_ n1_; clear ho hb hg hat))
          go_roundg k
          case measure => omega
          case rel =>
            exact ⟨b + 1, m, out2, by go_num, rfl, by omega, by omega, ⟨by have := HK.out; omega⟩, ⟨by have := HL.out; rw [Hy.out]; simp; omega⟩, HR, ⟨(by (with_reducible repeat (first | apply Kd.R_alloc | apply Kd.R_drewN | apply Kd.R_drew)); exact HO.out)⟩, ⟨(by repeat (first | (with_reducible first | exact HB.out | apply below_alloc | apply pw_below_drewN | apply below_drew1) | exact HB.out))⟩⟩
        · rw [if_neg h3] at hr
          have HR := Aside0.mk hr
          clear hr
          have hd3 : decide (m = most) = false := decide_eq_false h3
          have hd4 : (m == most) = false := beq_eq_false_iff_ne.mpr h3
          go_wp2_with ((with_reducible refine gate_dst (N := 17) rfl ?_); refine goesV_ (some 17) rfl rfl EG.out #[.int .i64 b] rfl rfl (by (try simp only [List.map_toArray, List.map_cons, List.map_nil]); first | done | rfl) ?_; refine (HC.out _ (by repeat (first | (with_reducible first | exact HB.out | apply below_alloc | apply pw_below_drewN | apply below_drew1) | exact HB.out))).mono ?_; rintro e_ w9 ⟨rfl, hb⟩; refine ⟨_, rfl, ?_⟩; have n0_ := Aside0.mk (Kd.R_below (by (with_reducible repeat (first | apply Kd.R_alloc | apply Kd.R_drewN | apply Kd.R_drew)); exact HO.out) hb); have n2_ := Aside0.mk (below_step (by repeat (first | (with_reducible first | exact HB.out | apply below_alloc | apply pw_below_drewN | apply below_drew1) | exact HB.out)) hb); clear HO; clear HB; have HO := n0_; have HB := n2_; clear n0_ n2_; clear hb)
          go_roundg k
          case measure => omega
          case rel =>
            exact ⟨b + 1, most, out, by go_num, rfl, by omega, by omega, ⟨by have := HK.out; omega⟩, ⟨by have := HL.out; omega⟩, HR, ⟨(by (with_reducible repeat (first | apply Kd.R_alloc | apply Kd.R_drewN | apply Kd.R_drew)); exact HO.out)⟩, ⟨(by repeat (first | (with_reducible first | exact HB.out | apply below_alloc | apply pw_below_drewN | apply below_drew1) | exact HB.out))⟩⟩
    · have hlt : decide (b < n + 1) = false := decide_eq_false (by omega)
      have hq : out = r := by
        rw [← HR.out]
        cases gk with
        | zero => rfl
        | succ k => rw [greatL, if_neg hp]
      have HQ := Aside0.mk hq
      clear hq
      go_wp2
      go_ret
      exact ⟨_, rfl, by rw [← HQ.out]; (with_reducible repeat (first | apply Kd.R_alloc | apply Kd.R_drewN | apply Kd.R_drew)); exact HO.out, (by repeat (first | (with_reducible first | exact HB.out | apply below_alloc | apply pw_below_drewN | apply below_drew1) | exact HB.out))⟩


/-! ### impl_SlowestBreaks: function 12, a contract of our own -/
theorem greatL_R (G : Int → Int) (n : Int) : ∀ (d : Nat) (b : Int) (out : List Int) (most : Int), greatL G n d b out most = greatR G n d b out most
  | 0, _, _, _ => rfl
  | d + 1, b, out, most => by
    rw [greatL, greatR, greatL_R G n d, greatL_R G n d, greatL_R G n d]
set_option maxHeartbeats 8000000 in
set_option maxRecDepth 100000 in
theorem slowest_1 (g3 g5 g8 g e hn : Nat) (n b : Int) (W : World) (he1 : 1 ≤ e) (he2 : e ≤ 10) (hh1 : 1 ≤ hn) (hh2 : hn ≤ 10) (hn2 : n ≤ 1000) (hb0 : 0 ≤ b) (hbn : b ≤ n)
    (h3 : W.heap[g3]? = some (.cells #[.int .i64 e] 3 (0, 0))) (h5 : W.heap[g5]? = some (.cells #[.int .i64 n] 3 (0, 0))) (h8 : W.heap[g8]? = some (.cells #[.pointer (some ⟨g, 0, none⟩)] 39 (0, 0))) (hR : IsRR W g hn) :
    Calls Try.prog 29 #[.int .i64 b, .pointer (some ⟨g8, 0, none⟩), .pointer (some ⟨g3, 0, none⟩), .pointer (some ⟨g5, 0, none⟩)] W fun e' w' => e' = .returned (.int .i64 ((playR hn b 1000 e 0 n).length : Nat)) ∧ Below W.heap.size W w' := by
  have hp := playRR_calls g hn e n b W hR (PlayAt.start hn e n b hh1 hh2 he1 he2 hn2 hb0 hbn)
  generalize playR hn b 1000 e 0 n = L at hp ⊢
  have HP := Aside0.mk hp
  have hx3 : W.cell? ⟨g3, 0, none⟩ = some (.int .i64 e) := (blk_cell h3 0).trans rfl
  have hx5 : W.cell? ⟨g5, 0, none⟩ = some (.int .i64 n) := (blk_cell h5 0).trans rfl
  have hx8 : W.cell? ⟨g8, 0, none⟩ = some (.pointer (some ⟨g, 0, none⟩)) := (blk_cell h8 0).trans rfl
  clear hp h3 h5 h8 hR
  generalize hl : L.length = len
  have HL := Aside0.mk hl
  clear hl
  go_enter Try.func29, Try.ntmps29
  go_wp2_with (go_at_call 30; refine (HP.out).mono ?_; rintro e w' ⟨v, rfl, hr, hb⟩; have HB := Aside0.mk hb; obtain ⟨A_, c_, hv_⟩ := Kd.R_slice hr; rw [HL.out] at hv_; subst hv_; clear hr hb)
  go_ret
  exact ⟨rfl, HB.out⟩
def impl_SlowestBreaks.f (a0 a1 a2 : Int) : Option ((List Int) × Bool) := some (if slowG a0 a1 a2 = true then slowL a0 a1 a2 else [], slowG a0 a1 a2)
set_option maxHeartbeats 8000000 in
set_option maxRecDepth 100000 in
theorem impl_SlowestBreaks.calls (a0 a1 a2 : Int) (r1 : List Int) (r2 : Bool) (w : World) (h : impl_SlowestBreaks.f a0 a1 a2 = some (r1, r2)) :
    Calls Try.prog 12 #[.int .i64 a0, .int .i64 a1, .int .i64 a2] w fun e w' => ∃ v0_ : Value, e = .returned (.tuple #[v0_, .bool r2]) ∧ Kd.R (Kd.int .i64) 3 w' w.heap.size (fun _ => True) v0_ r1 ∧ Below w.heap.size w w' := by
  have HB := Aside0.mk (Below.refl w.heap.size w)
  unfold impl_SlowestBreaks.f slowG at h
  have HG := Aside0.mk (fun (W : World) => impl_isRoundHouse.calls0 a0 a1 a2 (rhouse a0 a1 a2) W (impl_isRoundHouse_is a0 a1 a2))
  by_cases hgd : rhouse a0 a1 a2 = true
  · rw [hgd] at HG h
    by_cases h2 : a2 ≤ 200
    · have hd2 : decide (200 < a2) = false := decide_eq_false (by omega)
      rw [decide_eq_true h2, Bool.and_self, if_pos rfl] at h
      obtain ⟨hq1, rfl⟩ := Prod.mk.inj (Option.some.inj h)
      have HP : Aside0 (∀ (g3 g5 g8 g : Nat) (W : World), W.heap[g3]? = some (.cells #[.int .i64 a0] 3 (0, 0)) → W.heap[g5]? = some (.cells #[.int .i64 a2] 3 (0, 0)) → W.heap[g8]? = some (.cells #[.pointer (some ⟨g, 0, none⟩)] 39 (0, 0)) → IsRR W g a1.toNat →
          Calls Try.prog 28 #[.int .i64 a2, .func (.func 29) #[] #[.pointer (some ⟨g8, 0, none⟩), .pointer (some ⟨g3, 0, none⟩), .pointer (some ⟨g5, 0, none⟩)]] W fun e' w' => ∃ v, e' = .returned v ∧ Kd.R (Kd.int .i64) 3 w' W.heap.size (fun _ => True) v r1 ∧ Below W.heap.size W w') :=
        ⟨fun g3 g5 g8 g W h3 h5 h8 hR => by
          obtain ⟨e, hn, rfl, rfl, he1, he2, hh1, hh2, hp0, hp1⟩ := rhouse_true hgd
          rw [Int.toNat_natCast] at hR
          have := greatest_calls 29 #[] #[.pointer (some ⟨g8, 0, none⟩), .pointer (some ⟨g3, 0, none⟩), .pointer (some ⟨g5, 0, none⟩)] (fun b => ((rplay e hn a2 b).length : Int)) a2 W hp0 hp1 (enters_ Try.func29 (by kernel_rfl) rfl)
            (fun W2 b hW h1 h2' => slowest_1 g3 g5 g8 g e hn a2 b W2 he1 he2 hh1 hh2 hp1 h1 h2' (blk_below h3 hW) (blk_below h5 hW) (blk_below h8 hW) (IsRR.below hR hW))
          rw [greatL_R] at this; rw [← hq1]; unfold slowL; simpa using this⟩
      obtain ⟨hn, hha, hhb, hh1, hh2⟩ : ∃ hn : Nat, a1 = hn ∧ a1.toNat = hn ∧ 1 ≤ hn ∧ hn ≤ 10 := by
        obtain ⟨e, hn, rfl, rfl, he1, he2, hh1, hh2, hp0, hp1⟩ := rhouse_true hgd
        exact ⟨hn, rfl, Int.toNat_natCast _, hh1, hh2⟩
      subst hha
      rw [hhb] at HP
      clear hgd h hq1 hhb
      go_enter Try.func12, Try.ntmps12
      go_wp2_with (first
      | ((with_reducible refine gate_dst (N := 3) rfl ?_); refine box_event ?hg (N := 3) ?hd (cs := #[.int .i64 a0]) (t := 3) ?hr ?_; (case hd => rfl); (case hg => rfl); (case hr => first | (go_simp; done) | (go_simp; rfl)); intro g3 hg w2 hbox hb; have n0_ := Aside0.mk (below_step HB.out hb); clear HB; have HB := n0_; have K3 := Aside0.mk hbox; have hx3 : w2.cell? ⟨g3, 0, none⟩ = some (.int .i64 a0) := (blk_cell K3.out 0).trans rfl; clear hg hbox hb n0_)
      | ((with_reducible refine gate_dst (N := 5) rfl ?_); refine box_event ?hg (N := 5) ?hd (cs := #[.int .i64 a2]) (t := 3) ?hr ?_; (case hd => rfl); (case hg => rfl); (case hr => first | (go_simp; done) | (go_simp; rfl)); intro g5 hg w2 hbox hb; have n0_ := Aside0.mk (below_step HB.out hb); clear HB; have HB := n0_; have K5 := Aside0.mk hbox; have n1_ := Aside0.mk (blk_below K3.out hb); clear K3 hx3; have K3 := n1_; clear n1_; have hx3 : w2.cell? ⟨g3, 0, none⟩ = some (.int .i64 a0) := (blk_cell K3.out 0).trans rfl; have hx5 : w2.cell? ⟨g5, 0, none⟩ = some (.int .i64 a2) := (blk_cell K5.out 0).trans rfl; clear hg hbox hb n0_)
      | (go_at_call 26; refine (HG.out _).mono ?_; rintro e w' ⟨rfl, rfl⟩)
      | (go_at_call 27; refine (newRR_calls hn _ hh1 hh2).mono ?_; rintro e_ w' ⟨g, rfl, hR, hb⟩; have hbs := below_alloc (Below.refl w'.heap.size w') (.cells #[.pointer (some ⟨g, 0, none⟩)] 39 (0, 0)); have n0_ := Aside0.mk (below_step (below_step HB.out hb) hbs); clear HB; have HB := n0_; have n1_ := Aside0.mk (blk_below (blk_below K3.out hb) hbs); have n2_ := Aside0.mk (blk_below (blk_below K5.out hb) hbs); clear K3 K5 hx3 hx5; have K3 := n1_; have K5 := n2_; have HR := Aside0.mk (IsRR.below hR hbs); have HS := Aside0.mk (blk_new w' (.cells #[.pointer (some ⟨g, 0, none⟩)] 39 (0, 0))); have hx5 : (w'.alloc (.cells #[.pointer (some ⟨g, 0, none⟩)] 39 (0, 0))).cell? ⟨g5, 0, none⟩ = some (.int .i64 a2) := (blk_cell K5.out 0).trans rfl; clear hR hb hbs n0_ n1_ n2_)
      | (go_at_call 28; refine (HP.out _ _ _ _ _ K3.out K5.out HS.out HR.out).mono ?_; rintro e w' ⟨v, rfl, hr, hb⟩; have HO := Aside0.mk (Kd.R_lower hr (below_size HB.out)); have n0_ := Aside0.mk (below_step HB.out hb); clear HB; have HB := n0_; clear hr hb n0_))
      go_ret2
      exact ⟨_, rfl, HO.out, HB.out⟩
    · have hd2 : decide (200 < a2) = true := decide_eq_true (by omega)
      rw [decide_eq_false h2, Bool.and_false, if_neg (by decide)] at h
      obtain ⟨rfl, rfl⟩ := Prod.mk.inj (Option.some.inj h)
      clear hgd h
      go_enter Try.func12, Try.ntmps12
      go_wp2_with (first
      | ((with_reducible refine gate_dst (N := 3) rfl ?_); refine box_event ?hg (N := 3) ?hd (cs := #[.int .i64 a0]) (t := 3) ?hr ?_; (case hd => rfl); (case hg => rfl); (case hr => first | (go_simp; done) | (go_simp; rfl)); intro g3 hg w2 hbox hb; have n0_ := Aside0.mk (below_step HB.out hb); clear HB; have HB := n0_; have K3 := Aside0.mk hbox; have hx3 : w2.cell? ⟨g3, 0, none⟩ = some (.int .i64 a0) := (blk_cell K3.out 0).trans rfl; clear hg hbox hb n0_)
      | ((with_reducible refine gate_dst (N := 5) rfl ?_); refine box_event ?hg (N := 5) ?hd (cs := #[.int .i64 a2]) (t := 3) ?hr ?_; (case hd => rfl); (case hg => rfl); (case hr => first | (go_simp; done) | (go_simp; rfl)); intro g5 hg w2 hbox hb; have n0_ := Aside0.mk (below_step HB.out hb); clear HB; have HB := n0_; have K5 := Aside0.mk hbox; have n1_ := Aside0.mk (blk_below K3.out hb); clear K3 hx3; have K3 := n1_; clear n1_; have hx3 : w2.cell? ⟨g3, 0, none⟩ = some (.int .i64 a0) := (blk_cell K3.out 0).trans rfl; have hx5 : w2.cell? ⟨g5, 0, none⟩ = some (.int .i64 a2) := (blk_cell K5.out 0).trans rfl; clear hg hbox hb n0_)
      | (go_at_call 26; refine (HG.out _).mono ?_; rintro e w' ⟨rfl, rfl⟩))
      go_ret2
      exact ⟨_, rfl, Kd.R_nil _ _ _ _ _, HB.out⟩
  · rw [Bool.not_eq_true] at hgd
    rw [hgd] at HG h
    rw [Bool.false_and, if_neg (by decide)] at h
    obtain ⟨rfl, rfl⟩ := Prod.mk.inj (Option.some.inj h)
    clear hgd h
    go_enter Try.func12, Try.ntmps12
    go_wp2_with (first
      | ((with_reducible refine gate_dst (N := 3) rfl ?_); refine box_event ?hg (N := 3) ?hd (cs := #[.int .i64 a0]) (t := 3) ?hr ?_; (case hd => rfl); (case hg => rfl); (case hr => first | (go_simp; done) | (go_simp; rfl)); intro g3 hg w2 hbox hb; have n0_ := Aside0.mk (below_step HB.out hb); clear HB; have HB := n0_; have K3 := Aside0.mk hbox; have hx3 : w2.cell? ⟨g3, 0, none⟩ = some (.int .i64 a0) := (blk_cell K3.out 0).trans rfl; clear hg hbox hb n0_)
      | ((with_reducible refine gate_dst (N := 5) rfl ?_); refine box_event ?hg (N := 5) ?hd (cs := #[.int .i64 a2]) (t := 3) ?hr ?_; (case hd => rfl); (case hg => rfl); (case hr => first | (go_simp; done) | (go_simp; rfl)); intro g5 hg w2 hbox hb; have n0_ := Aside0.mk (below_step HB.out hb); clear HB; have HB := n0_; have K5 := Aside0.mk hbox; have n1_ := Aside0.mk (blk_below K3.out hb); clear K3 hx3; have K3 := n1_; clear n1_; have hx3 : w2.cell? ⟨g3, 0, none⟩ = some (.int .i64 a0) := (blk_cell K3.out 0).trans rfl; have hx5 : w2.cell? ⟨g5, 0, none⟩ = some (.int .i64 a2) := (blk_cell K5.out 0).trans rfl; clear hg hbox hb n0_)
      | (go_at_call 26; refine (HG.out _).mono ?_; rintro e w' ⟨rfl, rfl⟩))
    go_ret2
    exact ⟨_, rfl, Kd.R_nil _ _ _ _ _, HB.out⟩

end Go.Proofs.Ytbiibhfcclfoiaa.PrintA
