-- written by this session's own driver (wip/gen.py) with the kit's print and contracts of our own
import Derived.Test.YtkbmefmnfoalhaaPrintC0
import Derived.Test.YtkbmefmnfoalhaaPrintC2
import Derived.Test.YtkbmefmnfoalhaaPrintC16
import Derived.Deep.DeepCutAuto
namespace Go.Proofs.Ytkbmefmnfoalhaa.PrintC
open Go.RowKit Go.Proofs.YtkbmefmnfoalhaaLib Go.Proofs.YtkbmefmnfoalhaaW.PrintWords Go.Proofs.YtkbmefmnfoalhaaW.PrintLast Go.Proofs.YtkbmefmnfoalhaaW.PrintMore
attribute [local go_sem] max2_int min2_int max_two min_two max_three min_three max_four min_four   -- for this text's walks alone
set_option linter.unusedVariables false
set_option linter.unusedSimpArgs false

/-! ### impl_newCoster: function 28, a contract of our own -/
-- IMPORT Derived.Deep.DeepCutAuto
/-- The costs so far: those of fewer floors, of fewer eggs, of the side ahead; the one under way is m. -/
def cv (E T C : Int) (n e s : Nat) (m : Int) (e' n' s' : Nat) : Int := if n' < n ∨ (n' = n ∧ (e' < e ∨ (e' = e ∧ s' < s))) then cst E T C e' n' s' else if n' = n ∧ e' = e ∧ s' = s then m else 0
theorem cv_at (E T C : Int) (n e s : Nat) (m : Int) : cv E T C n e s m e n s = m := by
  unfold cv; rw [if_neg (by omega), if_pos ⟨rfl, rfl, rfl⟩]
theorem cv_old (E T C : Int) (n e s : Nat) (m : Int) (e' n' s' : Nat) (h : n' < n) : cv E T C n e s m e' n' s' = cst E T C e' n' s' := by
  unfold cv; rw [if_pos (Or.inl h)]
theorem cv_set (E T C : Int) (n e s : Nat) (m m' : Int) (he : e ≤ 10) (hn : n ≤ 60) (hs : s ≤ 1) (i : Nat) : updI (costF E T C (cv E T C n e s m)) (3 + e * 122 + n * 2 + s) m' i = costF E T C (cv E T C n e s m') i := by
  unfold updI
  by_cases h : i = 3 + e * 122 + n * 2 + s
  · rw [if_pos h, h, costF_at _ _ _ _ _ _ _ he hn hs, cv_at]
  · rw [if_neg h]
    unfold costF
    by_cases h0 : i = 0
    · rw [if_pos h0, if_pos h0]
    · rw [if_neg h0, if_neg h0]
      by_cases h1 : i = 1
      · rw [if_pos h1, if_pos h1]
      · rw [if_neg h1, if_neg h1]
        by_cases h2 : i = 2
        · rw [if_pos h2, if_pos h2]
        · rw [if_neg h2, if_neg h2]
          unfold cv
          have hne : ¬ ((i - 3) % 122 / 2 = n ∧ (i - 3) / 122 = e ∧ (i - 3) % 2 = s) := by omega
          rw [if_neg hne, if_neg hne]
theorem costF_congr (E T C : Int) (v v' : Nat → Nat → Nat → Int) (h : ∀ e n s, e ≤ 10 → n ≤ 60 → s ≤ 1 → v e n s = v' e n s) (i : Nat) (hi : i < 1345) : costF E T C v i = costF E T C v' i := by
  unfold costF
  split
  · rfl
  · split
    · rfl
    · split
      · rfl
      · exact h _ _ _ (by omega) (by omega) (by omega)
theorem cv_side (E T C : Int) (n e : Nat) : cv E T C n e 0 (cst E T C e n 0) = cv E T C n e 1 0 := by
  funext e' n' s'
  unfold cv
  by_cases h : n' < n ∨ (n' = n ∧ (e' < e ∨ (e' = e ∧ s' < 0)))
  · rw [if_pos h, if_pos (by omega)]
  · rw [if_neg h]
    by_cases h2 : n' = n ∧ e' = e ∧ s' = 0
    · obtain ⟨rfl, rfl, rfl⟩ := h2
      rw [if_pos ⟨rfl, rfl, rfl⟩, if_pos (by omega)]
    · rw [if_neg h2, if_neg (by omega)]
      split <;> rfl
theorem cv_egg (E T C : Int) (n e e' n' s' : Nat) (hs : s' ≤ 1) : cv E T C n e 1 (cst E T C e n 1) e' n' s' = cv E T C n (e + 1) 0 0 e' n' s' := by
  unfold cv
  by_cases h : n' < n ∨ (n' = n ∧ (e' < e ∨ (e' = e ∧ s' < 1)))
  · rw [if_pos h, if_pos (by omega)]
  · rw [if_neg h]
    by_cases h2 : n' = n ∧ e' = e ∧ s' = 1
    · obtain ⟨rfl, rfl, rfl⟩ := h2
      rw [if_pos ⟨rfl, rfl, rfl⟩, if_pos (by omega)]
    · rw [if_neg h2, if_neg (by omega)]
      split <;> rfl
theorem cv_floor (E T C : Int) (n e' n' s' : Nat) (he : e' ≤ 10) : cv E T C n 11 0 0 e' n' s' = cv E T C (n + 1) 0 0 0 e' n' s' := by
  unfold cv
  by_cases h : n' < n ∨ (n' = n ∧ (e' < 11 ∨ (e' = 11 ∧ s' < 0)))
  · rw [if_pos h, if_pos (by omega)]
  · rw [if_neg h, if_neg (by omega), if_neg (by omega)]
    split <;> rfl
theorem cv_start (E T C : Int) (e' n' s' : Nat) : cv E T C 1 0 0 0 e' n' s' = 0 := by
  unfold cv
  by_cases h : n' < 1 ∨ (n' = 1 ∧ (e' < 0 ∨ (e' = 0 ∧ s' < 0)))
  · rw [if_pos h]
    obtain rfl : n' = 0 := by omega
    exact cst_zero E T C e' s'
  · rw [if_neg h]
    split <;> rfl
theorem FG_cv (E T C : Int) (n e s : Nat) (m : Int) (f : Nat) (hf : 1 ≤ f) (hfn : f ≤ n) : FG E T C (cv E T C n e s m) e n s f = firstG E T C e n s f := by
  unfold FG firstG
  rw [cv_old _ _ _ _ _ _ _ _ _ _ (by omega), cv_old _ _ _ _ _ _ _ _ _ _ (by omega)]
def csv (E T C : Int) (n e : Nat) : Nat → Nat → Nat → Nat → Int
  | 2 => cv E T C n (e + 1) 0 0
  | s => cv E T C n e s 0
theorem csv_lt (E T C : Int) (n e s : Nat) (h : s < 2) : csv E T C n e s = cv E T C n e s 0 := by
  rcases (by omega : s = 0 ∨ s = 1) with rfl | rfl <;> rfl
set_option maxHeartbeats 16000000 in
set_option maxRecDepth 100000 in
theorem newCoster_calls (E T C : Int) (w : World) (hp : Prs E T C) :
    Calls Try.prog 28 #[.agg #[.int .i64 E, .int .i64 T, .int .i64 C]] w fun e w' => ∃ g, e = .returned (.pointer (some ⟨g, 0, none⟩)) ∧ IsCoster w' g E T C (cst E T C) ∧ Below w.heap.size w w' := by
  have HP := Aside0.mk hp
  have HB0 := Aside0.mk (below_alloc (below_alloc (Below.refl w.heap.size w) (.cells #[.int .i64 E, .int .i64 T, .int .i64 C] 28 (0, 0))) (.cells (arrV 1345 (costF E T C (cv E T C 1 0 0 0))) 48 (0, 0)))
  have HI0 : Aside0 (IsCoster ((w.alloc (.cells #[.int .i64 E, .int .i64 T, .int .i64 C] 28 (0, 0))).alloc (.cells (arrV 1345 (costF E T C (cv E T C 1 0 0 0))) 48 (0, 0))) (w.heap.size + 1) E T C (cv E T C 1 0 0 0)) :=
    ⟨⟨by have := blk_new (w.alloc (.cells #[.int .i64 E, .int .i64 T, .int .i64 C] 28 (0, 0))) (.cells (arrV 1345 (costF E T C (cv E T C 1 0 0 0))) 48 (0, 0)); simpa using this⟩⟩
  obtain ⟨i0, hi0, hiz, _⟩ := zero_arr (P := Try.prog) (t := 48) (n := 1345) (by kernel_rfl)
  have hz : ∀ W : World, Sem.run Try.prog (zeroValue 48) W = .ok (.agg (arrV 1345 (fun _ => 0))) W := by
    intro W; simp [zeroValue, typeInfo, hi0, hiz]
  have hsz : (arrV 1345 (fun _ => 0)).size = 1345 := arrV_size _ _
  have hset : (((arrV 1345 (fun _ => 0)).setIfInBounds 0 (.int .i64 E)).setIfInBounds 1 (.int .i64 T)).setIfInBounds 2 (.int .i64 C) = arrV 1345 (costF E T C (cv E T C 1 0 0 0)) := by
    rw [arrV_set, arrV_set, arrV_set]
    apply arrV_congr
    intro i hi
    unfold updI costF
    by_cases h2 : i = 2
    · subst h2; rfl
    · rw [if_neg h2]
      by_cases h1 : i = 1
      · subst h1; rfl
      · rw [if_neg h1]
        by_cases h0 : i = 0
        · subst h0; rfl
        · rw [if_neg h0, if_neg h0, if_neg h1, if_neg h2, cv_start]
  clear hp hi0 hiz
  go_enter Try.func28, Try.ntmps28
  go_wp2
  clear hz hsz hset
  generalize hg : w.heap.size + 1 = g at HI0 ⊢
  have HG : Aside0 (w.heap.size ≤ g) := ⟨by omega⟩
  clear hg
  go_loopg [4] 61 (fun gg v4 wr => ∃ n : Nat, 1 ≤ n ∧ n ≤ 61 ∧ 61 - n ≤ gg ∧ v4 = .int .i64 n ∧ Aside0 (IsCoster wr g E T C (cv E T C n 0 0 0)) ∧ Aside0 (Below w.heap.size w wr))
  case atStart => exact ⟨1, by omega, by omega, by omega, rfl, HI0, HB0⟩
  case round =>
    clear HI0 HB0
    obtain ⟨n, hn1, hn2, hgg, rfl, HI, HB⟩ := hrel
    by_cases hlt : n ≤ 60
    · have hltz : (n : Int) ≤ 60 := by omega
      go_wp2
      go_loopg [5, 15] 11 (fun gg _ v15 wr => ∃ e : Nat, e ≤ 11 ∧ 11 - e ≤ gg ∧ v15 = .int .i64 e ∧ Aside0 (IsCoster wr g E T C (cv E T C n e 0 0)) ∧ Aside0 (Below w.heap.size w wr))
      case atStart => exact ⟨0, by omega, by omega, rfl, HI, HB⟩
      case round =>
        clear HI HB
        obtain ⟨e, he1, hg2, rfl, HI, HB⟩ := hrel
        by_cases hle : e < 11
        · have hlez : (e : Int) < 11 := by omega
          go_wp2
          go_loopg [6, 18] 2 (fun gg _ v18 wr => ∃ s : Nat, s ≤ 2 ∧ 2 - s ≤ gg ∧ v18 = .int .i64 s ∧ Aside0 (IsCoster wr g E T C (csv E T C n e s)) ∧ Aside0 (Below w.heap.size w wr))
          case atStart => exact ⟨0, by omega, by omega, rfl, HI, HB⟩
          case round =>
            clear HI HB
            obtain ⟨s, hs1, hg3, rfl, HI, HB⟩ := hrel
            by_cases hls : s < 2
            · have hlsz : (s : Int) < 2 := by omega
              have HI1 := HI.out
              rw [csv_lt E T C n e s hls] at HI1
              have hx := HI1.at_ e n s (by omega) (by omega) (by omega)
              rw [cv_at] at hx
              have hf := ArrI.frozen HI1 (3 + e * 122 + n * 2 + s)
              have HI2 := Aside0.mk (show IsCoster _ g E T C (cv E T C n e s 1125899906842624) from (ArrI.set HI1 (3 + e * 122 + n * 2 + s) 1125899906842624).congr (fun i _ => cv_set E T C n e s 0 1125899906842624 (by omega) (by omega) (by omega) i))
              have HB2 : Aside0 (Below w.heap.size w (wr.setCell ⟨g, 3 + e * 122 + n * 2 + s, none⟩ (.int .i64 1125899906842624))) := ⟨below_set HB.out HG.out⟩
              clear HI HI1 HB
              go_wp2
              go_loopg [7] (n + 1) (fun gg v7 wr => ∃ f : Nat, 1 ≤ f ∧ f ≤ n + 1 ∧ n + 1 - f ≤ gg ∧ v7 = .int .i64 f ∧ Aside0 (e = 0 → f = 1) ∧ Aside0 (IsCoster wr g E T C (cv E T C n e s (minF 1125899906842624 (f - 1) (firstG E T C e n s)))) ∧ Aside0 (Below w.heap.size w wr))
              case atStart => exact ⟨1, by omega, by omega, by omega, rfl, ⟨fun _ => rfl⟩, HI2, HB2⟩
              case round =>
                clear HI2 HB2
                obtain ⟨f, hf1, hf2, hg4, rfl, HE, HI, HB⟩ := hrel
                by_cases hc : f ≤ n ∧ 0 < e
                · obtain ⟨hfn, he0⟩ := hc
                  have hfz : decide ((f : Int) ≤ (n : Int)) = true := decide_eq_true (by omega)
                  have hfn2 : decide (f ≤ n) = true := decide_eq_true hfn
                  have hez : decide ((0 : Int) < (e : Int)) = true := decide_eq_true (by omega)
                  have hez2 : decide (0 < e) = true := decide_eq_true he0
                  have hFG := FG_cv E T C n e s (minF 1125899906842624 (f - 1) (firstG E T C e n s)) f hf1 hfn
                  have hr1 := firstG_range HP.out e n s f hlt he0 hf1 hfn
                  have hm0 : 0 ≤ minF 1125899906842624 (f - 1) (firstG E T C e n s) := minF_ge _ _ _ _ (by omega) (fun q a b => (firstG_range HP.out e n s q hlt he0 a (by omega)).1)
                  have hcr1 := cst_range HP.out (f - 1) (by omega) (e - 1) 1
                  have hcr2 := cst_range HP.out (n - f) (by omega) e 0
                  have hcb1 : cst E T C (e - 1) (f - 1) 1 ≤ 1125899907000000 := by
                    by_cases h : 1 ≤ e - 1
                    · have := hcr1.2 h; omega
                    · have h0 : e - 1 = 0 := by omega
                      rw [h0]
                      by_cases h1 : f - 1 = 0
                      · rw [h1, cst_zero]; omega
                      · obtain ⟨q, hq⟩ : ∃ q, f - 1 = q + 1 := ⟨f - 2, by omega⟩
                        rw [hq, cst_no_egg]; omega
                  have hcb2 : cst E T C e (n - f) 0 ≤ 1125899907000000 := by have := hcr2.2 he0; omega
                  have HF := Aside0.mk (fun (W : World) (hI : IsCoster W g E T C (cv E T C n e s (minF 1125899906842624 (f - 1) (firstG E T C e n s)))) => first_calls g e n s f E T C _ W he0 (by omega) hlt (by omega) hf1 hfn HP.out (by rw [cv_old _ _ _ _ _ _ _ _ _ _ (by omega)]; exact ⟨hcr1.1, hcb1⟩) (by rw [cv_old _ _ _ _ _ _ _ _ _ _ (by omega)]; exact ⟨hcr2.1, hcb2⟩) hI)
                  rw [hFG] at HF
                  have hstep : minF 1125899906842624 (f + 1 - 1) (firstG E T C e n s) = min (minF 1125899906842624 (f - 1) (firstG E T C e n s)) (firstG E T C e n s f) := by
                    obtain ⟨q, rfl⟩ : ∃ q, f = q + 1 := ⟨f - 1, by omega⟩
                    rfl
                  have HST := Aside0.mk hstep
                  have hx := HI.out.at_ e n s (by omega) (by omega) (by omega)
                  rw [cv_at] at hx
                  have hff := ArrI.frozen HI.out (3 + e * 122 + n * 2 + s)
                  have HSET := Aside0.mk (fun (W : World) (hI : IsCoster W g E T C (cv E T C n e s (minF 1125899906842624 (f - 1) (firstG E T C e n s)))) (m' : Int) => (show IsCoster (W.setCell ⟨g, 3 + e * 122 + n * 2 + s, none⟩ (.int .i64 m')) g E T C (cv E T C n e s m') from (ArrI.set hI (3 + e * 122 + n * 2 + s) m').congr (fun i _ => cv_set E T C n e s _ m' (by omega) (by omega) (by omega) i)))
                  clear hFG hstep hcr1 hcr2 hcb1 hcb2
                  have hst := HST.out
                  have hff2 := HF.out
                  have hset := HSET.out
                  have hi := HI.out
                  clear HST HF HSET HI
                  generalize minF 1125899906842624 (f - 1) (firstG E T C e n s) = m at hx hm0 hff2 hst hset hi
                  generalize firstG E T C e n s f = x at hr1 hff2 hst
                  have HF := Aside0.mk hff2
                  have HI := Aside0.mk hi
                  have HSET := Aside0.mk hset
                  clear hff2 hi hset
                  have hmx : m ≤ x ∨ x < m := by omega
                  have HST := Aside0.mk hst
                  clear hst
                  go_upto_block 7 with (fail)
                  go_cut [] (fun wx => Aside0 (IsCoster wx g E T C (cv E T C n e s (minF 1125899906842624 (f + 1 - 1) (firstG E T C e n s)))) ∧ Aside0 (Below w.heap.size w wx))
                  case first =>
                    have hst := HST.out
                    clear HST
                    rcases hmx with hm | hm
                    case' inl => rw [show min m x = m by omega] at hst
                    case' inr => rw [show min m x = x by omega] at hst
                    all_goals
                      have HST := Aside0.mk hst
                      clear hst
                      go_wp2_with fail
                      go_region_with (first | (go_at_call 42; refine (HF.out _ (by first | exact HI.out | exact IsCoster.below HI.out (by repeat (first | (with_reducible first | exact Below.refl _ _ | apply pw_below_drewN | apply below_drew1) | exact Below.refl _ _)))).mono ?_; rintro e' w' ⟨rfl, nd, rfl⟩))
                    all_goals
                      go_wp2_with fail
                      go_meet
                      exact ⟨⟨by rw [HST.out]; exact HSET.out _ (IsCoster.below HI.out (by repeat (first | (with_reducible first | exact Below.refl _ _ | apply pw_below_drewN | apply below_drew1) | exact Below.refl _ _))) _⟩, ⟨below_set (by repeat (first | (with_reducible first | exact HB.out | apply pw_below_drewN | apply below_drew1) | exact HB.out)) HG.out⟩⟩
                  case rest =>
                    obtain ⟨HI2, HB2⟩ := hcut
                    clear HI HB HST HF HSET hmx hx hff
                    go_wp2
                    go_roundg (n + 1 - (f + 1))
                    case measure => omega
                    case rel => exact ⟨f + 1, by omega, by omega, by omega, by go_num, ⟨fun h => by omega⟩, HI2, HB2⟩
                · have hfin : minF 1125899906842624 (f - 1) (firstG E T C e n s) = cst E T C e n s := by
                    by_cases he0 : 0 < e
                    · obtain rfl : f = n + 1 := by omega
                      rw [Nat.add_sub_cancel, cst_eq _ _ _ _ _ _ he0 hn1]
                    · obtain rfl : e = 0 := by omega
                      have := HE.out rfl
                      subst this
                      obtain ⟨q, rfl⟩ : ∃ q, n = q + 1 := ⟨n - 1, by omega⟩
                      rw [cst_no_egg]; rfl
                  have HI3 := HI.out
                  rw [hfin] at HI3
                  have HI4 : Aside0 (IsCoster wr g E T C (csv E T C n e (s + 1))) := ⟨by
                    rcases (by omega : s = 0 ∨ s = 1) with rfl | rfl
                    · have := HI3; rw [cv_side] at this; exact this
                    · exact ArrI.congr HI3 (fun i hi => costF_congr E T C _ _ (fun e' n' s' _ _ hs' => cv_egg E T C n e e' n' s' hs') i hi)⟩
                  clear HI HI3 hfin
                  by_cases hfn : f ≤ n
                  · have hfz : decide ((f : Int) ≤ (n : Int)) = true := decide_eq_true (by omega)
                    have hfn2 : decide (f ≤ n) = true := decide_eq_true hfn
                    have hez : decide ((0 : Int) < (e : Int)) = false := decide_eq_false (by omega)
                    have hez2 : decide (0 < e) = false := decide_eq_false (by omega)
                    go_wp2
                    go_roundg (2 - (s + 1))
                    case measure => omega
                    case rel => exact ⟨s + 1, by omega, by omega, by go_num, HI4, HB⟩
                  · have hfz : decide ((f : Int) ≤ (n : Int)) = false := decide_eq_false (by omega)
                    have hfn2 : decide (f ≤ n) = false := decide_eq_false hfn
                    go_wp2
                    go_roundg (2 - (s + 1))
                    case measure => omega
                    case rel => exact ⟨s + 1, by omega, by omega, by go_num, HI4, HB⟩
            · have hlsz : ¬ (s : Int) < 2 := by omega
              obtain rfl : s = 2 := by omega
              have HI4 : Aside0 (IsCoster wr g E T C (cv E T C n (e + 1) 0 0)) := ⟨HI.out⟩
              clear HI
              go_wp2
              go_roundg (11 - (e + 1))
              case measure => omega
              case rel => exact ⟨e + 1, by omega, by omega, by go_num, HI4, HB⟩
        · have hlez : ¬ (e : Int) < 11 := by omega
          obtain rfl : e = 11 := by omega
          have HI4 : Aside0 (IsCoster wr g E T C (cv E T C (n + 1) 0 0 0)) := ⟨ArrI.congr HI.out (fun i hi => costF_congr E T C _ _ (fun e' n' s' he' _ _ => cv_floor E T C n e' n' s' he') i hi)⟩
          clear HI
          go_wp2
          go_roundg (61 - (n + 1))
          case measure => omega
          case rel => exact ⟨n + 1, by omega, by omega, by omega, by go_num, HI4, HB⟩
    · have hltz : ¬ (n : Int) ≤ 60 := by omega
      obtain rfl : n = 61 := by omega
      go_wp2
      go_ret
      refine ⟨g, rfl, ?_, HB.out⟩
      exact ArrI.congr HI.out (fun i hi => costF_congr E T C _ _ (fun e' n' s' _ hn' _ => cv_old E T C 61 0 0 0 e' n' s' (by omega)) i hi)


end Go.Proofs.Ytkbmefmnfoalhaa.PrintC
