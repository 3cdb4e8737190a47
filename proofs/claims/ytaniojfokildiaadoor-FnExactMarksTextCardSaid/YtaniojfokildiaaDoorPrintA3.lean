-- written by this session's own driver (wip/gen.py) with the kit's print and contracts of our own
import Derived.Test.YtaniojfokildiaaDoorPrintA0
import Derived.Test.YtaniojfokildiaaDoorPrintA1
namespace Go.Proofs.YtaniojfokildiaaDoor.PrintA
open Go.RowKit Go.Proofs.YtaniojfokildiaaDoorLib Go.Proofs.YtaniojfokildiaaDoorW.PrintWords Go.Proofs.YtaniojfokildiaaDoorW.PrintLast Go.Proofs.YtaniojfokildiaaDoorW.PrintMore
attribute [local go_sem] max2_int min2_int max_two min_two max_three min_three max_four min_four   -- for this text's walks alone
set_option linter.unusedVariables false
set_option linter.unusedSimpArgs false

/-! behind laws_toIntS -/
/-- What the laws lay behind a list. -/
def roomN (n : Nat) : Nat := if n % 6 = 5 then 0 else if n % 3 = 0 then 1 else n
theorem roomN_le (n : Nat) : roomN n ≤ n + 1 := by unfold roomN; split <;> (try split) <;> omega
theorem roomBehind_is (n : Nat) (h : n ≤ 1000000) : laws_roomBehind.f (n : Int) = some (roomN n : Int) := by
  unfold laws_roomBehind.f roomN
  have h6 : Int.tmod (n : Int) 6 = ((n % 6 : Nat) : Int) := rfl
  have h3 : Int.tmod (n : Int) 3 = ((n % 3 : Nat) : Int) := rfl
  rw [h6, h3]
  by_cases a : n % 6 = 5
  · rw [if_pos (by omega), if_pos a]; rfl
  · rw [if_neg (by omega), if_neg a]
    by_cases b : n % 3 = 0
    · rw [if_pos (by omega), if_pos b]; rfl
    · rw [if_neg (by omega), if_neg b]
def filI : Int := -7000000000000000101
def fullI (l : List Int) : List Int := l ++ List.replicate (roomN l.length) filI
theorem fullI_length (l : List Int) : (fullI l).length = l.length + roomN l.length := by simp [fullI]
/-- A list as the laws hand it on: with what is laid behind it. -/
def FullG (w : World) (base : Nat) (ok : Nat → Prop) (g c : Nat) (l : List Int) : Prop :=
  Kd.R (Kd.int .i64) 3 w base ok (.slice (some ⟨g, 0, none⟩) (fullI l).length c) (fullI l)
theorem FullG.below {w w1 : World} {base : Nat} {ok : Nat → Prop} {g c : Nat} {l : List Int} (h : FullG w base ok g c l) (hb : Below w.heap.size w w1) : FullG w1 base ok g c l := Kd.R_below h hb
theorem FullG.keep {w w1 : World} {base : Nat} {ok S : Nat → Prop} {g c : Nat} {l : List Int} (h : FullG w base ok g c l) (hk : Kept w w1 S) (hne : ∀ k, ok k → S k → False) : FullG w1 base ok g c l := r_keep h hk hne
theorem FullG.row {w : World} {base : Nat} {ok : Nat → Prop} {g c : Nat} {l : List Int} (h : FullG w base ok g c l) : Kd.R (Kd.int .i64) 3 w base ok (.slice (some ⟨g, 0, none⟩) l.length c) l := by
  have h2 := Kd.R_take (m := l.length) h (by rw [fullI_length]; omega)
  have e : (fullI l).take l.length = l := by simp [fullI]
  rw [e] at h2
  exact h2
theorem FullG.reads {w : World} {base : Nat} {ok : Nat → Prop} {g c : Nat} {l : List Int} (h : FullG w base ok g c l) : l.length ≤ c ∧ Kd.C (Kd.int .i64) w (some ⟨g, 0, none⟩) l.length l := by
  obtain ⟨_, h3, h4⟩ := Kd.R_reads' h.row
  exact ⟨h3, h4⟩
theorem set_room (l : List Int) (a b : List Int) (x y : Int) (k : Nat) (hk : k = a.length) : (a ++ x :: b).set k y = a ++ y :: b := by subst hk; simp
theorem rep_set_ (l : List Int) (k m : Nat) (hk : k < l.length) (hm : l.length ≤ m) :
    (l.take k ++ List.replicate (m - k) 0).set k (rd l (k : Int)) = l.take (k + 1) ++ List.replicate (m - (k + 1)) (0 : Int) := by
  have e : List.replicate (m - k) (0 : Int) = 0 :: List.replicate (m - (k + 1)) 0 := by
    rw [← List.replicate_succ]; congr 1; omega
  rw [e, set_room l _ _ _ _ _ (by simp; omega), List.take_succ_eq_append_getElem hk, List.append_assoc]
  simp [rd, List.getD_eq_getElem?_getD, hk]
theorem fil_set (l : List Int) (k m : Nat) (x : Int) (hk : l.length ≤ k) (hm : k < m) :
    (l ++ List.replicate (k - l.length) x ++ List.replicate (m - k) 0).set k x = l ++ List.replicate (k + 1 - l.length) x ++ List.replicate (m - (k + 1)) (0 : Int) := by
  have e : List.replicate (m - k) (0 : Int) = 0 :: List.replicate (m - (k + 1)) 0 := by
    rw [← List.replicate_succ]; congr 1; omega
  have e2 : List.replicate (k + 1 - l.length) x = List.replicate (k - l.length) x ++ [x] := by
    rw [← List.replicate_succ']; congr 1; omega
  rw [e, set_room l _ _ _ _ _ (by simp; omega), e2]
  simp only [List.append_assoc, List.cons_append, List.nil_append]
set_option maxHeartbeats 4000000 in
set_option maxRecDepth 100000 in
theorem toIntS_go (b : Bool) (A0 : Option Addr) (c0 : Nat) (l0 : List Int) (w : World) (hr0 : Kd.C (Kd.int .i64) w A0 l0.length l0) (hl : l0.length ≤ 1000000) (hbare : b = true → 0 < l0.length) :
    Calls Tryd.prog 12 #[.slice A0 l0.length c0, .bool b] w fun e w' => ∃ g c, e = .returned (.slice (some ⟨g, 0, none⟩) l0.length c) ∧ FullG w' w.heap.size (fun _ => True) g c l0 ∧ Below w.heap.size w w' := by
  have HR := Aside0.mk hr0
  clear hr0
  have HB := Aside0.mk (Below.refl w.heap.size w)
  have HRB := Aside0.mk (fun W => laws_roomBehind.calls (l0.length : Int) (roomN l0.length : Int) W (roomBehind_is _ hl))
  obtain ⟨rn, hrn⟩ : ∃ rn, rn = roomN l0.length := ⟨_, rfl⟩
  have hrn' : rn ≤ l0.length + 1 := hrn ▸ roomN_le _
  have HRN := Aside0.mk hrn
  rw [← hrn] at HRB
  clear hrn
  obtain ⟨n, hn⟩ : ∃ n, l0.length = n := ⟨_, rfl⟩
  rw [hn] at hl hrn' HRB
  have HN := Aside0.mk hn
  rw [hn]
  clear hn
  have c8b1 : decide (0 ≤ (n : Int) + (rn : Int)) = true := decide_eq_true (by omega)
  have hne : b = true → ((n : Int) == 0) = false := fun h => by have := hbare h; rw [HN.out] at this; rw [beq_eq_false_iff_ne]; omega
  clear hbare
  cases b
  case' true => have hne1 := hne rfl
  all_goals clear hne
  all_goals
    go_enter Tryd.func12, Tryd.ntmps12
    go_wp2_with fail
    refine (HRB.out _).mono ?_
    rintro e w1 ⟨rfl, ⟨nd, rfl⟩⟩
    go_wp2_with (first | ((with_reducible refine gate_dst (N := 20) rfl ?_); refine Kd.R_make (Kd.int .i64) _ 3 rfl (N := 20) rfl 22 _ _ rfl ((n : Int) + (rn : Int)) rfl rfl Tryd.underlying22 (.int .i64 0) 8 info3 rfl (by decide) (by omega) 0 (ok := fun _ => True) (okp := fun _ => True) rfl (fun _ hk => hk) trivial (by omega) (by omega) (Below.refl _ _) (Nat.le_refl _) ?_; intro v103 w10 ho11 hb hg_ hnew_; clear hg_ hnew_; have HO := Aside0.mk (Kd.R_lower ho11 (below_size (pw_below_drewN HB.out _))); have HB1 := Aside0.mk (below_step (pw_below_drewN HB.out _) hb); clear ho11 hb HB))
    have e0 : ((n : Int) + (rn : Int)).toNat = n + rn := by omega
    have hpos : 0 < n + rn := by
      rw [HRN.out, HN.out]; unfold roomN; split <;> (try split) <;> omega
    have HO1 := HO.out
    rw [e0] at HO1
    clear e0
    obtain ⟨g, cap, hv, hbg, _, _⟩ := Kd.R_form HO1 (by rw [List.length_replicate]; exact hpos)
    rw [List.length_replicate] at hv
    subst hv
    have HO2 := Aside0.mk HO1
    have GB := Aside0.mk hbg
    clear HO HO1 hbg hpos
    go_loopg [6] n (fun gg v6 wr => ∃ k : Nat, k ≤ n ∧ n - k ≤ gg ∧ v6 = .int .i64 k ∧ Aside0 (Kd.R (Kd.int .i64) 3 wr w.heap.size (fun _ => True) (.slice (some ⟨g, 0, none⟩) (n + rn) cap) (l0.take k ++ List.replicate (n + rn - k) 0)) ∧ Aside0 (Below w.heap.size w wr))
    case atStart => exact ⟨0, Nat.zero_le _, by omega, rfl, ⟨by simpa using HO2.out⟩, HB1⟩
    case round =>
      clear HO2 HB1
      obtain ⟨k, hk, hg, rfl, HO, HB⟩ := hrel
      by_cases hlt : k < n
      · have hltz : (k : Int) < (n : Int) := by omega
        obtain ⟨ad, e, hx⟩ := Kd.at_int (HN.out ▸ HR.out) (k : Int) (by omega) hltz
        cases e
        replace hx := (HB.out.cell (World.block_lt_of_cell? w _ hx)).trans hx
        rw [Int.toNat_natCast] at hx
        have hc := Kd.R_celln 0 HO.out (k : Int) (by omega) (by omega)
        rw [Int.toNat_natCast] at hc
        obtain ⟨hx1, hf1⟩ := hc
        have HP := Aside0.mk (Kd.R_putg HO.out (k : Int) (rd l0 k)).1
        have hltm : (k : Int) < (n : Int) + (rn : Int) := by omega
        clear HO
        go_wp2
        go_roundg (n - (k + 1))
        case measure => omega
        case rel =>
          refine ⟨k + 1, by omega, by omega, by go_num, ⟨?_⟩, ⟨below_set HB.out GB.out⟩⟩
          have h := HP.out
          rw [Int.toNat_natCast, rep_set_ l0 k (n + rn) (by rw [HN.out]; exact hlt) (by rw [HN.out]; omega)] at h
          exact h
      · have hkn : k = n := by omega
        subst hkn
        have hltz : ¬ (k : Int) < (k : Int) := by omega
        go_wp2
        go_loopg [7] rn (fun gg v7 wr => ∃ j : Nat, k ≤ j ∧ j ≤ k + rn ∧ k + rn - j ≤ gg ∧ v7 = .int .i64 j ∧ Aside0 (Kd.R (Kd.int .i64) 3 wr w.heap.size (fun _ => True) (.slice (some ⟨g, 0, none⟩) (k + rn) cap) (l0 ++ List.replicate (j - k) filI ++ List.replicate (k + rn - j) 0)) ∧ Aside0 (Below w.heap.size w wr))
        case atStart => exact ⟨k, by omega, by omega, by omega, rfl, ⟨by have h := HO.out; rw [show l0.take k = l0 from by rw [← HN.out]; exact List.take_length] at h; simpa using h⟩, HB⟩
        case round =>
          clear HO HB
          obtain ⟨j, hj1, hj2, hg2, rfl, HO, HB⟩ := hrel
          by_cases hlt2 : j < k + rn
          · have hltz2 : (j : Int) < (k : Int) + (rn : Int) := by omega
            have hc := Kd.R_celln 0 HO.out (j : Int) (by omega) (by omega)
            rw [Int.toNat_natCast] at hc
            obtain ⟨hx1, hf1⟩ := hc
            have HP := Aside0.mk (Kd.R_putg HO.out (j : Int) filI).1
            clear HO
            go_wp2
            go_roundg (k + rn - (j + 1))
            case measure => omega
            case rel =>
              refine ⟨j + 1, by omega, by omega, by omega, by go_num, ⟨?_⟩, ⟨below_set HB.out GB.out⟩⟩
              have h := HP.out
              have hs := fil_set l0 j (k + rn) filI (by rw [HN.out]; exact hj1) hlt2
              rw [HN.out] at hs
              rw [Int.toNat_natCast, hs] at h
              exact h
          · have hjn : j = k + rn := by omega
            subst hjn
            have hltz2 : ¬ ((k + rn : Nat) : Int) < (k : Int) + (rn : Int) := by omega
            obtain ⟨i0, hi, hzz⟩ := Option.map_eq_some_iff.1 info3
            have hcap := (Kd.R_reads' HO.out).2.1
            have hcut := cut_to (P := Tryd.prog) 22 3 .i64 Tryd.underlying22 hi (some ⟨g, 0, none⟩) (k + rn) cap (k : Int) (by omega) (by omega) hcap
            rw [Int.toNat_natCast] at hcut
            clear hzz hi
            have HF : Aside0 (fullI l0 = l0 ++ List.replicate rn filI) := ⟨by unfold fullI; rw [← HRN.out]⟩
            go_wp2
            go_ret
            refine ⟨g, cap, rfl, ?_, HB.out⟩
            unfold FullG
            rw [HF.out, List.length_append, List.length_replicate, HN.out]
            have h := HO.out
            rw [Nat.sub_self, List.replicate_zero, List.append_nil, Nat.add_sub_cancel_left] at h
            exact h
theorem toIntS_full (A0 : Option Addr) (c0 : Nat) (l0 : List Int) (w : World) (hr0 : Kd.C (Kd.int .i64) w A0 l0.length l0) (hl : l0.length ≤ 1000000) :
    Calls Tryd.prog 12 #[.slice A0 l0.length c0, .bool false] w fun e w' => ∃ g c, e = .returned (.slice (some ⟨g, 0, none⟩) l0.length c) ∧ FullG w' w.heap.size (fun _ => True) g c l0 ∧ Below w.heap.size w w' :=
  toIntS_go false A0 c0 l0 w hr0 hl (fun h => by cases h)
theorem toIntS_bare (A0 : Option Addr) (c0 : Nat) (l0 : List Int) (w : World) (hr0 : Kd.C (Kd.int .i64) w A0 l0.length l0) (hl : l0.length ≤ 1000000) :
    Calls Tryd.prog 12 #[.slice A0 l0.length c0, .bool true] w fun e w' => ∃ A c, e = .returned (.slice A l0.length c) ∧ Kd.R (Kd.int .i64) 3 w' w.heap.size (fun _ => True) (.slice A l0.length c) l0 ∧ Below w.heap.size w w' := by
  by_cases h0 : 0 < l0.length
  · refine (toIntS_go true A0 c0 l0 w hr0 hl (fun _ => h0)).mono ?_
    rintro e w' ⟨g, c, rfl, hf, hb⟩
    exact ⟨_, c, rfl, hf.row, hb⟩
  · obtain rfl : l0 = [] := List.length_eq_zero_iff.1 (by omega)
    clear hr0 h0 hl
    go_enter Tryd.func12, Tryd.ntmps12
    go_wp2
    go_ret
    exact ⟨none, 0, rfl, Kd.R_nil _ _ _ _ _, Below.refl _ _⟩

end Go.Proofs.YtaniojfokildiaaDoor.PrintA
