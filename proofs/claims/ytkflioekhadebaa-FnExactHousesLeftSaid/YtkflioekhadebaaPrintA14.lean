-- written by this session's own driver (wip/gen.py) with the kit's print and contracts of our own
import Derived.Test.YtkflioekhadebaaPrintA0
import Derived.Test.YtkflioekhadebaaPrintA1
import Derived.Test.YtkflioekhadebaaPrintA3
import Derived.Test.YtkflioekhadebaaPrintA12
namespace Go.Proofs.Ytkflioekhadebaa.PrintA
open Go.RowKit Go.Proofs.YtkflioekhadebaaLib Go.Proofs.YtkflioekhadebaaW.PrintWords Go.Proofs.YtkflioekhadebaaW.PrintLast Go.Proofs.YtkflioekhadebaaW.PrintMore
attribute [local go_sem] max2_int min2_int max_two min_two max_three min_three max_four min_four   -- for this text's walks alone
set_option linter.unusedVariables false
set_option linter.unusedSimpArgs false

/-! behind laws_toHouseDropS -/
def cvH (x : S50) : S47 := ⟨x.f0, x.f1, x.f2⟩
def filH : S47 := ⟨filI, filI, true⟩
def fullH (l : List S47) : List S47 := l ++ List.replicate (roomN l.length) filH
theorem fullH_length (l : List S47) : (fullH l).length = l.length + roomN l.length := by simp [fullH]
/-- A list of drops as the laws hand it on: with what is laid behind it. -/
def FullH (w : World) (base : Nat) (ok : Nat → Prop) (g c : Nat) (l : List S47) : Prop :=
  Kd.R k47 47 w base ok (.slice (some ⟨g, 0, none⟩) (fullH l).length c) (fullH l)
theorem FullH.below {w w1 : World} {base : Nat} {ok : Nat → Prop} {g c : Nat} {l : List S47} (h : FullH w base ok g c l) (hb : Below w.heap.size w w1) : FullH w1 base ok g c l := Kd.R_below h hb
theorem FullH.keep {w w1 : World} {base : Nat} {ok S : Nat → Prop} {g c : Nat} {l : List S47} (h : FullH w base ok g c l) (hk : Kept w w1 S) (hne : ∀ k, ok k → S k → False) : FullH w1 base ok g c l := r_keep h hk hne
theorem FullH.row {w : World} {base : Nat} {ok : Nat → Prop} {g c : Nat} {l : List S47} (h : FullH w base ok g c l) : Kd.R k47 47 w base ok (.slice (some ⟨g, 0, none⟩) l.length c) l := by
  have h2 := Kd.R_take (m := l.length) h (by rw [fullH_length]; omega)
  have e : (fullH l).take l.length = l := by simp [fullH]
  rw [e] at h2
  exact h2
theorem FullH.reads {w : World} {base : Nat} {ok : Nat → Prop} {g c : Nat} {l : List S47} (h : FullH w base ok g c l) : l.length ≤ c ∧ Kd.C k47 w (some ⟨g, 0, none⟩) l.length l := by
  obtain ⟨_, h3, h4⟩ := Kd.R_reads' h.row
  exact ⟨h3, h4⟩
theorem set_roomG {α : Type} (a b : List α) (x y : α) (k : Nat) (hk : k = a.length) : (a ++ x :: b).set k y = a ++ y :: b := by subst hk; simp
theorem rep_setG {α : Type} (z : α) (l : List α) (k m : Nat) (x : α) (hk : k < l.length) (hx : l.getD k z = x) (hm : l.length ≤ m) :
    (l.take k ++ List.replicate (m - k) z).set k x = l.take (k + 1) ++ List.replicate (m - (k + 1)) z := by
  have e : List.replicate (m - k) z = z :: List.replicate (m - (k + 1)) z := by
    rw [← List.replicate_succ]; congr 1; omega
  rw [e, set_roomG _ _ _ _ _ (by simp; omega), List.take_succ_eq_append_getElem hk, List.append_assoc, ← hx]
  simp [List.getD_eq_getElem?_getD, hk]
theorem fil_setG {α : Type} (z : α) (l : List α) (k m : Nat) (x : α) (hk : l.length ≤ k) (hm : k < m) :
    (l ++ List.replicate (k - l.length) x ++ List.replicate (m - k) z).set k x = l ++ List.replicate (k + 1 - l.length) x ++ List.replicate (m - (k + 1)) z := by
  have e : List.replicate (m - k) z = z :: List.replicate (m - (k + 1)) z := by
    rw [← List.replicate_succ]; congr 1; omega
  have e2 : List.replicate (k + 1 - l.length) x = List.replicate (k - l.length) x ++ [x] := by
    rw [← List.replicate_succ']; congr 1; omega
  rw [e, set_roomG _ _ _ _ _ (by simp; omega), e2]
  simp only [List.append_assoc, List.cons_append, List.nil_append]
/-- A place of a row of drops, ready to be written. -/
theorem hd_put {W : World} {b g m c : Nat} {ok : Nat → Prop} {xs : List S47} (hR : Kd.R k47 47 W b ok (.slice (some ⟨g, 0, none⟩) m c) xs) (hxs : xs.length = m) (i : Nat) (hi : i < m) :
    b ≤ g ∧ (∃ v, W.cell? ⟨g, i * 3, none⟩ = some (.int .i64 v)) ∧ (∃ v, W.cell? ⟨g, i * 3 + 1, none⟩ = some (.int .i64 v)) ∧ (∃ v, W.cell? ⟨g, i * 3 + 2, none⟩ = some (.bool v)) ∧
      W.frozen? ⟨g, i * 3, none⟩ = false ∧ W.frozen? ⟨g, i * 3 + 1, none⟩ = false ∧ W.frozen? ⟨g, i * 3 + 2, none⟩ = false ∧
      ∀ x : S47, Kd.R k47 47 (((W.setCell ⟨g, i * 3, none⟩ (.int .i64 x.f0)).setCell ⟨g, i * 3 + 1, none⟩ (.int .i64 x.f1)).setCell ⟨g, i * 3 + 2, none⟩ (.bool x.f2)) b ok (.slice (some ⟨g, 0, none⟩) m c) (xs.set i x) := by
  obtain ⟨g', c', he, hbg, _, _⟩ := Kd.R_form hR (by omega)
  injection he with e1 e2 e3
  injection e1 with e1
  injection e1 with e1
  subst e1
  obtain ⟨ce, hcl, hM, hcc, hfr⟩ := Kd.R_elem hR z47 (i : Int) (by omega) (by omega)
  obtain rfl := k47_openM hM
  rw [Int.toNat_natCast] at hcc hfr
  refine ⟨hbg, ⟨_, hcc 0 _ rfl⟩, ⟨_, hcc 1 _ rfl⟩, ⟨_, hcc 2 _ rfl⟩, hfr 0, hfr 1, hfr 2, fun x => ?_⟩
  have h := Kd.R_seg hR (i : Int) (by omega) (by omega) (seg := [.int .i64 x.f0, .int .i64 x.f1, .bool x.f2]) (j := 0) hcl (by rw [Int.toNat_natCast]; exact hcc) (show 3 ≤ 3 from by decide) (x' := x) (k47_mkM _ _ _ x) (fun _ hk => hk)
  have h2 := h.1
  rw [Int.toNat_natCast] at h2
  exact h2
set_option maxHeartbeats 8000000 in
set_option maxRecDepth 100000 in
theorem toHouseDropS_go (b : Bool) (A0 : Option Addr) (c0 : Nat) (l0 : List S50) (w : World) (hr0 : Kd.C k50 w A0 l0.length l0) (hl : l0.length ≤ 1000000) (hbare : b = true → 0 < l0.length) :
    Calls Try.prog 20 #[.slice A0 l0.length c0, .bool b] w fun e w' => ∃ g c, e = .returned (.slice (some ⟨g, 0, none⟩) l0.length c) ∧ FullH w' w.heap.size (fun _ => True) g c (l0.map cvH) ∧ Below w.heap.size w w' := by
  have hu1 := Try.underlying50
  have hu2 := Try.underlying47
  have HR := Aside0.mk hr0
  clear hr0
  have HB := Aside0.mk (Below.refl w.heap.size w)
  have HRB := Aside0.mk (fun W => laws_roomBehind.calls0 (l0.length : Int) (roomN l0.length : Int) W (roomBehind_is _ hl))
  have HTO : Aside0 (∀ (x : S50) W, Calls Try.prog 41 #[.agg #[.int .i64 x.f0, .int .i64 x.f1, .bool x.f2]] W fun e w' => e = .returned (.agg #[.int .i64 x.f0, .int .i64 x.f1, .bool x.f2]) ∧ Below W.heap.size W w') := ⟨fun x W => laws_toHouseDrop.calls x.f0 x.f1 x.f2 _ _ _ W rfl⟩
  have HFI : Aside0 (∀ W, Calls Try.prog 42 #[] W fun e w' => e = .returned (.agg #[.int .i64 filH.f0, .int .i64 filH.f1, .bool filH.f2]) ∧ Below W.heap.size W w') := ⟨fun W => laws_fillerHouseDrop.calls _ _ _ W rfl⟩
  obtain ⟨rn, hrn⟩ : ∃ rn, rn = roomN l0.length := ⟨_, rfl⟩
  have hrn' : rn ≤ l0.length + 1 := hrn ▸ roomN_le _
  have HRN := Aside0.mk hrn
  rw [← hrn] at HRB
  clear hrn
  obtain ⟨n, hn⟩ : ∃ n, l0.length = n := ⟨_, rfl⟩
  rw [hn] at hl hrn' HRB
  have HN := Aside0.mk hn
  have HML : Aside0 ((l0.map cvH).length = n) := ⟨by rw [List.length_map]; exact hn⟩
  rw [hn]
  clear hn
  have c8b1 : decide (0 ≤ (n : Int) + (rn : Int)) = true := decide_eq_true (by omega)
  have hw5 : IntKind.i64.wrap ((n : Int) + (rn : Int)) = (n : Int) + (rn : Int) := by rw [i64_w]; unfold wrap64; omega
  have hne : b = true → ((n : Int) == 0) = false := fun h => by have := hbare h; rw [HN.out] at this; rw [beq_eq_false_iff_ne]; omega
  clear hbare
  cases b
  case' true => have hne1 := hne rfl
  all_goals clear hne
  all_goals
    go_enter Try.func20, Try.ntmps20
    go_wp2_with fail
    refine (HRB.out _).mono ?_
    rintro e w1 ⟨rfl, rfl⟩
    go_wp2_with (first | ((with_reducible refine gate_dst (N := 20) rfl ?_); refine Kd.R_make k47 _ 47 rfl (N := 20) rfl 33 _ _ rfl ((n : Int) + (rn : Int)) rfl rfl Try.underlying33 (.agg #[(.int .i64 0), (.int .i64 0), (.bool false)]) 24 info47 rfl (by decide) (by omega) z47 (ok := fun _ => True) (okp := fun _ => True) (k47_mkM _ _ _ z47) (fun _ hk => hk) trivial (by omega) (by clear hw5; omega) (Below.refl _ _) (Nat.le_refl _) ?_; intro v103 w10 ho11 hb hg_ hnew_; clear hg_ hnew_; have HO := Aside0.mk (Kd.R_lower ho11 (below_size HB.out)); have HB1 := Aside0.mk (below_step HB.out hb); clear ho11 hb HB))
    have e0 : ((n : Int) + (rn : Int)).toNat = n + rn := by omega
    have hpos : 0 < n + rn := by
      rw [HRN.out, HN.out]; unfold roomN; split <;> (try split) <;> omega
    have HO1 := HO.out
    rw [e0] at HO1
    clear e0
    obtain ⟨g, cap, hv, hbg, _, _⟩ := Kd.R_form HO1 (by rw [List.length_replicate]; exact hpos)
    rw [List.length_replicate] at hv
    subst hv
    have HO2 := Aside0.mk HO1
    have GB := Aside0.mk hbg
    clear HO HO1 hbg hpos
    go_loopg [6] n (fun gg v6 wr => ∃ k : Nat, k ≤ n ∧ n - k ≤ gg ∧ v6 = .int .i64 k ∧ Aside0 (Kd.R k47 47 wr w.heap.size (fun _ => True) (.slice (some ⟨g, 0, none⟩) (n + rn) cap) ((l0.map cvH).take k ++ List.replicate (n + rn - k) z47)) ∧ Aside0 (Below w.heap.size w wr))
    case atStart => exact ⟨0, Nat.zero_le _, by omega, rfl, ⟨by simpa using HO2.out⟩, HB1⟩
    case round =>
      clear HO2 HB1
      obtain ⟨k, hk, hg, rfl, HO, HB⟩ := hrel
      by_cases hlt : k < n
      · have hltz : (k : Int) < (n : Int) := by omega
        obtain ⟨ad, e, hx0, hx1, hx2⟩ := at_T50 (HN.out ▸ HR.out) (k : Int) (by omega) hltz
        cases e
        replace hx0 := (HB.out.cell (World.block_lt_of_cell? w _ hx0)).trans hx0
        replace hx1 := (HB.out.cell (World.block_lt_of_cell? w _ hx1)).trans hx1
        replace hx2 := (HB.out.cell (World.block_lt_of_cell? w _ hx2)).trans hx2
        rw [Int.toNat_natCast] at hx0 hx1 hx2
        have HXD : Aside0 ((l0.map cvH).getD k z47 = cvH (rd_T50 l0 (k : Int))) := ⟨by
          have := HN.out
          unfold rd_T50
          rw [Int.toNat_natCast, List.getD_eq_getElem?_getD, List.getElem?_map, List.getD_eq_getElem?_getD, List.getElem?_eq_getElem (by omega)]; rfl⟩
        generalize rd_T50 l0 (k : Int) = x at hx0 hx1 hx2 HXD
        have HTOX := Aside0.mk (HTO.out x)
        have hltm : (k : Int) < (n : Int) + (rn : Int) := by omega
        have HLL : Aside0 (((l0.map cvH).take k ++ List.replicate (n + rn - k) z47).length = n + rn) := ⟨by have := HML.out; simp at this; simp; omega⟩
        have hw6 : IntKind.i64.wrap ((k : Int) + 1) = (k : Int) + 1 := by clear hw5; rw [i64_w]; unfold wrap64; omega
        go_wp2_with (go_at_call 41; refine (HTOX.out _).mono ?_; rintro e w17 ⟨rfl, hb⟩; have n0_ := Aside0.mk (Kd.R_below HO.out hb); have n1_ := Aside0.mk (below_step HB.out hb); clear HO HB hb; have HO := n0_; have HB := n1_; clear n0_ n1_; obtain ⟨_, ⟨y0, hy0⟩, ⟨y1, hy1⟩, ⟨y2, hy2⟩, hf0, hf1, hf2, hput⟩ := hd_put HO.out HLL.out k (by clear hw5 hw6; omega); have HP := Aside0.mk (hput (cvH x)); clear hput)
        have HS := HP.out
        rw [rep_setG z47 (l0.map cvH) k (n + rn) (cvH x) (by rw [HML.out]; exact hlt) HXD.out (by rw [HML.out]; omega)] at HS
        have HS2 := Aside0.mk HS
        have HB2 := Aside0.mk (below_set (below_set (below_set HB.out GB.out (j := k * 3) (v := .int .i64 x.f0)) GB.out (j := k * 3 + 1) (v := .int .i64 x.f1)) GB.out (j := k * 3 + 2) (v := .bool x.f2))
        clear HS HP HO HB HLL HTOX HXD hy0 hy1 hy2 hf0 hf1 hf2 hx0 hx1 hx2
        go_roundg (n - (k + 1))
        case measure => clear hw5 hw6; omega
        case rel => exact ⟨k + 1, by clear hw5 hw6; omega, by clear hw5 hw6; omega, by go_num, HS2, HB2⟩
      · have hkn : k = n := by omega
        subst hkn
        have hltz : ¬ (k : Int) < (k : Int) := by omega
        go_wp2
        go_loopg [7] rn (fun gg v7 wr => ∃ j : Nat, k ≤ j ∧ j ≤ k + rn ∧ k + rn - j ≤ gg ∧ v7 = .int .i64 j ∧ Aside0 (Kd.R k47 47 wr w.heap.size (fun _ => True) (.slice (some ⟨g, 0, none⟩) (k + rn) cap) (l0.map cvH ++ List.replicate (j - k) filH ++ List.replicate (k + rn - j) z47)) ∧ Aside0 (Below w.heap.size w wr))
        case atStart => exact ⟨k, by omega, by omega, by omega, rfl, ⟨by have h := HO.out; rw [show (l0.map cvH).take k = l0.map cvH from by rw [← HML.out]; exact List.take_length] at h; simpa using h⟩, HB⟩
        case round =>
          clear HO HB
          obtain ⟨j, hj1, hj2, hg2, rfl, HO, HB⟩ := hrel
          by_cases hlt2 : j < k + rn
          · have hltz2 : (j : Int) < (k : Int) + (rn : Int) := by omega
            have HLL : Aside0 ((l0.map cvH ++ List.replicate (j - k) filH ++ List.replicate (k + rn - j) z47).length = k + rn) := ⟨by have := HML.out; simp at this; simp; omega⟩
            have hw6 : IntKind.i64.wrap ((j : Int) + 1) = (j : Int) + 1 := by clear hw5; rw [i64_w]; unfold wrap64; omega
            have HP0 : Aside0 (∀ W, Kd.R k47 47 W w.heap.size (fun _ => True) (.slice (some ⟨g, 0, none⟩) (k + rn) cap) ((l0.map cvH ++ List.replicate (j - k) filH ++ List.replicate (k + rn - j) z47).set j filH) → Kd.R k47 47 W w.heap.size (fun _ => True) (.slice (some ⟨g, 0, none⟩) (k + rn) cap) (l0.map cvH ++ List.replicate (j + 1 - k) filH ++ List.replicate (k + rn - (j + 1)) z47)) := ⟨fun W h => by
              have hs := fil_setG z47 (l0.map cvH) j (k + rn) filH (by rw [HML.out]; exact hj1) hlt2
              rw [HML.out] at hs
              rw [hs] at h
              exact h⟩
            obtain ⟨x, HXE⟩ : ∃ x, Aside0 (filH = x) := ⟨_, ⟨rfl⟩⟩
            rw [HXE.out] at HFI HO HLL HP0
            go_wp2_with (go_at_call 42; refine (HFI.out _).mono ?_; rintro e w17 ⟨rfl, hb⟩; have n0_ := Aside0.mk (Kd.R_below HO.out hb); have n1_ := Aside0.mk (below_step HB.out hb); clear HO HB hb; have HO := n0_; have HB := n1_; clear n0_ n1_; obtain ⟨_, ⟨y0, hy0⟩, ⟨y1, hy1⟩, ⟨y2, hy2⟩, hf0, hf1, hf2, hput⟩ := hd_put HO.out HLL.out j hlt2; have HP := Aside0.mk (hput x); clear hput)
            have HS2 := Aside0.mk (HP0.out _ HP.out)
            have HB2 := Aside0.mk (below_set (below_set (below_set HB.out GB.out (j := j * 3) (v := .int .i64 x.f0)) GB.out (j := j * 3 + 1) (v := .int .i64 x.f1)) GB.out (j := j * 3 + 2) (v := .bool x.f2))
            clear HP HP0 HO HB HLL hy0 hy1 hy2 hf0 hf1 hf2
            have hxe_ := HXE.out
            clear HXE
            subst hxe_
            go_roundg (k + rn - (j + 1))
            case measure => clear hw5 hw6; omega
            case rel => exact ⟨j + 1, by clear hw5 hw6; omega, by clear hw5 hw6; omega, by clear hw5 hw6; omega, by go_num, HS2, HB2⟩
          · have hjn : j = k + rn := by omega
            subst hjn
            have hltz2 : ¬ ((k + rn : Nat) : Int) < (k : Int) + (rn : Int) := by omega
            obtain ⟨i0, hi, hzz⟩ := Option.map_eq_some_iff.1 info47
            have hcap := (Kd.R_reads' HO.out).2.1
            have hcut := cut_to (P := Try.prog) 33 47 .i64 Try.underlying33 hi (some ⟨g, 0, none⟩) (k + rn) cap (k : Int) (by omega) (by omega) hcap
            rw [Int.toNat_natCast] at hcut
            clear hzz hi
            have HF : Aside0 (fullH (l0.map cvH) = l0.map cvH ++ List.replicate rn filH) := ⟨by unfold fullH; rw [List.length_map, ← HRN.out]⟩
            go_wp2
            go_ret
            refine ⟨g, cap, rfl, ?_, HB.out⟩
            unfold FullH
            rw [HF.out, List.length_append, List.length_replicate, HML.out]
            have h := HO.out
            rw [Nat.sub_self, List.replicate_zero, List.append_nil, Nat.add_sub_cancel_left] at h
            exact h
theorem toHouseDropS_full (A0 : Option Addr) (c0 : Nat) (l0 : List S50) (w : World) (hr0 : Kd.C k50 w A0 l0.length l0) (hl : l0.length ≤ 1000000) :
    Calls Try.prog 20 #[.slice A0 l0.length c0, .bool false] w fun e w' => ∃ g c, e = .returned (.slice (some ⟨g, 0, none⟩) (l0.map cvH).length c) ∧ FullH w' w.heap.size (fun _ => True) g c (l0.map cvH) ∧ Below w.heap.size w w' := by
  rw [List.length_map]
  exact toHouseDropS_go false A0 c0 l0 w hr0 hl (fun h => by cases h)
theorem toHouseDropS_bare (A0 : Option Addr) (c0 : Nat) (l0 : List S50) (w : World) (hr0 : Kd.C k50 w A0 l0.length l0) (hl : l0.length ≤ 1000000) :
    Calls Try.prog 20 #[.slice A0 l0.length c0, .bool true] w fun e w' => ∃ A c, e = .returned (.slice A (l0.map cvH).length c) ∧ Kd.R k47 47 w' w.heap.size (fun _ => True) (.slice A (l0.map cvH).length c) (l0.map cvH) ∧ Below w.heap.size w w' := by
  by_cases h0 : 0 < l0.length
  · refine (toHouseDropS_go true A0 c0 l0 w hr0 hl (fun _ => h0)).mono ?_
    rintro e w' ⟨g, c, rfl, hf, hb⟩
    exact ⟨_, c, by rw [List.length_map], hf.row, hb⟩
  · obtain rfl : l0 = [] := List.length_eq_zero_iff.1 (by omega)
    clear hr0 h0 hl
    go_enter Try.func20, Try.ntmps20
    go_wp2
    go_ret
    exact ⟨none, 0, rfl, Kd.R_nil _ _ _ _ _, Below.refl _ _⟩

end Go.Proofs.Ytkflioekhadebaa.PrintA
