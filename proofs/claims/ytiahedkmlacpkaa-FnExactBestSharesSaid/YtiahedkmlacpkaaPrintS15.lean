-- written by this session's own driver (wip/gen.py) with the kit's print and contracts of our own
import Derived.Test.YtiahedkmlacpkaaPrintS0
import Derived.Test.YtiahedkmlacpkaaPrintS14
namespace Go.Proofs.Ytiahedkmlacpkaa.PrintS
open Go.RowKit Go.Proofs.YtiahedkmlacpkaaLib Go.Proofs.YtiahedkmlacpkaaW.PrintWords Go.Proofs.YtiahedkmlacpkaaW.PrintLast Go.Proofs.YtiahedkmlacpkaaW.PrintMore
attribute [local go_sem] max2_int min2_int max_two min_two max_three min_three max_four min_four   -- for this text's walks alone
set_option linter.unusedVariables false
set_option linter.unusedSimpArgs false

/-! ### impl_allBreaks: function 84, a contract of our own -/
-- LIB Shares
theorem sAll_len (e : Nat) (he : e ≤ 6) : ∀ i, (sAll e i).length ≤ 7 ^ i
  | 0 => Nat.le_refl _
  | i + 1 => by
    have h := sAll_len e he i
    have hn : ∀ l : List (List Int), (sNext e l).length ≤ l.length * 7 := by
      intro l
      unfold sNext
      induction l with
      | nil => simp
      | cons a r ih =>
        rw [List.flatMap_cons, List.length_append, List.length_map, List.length_cons]
        unfold sRow at *
        rw [List.length_map, List.length_range]
        omega
    rw [sAll, Nat.pow_succ]
    exact Nat.le_trans (hn _) (Nat.mul_le_mul_right 7 h)
theorem sAll_lens (e : Nat) (i : Nat) : ∀ c ∈ sAll e i, c.length = i := by
  intro c hc
  rw [sAll_eq] at hc
  exact ((sx_mem e i c).1 hc).1
theorem sNext_take (e : Nat) (l : List (List Int)) (j : Nat) (hj : j < l.length) : sNext e (l.take (j + 1)) = sNext e (l.take j) ++ (sRow e).map (fun b => l.getD j [] ++ [b]) := by
  rw [List.take_add_one, List.getElem?_eq_getElem hj, List.getD_eq_getElem?_getD, List.getElem?_eq_getElem hj]
  unfold sNext
  rw [List.flatMap_append]
  simp
/-- The first of the new rows of a row. -/
def sPart (c : List Int) (b : Nat) : List (List Int) := (List.range b).map (fun (t : Nat) => c ++ [(t : Int)])
theorem sPart_succ (c : List Int) (b : Nat) : sPart c (b + 1) = sPart c b ++ [c ++ [(b : Int)]] := by
  unfold sPart
  rw [List.range_succ, List.map_append]
  rfl
theorem sPart_all (e : Nat) (c : List Int) : sPart c (e + 1) = (sRow e).map (fun b => c ++ [b]) := by
  unfold sPart sRow
  rw [List.map_map]
  rfl
theorem lit_one {W : World} {b : Nat} {v : Value} (hR : Kd.R (Kd.int .i64) 3 W b (fun _ => True) v []) : ∀ (j : Nat) (x : List Int), ([[]] : List (List Int))[j]? = some x → (Kd.slice 3 (Kd.int .i64)).M W b (fun _ => j = 0) x (([v].drop (j * (Kd.slice 3 (Kd.int .i64)).sz)).take (Kd.slice 3 (Kd.int .i64)).sz) := by
  intro j x hx
  match j, hx with
  | 0, hx =>
    obtain rfl := Option.some.inj hx
    exact ⟨v, rfl, Kd.R_mono hR (fun _ _ => rfl)⟩
theorem row_at {W : World} {b : Nat} {ok : Nat → Prop} {A : Option Addr} {R c : Nat} {out : List (List Int)} (hS : Kd.S (Kd.slice 3 (Kd.int .i64)) 30 W b ok (.slice A R c) out) (j i : Nat) (hj : j < R) (hi : (out.getD j []).length = i) :
    ∃ ad A0 cc, A = some ad ∧ i ≤ cc ∧ (∀ W', Below W.heap.size W W' → W'.cell? (ad.add j) = some (.slice A0 i cc) ∧ Kd.C (Kd.int .i64) W' A0 i (out.getD j [])) := by
  obtain ⟨h1, h2, h3⟩ := Kd.S_reads' hS
  obtain ⟨ad, A0, cc, hA, hx, hl, hC⟩ := at_L1 h3 (j : Int) (by omega) (by omega)
  have e1 : rd_L1 out (j : Int) = out.getD j [] := by unfold rd_L1; rw [Int.toNat_natCast]
  rw [e1, hi, Int.toNat_natCast] at hx
  rw [e1, hi] at hl hC
  exact ⟨ad, A0, cc, hA, hl, fun W' hb => ⟨(hb.cell (World.block_lt_of_cell? W _ hx)).trans hx, Kd.C_below hC hb⟩⟩
theorem new_row {W4 W : World} {b : Nat} {A : Option Addr} {n c : Nat} {l : List Int} {v : Value} {out : List (List Int)} {okS : Nat → Prop} (hR : Kd.R (Kd.int .i64) 3 W4 W.heap.size (fun _ => True) (.slice A n c) l) (hb : b ≤ W.heap.size) (hS : Kd.S (Kd.slice 3 (Kd.int .i64)) 30 W4 b okS v out) : (Kd.slice 3 (Kd.int .i64)).M W4 b (fun k_ => W.heap.size ≤ k_ ∧ some k_ ≠ v.ownBlock) l [.slice A n c] :=
  ⟨_, rfl, Kd.R_apart' (Kd.R_lower (Kd.R_mono (Kd.R_bound hR) (fun _ hk => hk.2.1)) hb) (Kd.S_typed hS) (by decide)⟩
theorem old_out {W4 W : World} {b : Nat} {v : Value} {out : List (List Int)} (hS : Kd.S (Kd.slice 3 (Kd.int .i64)) 30 W b (fun _ => True) v out) (hb : Below W.heap.size W W4) : Kd.S (Kd.slice 3 (Kd.int .i64)) 30 W4 b (fun k_ => True ∧ ¬ (W.heap.size ≤ k_ ∧ some k_ ≠ v.ownBlock)) v out :=
  Kd.S_mono (Kd.S_old hS hb) (fun _ hk => ⟨trivial, fun h2 => absurd hk.2 (Nat.not_lt.2 h2.1)⟩)
set_option maxHeartbeats 8000000 in
set_option maxRecDepth 100000 in
theorem allBreaks_calls (e : Nat) (he : e ≤ 6) (n : Nat) (hn : n ≤ 3) (A0 : Option Addr) (c0 : Nat) (w : World) (hr0 : Kd.C (Kd.int .i64) w A0 n (List.replicate n (e : Int))) :
    Calls Try.prog 84 #[.slice A0 n c0] w fun e_ w' => ∃ v, e_ = .returned v ∧ Kd.S (Kd.slice 3 (Kd.int .i64)) 30 w' w.heap.size (fun _ => True) v (sAll e n) ∧ Below w.heap.size w w' := by
  have HC := Aside0.mk hr0
  have HB := Aside0.mk (Below.refl w.heap.size w)
  have HS0 : Aside0 (sAll e 0 = [[]]) := ⟨rfl⟩
  have HSN : Aside0 (∀ i, sAll e (i + 1) = sNext e (sAll e i)) := ⟨fun _ => rfl⟩
  have HLN : Aside0 (∀ i, i < n → (sAll e i).length ≤ 49) := ⟨fun i hi => by
    have h1 := sAll_len e he i
    have h2 : 7 ^ i ≤ 7 ^ 2 := Nat.pow_le_pow_right (by decide) (by omega)
    omega⟩
  have HLS := Aside0.mk (sAll_lens e)
  clear hr0
  generalize sAll e = sa at HS0 HSN HLN HLS ⊢
  go_enter Try.func84, Try.ntmps84
  go_wp2_with (first
    | ((with_reducible refine gate_dst (N := 10) rfl ?_); refine Kd.R_lit (Kd.int .i64) _ 3 ?hg (N := 10) ?hd (xs := ([] : List Int)) (inner := []) (ok := fun _ => True) (okp := fun _ => True) ?hr ?hp (fun _ hk => hk) trivial (Below.refl _ _) (Nat.le_refl _) (by simp) ?_; (case hd => rfl); (case hg => rfl); (case hr => first | (go_simp; done) | (go_simp; rfl)); (case hp => exact (Reps.none _ _)); intro v10 w3 ho hb hg_ hnew_; obtain ⟨A10, c10, eo_⟩ := Kd.R_slice ho; rw [List.length_nil] at eo_; subst eo_; have HE := Aside0.mk (Kd.R_lower ho HB.out.size); have n0_ := Aside0.mk (below_step HB.out hb); clear HB hg_ hnew_ ho hb; have HB := n0_; clear n0_)
    | ((with_reducible refine gate_dst (N := 11) rfl ?_); refine Kd.S_lits (Kd.slice 3 (Kd.int .i64)) (w0 := w) w.heap.size 30 ?hg (N := 11) ?hd (xs := ([[]] : List (List Int))) (inner := [.slice A10 0 c10]) (ok := fun _ => True) (fun j_ _ => j_ = 0) ?hr rfl (lit_one HE.out) (fun _ _ _ h1_ h2_ => h1_.trans h2_.symm) (fun _ _ _ => trivial) trivial HB.out HB.out.size (by decide) ?_; (case hd => rfl); (case hg => rfl); (case hr => first | (go_simp; done) | (go_simp; rfl)); intro v11 w4 ho hb hg_ hnew_; have HO := Aside0.mk ho; clear HB HE hg_ hnew_ ho; have HB := Aside0.mk hb; clear hb))
  rw [← HS0.out] at HO
  go_loopg [3, 14] n (fun gg v3 v14 wr => ∃ (i : Nat), v14 = .int .i64 i ∧ i ≤ n ∧ n - i ≤ gg ∧ Aside0 (Kd.S (Kd.slice 3 (Kd.int .i64)) 30 wr w.heap.size (fun _ => True) v3 (sa i)) ∧ Aside0 (Below w.heap.size w wr))
  case atStart => exact ⟨0, rfl, Nat.zero_le _, Nat.le_refl _, HO, HB⟩
  case round =>
    clear HO HB
    obtain ⟨i, rfl, hi, hgg, HO, HB⟩ := hrel
    obtain ⟨wm, rfl⟩ : ∃ wm, wm = wr := ⟨_, rfl⟩
    by_cases hlt : i < n
    · have hltz : (i : Int) < (n : Int) := by omega
      obtain ⟨ad0, rfl, hx0⟩ := Kd.at_int (Kd.C_below HC.out HB.out) (i : Int) (by omega) hltz
      have hrd : rd (List.replicate n (e : Int)) (i : Int) = (e : Int) := by
        unfold rd
        rw [Int.toNat_natCast, List.getD_eq_getElem?_getD, List.getElem?_replicate, if_pos hlt]; rfl
      rw [Int.toNat_natCast, hrd] at hx0
      clear hrd
      obtain ⟨A3, c3, rfl⟩ := Kd.S_slice HO.out
      have hR49 := HLN.out i hlt
      have HLSI := Aside0.mk (HLS.out i)
      have HSNI := Aside0.mk (HSN.out i)
      obtain ⟨out, hout⟩ : ∃ out, sa i = out := ⟨_, rfl⟩
      rw [hout] at HO hR49 HLSI HSNI ⊢
      clear hout
      obtain ⟨R, hRn⟩ : ∃ R, out.length = R := ⟨_, rfl⟩
      have HRN := Aside0.mk hRn
      rw [hRn] at HO hR49 ⊢
      clear hRn
      have hw0 : IntKind.i64.wrap ((e : Int) + 1) = ((e + 1 : Nat) : Int) := by rw [i64_w]; unfold wrap64; omega
      have hw9 : IntKind.i64.wrap ((i : Int) + 1) = (i : Int) + 1 := by clear hw0; rw [i64_w]; unfold wrap64; omega
      go_wp2_with ((with_reducible refine gate_dst (N := 18) rfl ?_); refine Kd.S_lit (Kd.slice 3 (Kd.int .i64)) _ 30 ?hg (N := 18) ?hd (xs := ([] : List (List Int))) (inner := []) (ok := fun _ => True) (okp := fun _ => True) ?hr ?hp (fun _ hk => hk) trivial (Below.refl _ _) (Nat.le_refl _) (by simp) ?_; (case hd => rfl); (case hg => rfl); (case hr => first | (go_simp; done) | (go_simp; rfl)); (case hp => exact (Reps.none _ _)); intro v18 w4 ho hb hg_ hnew_; have HO6 := Aside0.mk ho; have HBM := Aside0.mk hb; clear hg_ hnew_ ho hb)
      clear hx0
      have HO6' : Aside0 (Kd.S (Kd.slice 3 (Kd.int .i64)) 30 w4 wm.heap.size (fun _ => True) v18 (sNext e (out.take 0))) := ⟨HO6.out⟩
      go_loopg [6, 21] R (fun gg v6 v21 wq => ∃ (j : Nat), v21 = .int .i64 j ∧ j ≤ R ∧ R - j ≤ gg ∧ Aside0 (Kd.S (Kd.slice 3 (Kd.int .i64)) 30 wq wm.heap.size (fun _ => True) v6 (sNext e (out.take j))) ∧ Aside0 (Below wm.heap.size wm wq))
      case atStart => exact ⟨0, rfl, Nat.zero_le _, Nat.le_refl _, HO6', HBM⟩
      case round =>
        clear HO6 HO6' HBM
        obtain ⟨wq, rfl⟩ : ∃ wq, wq = wr := ⟨_, rfl⟩
        obtain ⟨j, rfl, hj, hgj, HO6, HBM⟩ := hrel
        by_cases hjR : j < R
        · have hjz : (j : Int) < (R : Int) := by omega
          have hrl : (out.getD j []).length = i := HLSI.out _ (by
            have := HRN.out
            rw [List.getD_eq_getElem?_getD, List.getElem?_eq_getElem (by omega)]; exact List.getElem_mem _)
          obtain ⟨ad, A1, cc, rfl, hcc, hst⟩ := row_at HO.out j i hjR hrl
          have HNT := Aside0.mk (sNext_take e out j (by have := HRN.out; omega))
          obtain ⟨row, hrow⟩ : ∃ row, out.getD j [] = row := ⟨_, rfl⟩
          rw [hrow] at hst HNT hrl
          have HRL := Aside0.mk hrl
          have HST := Aside0.mk hst
          obtain ⟨acc, hacc⟩ : ∃ acc, sNext e (out.take j) = acc := ⟨_, rfl⟩
          have HACL : Aside0 (acc.length ≤ 343) := ⟨by
            rw [← hacc]
            have hn_ : ∀ l : List (List Int), (sNext e l).length ≤ l.length * 7 := by
              intro l
              unfold sNext
              induction l with
              | nil => simp
              | cons a r ih =>
                rw [List.flatMap_cons, List.length_append, List.length_map, List.length_cons]
                unfold sRow at *
                rw [List.length_map, List.length_range]
                omega
            have := hn_ (out.take j)
            have h2_ := List.length_take_le j out
            have h3_ := HRN.out
            omega⟩
          rw [hacc] at HO6 HNT
          have HPA := Aside0.mk (sPart_all e row)
          have HPS := Aside0.mk (sPart_succ row)
          have HPL : Aside0 (∀ b, (sPart row b).length = b) := ⟨fun b => by unfold sPart; rw [List.length_map, List.length_range]⟩
          have HP0 : Aside0 (acc ++ sPart row 0 = acc) := ⟨by simp [sPart]⟩
          have hxr := (HST.out wq HBM.out).1
          have HCL : Aside0 (∀ W, Below wm.heap.size wm W → Calls Try.prog 95 #[.slice A1 i cc] W fun e_ w' => ∃ v, e_ = .returned v ∧ Kd.R (Kd.int .i64) 3 w' W.heap.size (fun _ => True) v row ∧ Below W.heap.size W w') := ⟨fun W hb => by
            have h := slices_Clone_int_int.calls A1 cc row row W (by rw [HRL.out]; exact (HST.out W hb).2) (by rw [HRL.out]; exact hcc) (by unfold slices_Clone_int_int.f; rw [if_pos (by rw [HRL.out]; omega)])
            rw [HRL.out] at h
            exact h⟩
          clear hst hrow hrl hacc
          generalize sPart row = sp at HPA HPS HPL HP0
          go_wp2
          clear hxr
          rw [← HP0.out] at HO6
          go_loopg [6, 27] (e + 1) (fun gg v6 v27 wz => ∃ (b : Nat), v27 = .int .i64 b ∧ b ≤ e + 1 ∧ e + 1 - b ≤ gg ∧ Aside0 (Kd.S (Kd.slice 3 (Kd.int .i64)) 30 wz wm.heap.size (fun _ => True) v6 (acc ++ sp b)) ∧ Aside0 (Below wm.heap.size wm wz))
          case atStart => exact ⟨0, rfl, Nat.zero_le _, Nat.le_refl _, HO6, HBM⟩
          case round =>
            clear HO6 HBM
            obtain ⟨wz, rfl⟩ : ∃ wz, wz = wr := ⟨_, rfl⟩
            obtain ⟨b, rfl, hb1, hgb, HO6, HBM⟩ := hrel
            by_cases hbe : b < e + 1
            · have hbz : (b : Int) < ((e + 1 : Nat) : Int) := by omega
              have HS1 := Aside0.mk (HPS.out b)
              have HLEN : Aside0 (((acc ++ sp b).length + 1) * 24 ≤ 140737488355328) := ⟨by
                have h1_ := HACL.out
                have h2_ := HPL.out b
                rw [List.length_append]; omega⟩
              have HLEN2 : Aside0 ((row.length + 1) * 8 ≤ 140737488355328) := ⟨by rw [HRL.out]; omega⟩
              have HLR : Aside0 ((row ++ [(b : Int)]).length = i + 1) := ⟨by rw [List.length_append, HRL.out]; rfl⟩
              have HAS : Aside0 (acc ++ sp b ++ [row ++ [(b : Int)]] = acc ++ sp (b + 1)) := ⟨by rw [HS1.out, List.append_assoc]⟩
              obtain ⟨row2, hrow2⟩ : ∃ row2, row ++ [(b : Int)] = row2 := ⟨_, rfl⟩
              rw [hrow2] at HLR HAS
              have HR2 := Aside0.mk hrow2
              obtain ⟨acc2, hacc2⟩ : ∃ acc2, acc ++ sp b = acc2 := ⟨_, rfl⟩
              rw [hacc2] at HLEN HAS HO6
              clear hrow2 hacc2
              have hw1 : IntKind.i64.wrap ((b : Int) + 1) = (b : Int) + 1 := by clear hw0 hw9; rw [i64_w]; unfold wrap64; omega
              go_wp2_with (first
                | (go_at_call 95; with_reducible refine (HCL.out _ HBM.out).mono ?_; rintro e_ w5 ⟨v32, rfl, hr, hb⟩; have HN := Aside0.mk hr; have HBN := Aside0.mk hb; clear hr hb)
                | ((with_reducible refine gate_builtin (b := .append) (xs := #[.tmp 32, .tmp 34]) rfl ?_); at_builtin; refine Kd.R_append (Kd.int .i64) (w0 := wz) wz.heap.size rfl (.tmp 32) (.tmp 34) 30 3 (.int .i64 0) 8 rfl Try.underlying30 info3 rfl (by decide) (by omega) _ row (b : Int) [.int .i64 (b : Int)] (fun _ => True) (fun _ => False) rfl rfl ?aP (fun _ hk => hk.elim) ?aF ?aO ?aB ?aS ?aL ?_; (case aP => exact rfl); (case aB => exact HBN.out); (case aF => exact (fun _ _ => trivial)); (case aO => exact HN.out); (case aS => exact HBN.out.size); (case aL => exact HLEN2.out); intro v35 w6 ho hb hg hat; rw [HR2.out] at ho; obtain ⟨A2, c2, eo_⟩ := Kd.R_slice ho; rw [HLR.out] at eo_; subst eo_; clear HN HBN; have HN := Aside0.mk ho; have HBN := Aside0.mk hb; clear ho hb hg hat)
                | ((with_reducible refine gate_builtin (b := .append) (xs := #[.tmp 30, .tmp 36]) rfl ?_); at_builtin; refine Kd.S_append (Kd.slice 3 (Kd.int .i64)) (w0 := wm) wm.heap.size rfl (.tmp 30) (.tmp 36) 75 30 (.slice none 0 0) 24 rfl Try.underlying75 info30 rfl (by decide) (by omega) _ acc2 row2 [.slice A2 (i + 1) c2] (fun _ => True) (fun k_ => wz.heap.size ≤ k_ ∧ some k_ ≠ (u6 : Value).ownBlock) rfl rfl ?aP (fun _ hk => ⟨trivial, hk.2⟩) ?aF ?aO ?aB ?aS ?aL ?_; (case aP => exact new_row HN.out HBM.out.size (Kd.S_below HO6.out HBN.out)); (case aB => exact below_step HBM.out HBN.out); (case aF => exact (fun _ _ => trivial)); (case aO => exact old_out HO6.out HBN.out); (case aS => exact (below_step HBM.out HBN.out).size); (case aL => exact HLEN.out); intro v37 w7 ho hb hg hat; rw [HAS.out] at ho; clear HO6 HBM HN HBN; have HO6 := Aside0.mk ho; have HBM := Aside0.mk hb; clear ho hb hg hat))
              go_roundg (e + 1 - (b + 1))
              case measure => omega
              case rel => exact ⟨b + 1, by go_num, by clear hw1 hw0 hw9; omega, by clear hw1 hw0 hw9; omega, HO6, HBM⟩
            · have hbz : ¬ (b : Int) < ((e + 1 : Nat) : Int) := by omega
              obtain rfl : b = e + 1 := by omega
              have HO7 : Aside0 (Kd.S (Kd.slice 3 (Kd.int .i64)) 30 wz wm.heap.size (fun _ => True) u6 (sNext e (out.take (j + 1)))) := ⟨by rw [HNT.out, ← HPA.out]; exact HO6.out⟩
              have hw1 : IntKind.i64.wrap ((j : Int) + 1) = (j : Int) + 1 := by clear hw0 hw9; rw [i64_w]; unfold wrap64; omega
              clear HO6
              go_wp2
              go_roundg (R - (j + 1))
              case measure => omega
              case rel => exact ⟨j + 1, by go_num, by clear hw1 hw0 hw9; omega, by clear hw1 hw0 hw9; omega, HO7, HBM⟩
        · have hjz : ¬ (j : Int) < (R : Int) := by omega
          obtain rfl : j = R := by omega
          have HO7 : Aside0 (Kd.S (Kd.slice 3 (Kd.int .i64)) 30 wq w.heap.size (fun _ => True) u6 (sa (i + 1))) := ⟨by
            have h9 : out.take j = out := by rw [← HRN.out]; exact List.take_length
            rw [HSNI.out]
            have h8 := HO6.out
            rw [h9] at h8
            exact Kd.S_lower h8 HB.out.size⟩
          have HB7 := Aside0.mk (below_step HB.out HBM.out)
          clear HO6
          go_wp2
          go_roundg (n - (i + 1))
          case measure => omega
          case rel => exact ⟨i + 1, by go_num, by clear hw0 hw9; omega, by clear hw0 hw9; omega, HO7, HB7⟩
    · have hltz : ¬ (i : Int) < (n : Int) := by omega
      obtain rfl : i = n := by omega
      go_wp2
      go_ret
      exact ⟨_, rfl, HO.out, HB.out⟩

/-! ### bits_Mul32: function 100 -/
def bits_Mul32.f (a0 : Int) (a1 : Int) : Option (Int × Int) := some (((IntKind.u64.wrap ((IntKind.u64.wrap (a0)) * (IntKind.u64.wrap (a1)))) / 4294967296) % 4294967296, (IntKind.u64.wrap ((IntKind.u64.wrap (a0)) * (IntKind.u64.wrap (a1)))) % 4294967296)
set_option maxHeartbeats 8000000 in
set_option maxRecDepth 100000 in
theorem bits_Mul32.calls (a0 : Int) (a1 : Int) (r1 : Int) (r2 : Int) (w : World) (h : bits_Mul32.f a0 a1 = some (r1, r2)) :
    Calls Try.prog 100 #[.int .u32 a0, .int .u32 a1] w fun e w' => e = .returned (.tuple #[.int .u32 r1, .int .u32 r2]) ∧ Drawn0 w w' := by
  have H : (some (((IntKind.u64.wrap ((IntKind.u64.wrap (a0)) * (IntKind.u64.wrap (a1)))) / 4294967296) % 4294967296, (IntKind.u64.wrap ((IntKind.u64.wrap (a0)) * (IntKind.u64.wrap (a1)))) % 4294967296)) = some (r1, r2) := h
  clear h
  simp only [Option.some.injEq, Prod.mk.injEq] at H
  obtain ⟨rfl, rfl⟩ := H
  go_enter Try.func100, Try.ntmps100
  go_wp2
  go_ret2
  exact ⟨by first | rfl | (simp; done) | (simp [*]; done), by repeat (first | exact Drawn0.refl _ | apply Drawn0.step)⟩

set_option maxHeartbeats 8000000 in
set_option maxRecDepth 100000 in
theorem bits_Mul32.calls0 (a0 : Int) (a1 : Int) (r1 : Int) (r2 : Int) (w : World) (h : bits_Mul32.f a0 a1 = some (r1, r2)) :
    Calls Try.prog 100 #[.int .u32 a0, .int .u32 a1] w fun e w' => e = .returned (.tuple #[.int .u32 r1, .int .u32 r2]) ∧ w = w' := by
  have H : (some (((IntKind.u64.wrap ((IntKind.u64.wrap (a0)) * (IntKind.u64.wrap (a1)))) / 4294967296) % 4294967296, (IntKind.u64.wrap ((IntKind.u64.wrap (a0)) * (IntKind.u64.wrap (a1)))) % 4294967296)) = some (r1, r2) := h
  clear h
  simp only [Option.some.injEq, Prod.mk.injEq] at H
  obtain ⟨rfl, rfl⟩ := H
  go_enter Try.func100, Try.ntmps100
  go_wp2
  go_ret2
  exact ⟨by first | rfl | (simp; done) | (simp [*]; done), by first | rfl | simp⟩

/-! ### bits_Mul64: function 101 -/
def bits_Mul64.f (a0 : Int) (a1 : Int) : Option (Int × Int) := some (IntKind.u64.wrap ((IntKind.u64.wrap ((IntKind.u64.wrap ((a0 / 4294967296) * (a1 / 4294967296))) + ((IntKind.u64.wrap ((IntKind.u64.wrap ((a0 / 4294967296) * (Go.bits .and .u64 a1 4294967295))) + ((IntKind.u64.wrap ((Go.bits .and .u64 a0 4294967295) * (Go.bits .and .u64 a1 4294967295))) / 4294967296))) / 4294967296))) + ((IntKind.u64.wrap ((Go.bits .and .u64 (IntKind.u64.wrap ((IntKind.u64.wrap ((a0 / 4294967296) * (Go.bits .and .u64 a1 4294967295))) + ((IntKind.u64.wrap ((Go.bits .and .u64 a0 4294967295) * (Go.bits .and .u64 a1 4294967295))) / 4294967296))) 4294967295) + (IntKind.u64.wrap ((Go.bits .and .u64 a0 4294967295) * (a1 / 4294967296))))) / 4294967296)), IntKind.u64.wrap (a0 * a1))
set_option maxHeartbeats 8000000 in
set_option maxRecDepth 100000 in
theorem bits_Mul64.calls (a0 : Int) (a1 : Int) (r1 : Int) (r2 : Int) (w : World) (h : bits_Mul64.f a0 a1 = some (r1, r2)) :
    Calls Try.prog 101 #[.int .u64 a0, .int .u64 a1] w fun e w' => e = .returned (.tuple #[.int .u64 r1, .int .u64 r2]) ∧ Drawn0 w w' := by
  have H : (some (IntKind.u64.wrap ((IntKind.u64.wrap ((IntKind.u64.wrap ((a0 / 4294967296) * (a1 / 4294967296))) + ((IntKind.u64.wrap ((IntKind.u64.wrap ((a0 / 4294967296) * (Go.bits .and .u64 a1 4294967295))) + ((IntKind.u64.wrap ((Go.bits .and .u64 a0 4294967295) * (Go.bits .and .u64 a1 4294967295))) / 4294967296))) / 4294967296))) + ((IntKind.u64.wrap ((Go.bits .and .u64 (IntKind.u64.wrap ((IntKind.u64.wrap ((a0 / 4294967296) * (Go.bits .and .u64 a1 4294967295))) + ((IntKind.u64.wrap ((Go.bits .and .u64 a0 4294967295) * (Go.bits .and .u64 a1 4294967295))) / 4294967296))) 4294967295) + (IntKind.u64.wrap ((Go.bits .and .u64 a0 4294967295) * (a1 / 4294967296))))) / 4294967296)), IntKind.u64.wrap (a0 * a1))) = some (r1, r2) := h
  clear h
  simp only [Option.some.injEq, Prod.mk.injEq] at H
  obtain ⟨rfl, rfl⟩ := H
  go_enter Try.func101, Try.ntmps101
  go_wp2
  go_ret2
  exact ⟨by first | rfl | (simp; done) | (simp [*]; done), by repeat (first | exact Drawn0.refl _ | apply Drawn0.step)⟩

set_option maxHeartbeats 8000000 in
set_option maxRecDepth 100000 in
theorem bits_Mul64.calls0 (a0 : Int) (a1 : Int) (r1 : Int) (r2 : Int) (w : World) (h : bits_Mul64.f a0 a1 = some (r1, r2)) :
    Calls Try.prog 101 #[.int .u64 a0, .int .u64 a1] w fun e w' => e = .returned (.tuple #[.int .u64 r1, .int .u64 r2]) ∧ w = w' := by
  have H : (some (IntKind.u64.wrap ((IntKind.u64.wrap ((IntKind.u64.wrap ((a0 / 4294967296) * (a1 / 4294967296))) + ((IntKind.u64.wrap ((IntKind.u64.wrap ((a0 / 4294967296) * (Go.bits .and .u64 a1 4294967295))) + ((IntKind.u64.wrap ((Go.bits .and .u64 a0 4294967295) * (Go.bits .and .u64 a1 4294967295))) / 4294967296))) / 4294967296))) + ((IntKind.u64.wrap ((Go.bits .and .u64 (IntKind.u64.wrap ((IntKind.u64.wrap ((a0 / 4294967296) * (Go.bits .and .u64 a1 4294967295))) + ((IntKind.u64.wrap ((Go.bits .and .u64 a0 4294967295) * (Go.bits .and .u64 a1 4294967295))) / 4294967296))) 4294967295) + (IntKind.u64.wrap ((Go.bits .and .u64 a0 4294967295) * (a1 / 4294967296))))) / 4294967296)), IntKind.u64.wrap (a0 * a1))) = some (r1, r2) := h
  clear h
  simp only [Option.some.injEq, Prod.mk.injEq] at H
  obtain ⟨rfl, rfl⟩ := H
  go_enter Try.func101, Try.ntmps101
  go_wp2
  go_ret2
  exact ⟨by first | rfl | (simp; done) | (simp [*]; done), by first | rfl | simp⟩

end Go.Proofs.Ytiahedkmlacpkaa.PrintS
