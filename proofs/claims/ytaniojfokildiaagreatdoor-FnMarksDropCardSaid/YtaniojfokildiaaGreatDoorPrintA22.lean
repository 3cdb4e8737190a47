-- written by this session's own driver (wip/gen.py) with the kit's print and contracts of our own
import Derived.Test.YtaniojfokildiaaGreatDoorPrintA0
import Derived.Test.YtaniojfokildiaaGreatDoorPrintA1
import Derived.Test.YtaniojfokildiaaGreatDoorPrintA2
import Derived.Test.YtaniojfokildiaaGreatDoorPrintA6
import Derived.Test.YtaniojfokildiaaGreatDoorPrintA7
import Derived.Test.YtaniojfokildiaaGreatDoorPrintA13
import Derived.Test.YtaniojfokildiaaGreatDoorPrintA14
namespace Go.Proofs.YtaniojfokildiaaGreatDoor.PrintA
open Go.RowKit Go.Proofs.YtaniojfokildiaaGreatDoorLib Go.Proofs.YtaniojfokildiaaGreatDoorW.PrintWords Go.Proofs.YtaniojfokildiaaGreatDoorW.PrintLast Go.Proofs.YtaniojfokildiaaGreatDoorW.PrintMore
attribute [local go_sem] max2_int min2_int max_two min_two max_three min_three max_four min_four   -- for this text's walks alone
set_option linter.unusedVariables false
set_option linter.unusedSimpArgs false

attribute [local go_sem high] eqA65
-- NOT PRINTED: function 145 (strconv_ParseUint)

-- NOT PRINTED: function 129 (strconv_ParseInt)

-- NOT PRINTED: function 114 (strconv_Atoi_114)

-- NOT PRINTED: function 146 (stringslite_Clone)

-- NOT PRINTED: function 130 (strconv_syntaxError)

-- NOT PRINTED: function 131 (strconv_rangeError)

-- NOT PRINTED: function 147 (errors_New)

-- NOT PRINTED: function 132 (strconv_baseError)

-- NOT PRINTED: function 133 (strconv_bitSizeError)

-- NOT PRINTED: function 115 (strconv_toError)

-- NOT PRINTED: function 93 (strconv_Atoi_93)

/-! ### impl_readNumbers: function 74, a contract of our own -/
/-- What the program hands back of the words. -/
def parN : Option (List Int) → List Int × Bool
  | some l => (l, true)
  | none => ([], false)
theorem itoa_val (x : List UInt8) (v : Int) (X : ByteArray) (h : one1 x = some v) (hX : X = baOf x) : strconv_Itoa_89.f v = some X := by
  obtain ⟨h1, h2⟩ := one1_some x v h
  obtain ⟨l1, l2⟩ := atoiAll_lim x v h1
  unfold strconv_Itoa_89.f
  rw [if_pos ⟨l1, l2⟩, h2, hX]; rfl
def impl_readNumbers.f (a0 a1 : ByteArray) : Option (List Int × Bool) := if a1.data.toList = [45] ∧ a0.size ≤ 1000000 then some (parN (rdN (spl 45 a0.data.toList))) else none
set_option maxHeartbeats 8000000 in
set_option maxRecDepth 100000 in
theorem impl_readNumbers.calls (a0 a1 : ByteArray) (r1 : List Int) (r2 : Bool) (w : World) (h : impl_readNumbers.f a0 a1 = some (r1, r2)) (ht : TabsE w) :
    Calls Tryz.prog 74 #[.string a0, .string a1] w fun e w' => ∃ v0_ : Value, e = .returned (.tuple #[v0_, .bool r2]) ∧ Kd.R (Kd.int .i64) 3 w' w.heap.size (fun _ => True) v0_ r1 ∧ Below w.heap.size w w' := by
  unfold impl_readNumbers.f at h
  by_cases hc : a1.data.toList = [45] ∧ a0.size ≤ 1000000
  case neg => rw [if_neg hc] at h; exact absurd h (by simp)
  rw [if_pos hc] at h
  obtain ⟨h1, h2⟩ := hc
  obtain ⟨sg, hsg⟩ : ∃ sg, sg = a1 := ⟨_, rfl⟩
  have HSG : Aside0 (sg = baOf [45]) := ⟨by rw [hsg, ← h1, ba_self]⟩
  obtain rfl := hsg
  have HQ := Aside0.mk (Option.some.inj h)
  have HT := Aside0.mk ht
  have HB := Aside0.mk (Below.refl w.heap.size w)
  have hlen := spl_len 45 a0.data.toList
  have hmem := spl_mem 45 a0.data.toList
  have hsz : a0.data.toList.length = a0.size := by rw [Array.length_toList]; rfl
  have HSP : Aside0 (∀ W : World, TabsE W → Calls Tryz.prog 92 #[.string a0, .string sg] W fun e w' => ∃ ad : Addr, e = .returned (.slice (some ad) (spl 45 a0.data.toList).length (spl 45 a0.data.toList).length) ∧ Below W.heap.size W w' ∧ W.heap.size < w'.heap.size ∧
      ∀ W' : World, W'.heap[W.heap.size]? = w'.heap[W.heap.size]? → ∀ j x, (spl 45 a0.data.toList)[j]? = some x → W'.cell? (ad.add j) = some (.string (baOf x))) := ⟨fun W hW => by rw [HSG.out]; exact split_calls a0 h2 W hW⟩
  obtain ⟨ws, hws⟩ : ∃ ws, ws = spl 45 a0.data.toList := ⟨_, rfl⟩
  rw [← hws] at HQ HSP hlen hmem
  have HLen : Aside0 (ws.length ≤ 1000001) := ⟨by omega⟩
  have HMem : Aside0 (∀ x ∈ ws, x.length ≤ 1000000) := ⟨fun x hx => by have := hmem x hx; omega⟩
  clear h ht h1 h2 hlen hmem hsz hws HSG
  obtain ⟨n, hn⟩ : ∃ n, n = ws.length := ⟨_, rfl⟩
  have HN := Aside0.mk hn
  rw [← hn] at HSP HLen
  clear hn
  go_enter Tryz.func74, Tryz.ntmps74
  go_wp2_with (first | ((with_reducible refine gate_dst (N := 11) rfl ?_); refine Kd.R_lit (Kd.int .i64) _ 3 ?hg (N := 11) ?hd (xs := ([] : List Int)) (inner := []) (ok := fun _ => True) (okp := fun _ => True) ?hr ?hp (fun _ hk => hk) trivial (Below.refl _ _) (Nat.le_refl _) (by simp) ?_; (case hd => rfl); (case hg => rfl); (case hr => first | (go_simp; done) | (go_simp; rfl)); (case hp => exact (Reps.none _ _)); intro V11 W11 ho4 hb hg_ hnew_; clear hg_ hnew_; have HO11 := Aside0.mk (Kd.R_lower ho4 (below_size (by repeat (first | (with_reducible first | exact HB.out | apply below_alloc | apply pw_below_drewN | apply below_drew1) | exact HB.out)))); have HB_ := Aside0.mk (below_step (by repeat (first | (with_reducible first | exact HB.out | apply below_alloc | apply pw_below_drewN | apply below_drew1) | exact HB.out)) hb); clear HB hb ho4; have HB := HB_; clear HB_))
  refine (HSP.out _ (HT.out.below HB.out)).mono ?_
  rintro e_ w2_ ⟨ad, rfl, hb, hlt, hcell⟩
  have HLT := Aside0.mk hlt
  have HC := Aside0.mk hcell
  have HO := Aside0.mk (Kd.R_mono (ok' := fun k => k ≠ W11.heap.size) (Kd.R_bound HO11.out) (fun k hk => by have := hk.2.2.1; omega))
  clear HO11
  have HO11 := Aside0.mk (Kd.R_below HO.out hb)
  have HB_ := Aside0.mk (below_step HB.out hb)
  clear HB HO hb hlt hcell
  have HB := HB_
  clear HB_
  obtain ⟨bW, hbW⟩ : ∃ bW, bW = W11.heap.size := ⟨_, rfl⟩
  rw [← hbW] at HLT HC HO11
  clear hbW
  go_wp2
  go_loopg [6, 16] (n + 1) (fun gg v6 v16 wr => ∃ (i : Nat) (acc : List Int), v16 = .int .i64 (i : Int) ∧ Aside0 (i ≤ n ∧ n + 1 - i ≤ gg) ∧ Aside0 (rdN (ws.take i) = some acc) ∧ Aside0 (Kd.R (Kd.int .i64) 3 wr w.heap.size (fun k => k ≠ bW) v6 acc) ∧ Aside0 (wr.heap[bW]? = w2_.heap[bW]?) ∧ Aside0 (bW < wr.heap.size) ∧ Aside0 (Below w.heap.size w wr))
  case atStart => exact ⟨0, [], rfl, ⟨Nat.zero_le _, Nat.le_refl _⟩, ⟨rfl⟩, HO11, ⟨rfl⟩, HLT, HB⟩
  case round =>
    clear HB HLT HO11 HSP
    obtain ⟨i, acc, rfl, HI, HA, HO, HK, HL, HB⟩ := hrel
    obtain ⟨wo, rfl⟩ : ∃ wo, wo = wr := ⟨_, rfl⟩
    rcases (by have := HI.out; omega : i < n ∨ i = n) with hi | hi
    · have hi' : i < ws.length := by rw [← HN.out]; exact hi
      obtain ⟨x, hx⟩ : ∃ x, ws[i]? = some x := ⟨ws[i], List.getElem?_eq_getElem hi'⟩
      have HX := Aside0.mk hx
      have hc := HC.out _ HK.out i x hx
      have HLX := Aside0.mk (HMem.out x (List.mem_of_getElem? hx))
      clear hx hi'
      obtain ⟨X, hX⟩ : ∃ X, X = baOf x := ⟨_, rfl⟩
      rw [← hX] at hc
      have HXe := Aside0.mk hX
      clear hX
      have q1 : ((i : Int) < (n : Int)) = True := by rw [eq_iff_iff]; constructor <;> intro h_ <;> first | exact trivial | omega | exact h_.elim
      have q2 : (0 ≤ (i : Int)) = True := by clear q1; rw [eq_iff_iff]; constructor <;> intro h_ <;> first | exact trivial | omega | exact h_.elim
      have hc2 : wo.cell? (ad.add (i : Int).toNat) = some (.string X) := by rw [Int.toNat_natCast]; exact hc
      have HIN := Aside0.mk hi
      clear hi
      cases ho : one1 x with
      | some v =>
        have HONE := Aside0.mk ho
        clear ho
        have HAT := Aside0.mk (fun W => atoi_ok x HLX.out v (one1_some x v HONE.out).1 W)
        rw [← HXe.out] at HAT
        have HIT := Aside0.mk (fun (W : World) (hW : TabsE W) => strconv_Itoa_89.calls v X W (itoa_val x v X HONE.out HXe.out) hW.tabs)
        have hsn : rdN (ws.take (i + 1)) = some (acc ++ [v]) := by
          have et : ws.take (i + 1) = ws.take i ++ [x] := by rw [List.take_add_one, HX.out]; rfl
          rw [et, rdN_snoc, HA.out, HONE.out]; rfl
        have hal := rdN_length _ _ HA.out
        rw [List.length_take] at hal
        have HAL : Aside0 (acc.length ≤ 1000001) := ⟨by have := HLen.out; have := HIN.out; omega⟩
        have HS := Aside0.mk hsn
        clear hsn hal
        go_wp2_with fail
        refine (HAT.out _).mono ?_
        rintro e_ w3_ ⟨rfl, hb⟩
        have HO_ := Aside0.mk (Kd.R_below HO.out hb)
        have HK_ := Aside0.mk ((hb.block bW HL.out).trans HK.out)
        have HL_ := Aside0.mk (Nat.lt_of_lt_of_le HL.out hb.size)
        have HB_ := Aside0.mk (below_step HB.out hb)
        clear HO HK HL HB hb
        have HO := HO_
        have HK := HK_
        have HL := HL_
        have HB := HB_
        clear HO_ HK_ HL_ HB_
        go_wp2_with fail
        refine (HIT.out _ (HT.out.below HB.out)).mono ?_
        rintro e_ w4_ ⟨rfl, hb⟩
        have HO_ := Aside0.mk (Kd.R_below HO.out hb)
        have HK_ := Aside0.mk ((hb.block bW HL.out).trans HK.out)
        have HL_ := Aside0.mk (Nat.lt_of_lt_of_le HL.out hb.size)
        have HB_ := Aside0.mk (below_step HB.out hb)
        clear HO HK HL HB hb
        have HO := HO_
        have HK := HK_
        have HL := HL_
        have HB := HB_
        clear HO_ HK_ HL_ HB_
        clear hc hc2 HAT HIT
        go_wp2_with (first | ((with_reducible refine gate_builtin (b := .append) (xs := #[.tmp 33, .tmp 35]) rfl ?_); at_builtin; refine Kd.R_append (Kd.int .i64) (w0 := w) w.heap.size rfl (.tmp 33) (.tmp 35) 24 3 (.int .i64 0) 8 rfl Tryz.underlying24 info3 rfl (by decide) (by omega) u6 acc v [.int .i64 v] (fun k => k ≠ bW) (fun _ => False) rfl rfl ?aP (fun _ hk => hk.elim) ?aF ?aO ?aB ?aS ?aL ?_; (case aP => exact rfl); (case aB => exact (by repeat (first | (with_reducible first | exact HB.out | apply below_alloc | apply pw_below_drewN | apply below_drew1) | exact HB.out))); (case aF => intro k hk; have := HL.out; omega); (case aO => exact HO.out); (case aS => exact (below_size (by repeat (first | (with_reducible first | exact HB.out | apply below_alloc | apply pw_below_drewN | apply below_drew1) | exact HB.out)))); (case aL => have := HAL.out; omega); intro va wa ho hb hg hat; have HO2 := Aside0.mk ho; have HB2 := Aside0.mk hb; have HG2 := Aside0.mk hg; clear HB ho hb hg hat; have HB := HB2; clear HB2))
        have w1 : wrap64 ((i : Int) + 1) = ((i + 1 : Nat) : Int) := by have := HIN.out; have := HLen.out; clear q1 q2; unfold wrap64; omega
        go_roundg (n + 1 - (i + 1))
        case measure => have := HI.out; have := HIN.out; omega
        case rel =>
          refine ⟨i + 1, acc ++ [v], by first | (rw [w1]; done) | (rw [w1]) | (rw [i64_w, w1]) | go_num, ⟨?_⟩, HS, HO2, ⟨?_⟩, ⟨?_⟩, HB⟩
          · have := HI.out; have := HIN.out; omega
          · exact (HG2.out.block bW HL.out (fun he => HO.out.1 bW he.symm rfl)).trans HK.out
          · exact Nat.lt_of_lt_of_le HL.out HG2.out.size
      | none =>
        have HONE := Aside0.mk ho
        clear ho
        have HF := Aside0.mk (rdN_none ws x (List.mem_of_getElem? HX.out) HONE.out)
        have hq := HQ.out
        rw [HF.out] at hq
        simp only [parN, Prod.mk.injEq] at hq
        obtain ⟨rfl, rfl⟩ := hq
        cases hat : Lib.atoiAll x with
        | ok v =>
          have HAT := Aside0.mk (fun W => atoi_ok x HLX.out v hat W)
          rw [← HXe.out] at HAT
          obtain ⟨Y, hY⟩ : ∃ Y, Y = baOf (Lib.itoa v) := ⟨_, rfl⟩
          have hXY : Y ≠ X := by
            rw [hY, HXe.out]
            intro he
            have := congrArg (fun s : ByteArray => s.data.toList) he
            simp only [baOf_list] at this
            exact one1_no x v HONE.out hat this
          have HIT := Aside0.mk (fun (W : World) (hW : TabsE W) => strconv_Itoa_89.calls v Y W (by
            have hl := atoiAll_lim x v hat
            unfold strconv_Itoa_89.f
            rw [if_pos hl, hY]; rfl) hW.tabs)
          clear hY hat
          have q5 : (Y.toList == X.toList) = false := by
            rw [ba_toList, ba_toList, beq_eq_false_iff_ne]
            intro he
            exact hXY (by rw [← ba_self Y, ← ba_self X, he])
          clear hXY
          go_wp2_with fail
          refine (HAT.out _).mono ?_
          rintro e_ w3_ ⟨rfl, hb⟩
          have HO_ := Aside0.mk (Kd.R_below HO.out hb)
          have HK_ := Aside0.mk ((hb.block bW HL.out).trans HK.out)
          have HL_ := Aside0.mk (Nat.lt_of_lt_of_le HL.out hb.size)
          have HB_ := Aside0.mk (below_step HB.out hb)
          clear HO HK HL HB hb
          have HO := HO_
          have HK := HK_
          have HL := HL_
          have HB := HB_
          clear HO_ HK_ HL_ HB_
          go_wp2_with fail
          refine (HIT.out _ (HT.out.below HB.out)).mono ?_
          rintro e_ w4_ ⟨rfl, hb⟩
          have HO_ := Aside0.mk (Kd.R_below HO.out hb)
          have HK_ := Aside0.mk ((hb.block bW HL.out).trans HK.out)
          have HL_ := Aside0.mk (Nat.lt_of_lt_of_le HL.out hb.size)
          have HB_ := Aside0.mk (below_step HB.out hb)
          clear HO HK HL HB hb
          have HO := HO_
          have HK := HK_
          have HL := HL_
          have HB := HB_
          clear HO_ HK_ HL_ HB_
          clear hc hc2 HAT HIT
          go_wp2
          go_ret2
          exact ⟨_, rfl, Kd.R_nil _ _ _ _ _, HB.out⟩
        | _ =>
          have HER := Aside0.mk (fun (W : World) (hW : TabsE W) => atoi_err x HLX.out (fun v h => by rw [hat] at h; cases h) W hW)
          rw [← HXe.out] at HER
          clear hat
          go_wp2_with fail
          refine (HER.out _ (HT.out.below HB.out)).mono ?_
          rintro e_ w3_ ⟨nn, N, rfl, hb⟩
          have HO_ := Aside0.mk (Kd.R_below HO.out hb)
          have HK_ := Aside0.mk ((hb.block bW HL.out).trans HK.out)
          have HL_ := Aside0.mk (Nat.lt_of_lt_of_le HL.out hb.size)
          have HB_ := Aside0.mk (below_step HB.out hb)
          clear HO HK HL HB hb
          have HO := HO_
          have HK := HK_
          have HL := HL_
          have HB := HB_
          clear HO_ HK_ HL_ HB_
          clear hc hc2 HER
          go_wp2
          go_ret2
          exact ⟨_, rfl, Kd.R_nil _ _ _ _ _, HB.out⟩
    · subst hi
      have q1 : ((i : Int) < (i : Int)) = False := by rw [eq_iff_iff]; constructor <;> intro h_ <;> first | exact trivial | omega | exact h_.elim
      have hq := HQ.out
      have ha := HA.out
      rw [List.take_of_length_le (by rw [← HN.out]; exact Nat.le_refl _)] at ha
      rw [ha] at hq
      simp only [parN, Prod.mk.injEq] at hq
      obtain ⟨rfl, rfl⟩ := hq
      clear ha
      go_wp2
      go_ret2
      exact ⟨_, rfl, Kd.R_mono HO.out (fun _ _ => trivial), HB.out⟩


/-! ### impl_ParseMarks: function 38 -/
def impl_ParseMarks.f (k : Nat) (a0 : ByteArray) : Option (List Int × Bool) := if a0.toList = ([] : List UInt8) then (some ((([] : List Int)), true)) else ((impl_readNumbers.f a0 (⟨#[45]⟩ : ByteArray)).bind fun bt543 => (if bt543.2 = true then ((impl_AreMarks.f k 100 bt543.1).bind fun t547 => (if t547 = true then (some (bt543.1, true)) else (some (([] : List Int), false)))) else (some (([] : List Int), false))))
set_option maxHeartbeats 8000000 in
set_option maxRecDepth 100000 in
theorem impl_ParseMarks.calls (k : Nat) (a0 : ByteArray) (r1 : List Int) (r2 : Bool) (w : World) (h : impl_ParseMarks.f k a0 = some (r1, r2)) (ht : TabsE w) :
    Calls Tryz.prog 38 #[.string a0] w fun e w' => ∃ v0_ : Value, e = .returned (.tuple #[v0_, .bool r2]) ∧ Kd.R (Kd.int .i64) 3 w' w.heap.size (fun _ => True) v0_ r1 ∧ Below w.heap.size w w' := by
  have HT := Aside0.mk ht
  clear ht
  have HB := Aside0.mk (Below.refl w.heap.size w)
  have H : (if a0.toList = ([] : List UInt8) then (some ((([] : List Int)), true)) else ((impl_readNumbers.f a0 (⟨#[45]⟩ : ByteArray)).bind fun bt543 => (if bt543.2 = true then ((impl_AreMarks.f k 100 bt543.1).bind fun t547 => (if t547 = true then (some (bt543.1, true)) else (some (([] : List Int), false)))) else (some (([] : List Int), false))))) = some (r1, r2) := h
  clear h
  by_cases c2 : a0.toList = ([] : List UInt8)
  · rw [if_pos c2] at H
    have c2b0 : (a0.toList == ([] : List UInt8)) = true := beq_iff_eq.mpr c2
    have c2b1 : (a0.toList != ([] : List UInt8)) = false := bne_eq_false_iff_eq.mpr c2
    clear c2
    obtain ⟨y540, hy540⟩ : ∃ y_ : List Int, y_ = (([] : List Int)) := ⟨_, rfl⟩
    replace H : (some (y540, true)) = some (r1, r2) := by first | (rw [hy540]; with_reducible exact H) | (have H2_ := (Option.bind_some _ _).symm.trans H; rw [hy540]; with_reducible exact H2_) | (have H2_ := (Option.bind_some _ _).symm.trans H; with_reducible exact H2_) | with_reducible exact H | (rw [hy540]; exact H) | exact H
    have Ny540 := Aside0.mk hy540
    clear hy540
    simp only [Option.some.injEq, Prod.mk.injEq] at H
    obtain ⟨rfl, rfl⟩ := H
    go_enter Tryz.func38, Tryz.ntmps38
    go_wp2_with (first | ((with_reducible refine gate_dst (N := 8) rfl ?_); refine Kd.R_lit (Kd.int .i64) _ 3 ?hg (N := 8) ?hd (xs := ([] : List Int)) (inner := []) (ok := fun _ => True) (okp := fun _ => True) ?hr ?hp (fun _ hk => hk) trivial (Below.refl _ _) (Nat.le_refl _) (by simp) ?_; (case hd => rfl); (case hg => rfl); (case hr => first | (go_simp; done) | (go_simp; rfl)); (case hp => exact (Reps.none _ _)); intro v541 w3 ho4 hb hg_ hnew_; clear hg_ hnew_; (first | rw [← Ny540.out] at ho4 | (simp only [Int.reduceToNat] at ho4; rw [← Ny540.out] at ho4)); have n0_ := Aside0.mk (Kd.R_lower ho4 (below_size (by repeat (first | (with_reducible first | exact HB.out | apply below_alloc | apply pw_below_drewN | apply below_drew1) | exact HB.out)))); have n1_ := Aside0.mk (below_step (by repeat (first | (with_reducible first | exact HB.out | apply below_alloc | apply pw_below_drewN | apply below_drew1) | exact HB.out)) hb); clear HB; have HO542 := n0_; have HB := n1_; clear n0_ n1_; clear hb ho4))
    go_ret2
    exact ⟨_, by first | rfl | (simp [errW_none, errW_some] <;> rfl) | (simp [*, errW_none, errW_some] <;> rfl), by (with_reducible repeat (first | apply Kd.R_alloc | apply Kd.R_drewN | apply Kd.R_drew)); exact HO542.out, by repeat (first | (with_reducible first | exact HB.out | apply below_alloc | apply pw_below_drewN | apply below_drew1) | exact HB.out)⟩
  · rw [if_neg c2] at H
    have c2b0 : (a0.toList == ([] : List UInt8)) = false := beq_eq_false_iff_ne.mpr c2
    have c2b1 : (a0.toList != ([] : List UInt8)) = true := bne_iff_ne.mpr c2
    replace H := Option.bind_eq_some_iff.mp H
    obtain ⟨⟨t543, t544⟩, A50, H⟩ := H
    replace H : (if t544 = true then ((impl_AreMarks.f k 100 t543).bind fun t547 => (if t547 = true then (some (t543, true)) else (some (([] : List Int), false)))) else (some (([] : List Int), false))) = some (r1, r2) := H
    have A5 := Aside0.mk A50
    clear A50
    by_cases c6 : t544 = true
    · subst c6
      have H1 : ((impl_AreMarks.f k 100 t543).bind fun t547 => (if t547 = true then (some (t543, true)) else (some (([] : List Int), false)))) = some (r1, r2) := by rw [if_pos rfl] at H; exact H
      clear H
      have H := H1
      clear H1
      replace H := Option.bind_eq_some_iff.mp H
      obtain ⟨t547, A70, H⟩ := H
      replace H : (if t547 = true then (some (t543, true)) else (some (([] : List Int), false))) = some (r1, r2) := H
      have A7 := Aside0.mk A70
      clear A70
      by_cases c8 : t547 = true
      · subst c8
        have H1 : (some (t543, true)) = some (r1, r2) := by rw [if_pos rfl] at H; exact H
        clear H
        have H := H1
        clear H1
        simp only [Option.some.injEq, Prod.mk.injEq] at H
        obtain ⟨rfl, rfl⟩ := H
        go_enter Tryz.func38, Tryz.ntmps38
        go_wp2_with (first | ((with_reducible refine gate_callee (f := 74) rfl ?_); refine goesL_ (some 11) rfl rfl Tryz.func74 (by kernel_rfl) rfl #[.string a0, .string (⟨#[45]⟩ : ByteArray)] rfl (by (try simp only [List.map_toArray, List.map_cons, List.map_nil]); first | done | rfl | (simp only [List.length_drop, List.length_take]; rfl)) ?_; (with_reducible refine (impl_readNumbers.calls a0 (⟨#[45]⟩ : ByteArray) t543 true _ A5.out (HT.out.below ?hbP_)).mono ?_); (case hbP_ => exact (by repeat (first | (with_reducible first | exact HB.out | apply below_alloc | apply pw_below_drewN | apply below_drew1) | exact HB.out))); rintro e w9 ⟨v545, rfl, ho0, hb⟩; refine ⟨_, rfl, ?_⟩; have n0_ := Aside0.mk (Kd.R_lower ho0 (below_size (by repeat (first | (with_reducible first | exact HB.out | apply below_alloc | apply pw_below_drewN | apply below_drew1) | exact HB.out)))); have n1_ := Aside0.mk (below_step (by repeat (first | (with_reducible first | exact HB.out | apply below_alloc | apply pw_below_drewN | apply below_drew1) | exact HB.out)) hb); clear HB; have HO546 := n0_; have HB := n1_; clear n0_ n1_; (try clear hb); (try clear hb2); (try clear hk); (try clear hi); (try clear ho0); obtain ⟨Ao10, co10, eo10⟩ := Kd.R_slice HO546.out; subst eo10) | (go_at_call 15; (with_reducible refine (impl_AreMarks.calls k 100 _ _ t543 true _ ?side1 ?side2 A7.out).mono ?_); (case side1 => repeat (first | exact (Kd.R_reads' HO546.out).2.2 | (with_reducible refine Kd.C_alloc ?_ _) | (with_reducible refine Kd.C_drewN ?_ _) | (with_reducible refine Kd.C_drew ?_))); (case side2 => exact (Kd.R_reads' HO546.out).2.1); rintro e w' ⟨rfl, ⟨nd, rfl⟩⟩))
        go_ret2
        exact ⟨_, by first | rfl | (simp [errW_none, errW_some] <;> rfl) | (simp [*, errW_none, errW_some] <;> rfl), by (with_reducible repeat (first | apply Kd.R_alloc | apply Kd.R_drewN | apply Kd.R_drew)); exact HO546.out, by repeat (first | (with_reducible first | exact HB.out | apply below_alloc | apply pw_below_drewN | apply below_drew1) | exact HB.out)⟩
      · replace c8 := Bool.eq_false_iff.mpr c8
        subst c8
        have H1 : (some (([] : List Int), false)) = some (r1, r2) := by rw [if_neg (show ¬ (false = true) by decide)] at H; exact H
        clear H
        have H := H1
        clear H1
        simp only [Option.some.injEq, Prod.mk.injEq] at H
        obtain ⟨rfl, rfl⟩ := H
        go_enter Tryz.func38, Tryz.ntmps38
        go_wp2_with (first | ((with_reducible refine gate_callee (f := 74) rfl ?_); refine goesL_ (some 11) rfl rfl Tryz.func74 (by kernel_rfl) rfl #[.string a0, .string (⟨#[45]⟩ : ByteArray)] rfl (by (try simp only [List.map_toArray, List.map_cons, List.map_nil]); first | done | rfl | (simp only [List.length_drop, List.length_take]; rfl)) ?_; (with_reducible refine (impl_readNumbers.calls a0 (⟨#[45]⟩ : ByteArray) t543 true _ A5.out (HT.out.below ?hbP_)).mono ?_); (case hbP_ => exact (by repeat (first | (with_reducible first | exact HB.out | apply below_alloc | apply pw_below_drewN | apply below_drew1) | exact HB.out))); rintro e w11 ⟨v545, rfl, ho0, hb⟩; refine ⟨_, rfl, ?_⟩; have n0_ := Aside0.mk (Kd.R_lower ho0 (below_size (by repeat (first | (with_reducible first | exact HB.out | apply below_alloc | apply pw_below_drewN | apply below_drew1) | exact HB.out)))); have n1_ := Aside0.mk (below_step (by repeat (first | (with_reducible first | exact HB.out | apply below_alloc | apply pw_below_drewN | apply below_drew1) | exact HB.out)) hb); clear HB; have HO546 := n0_; have HB := n1_; clear n0_ n1_; (try clear hb); (try clear hb2); (try clear hk); (try clear hi); (try clear ho0); obtain ⟨Ao12, co12, eo12⟩ := Kd.R_slice HO546.out; subst eo12) | (go_at_call 15; (with_reducible refine (impl_AreMarks.calls k 100 _ _ t543 false _ ?side1 ?side2 A7.out).mono ?_); (case side1 => repeat (first | exact (Kd.R_reads' HO546.out).2.2 | (with_reducible refine Kd.C_alloc ?_ _) | (with_reducible refine Kd.C_drewN ?_ _) | (with_reducible refine Kd.C_drew ?_))); (case side2 => exact (Kd.R_reads' HO546.out).2.1); rintro e w' ⟨rfl, ⟨nd, rfl⟩⟩))
        go_ret2
        exact ⟨_, by first | rfl | (simp [errW_none, errW_some] <;> rfl) | (simp [*, errW_none, errW_some] <;> rfl), by first | exact Kd.R_nil _ _ _ _ _ | exact Kd.N_nil _ _ _ _ _ | exact Kd.V_nil _ _ _ _ _ | exact Kd.Q_nil _ _ _ _ _ | exact Kd.S_nil _ _ _ _ _, by repeat (first | (with_reducible first | exact HB.out | apply below_alloc | apply pw_below_drewN | apply below_drew1) | exact HB.out)⟩
    · replace c6 := Bool.eq_false_iff.mpr c6
      subst c6
      have H1 : (some (([] : List Int), false)) = some (r1, r2) := by rw [if_neg (show ¬ (false = true) by decide)] at H; exact H
      clear H
      have H := H1
      clear H1
      simp only [Option.some.injEq, Prod.mk.injEq] at H
      obtain ⟨rfl, rfl⟩ := H
      go_enter Tryz.func38, Tryz.ntmps38
      go_wp2_with (first | ((with_reducible refine gate_callee (f := 74) rfl ?_); refine goesL_ (some 11) rfl rfl Tryz.func74 (by kernel_rfl) rfl #[.string a0, .string (⟨#[45]⟩ : ByteArray)] rfl (by (try simp only [List.map_toArray, List.map_cons, List.map_nil]); first | done | rfl | (simp only [List.length_drop, List.length_take]; rfl)) ?_; (with_reducible refine (impl_readNumbers.calls a0 (⟨#[45]⟩ : ByteArray) t543 false _ A5.out (HT.out.below ?hbP_)).mono ?_); (case hbP_ => exact (by repeat (first | (with_reducible first | exact HB.out | apply below_alloc | apply pw_below_drewN | apply below_drew1) | exact HB.out))); rintro e w13 ⟨v545, rfl, ho0, hb⟩; refine ⟨_, rfl, ?_⟩; have n0_ := Aside0.mk (Kd.R_lower ho0 (below_size (by repeat (first | (with_reducible first | exact HB.out | apply below_alloc | apply pw_below_drewN | apply below_drew1) | exact HB.out)))); have n1_ := Aside0.mk (below_step (by repeat (first | (with_reducible first | exact HB.out | apply below_alloc | apply pw_below_drewN | apply below_drew1) | exact HB.out)) hb); clear HB; have HO546 := n0_; have HB := n1_; clear n0_ n1_; (try clear hb); (try clear hb2); (try clear hk); (try clear hi); (try clear ho0)))
      go_ret2
      exact ⟨_, by first | rfl | (simp [errW_none, errW_some] <;> rfl) | (simp [*, errW_none, errW_some] <;> rfl), by first | exact Kd.R_nil _ _ _ _ _ | exact Kd.N_nil _ _ _ _ _ | exact Kd.V_nil _ _ _ _ _ | exact Kd.Q_nil _ _ _ _ _ | exact Kd.S_nil _ _ _ _ _, by repeat (first | (with_reducible first | exact HB.out | apply below_alloc | apply pw_below_drewN | apply below_drew1) | exact HB.out)⟩

/-! ### spec_stParse: function 75 -/
def spec_stParse.l0 : Nat → List Int → List ByteArray → Int → Int → Option (List Int × Bool)
  | 0, _, _, _, _ => none
  | k + 1, x4, x14, x15, x16 => if x16 < x15 then (if 0 ≤ x16 then (if x16 < (x14.length : Int) then ((spec_l1Read.f k (rdOf ByteArray.empty x14 x16)).bind fun t559 => (if x4.length < 17592186044416 then (spec_stParse.l0 k (x4 ++ [t559]) x14 x15 (wrap64 (x16 + 1))) else (none))) else (none)) else (none)) else ((spec_stGood.f k 100 x4).bind fun t563 => (if t563 = true then (some (x4, true)) else (some (([] : List Int), false))))
def spec_stParse.f (k : Nat) (a0 : ByteArray) : Option (List Int × Bool) := if a0.toList = ([] : List UInt8) then (some (([] : List Int), true)) else (if (a0.size : Int) > 300 then (some (([] : List Int), false)) else ((spec_l1Split.f k a0 45).bind fun t555 => (spec_stParse.l0 k ([] : List Int) t555 (t555.length : Int) 0)))
set_option maxHeartbeats 8000000 in
set_option maxRecDepth 100000 in
theorem spec_stParse.calls (k : Nat) (a0 : ByteArray) (r1 : List Int) (r2 : Bool) (w : World) (h : spec_stParse.f k a0 = some (r1, r2)) :
    Calls Tryz.prog 75 #[.string a0] w fun e w' => ∃ v0_ : Value, e = .returned (.tuple #[v0_, .bool r2]) ∧ Kd.R (Kd.int .i64) 3 w' w.heap.size (fun _ => True) v0_ r1 ∧ Below w.heap.size w w' := by
  have HB := Aside0.mk (Below.refl w.heap.size w)
  have H : (if a0.toList = ([] : List UInt8) then (some (([] : List Int), true)) else (if (a0.size : Int) > 300 then (some (([] : List Int), false)) else ((spec_l1Split.f k a0 45).bind fun t555 => (spec_stParse.l0 k ([] : List Int) t555 (t555.length : Int) 0)))) = some (r1, r2) := h
  clear h
  by_cases c2 : a0.toList = ([] : List UInt8)
  · rw [if_pos c2] at H
    have c2b0 : (a0.toList == ([] : List UInt8)) = true := beq_iff_eq.mpr c2
    have c2b1 : (a0.toList != ([] : List UInt8)) = false := bne_eq_false_iff_eq.mpr c2
    clear c2
    simp only [Option.some.injEq, Prod.mk.injEq] at H
    obtain ⟨rfl, rfl⟩ := H
    go_enter Tryz.func75, Tryz.ntmps75
    go_wp2
    go_ret2
    exact ⟨_, by first | rfl | (simp [errW_none, errW_some] <;> rfl) | (simp [*, errW_none, errW_some] <;> rfl), by first | exact Kd.R_nil _ _ _ _ _ | exact Kd.N_nil _ _ _ _ _ | exact Kd.V_nil _ _ _ _ _ | exact Kd.Q_nil _ _ _ _ _ | exact Kd.S_nil _ _ _ _ _, by repeat (first | (with_reducible first | exact HB.out | apply below_alloc | apply pw_below_drewN | apply below_drew1) | exact HB.out)⟩
  · rw [if_neg c2] at H
    have c2b0 : (a0.toList == ([] : List UInt8)) = false := beq_eq_false_iff_ne.mpr c2
    have c2b1 : (a0.toList != ([] : List UInt8)) = true := bne_iff_ne.mpr c2
    by_cases c3 : (a0.size : Int) > 300
    · rw [if_pos c3] at H
      have c3b0 : decide (300 < (a0.size : Int)) = true := decide_eq_true c3
      have c3b1 : decide (300 < a0.size) = true := decide_eq_true (by omega)
      clear c3
      simp only [Option.some.injEq, Prod.mk.injEq] at H
      obtain ⟨rfl, rfl⟩ := H
      go_enter Tryz.func75, Tryz.ntmps75
      go_wp2
      go_ret2
      exact ⟨_, by first | rfl | (simp [errW_none, errW_some] <;> rfl) | (simp [*, errW_none, errW_some] <;> rfl), by first | exact Kd.R_nil _ _ _ _ _ | exact Kd.N_nil _ _ _ _ _ | exact Kd.V_nil _ _ _ _ _ | exact Kd.Q_nil _ _ _ _ _ | exact Kd.S_nil _ _ _ _ _, by repeat (first | (with_reducible first | exact HB.out | apply below_alloc | apply pw_below_drewN | apply below_drew1) | exact HB.out)⟩
    · rw [if_neg c3] at H
      have c3b0 : decide (300 < (a0.size : Int)) = false := decide_eq_false c3
      have c3b1 : decide (300 < a0.size) = false := decide_eq_false (by omega)
      clear c3
      replace H := Option.bind_eq_some_iff.mp H
      obtain ⟨t555, A40, H⟩ := H
      replace H : (spec_stParse.l0 k ([] : List Int) t555 (t555.length : Int) 0) = some (r1, r2) := H
      have A4 := Aside0.mk A40
      clear A40
      have H' := Aside0.mk H
      clear H
      go_enter Tryz.func75, Tryz.ntmps75
      go_wp2_with (first | ((with_reducible refine gate_callee (f := 94) rfl ?_); refine goesL_ (some 14) rfl rfl Tryz.func94 (by kernel_rfl) rfl #[.string a0, .int .u8 45] rfl (by (try simp only [List.map_toArray, List.map_cons, List.map_nil]); first | done | rfl | (simp only [List.length_drop, List.length_take]; rfl)) ?_; (with_reducible refine (spec_l1Split.calls k a0 45 t555 _ A4.out).mono ?_); rintro e w5 ⟨v556, rfl, ho0, hb⟩; refine ⟨_, rfl, ?_⟩; have n0_ := Aside0.mk (Kd.R_lower ho0 (below_size (by repeat (first | (with_reducible first | exact HB.out | apply below_alloc | apply pw_below_drewN | apply below_drew1) | exact HB.out)))); have n1_ := Aside0.mk (below_step (by repeat (first | (with_reducible first | exact HB.out | apply below_alloc | apply pw_below_drewN | apply below_drew1) | exact HB.out)) hb); clear HB; have HO557 := n0_; have HB := n1_; clear n0_ n1_; (try clear hb); (try clear hb2); (try clear hk); (try clear hi); (try clear ho0); obtain ⟨Ao6, co6, eo6⟩ := Kd.R_slice HO557.out; subst eo6))
      go_loopg [4, 16] k (fun kq v4 v16 w' => ∃ (x4_1 : List Int) (x16_1 : Int), v16 = .int .i64 x16_1 ∧ Aside0 (spec_stParse.l0 kq x4_1 t555 (t555.length : Int) x16_1 = some (r1, r2)) ∧ Aside0 (kq ≤ k) ∧ Aside0 (Kd.R (Kd.int .i64) 3 w' w.heap.size (fun _ => True) v4 x4_1) ∧ Aside0 (Kd.R Kd.string 9 w' w.heap.size (fun _ => True) (.slice Ao6 t555.length co6) t555) ∧ Aside0 (Below w.heap.size w w'))
      case atStart => exact ⟨(([] : List Int)), (0), (by first | rfl | (simp; done) | (simp [*]; done)), H', ⟨Nat.le_refl _⟩, ⟨by first | exact Kd.R_nil _ _ _ _ _ | exact Kd.N_nil _ _ _ _ _ | exact Kd.V_nil _ _ _ _ _ | exact Kd.Q_nil _ _ _ _ _ | exact Kd.S_nil _ _ _ _ _⟩, ⟨by (with_reducible repeat (first | apply Kd.R_alloc | apply Kd.R_drewN | apply Kd.R_drew)); exact HO557.out⟩, ⟨by repeat (first | (with_reducible first | exact HB.out | apply below_alloc | apply pw_below_drewN | apply below_drew1) | exact HB.out)⟩⟩
      case round =>
        clear H'
        try clear c2
        try clear c2b0
        try clear c2b1
        try clear p2
        try clear c3
        try clear c3b0
        try clear c3b1
        obtain ⟨x4_1, x16_1, rfl, HA, HK1, HO_4, HO_14, HB⟩ := hrel
        cases gk with
        | zero => exact absurd HA.out (by simp [spec_stParse.l0])
        | succ k1 =>
          have H := HA.out
          clear HA
          simp only [spec_stParse.l0] at H
          by_cases c7 : x16_1 < (t555.length : Int)
          · rw [if_pos c7] at H
            have c7b0 : decide (x16_1 < (t555.length : Int)) = true := decide_eq_true c7
            clear c7
            by_cases c8 : 0 ≤ x16_1
            · rw [if_pos c8] at H
              have c8b0 : decide (0 ≤ x16_1) = true := decide_eq_true c8
              clear c8
              by_cases c9 : x16_1 < (t555.length : Int)
              · rw [if_pos c9] at H
                have c9b0 : decide (x16_1 < (t555.length : Int)) = true := decide_eq_true c9
                clear c9
                replace H := Option.bind_eq_some_iff.mp H
                obtain ⟨t559, A100, H⟩ := H
                replace H : (if x4_1.length < 17592186044416 then (spec_stParse.l0 k1 (x4_1 ++ [t559]) t555 (t555.length : Int) (wrap64 (x16_1 + 1))) else (none)) = some (r1, r2) := H
                have A10 := Aside0.mk A100
                clear A100
                by_cases c11 : x4_1.length < 17592186044416
                · rw [if_pos c11] at H
                  have LMc11 := Aside0.mk c11
                  clear c11
                  obtain ⟨y560, hy560⟩ : ∃ y_ : List Int, y_ = (x4_1 ++ [t559]) := ⟨_, rfl⟩
                  replace H : (spec_stParse.l0 k1 y560 t555 (t555.length : Int) (wrap64 (x16_1 + 1))) = some (r1, r2) := by first | (rw [hy560]; with_reducible exact H) | (have H2_ := (Option.bind_some _ _).symm.trans H; rw [hy560]; with_reducible exact H2_) | (have H2_ := (Option.bind_some _ _).symm.trans H; with_reducible exact H2_) | with_reducible exact H | (rw [hy560]; exact H) | exact H
                  have Ny560 := Aside0.mk hy560
                  clear hy560
                  have H' := Aside0.mk H
                  clear H
                  have p558 : 0 ≤ (x16_1 : Int) := of_decide_eq_true (by first | (with_reducible assumption) | assumption)
                  have q558 : x16_1 < (t555.length : Int) := of_decide_eq_true (by first | (with_reducible assumption) | assumption)
                  obtain ⟨ad558, e558, hx558_0⟩ := Kd.at_string (Kd.R_reads' HO_14.out).2.2 x16_1 p558 q558
                  cases e558
                  replace p558 := eq_true p558
                  replace q558 := eq_true q558
                  go_wp2_with (first | ((with_reducible refine gate_callee (f := 95) rfl ?_); refine goesL_ (some 22) rfl rfl Tryz.func95 (by kernel_rfl) rfl #[.string (rdOf ByteArray.empty t555 x16_1)] rfl (by (try simp only [List.map_toArray, List.map_cons, List.map_nil]); first | done | rfl | (simp only [List.length_drop, List.length_take]; rfl)) ?_; (with_reducible refine (spec_l1Read.calls k1 (rdOf ByteArray.empty t555 x16_1) t559 _ A10.out).mono ?_); rintro e w' ⟨rfl, ⟨nd, rfl⟩⟩; refine ⟨_, rfl, ?_⟩) | ((with_reducible refine gate_builtin (b := .append) (xs := #[.tmp 20, .tmp 23]) rfl ?_); at_builtin; refine Kd.R_append (Kd.int .i64) (w0 := w) w.heap.size rfl (.tmp 20) (.tmp 23) 24 3 (.int .i64 0) 8 rfl Tryz.underlying24 info3 rfl (by decide) (by omega) u4 x4_1 t559 [.int .i64 t559] (fun _ => True) (fun _ => False) rfl rfl ?aP (fun _ hk => hk.elim) ?aF ?aO ?aB ?aS ?aL ?_; (case aP => exact rfl); (case aB => exact (by repeat (first | (with_reducible first | exact HB.out | apply below_alloc | apply pw_below_drewN | apply below_drew1) | exact HB.out))); (case aF => exact (fun _ _ => trivial)); (case aO => exact (by (with_reducible repeat (first | apply Kd.R_alloc | apply Kd.R_drewN | apply Kd.R_drew)); exact HO_4.out)); (case aS => exact (below_size (by repeat (first | (with_reducible first | exact HB.out | apply below_alloc | apply pw_below_drewN | apply below_drew1) | exact HB.out)))); (case aL => have := LMc11.out; omega); intro v561 w12 ho hb hg hat; rw [← Ny560.out] at ho; have n0_ := Aside0.mk (Kd.R_over' (by (with_reducible repeat (first | apply Kd.R_alloc | apply Kd.R_drewN | apply Kd.R_drew)); exact HO_14.out) (Kd.R_typed (by (with_reducible repeat (first | apply Kd.R_alloc | apply Kd.R_drewN | apply Kd.R_drew)); exact HO_4.out)) (by decide) hg); have n1_ := Aside0.mk (hb); have n2_ := Aside0.mk (ho); clear HO_14; clear HB; clear HO_4; have HO_14 := n0_; have HB := n1_; have HO562 := n2_; clear n0_ n1_ n2_; clear ho hb hg hat))
                  go_roundg k1
                  case measure => have := HK1.out; omega
                  case rel => exact ⟨(y560), (wrap64 (x16_1 + 1)), (by first | rfl | (simp; done) | (simp [*]; done)), H', ⟨by have := HK1.out; omega⟩, ⟨by (with_reducible repeat (first | apply Kd.R_alloc | apply Kd.R_drewN | apply Kd.R_drew)); exact HO562.out⟩, ⟨by (with_reducible repeat (first | apply Kd.R_alloc | apply Kd.R_drewN | apply Kd.R_drew)); exact HO_14.out⟩, ⟨by repeat (first | (with_reducible first | exact HB.out | apply below_alloc | apply pw_below_drewN | apply below_drew1) | exact HB.out)⟩⟩
                · rw [if_neg c11] at H
                  exact absurd H (by simp)
              · rw [if_neg c9] at H
                exact absurd H (by simp)
            · rw [if_neg c8] at H
              exact absurd H (by simp)
          · rw [if_neg c7] at H
            have c7b0 : decide (x16_1 < (t555.length : Int)) = false := decide_eq_false c7
            clear c7
            replace H := Option.bind_eq_some_iff.mp H
            obtain ⟨t563, A130, H⟩ := H
            replace H : (if t563 = true then (some (x4_1, true)) else (some (([] : List Int), false))) = some (r1, r2) := H
            have A13 := Aside0.mk A130
            clear A130
            by_cases c14 : t563 = true
            · subst c14
              have H1 : (some (x4_1, true)) = some (r1, r2) := by rw [if_pos rfl] at H; exact H
              clear H
              have H := H1
              clear H1
              simp only [Option.some.injEq, Prod.mk.injEq] at H
              obtain ⟨rfl, rfl⟩ := H
              obtain ⟨Ao15, co15, eo15⟩ := Kd.R_slice HO_4.out
              subst eo15
              go_wp2_with (first | ((with_reducible refine gate_callee (f := 45) rfl ?_); refine goesL_ (some 27) rfl rfl Tryz.func45 (by kernel_rfl) rfl #[.int .i64 100, .slice Ao15 x4_1.length co15] rfl (by (try simp only [List.map_toArray, List.map_cons, List.map_nil]); first | done | rfl | (simp only [List.length_drop, List.length_take]; rfl)) ?_; (with_reducible refine (spec_stGood.calls k1 100 _ _ x4_1 true _ ?side1 ?side2 A13.out).mono ?_); (case side1 => repeat (first | exact (Kd.R_reads' HO_4.out).2.2 | (with_reducible refine Kd.C_alloc ?_ _) | (with_reducible refine Kd.C_drewN ?_ _) | (with_reducible refine Kd.C_drew ?_))); (case side2 => exact (Kd.R_reads' HO_4.out).2.1); rintro e w' ⟨rfl, ⟨nd, rfl⟩⟩; refine ⟨_, rfl, ?_⟩))
              go_ret2
              exact ⟨_, by first | rfl | (simp [errW_none, errW_some] <;> rfl) | (simp [*, errW_none, errW_some] <;> rfl), by (with_reducible repeat (first | apply Kd.R_alloc | apply Kd.R_drewN | apply Kd.R_drew)); exact HO_4.out, by repeat (first | (with_reducible first | exact HB.out | apply below_alloc | apply pw_below_drewN | apply below_drew1) | exact HB.out)⟩
            · replace c14 := Bool.eq_false_iff.mpr c14
              subst c14
              have H1 : (some (([] : List Int), false)) = some (r1, r2) := by rw [if_neg (show ¬ (false = true) by decide)] at H; exact H
              clear H
              have H := H1
              clear H1
              simp only [Option.some.injEq, Prod.mk.injEq] at H
              obtain ⟨rfl, rfl⟩ := H
              obtain ⟨Ao16, co16, eo16⟩ := Kd.R_slice HO_4.out
              subst eo16
              go_wp2_with (first | ((with_reducible refine gate_callee (f := 45) rfl ?_); refine goesL_ (some 27) rfl rfl Tryz.func45 (by kernel_rfl) rfl #[.int .i64 100, .slice Ao16 x4_1.length co16] rfl (by (try simp only [List.map_toArray, List.map_cons, List.map_nil]); first | done | rfl | (simp only [List.length_drop, List.length_take]; rfl)) ?_; (with_reducible refine (spec_stGood.calls k1 100 _ _ x4_1 false _ ?side1 ?side2 A13.out).mono ?_); (case side1 => repeat (first | exact (Kd.R_reads' HO_4.out).2.2 | (with_reducible refine Kd.C_alloc ?_ _) | (with_reducible refine Kd.C_drewN ?_ _) | (with_reducible refine Kd.C_drew ?_))); (case side2 => exact (Kd.R_reads' HO_4.out).2.1); rintro e w' ⟨rfl, ⟨nd, rfl⟩⟩; refine ⟨_, rfl, ?_⟩))
              go_ret2
              exact ⟨_, by first | rfl | (simp [errW_none, errW_some] <;> rfl) | (simp [*, errW_none, errW_some] <;> rfl), by first | exact Kd.R_nil _ _ _ _ _ | exact Kd.N_nil _ _ _ _ _ | exact Kd.V_nil _ _ _ _ _ | exact Kd.Q_nil _ _ _ _ _ | exact Kd.S_nil _ _ _ _ _, by repeat (first | (with_reducible first | exact HB.out | apply below_alloc | apply pw_below_drewN | apply below_drew1) | exact HB.out)⟩

/-! behind spec_stParse -/
theorem stParse_l0 (ws : List (List UInt8)) (hw : ws.length ≤ 1000001) : ∀ (d k i : Nat), i ≤ ws.length → ws.length - i = d → 1000100 + d < k → spec_stParse.l0 k ((ws.take i).map rd1) (ws.map baOf) (ws.length : Int) (i : Int) = some (if risL 1 100 0 (ws.map rd1) = true then (ws.map rd1, true) else ([], false))
  | 0, k, i, hi, hd, hk => by
    obtain ⟨k, rfl⟩ : ∃ m, k = m + 1 := ⟨k - 1, by omega⟩
    have hst := spec_stGood_is 100 (ws.map rd1) (by rw [List.length_map]; omega) k (by rw [List.length_map]; omega)
    rw [spec_stParse.l0, if_neg (by omega), List.take_of_length_le (by omega), hst, Option.bind_some]
    rw [show (decide (0 ≤ (100 : Int)) && decide ((100 : Int) ≤ 100)) = true from rfl, Bool.true_and]
    by_cases h : risL 1 100 0 (ws.map rd1) = true
    · rw [if_pos h, if_pos h]
    · rw [if_neg h, if_neg h]
  | d + 1, k, i, hi, hd, hk => by
    obtain ⟨k, rfl⟩ : ∃ m, k = m + 1 := ⟨k - 1, by omega⟩
    have hlt : i < ws.length := by omega
    have e2 : wrap64 ((i : Int) + 1) = ((i + 1 : Nat) : Int) := by unfold wrap64; omega
    have hr : rdOf ByteArray.empty (ws.map baOf) (i : Int) = baOf ws[i] := by
      unfold rdOf
      rw [Int.toNat_natCast, List.getD_eq_getElem?_getD, List.getElem?_map, List.getElem?_eq_getElem hlt]; rfl
    have ih := stParse_l0 ws hw d k (i + 1) (by omega) (by omega) (by omega)
    have et : ws.take (i + 1) = ws.take i ++ [ws[i]] := by rw [List.take_add_one, List.getElem?_eq_getElem hlt]; rfl
    rw [et, List.map_append, List.map_singleton] at ih
    rw [spec_stParse.l0, if_pos (by clear e2; omega), if_pos (by clear e2; omega), if_pos (by rw [List.length_map]; clear e2; omega), hr, l1Read_is ws[i] k (by clear e2; omega), Option.bind_some, if_pos (by rw [List.length_map, List.length_take]; clear e2; omega), e2, ih]

/-! ### spec_ParseMarks: function 39 -/
def spec_ParseMarks.f (k : Nat) (a0 : ByteArray) : Option (List Int × Bool) := (spec_stParse.f k a0).bind fun bt564 => (some (bt564.1, bt564.2))
set_option maxHeartbeats 8000000 in
set_option maxRecDepth 100000 in
theorem spec_ParseMarks.calls (k : Nat) (a0 : ByteArray) (r1 : List Int) (r2 : Bool) (w : World) (h : spec_ParseMarks.f k a0 = some (r1, r2)) :
    Calls Tryz.prog 39 #[.string a0] w fun e w' => ∃ v0_ : Value, e = .returned (.tuple #[v0_, .bool r2]) ∧ Kd.R (Kd.int .i64) 3 w' w.heap.size (fun _ => True) v0_ r1 ∧ Below w.heap.size w w' := by
  have HB := Aside0.mk (Below.refl w.heap.size w)
  have H : ((spec_stParse.f k a0).bind fun bt564 => (some (bt564.1, bt564.2))) = some (r1, r2) := h
  clear h
  replace H := Option.bind_eq_some_iff.mp H
  obtain ⟨⟨t564, t565⟩, A20, H⟩ := H
  replace H : (some (t564, t565)) = some (r1, r2) := H
  have A2 := Aside0.mk A20
  clear A20
  simp only [Option.some.injEq, Prod.mk.injEq] at H
  obtain ⟨rfl, rfl⟩ := H
  go_enter Tryz.func39, Tryz.ntmps39
  go_wp2_with (first | ((with_reducible refine gate_callee (f := 75) rfl ?_); refine goesL_ (some 5) rfl rfl Tryz.func75 (by kernel_rfl) rfl #[.string a0] rfl (by (try simp only [List.map_toArray, List.map_cons, List.map_nil]); first | done | rfl | (simp only [List.length_drop, List.length_take]; rfl)) ?_; (with_reducible refine (spec_stParse.calls k a0 t564 t565 _ A2.out).mono ?_); rintro e w3 ⟨v566, rfl, ho0, hb⟩; refine ⟨_, rfl, ?_⟩; have n0_ := Aside0.mk (Kd.R_lower ho0 (below_size (by repeat (first | (with_reducible first | exact HB.out | apply below_alloc | apply pw_below_drewN | apply below_drew1) | exact HB.out)))); have n1_ := Aside0.mk (below_step (by repeat (first | (with_reducible first | exact HB.out | apply below_alloc | apply pw_below_drewN | apply below_drew1) | exact HB.out)) hb); clear HB; have HO567 := n0_; have HB := n1_; clear n0_ n1_; (try clear hb); (try clear hb2); (try clear hk); (try clear hi); (try clear ho0)))
  go_ret2
  exact ⟨_, by first | rfl | (simp [errW_none, errW_some] <;> rfl) | (simp [*, errW_none, errW_some] <;> rfl), by (with_reducible repeat (first | apply Kd.R_alloc | apply Kd.R_drewN | apply Kd.R_drew)); exact HO567.out, by repeat (first | (with_reducible first | exact HB.out | apply below_alloc | apply pw_below_drewN | apply below_drew1) | exact HB.out)⟩

/-! ### laws_eDrops: function 40 -/
def laws_eDrops.l0 : Nat → List (S65) → List (S65) → Int → Int → Option (Bool)
  | 0, _, _, _, _ => none
  | k + 1, x0, x1, x12, x13 => if x13 < x12 then (if 0 ≤ x13 then (if x13 < (x0.length : Int) then (if x13 < (x1.length : Int) then (if (!(((rd_T65 x0 x13).f0) == ((rd_T65 x1 x13).f0)) || (!(((rd_T65 x0 x13).f1) == ((rd_T65 x1 x13).f1)))) = true then (some false) else (laws_eDrops.l0 k x0 x1 x12 (wrap64 (x13 + 1)))) else (none)) else (none)) else (none)) else (some true)
def laws_eDrops.f (k : Nat) (l0 : List (S65)) (l1 : List (S65)) : Option (Bool) := if (l0.length : Int) = (l1.length : Int) then (laws_eDrops.l0 k l0 l1 (l0.length : Int) 0) else (some false)
set_option maxHeartbeats 8000000 in
set_option maxRecDepth 100000 in
theorem laws_eDrops.calls (k : Nat) (A0 : Option Addr) (c0 : Nat) (l0 : List (S65)) (A1 : Option Addr) (c1 : Nat) (l1 : List (S65)) (r : Bool) (w : World) (hr0 : Kd.C k65 w A0 l0.length l0) (hc0 : l0.length ≤ c0) (hr1 : Kd.C k65 w A1 l1.length l1) (hc1 : l1.length ≤ c1) (h : laws_eDrops.f k l0 l1 = some r) :
    Calls Tryz.prog 40 #[.slice A0 l0.length c0, .slice A1 l1.length c1] w fun e w' => e = .returned (.bool r) ∧ Drawn0 w w' := by
  have hu65 := Tryz.underlying65
  have HR0 := Aside0.mk hr0
  have HC0 := Aside0.mk hc0
  clear hr0 hc0
  have HR1 := Aside0.mk hr1
  have HC1 := Aside0.mk hc1
  clear hr1 hc1
  have H : (if (l0.length : Int) = (l1.length : Int) then (laws_eDrops.l0 k l0 l1 (l0.length : Int) 0) else (some false)) = some r := h
  clear h
  by_cases c3 : (l0.length : Int) = (l1.length : Int)
  · rw [if_pos c3] at H
    have c3b0 : ((l0.length : Int) == (l1.length : Int)) = true := beq_iff_eq.mpr c3
    have c3b1 : ((l0.length : Int) != (l1.length : Int)) = false := bne_eq_false_iff_eq.mpr c3
    have c3b2 : (l0.length == l1.length) = true := by first | simpa using c3 | (simp at c3 ⊢; omega)
    clear c3
    have H' := Aside0.mk H
    clear H
    go_enter Tryz.func40, Tryz.ntmps40
    go_wp2
    repeat (go_quiet (fail); try go_wp2)
    go_loopg [13] k (fun kq v13 w' => ∃ (x13_1 : Int), v13 = .int .i64 x13_1 ∧ Aside0 (laws_eDrops.l0 kq l0 l1 (l0.length : Int) x13_1 = some r) ∧ Aside0 (kq ≤ k) ∧ Drawn0 w w')
    case atStart => exact ⟨(0), (by first | rfl | (simp; done) | (simp [*]; done)), H', ⟨Nat.le_refl _⟩, by repeat (first | exact Drawn0.refl _ | apply Drawn0.step)⟩
    case round =>
      clear H'
      try clear c1
      try clear p2
      try clear c3
      try clear c3b0
      try clear c3b1
      try clear c3b2
      obtain ⟨x13_1, rfl, HA, HK1, ⟨m1, rfl⟩⟩ := hrel
      cases gk with
      | zero => exact absurd HA.out (by simp [laws_eDrops.l0])
      | succ k1 =>
        have H := HA.out
        clear HA
        simp only [laws_eDrops.l0] at H
        by_cases c4 : x13_1 < (l0.length : Int)
        · rw [if_pos c4] at H
          have c4b0 : decide (x13_1 < (l0.length : Int)) = true := decide_eq_true c4
          clear c4
          by_cases c5 : 0 ≤ x13_1
          · rw [if_pos c5] at H
            have c5b0 : decide (0 ≤ x13_1) = true := decide_eq_true c5
            clear c5
            by_cases c6 : x13_1 < (l0.length : Int)
            · rw [if_pos c6] at H
              have c6b0 : decide (x13_1 < (l0.length : Int)) = true := decide_eq_true c6
              clear c6
              by_cases c7 : x13_1 < (l1.length : Int)
              · rw [if_pos c7] at H
                have c7b0 : decide (x13_1 < (l1.length : Int)) = true := decide_eq_true c7
                clear c7
                by_cases c8 : (!(((rd_T65 l0 x13_1).f0) == ((rd_T65 l1 x13_1).f0)) || (!(((rd_T65 l0 x13_1).f1) == ((rd_T65 l1 x13_1).f1)))) = true
                · rw [if_pos c8] at H
                  have c8b0 : (!(((rd_T65 l0 x13_1).f0) == ((rd_T65 l1 x13_1).f0)) || (!(((rd_T65 l0 x13_1).f1) == ((rd_T65 l1 x13_1).f1)))) = true := c8
                  clear c8
                  obtain rfl := Option.some.inj H
                  have p568 : 0 ≤ (x13_1 : Int) := of_decide_eq_true (by first | (with_reducible assumption) | assumption)
                  have q568 : x13_1 < (l0.length : Int) := of_decide_eq_true (by first | (with_reducible assumption) | assumption)
                  obtain ⟨ad568, e568, hx568_0, hx568_1⟩ := at_T65 HR0.out x13_1 p568 q568
                  cases e568
                  replace p568 := eq_true p568
                  replace q568 := eq_true q568
                  have p569 : 0 ≤ (x13_1 : Int) := of_decide_eq_true (by first | (with_reducible assumption) | assumption)
                  have q569 : x13_1 < (l1.length : Int) := of_decide_eq_true (by first | (with_reducible assumption) | assumption)
                  obtain ⟨ad569, e569, hx569_0, hx569_1⟩ := at_T65 HR1.out x13_1 p569 q569
                  cases e569
                  replace p569 := eq_true p569
                  replace q569 := eq_true q569
                  go_wp2
                  repeat (go_quiet (fail); try go_wp2)
                  go_ret
                  exact ⟨by first | rfl | (simp; done) | (simp [*]; done), by repeat (first | exact Drawn0.refl _ | apply Drawn0.step)⟩
                · rw [if_neg c8] at H
                  have c8b0 : (!(((rd_T65 l0 x13_1).f0) == ((rd_T65 l1 x13_1).f0)) || (!(((rd_T65 l0 x13_1).f1) == ((rd_T65 l1 x13_1).f1)))) = false := by simpa using c8
                  clear c8
                  have H' := Aside0.mk H
                  clear H
                  have p568 : 0 ≤ (x13_1 : Int) := of_decide_eq_true (by first | (with_reducible assumption) | assumption)
                  have q568 : x13_1 < (l0.length : Int) := of_decide_eq_true (by first | (with_reducible assumption) | assumption)
                  obtain ⟨ad568, e568, hx568_0, hx568_1⟩ := at_T65 HR0.out x13_1 p568 q568
                  cases e568
                  replace p568 := eq_true p568
                  replace q568 := eq_true q568
                  have p569 : 0 ≤ (x13_1 : Int) := of_decide_eq_true (by first | (with_reducible assumption) | assumption)
                  have q569 : x13_1 < (l1.length : Int) := of_decide_eq_true (by first | (with_reducible assumption) | assumption)
                  obtain ⟨ad569, e569, hx569_0, hx569_1⟩ := at_T65 HR1.out x13_1 p569 q569
                  cases e569
                  replace p569 := eq_true p569
                  replace q569 := eq_true q569
                  go_wp2
                  repeat (go_quiet (fail); try go_wp2)
                  go_roundg k1
                  case measure => have := HK1.out; omega
                  case rel => exact ⟨(wrap64 (x13_1 + 1)), (by first | rfl | (simp; done) | (simp [*]; done)), H', ⟨by have := HK1.out; omega⟩, by repeat (first | exact Drawn0.refl _ | apply Drawn0.step)⟩
              · rw [if_neg c7] at H
                exact absurd H (by simp)
            · rw [if_neg c6] at H
              exact absurd H (by simp)
          · rw [if_neg c5] at H
            exact absurd H (by simp)
        · rw [if_neg c4] at H
          have c4b0 : decide (x13_1 < (l0.length : Int)) = false := decide_eq_false c4
          clear c4
          obtain rfl := Option.some.inj H
          go_wp2
          repeat (go_quiet (fail); try go_wp2)
          go_ret
          exact ⟨by first | rfl | (simp; done) | (simp [*]; done), by repeat (first | exact Drawn0.refl _ | apply Drawn0.step)⟩
  · rw [if_neg c3] at H
    have c3b0 : ((l0.length : Int) == (l1.length : Int)) = false := beq_eq_false_iff_ne.mpr c3
    have c3b1 : ((l0.length : Int) != (l1.length : Int)) = true := bne_iff_ne.mpr c3
    have c3b2 : (l0.length == l1.length) = false := by first | simpa using c3 | (simp at c3 ⊢; omega)
    obtain rfl := Option.some.inj H
    go_enter Tryz.func40, Tryz.ntmps40
    go_wp2
    repeat (go_quiet (fail); try go_wp2)
    go_ret
    exact ⟨by first | rfl | (simp; done) | (simp [*]; done), by repeat (first | exact Drawn0.refl _ | apply Drawn0.step)⟩

end Go.Proofs.YtaniojfokildiaaGreatDoor.PrintA
