-- written by this session's own driver (wip/gen.py) with the kit's print and contracts of our own
import Derived.Test.YtaniojfokildiaaDoorPrintA0
import Derived.Test.YtaniojfokildiaaDoorPrintA3
import Derived.Test.YtaniojfokildiaaDoorPrintA4
import Derived.Test.YtaniojfokildiaaDoorPrintA6
import Derived.Test.YtaniojfokildiaaDoorPrintA10
namespace Go.Proofs.YtaniojfokildiaaDoor.PrintA
open Go.RowKit Go.Proofs.YtaniojfokildiaaDoorLib Go.Proofs.YtaniojfokildiaaDoorW.PrintWords Go.Proofs.YtaniojfokildiaaDoorW.PrintLast Go.Proofs.YtaniojfokildiaaDoorW.PrintMore
attribute [local go_sem] max2_int min2_int max_two min_two max_three min_three max_four min_four   -- for this text's walks alone
set_option linter.unusedVariables false
set_option linter.unusedSimpArgs false

/-! ### impl_readNumbers: function 18, a contract of our own -/
/-- What the program hands back of the words. -/
def parN : Option (List Int) → List Int × Bool
  | some l => (l, true)
  | none => ([], false)
theorem itoa_val (x : List UInt8) (v : Int) (X : ByteArray) (h : one1 x = some v) (hX : X = baOf x) : strconv_Itoa_31.f v = some X := by
  obtain ⟨h1, h2⟩ := one1_some x v h
  obtain ⟨l1, l2⟩ := atoiAll_lim x v h1
  unfold strconv_Itoa_31.f
  rw [if_pos ⟨l1, l2⟩, h2, hX]; rfl
def impl_readNumbers.f (a0 a1 : ByteArray) : Option (List Int × Bool) := if a1.data.toList = [45] ∧ a0.size ≤ 1000000 then some (parN (rdN (spl 45 a0.data.toList))) else none
set_option maxHeartbeats 8000000 in
set_option maxRecDepth 100000 in
theorem impl_readNumbers.calls (a0 a1 : ByteArray) (r1 : List Int) (r2 : Bool) (w : World) (h : impl_readNumbers.f a0 a1 = some (r1, r2)) (ht : TabsE w) :
    Calls Tryd.prog 18 #[.string a0, .string a1] w fun e w' => ∃ v0_ : Value, e = .returned (.tuple #[v0_, .bool r2]) ∧ Kd.R (Kd.int .i64) 3 w' w.heap.size (fun _ => True) v0_ r1 ∧ Below w.heap.size w w' := by
  unfold impl_readNumbers.f at h
  by_cases hc : a1.data.toList = [45] ∧ a0.size ≤ 1000000
  case neg => rw [if_neg hc] at h; exact absurd h (by simp)
  rw [if_pos hc] at h
  obtain ⟨h1, h2⟩ := hc
  obtain ⟨sg, hsg⟩ : ∃ sg, sg = a1 := ⟨_, rfl⟩
  have HSG : Aside0 (sg = baOf [45]) := ⟨by rw [hsg, ← h1, ba_self]⟩
  obtain rfl := hsg
  have HQ := Aside0.mk (Option.some.inj h)
  have HT := Aside0.mk ht
  have HB := Aside0.mk (Below.refl w.heap.size w)
  have hlen := spl_len 45 a0.data.toList
  have hmem := spl_mem 45 a0.data.toList
  have hsz : a0.data.toList.length = a0.size := by rw [Array.length_toList]; rfl
  have HSP : Aside0 (∀ W : World, TabsE W → Calls Tryd.prog 29 #[.string a0, .string sg] W fun e w' => ∃ ad : Addr, e = .returned (.slice (some ad) (spl 45 a0.data.toList).length (spl 45 a0.data.toList).length) ∧ Below W.heap.size W w' ∧ W.heap.size < w'.heap.size ∧
      ∀ W' : World, W'.heap[W.heap.size]? = w'.heap[W.heap.size]? → ∀ j x, (spl 45 a0.data.toList)[j]? = some x → W'.cell? (ad.add j) = some (.string (baOf x))) := ⟨fun W hW => by rw [HSG.out]; exact split_calls a0 h2 W hW⟩
  obtain ⟨ws, hws⟩ : ∃ ws, ws = spl 45 a0.data.toList := ⟨_, rfl⟩
  rw [← hws] at HQ HSP hlen hmem
  have HLen : Aside0 (ws.length ≤ 1000001) := ⟨by omega⟩
  have HMem : Aside0 (∀ x ∈ ws, x.length ≤ 1000000) := ⟨fun x hx => by have := hmem x hx; omega⟩
  clear h ht h1 h2 hlen hmem hsz hws HSG
  obtain ⟨n, hn⟩ : ∃ n, n = ws.length := ⟨_, rfl⟩
  have HN := Aside0.mk hn
  rw [← hn] at HSP HLen
  clear hn
  go_enter Tryd.func18, Tryd.ntmps18
  go_wp2_with (first | ((with_reducible refine gate_dst (N := 11) rfl ?_); refine Kd.R_lit (Kd.int .i64) _ 3 ?hg (N := 11) ?hd (xs := ([] : List Int)) (inner := []) (ok := fun _ => True) (okp := fun _ => True) ?hr ?hp (fun _ hk => hk) trivial (Below.refl _ _) (Nat.le_refl _) (by simp) ?_; (case hd => rfl); (case hg => rfl); (case hr => first | (go_simp; done) | (go_simp; rfl)); (case hp => exact (Reps.none _ _)); intro V11 W11 ho4 hb hg_ hnew_; clear hg_ hnew_; have HO11 := Aside0.mk (Kd.R_lower ho4 (below_size (by repeat (first | (with_reducible first | exact HB.out | apply below_alloc | apply pw_below_drewN | apply below_drew1) | exact HB.out)))); have HB_ := Aside0.mk (below_step (by repeat (first | (with_reducible first | exact HB.out | apply below_alloc | apply pw_below_drewN | apply below_drew1) | exact HB.out)) hb); clear HB hb ho4; have HB := HB_; clear HB_))
  refine (HSP.out _ (HT.out.below HB.out)).mono ?_
  rintro e_ w2_ ⟨ad, rfl, hb, hlt, hcell⟩
  have HLT := Aside0.mk hlt
  have HC := Aside0.mk hcell
  have HO := Aside0.mk (Kd.R_mono (ok' := fun k => k ≠ W11.heap.size) (Kd.R_bound HO11.out) (fun k hk => by have := hk.2.2.1; omega))
  clear HO11
  have HO11 := Aside0.mk (Kd.R_below HO.out hb)
  have HB_ := Aside0.mk (below_step HB.out hb)
  clear HB HO hb hlt hcell
  have HB := HB_
  clear HB_
  obtain ⟨bW, hbW⟩ : ∃ bW, bW = W11.heap.size := ⟨_, rfl⟩
  rw [← hbW] at HLT HC HO11
  clear hbW
  go_wp2
  go_loopg [6, 16] (n + 1) (fun gg v6 v16 wr => ∃ (i : Nat) (acc : List Int), v16 = .int .i64 (i : Int) ∧ Aside0 (i ≤ n ∧ n + 1 - i ≤ gg) ∧ Aside0 (rdN (ws.take i) = some acc) ∧ Aside0 (Kd.R (Kd.int .i64) 3 wr w.heap.size (fun k => k ≠ bW) v6 acc) ∧ Aside0 (wr.heap[bW]? = w2_.heap[bW]?) ∧ Aside0 (bW < wr.heap.size) ∧ Aside0 (Below w.heap.size w wr))
  case atStart => exact ⟨0, [], rfl, ⟨Nat.zero_le _, Nat.le_refl _⟩, ⟨rfl⟩, HO11, ⟨rfl⟩, HLT, HB⟩
  case round =>
    clear HB HLT HO11 HSP
    obtain ⟨i, acc, rfl, HI, HA, HO, HK, HL, HB⟩ := hrel
    obtain ⟨wo, rfl⟩ : ∃ wo, wo = wr := ⟨_, rfl⟩
    rcases (by have := HI.out; omega : i < n ∨ i = n) with hi | hi
    · have hi' : i < ws.length := by rw [← HN.out]; exact hi
      obtain ⟨x, hx⟩ : ∃ x, ws[i]? = some x := ⟨ws[i], List.getElem?_eq_getElem hi'⟩
      have HX := Aside0.mk hx
      have hc := HC.out _ HK.out i x hx
      have HLX := Aside0.mk (HMem.out x (List.mem_of_getElem? hx))
      clear hx hi'
      obtain ⟨X, hX⟩ : ∃ X, X = baOf x := ⟨_, rfl⟩
      rw [← hX] at hc
      have HXe := Aside0.mk hX
      clear hX
      have q1 : ((i : Int) < (n : Int)) = True := by rw [eq_iff_iff]; constructor <;> intro h_ <;> first | exact trivial | omega | exact h_.elim
      have q2 : (0 ≤ (i : Int)) = True := by clear q1; rw [eq_iff_iff]; constructor <;> intro h_ <;> first | exact trivial | omega | exact h_.elim
      have hc2 : wo.cell? (ad.add (i : Int).toNat) = some (.string X) := by rw [Int.toNat_natCast]; exact hc
      have HIN := Aside0.mk hi
      clear hi
      cases ho : one1 x with
      | some v =>
        have HONE := Aside0.mk ho
        clear ho
        have HAT := Aside0.mk (fun W => atoi_ok x HLX.out v (one1_some x v HONE.out).1 W)
        rw [← HXe.out] at HAT
        have HIT := Aside0.mk (fun (W : World) (hW : TabsE W) => strconv_Itoa_31.calls v X W (itoa_val x v X HONE.out HXe.out) hW.tabs)
        have hsn : rdN (ws.take (i + 1)) = some (acc ++ [v]) := by
          have et : ws.take (i + 1) = ws.take i ++ [x] := by rw [List.take_add_one, HX.out]; rfl
          rw [et, rdN_snoc, HA.out, HONE.out]; rfl
        have hal := rdN_length _ _ HA.out
        rw [List.length_take] at hal
        have HAL : Aside0 (acc.length ≤ 1000001) := ⟨by have := HLen.out; have := HIN.out; omega⟩
        have HS := Aside0.mk hsn
        clear hsn hal
        go_wp2_with fail
        refine (HAT.out _).mono ?_
        rintro e_ w3_ ⟨rfl, hb⟩
        have HO_ := Aside0.mk (Kd.R_below HO.out hb)
        have HK_ := Aside0.mk ((hb.block bW HL.out).trans HK.out)
        have HL_ := Aside0.mk (Nat.lt_of_lt_of_le HL.out hb.size)
        have HB_ := Aside0.mk (below_step HB.out hb)
        clear HO HK HL HB hb
        have HO := HO_
        have HK := HK_
        have HL := HL_
        have HB := HB_
        clear HO_ HK_ HL_ HB_
        go_wp2_with fail
        refine (HIT.out _ (HT.out.below HB.out)).mono ?_
        rintro e_ w4_ ⟨rfl, hb⟩
        have HO_ := Aside0.mk (Kd.R_below HO.out hb)
        have HK_ := Aside0.mk ((hb.block bW HL.out).trans HK.out)
        have HL_ := Aside0.mk (Nat.lt_of_lt_of_le HL.out hb.size)
        have HB_ := Aside0.mk (below_step HB.out hb)
        clear HO HK HL HB hb
        have HO := HO_
        have HK := HK_
        have HL := HL_
        have HB := HB_
        clear HO_ HK_ HL_ HB_
        clear hc hc2 HAT HIT
        go_wp2_with (first | ((with_reducible refine gate_builtin (b := .append) (xs := #[.tmp 33, .tmp 35]) rfl ?_); at_builtin; refine Kd.R_append (Kd.int .i64) (w0 := w) w.heap.size rfl (.tmp 33) (.tmp 35) 22 3 (.int .i64 0) 8 rfl Tryd.underlying22 info3 rfl (by decide) (by omega) u6 acc v [.int .i64 v] (fun k => k ≠ bW) (fun _ => False) rfl rfl ?aP (fun _ hk => hk.elim) ?aF ?aO ?aB ?aS ?aL ?_; (case aP => exact rfl); (case aB => exact (by repeat (first | (with_reducible first | exact HB.out | apply below_alloc | apply pw_below_drewN | apply below_drew1) | exact HB.out))); (case aF => intro k hk; have := HL.out; omega); (case aO => exact HO.out); (case aS => exact (below_size (by repeat (first | (with_reducible first | exact HB.out | apply below_alloc | apply pw_below_drewN | apply below_drew1) | exact HB.out)))); (case aL => have := HAL.out; omega); intro va wa ho hb hg hat; have HO2 := Aside0.mk ho; have HB2 := Aside0.mk hb; have HG2 := Aside0.mk hg; clear HB ho hb hg hat; have HB := HB2; clear HB2))
        have w1 : wrap64 ((i : Int) + 1) = ((i + 1 : Nat) : Int) := by have := HIN.out; have := HLen.out; clear q1 q2; unfold wrap64; omega
        go_roundg (n + 1 - (i + 1))
        case measure => have := HI.out; have := HIN.out; omega
        case rel =>
          refine ⟨i + 1, acc ++ [v], by first | (rw [w1]; done) | (rw [w1]) | (rw [i64_w, w1]) | go_num, ⟨?_⟩, HS, HO2, ⟨?_⟩, ⟨?_⟩, HB⟩
          · have := HI.out; have := HIN.out; omega
          · exact (HG2.out.block bW HL.out (fun he => HO.out.1 bW he.symm rfl)).trans HK.out
          · exact Nat.lt_of_lt_of_le HL.out HG2.out.size
      | none =>
        have HONE := Aside0.mk ho
        clear ho
        have HF := Aside0.mk (rdN_none ws x (List.mem_of_getElem? HX.out) HONE.out)
        have hq := HQ.out
        rw [HF.out] at hq
        simp only [parN, Prod.mk.injEq] at hq
        obtain ⟨rfl, rfl⟩ := hq
        cases hat : Lib.atoiAll x with
        | ok v =>
          have HAT := Aside0.mk (fun W => atoi_ok x HLX.out v hat W)
          rw [← HXe.out] at HAT
          obtain ⟨Y, hY⟩ : ∃ Y, Y = baOf (Lib.itoa v) := ⟨_, rfl⟩
          have hXY : Y ≠ X := by
            rw [hY, HXe.out]
            intro he
            have := congrArg (fun s : ByteArray => s.data.toList) he
            simp only [baOf_list] at this
            exact one1_no x v HONE.out hat this
          have HIT := Aside0.mk (fun (W : World) (hW : TabsE W) => strconv_Itoa_31.calls v Y W (by
            have hl := atoiAll_lim x v hat
            unfold strconv_Itoa_31.f
            rw [if_pos hl, hY]; rfl) hW.tabs)
          clear hY hat
          have q5 : (Y.toList == X.toList) = false := by
            rw [ba_toList, ba_toList, beq_eq_false_iff_ne]
            intro he
            exact hXY (by rw [← ba_self Y, ← ba_self X, he])
          clear hXY
          go_wp2_with fail
          refine (HAT.out _).mono ?_
          rintro e_ w3_ ⟨rfl, hb⟩
          have HO_ := Aside0.mk (Kd.R_below HO.out hb)
          have HK_ := Aside0.mk ((hb.block bW HL.out).trans HK.out)
          have HL_ := Aside0.mk (Nat.lt_of_lt_of_le HL.out hb.size)
          have HB_ := Aside0.mk (below_step HB.out hb)
          clear HO HK HL HB hb
          have HO := HO_
          have HK := HK_
          have HL := HL_
          have HB := HB_
          clear HO_ HK_ HL_ HB_
          go_wp2_with fail
          refine (HIT.out _ (HT.out.below HB.out)).mono ?_
          rintro e_ w4_ ⟨rfl, hb⟩
          have HO_ := Aside0.mk (Kd.R_below HO.out hb)
          have HK_ := Aside0.mk ((hb.block bW HL.out).trans HK.out)
          have HL_ := Aside0.mk (Nat.lt_of_lt_of_le HL.out hb.size)
          have HB_ := Aside0.mk (below_step HB.out hb)
          clear HO HK HL HB hb
          have HO := HO_
          have HK := HK_
          have HL := HL_
          have HB := HB_
          clear HO_ HK_ HL_ HB_
          clear hc hc2 HAT HIT
          go_wp2
          go_ret2
          exact ⟨_, rfl, Kd.R_nil _ _ _ _ _, HB.out⟩
        | _ =>
          have HER := Aside0.mk (fun (W : World) (hW : TabsE W) => atoi_err x HLX.out (fun v h => by rw [hat] at h; cases h) W hW)
          rw [← HXe.out] at HER
          clear hat
          go_wp2_with fail
          refine (HER.out _ (HT.out.below HB.out)).mono ?_
          rintro e_ w3_ ⟨nn, N, rfl, hb⟩
          have HO_ := Aside0.mk (Kd.R_below HO.out hb)
          have HK_ := Aside0.mk ((hb.block bW HL.out).trans HK.out)
          have HL_ := Aside0.mk (Nat.lt_of_lt_of_le HL.out hb.size)
          have HB_ := Aside0.mk (below_step HB.out hb)
          clear HO HK HL HB hb
          have HO := HO_
          have HK := HK_
          have HL := HL_
          have HB := HB_
          clear HO_ HK_ HL_ HB_
          clear hc hc2 HER
          go_wp2
          go_ret2
          exact ⟨_, rfl, Kd.R_nil _ _ _ _ _, HB.out⟩
    · subst hi
      have q1 : ((i : Int) < (i : Int)) = False := by rw [eq_iff_iff]; constructor <;> intro h_ <;> first | exact trivial | omega | exact h_.elim
      have hq := HQ.out
      have ha := HA.out
      rw [List.take_of_length_le (by rw [← HN.out]; exact Nat.le_refl _)] at ha
      rw [ha] at hq
      simp only [parN, Prod.mk.injEq] at hq
      obtain ⟨rfl, rfl⟩ := hq
      clear ha
      go_wp2
      go_ret2
      exact ⟨_, rfl, Kd.R_mono HO.out (fun _ _ => trivial), HB.out⟩


/-! ### impl_within: function 40 -/
def impl_within.f (a0 : Int) (a1 : Int) (a2 : Int) : Option (Bool) := if a0 ≥ a1 then (some (decide (a0 ≤ a2))) else (some false)
set_option maxHeartbeats 8000000 in
set_option maxRecDepth 100000 in
theorem impl_within.calls (a0 : Int) (a1 : Int) (a2 : Int) (r : Bool) (w : World) (h : impl_within.f a0 a1 a2 = some r) :
    Calls Tryd.prog 40 #[.int .i64 a0, .int .i64 a1, .int .i64 a2] w fun e w' => e = .returned (.bool r) ∧ Drawn0 w w' := by
  have H : (if a0 ≥ a1 then (some (decide (a0 ≤ a2))) else (some false)) = some r := h
  clear h
  by_cases c4 : a0 ≥ a1
  · rw [if_pos c4] at H
    have c4b0 : decide (a1 ≤ a0) = true := decide_eq_true c4
    clear c4
    obtain rfl := Option.some.inj H
    go_enter Tryd.func40, Tryd.ntmps40
    go_wp2
    go_ret
    exact ⟨by first | rfl | (simp; done) | (simp [*]; done), by repeat (first | exact Drawn0.refl _ | apply Drawn0.step)⟩
  · rw [if_neg c4] at H
    have c4b0 : decide (a1 ≤ a0) = false := decide_eq_false c4
    clear c4
    obtain rfl := Option.some.inj H
    go_enter Tryd.func40, Tryd.ntmps40
    go_wp2
    go_ret
    exact ⟨by first | rfl | (simp; done) | (simp [*]; done), by repeat (first | exact Drawn0.refl _ | apply Drawn0.step)⟩

set_option maxHeartbeats 8000000 in
set_option maxRecDepth 100000 in
theorem impl_within.calls0 (a0 : Int) (a1 : Int) (a2 : Int) (r : Bool) (w : World) (h : impl_within.f a0 a1 a2 = some r) :
    Calls Tryd.prog 40 #[.int .i64 a0, .int .i64 a1, .int .i64 a2] w fun e w' => e = .returned (.bool r) ∧ w = w' := by
  have H : (if a0 ≥ a1 then (some (decide (a0 ≤ a2))) else (some false)) = some r := h
  clear h
  by_cases c4 : a0 ≥ a1
  · rw [if_pos c4] at H
    have c4b0 : decide (a1 ≤ a0) = true := decide_eq_true c4
    clear c4
    obtain rfl := Option.some.inj H
    go_enter Tryd.func40, Tryd.ntmps40
    go_wp2
    go_ret
    exact ⟨by first | rfl | (simp; done) | (simp [*]; done), by first | rfl | simp⟩
  · rw [if_neg c4] at H
    have c4b0 : decide (a1 ≤ a0) = false := decide_eq_false c4
    clear c4
    obtain rfl := Option.some.inj H
    go_enter Tryd.func40, Tryd.ntmps40
    go_wp2
    go_ret
    exact ⟨by first | rfl | (simp; done) | (simp [*]; done), by first | rfl | simp⟩

/-! behind impl_within -/
theorem impl_within_is (a lo hi : Int) : impl_within.f a lo hi = some (decide (lo ≤ a) && decide (a ≤ hi)) := by
  unfold impl_within.f
  by_cases h : a ≥ lo
  · rw [if_pos h, decide_eq_true (by omega : lo ≤ a)]; rfl
  · rw [if_neg h, decide_eq_false (by omega : ¬ lo ≤ a)]; rfl

end Go.Proofs.YtaniojfokildiaaDoor.PrintA
