-- written by this session's own driver (wip/gen.py) with the kit's print and contracts of our own
import Derived.Test.YtoldjcmokcgaiaaPrintA0
import Derived.Test.YtoldjcmokcgaiaaPrintA7
import Derived.Test.YtoldjcmokcgaiaaPrintA9
import Derived.Test.YtoldjcmokcgaiaaPrintA10
import Derived.Test.YtoldjcmokcgaiaaPrintA11
import Derived.Test.YtoldjcmokcgaiaaPrintA13
import Derived.Laws.CopyOwn
namespace Go.Proofs.Ytoldjcmokcgaiaa.PrintA
open Go.RowKit Go.Proofs.YtoldjcmokcgaiaaLib Go.Proofs.YtoldjcmokcgaiaaW.PrintWords Go.Proofs.YtoldjcmokcgaiaaW.PrintLast Go.Proofs.YtoldjcmokcgaiaaW.PrintMore
attribute [local go_sem] max2_int min2_int max_two min_two max_three min_three max_four min_four   -- for this text's walks alone
set_option linter.unusedVariables false
set_option linter.unusedSimpArgs false

/-! ### impl_villageOf: function 23, a contract of our own -/
-- IMPORT Derived.Laws.CopyOwn
-- LIB Houses
theorem src_of {W : World} {ad : Addr} {l : List Int} {n : Nat} (hn : l.length = n) (hC : Kd.C (Kd.int .i64) W (some ad) n l) : ∀ j v, (l.map (Value.int .i64))[j]? = some v → W.cell? (ad.add j) = some v := by
  intro j v hv
  rw [List.getElem?_map, Option.map_eq_some_iff] at hv
  obtain ⟨a, ha, rfl⟩ := hv
  have hj : j < l.length := by
    rcases Nat.lt_or_ge j l.length with h | h
    · exact h
    · rw [List.getElem?_eq_none h] at ha; cases ha
  obtain ⟨ad', hA, hx⟩ := Kd.at_int hC (j : Int) (by omega) (by omega)
  obtain rfl := Option.some.inj hA
  rw [Int.toNat_natCast] at hx
  rw [hx]
  unfold rd
  rw [Int.toNat_natCast, List.getD_eq_getElem?_getD, ha]
  rfl
theorem vil_copy {P : Program} {w a0 : World} {ops : Array Oper} {rest : List Oper} {o : Oper} {a : Act} {Q : Exit → Act → World → Prop} (hgd : o.guard = none) (d s : Operand) (dT sT : TypeId)
    (ho : o.op = .call { callee := .builtin .copy, args := #[d, s], argTypes := #[dT, sT] }) (elem : TypeId) (hu : P.underlying dT = some (.slice elem)) (hsz : (P.info? elem).map (·.size) = some 1)
    (g dLen dCap : Nat) (ad : Addr) (sLen sCap : Nat) (hd : a.eval d = .slice (some ⟨g, 0, none⟩) dLen dCap) (hs : a.eval s = .slice (some ad) sLen sCap)
    (cur : Array Value) (t : TypeId) (hg : w.heap[g]? = some (.cells cur t (0, 0))) (cs : List Value) (hn : cs.length = Nat.min sLen dLen)
    (hsrc : ∀ j v, cs[j]? = some v → w.cell? (ad.add j) = some v) (hfit : 0 + cs.length ≤ cur.size) (h1 : ∀ v ∈ cs, v.oneCell' = true) (new : Array Value) (hnew : (cur.toList.take 0 ++ (cs ++ cur.toList.drop (0 + cs.length))).toArray = new)
    (HB : Below a0.heap.size a0 w) (hgb : a0.heap.size ≤ g)
    (h : ∀ w', w'.heap[g]? = some (.cells new t (0, 0)) → (∀ k, k ≠ g → w'.heap[k]? = w.heap[k]?) → Below a0.heap.size a0 w' → wpList P ops Q rest (a.put o.dst (goInt cs.length)) w') : wpList P ops Q (o :: rest) a w := by
  refine wpList_copy_own hgd d s dT sT ho elem hu hsz g 0 dLen dCap ad sLen sCap hd hs cur t hg cs hn hsrc hfit h1 ?_
  rw [hnew]
  exact h _ (setRow_heap w g cur new t (0, 0) hg) (fun k hk => setRow_other w g k new hk) (below_setRow HB hgb new)
set_option maxHeartbeats 8000000 in
set_option maxRecDepth 100000 in
theorem village1 (e x : Int) (A : Option Addr) (c : Nat) (w : World) (hC : Kd.C (Kd.int .i64) w A 1 [x]) :
    Calls Try.prog 23 #[.int .i64 e, .slice A 1 c] w fun e_ w' => e_ = .returned (.agg #[.int .i64 x, .int .i64 0, .int .i64 0, .int .i64 e]) ∧ Below w.heap.size w w' := by
  obtain ⟨ad, rfl, _⟩ := Kd.at_int hC 0 (by decide) (by decide)
  have HC := Aside0.mk hC
  have HB := Aside0.mk (Below.refl w.heap.size w)
  clear hC
  go_enter Try.func23, Try.ntmps23
  go_wp2_with (first
    | ((with_reducible refine gate_dst (N := 4) rfl ?_); refine box_event ?hg (N := 4) ?hd (cs := #[.int .i64 0, .int .i64 0, .int .i64 0, .int .i64 0]) (t := 40) ?hr ?_; (case hd => rfl); (case hg => rfl); (case hr => first | (go_simp; done) | (go_simp; rfl)); intro b4 hg w2 hbox hb; have Gb4 := Aside0.mk (show w.heap.size ≤ b4 by rw [hg]; exact HB.out.size); have n0_ := Aside0.mk (below_step HB.out hb); clear HB; have HB := n0_; clear n0_; have B4 := Aside0.mk hbox; clear hg hbox hb; skip)
    | ((with_reducible refine gate_dst (N := 5) rfl ?_); refine box_event ?hg (N := 5) ?hd (cs := #[.int .i64 0, .int .i64 0, .int .i64 0, .int .i64 0]) (t := 40) ?hr ?_; (case hd => rfl); (case hg => rfl); (case hr => first | (go_simp; done) | (go_simp; rfl)); intro b5 hg w3 hbox hb; have Gb5 := Aside0.mk (show w.heap.size ≤ b5 by rw [hg]; exact HB.out.size); have Nb4b5 := Aside0.mk (show b4 ≠ b5 by rw [hg]; exact Nat.ne_of_lt (blk_lt B4.out)); have n1_ := Aside0.mk (blk_below B4.out hb); clear B4; have B4 := n1_; clear n1_; have n0_ := Aside0.mk (below_step HB.out hb); clear HB; have HB := n0_; clear n0_; have B5 := Aside0.mk hbox; clear hg hbox hb; have hz0 : w3.cell? ⟨b5, 0, none⟩ = some (.int .i64 0) := (blk_cell B5.out 0).trans rfl; have hz1 : w3.cell? ⟨b5, 1, none⟩ = some (.int .i64 0) := (blk_cell B5.out 1).trans rfl; have hz2 : w3.cell? ⟨b5, 2, none⟩ = some (.int .i64 0) := (blk_cell B5.out 2).trans rfl; have hz3 : w3.cell? ⟨b5, 3, none⟩ = some (.int .i64 0) := (blk_cell B5.out 3).trans rfl; skip)
    | ((with_reducible refine gate_store (t := 40) (p := 5) rfl ?_); have hfz0 := blk_frozen B5.out 0; have hfz1 := blk_frozen B5.out 1; have hfz2 := blk_frozen B5.out 2; have hfz3 := blk_frozen B5.out 3; refine store_event (t := 40) (p := 5) (v := .tmp 7) (w1 := ((((w3.setCell ⟨b5, 0, none⟩ (.int .i64 0)).setCell ⟨b5, 1, none⟩ (.int .i64 0)).setCell ⟨b5, 2, none⟩ (.int .i64 0)).setCell ⟨b5, 3, none⟩ (.int .i64 e))) ?hg ?ho ?hn ?hr ?_; (case ho => rfl); (case hg => rfl); (case hn => rfl); (case hr => first | (go_simp; done) | (go_simp; rfl)); intro w4 hw; have n2_ : Aside0 (Below w.heap.size w w4) := ⟨by rw [hw]; exact below_set4 HB.out Gb5.out _ _ _ _⟩; have n3_ : Aside0 (w4.heap[b5]? = some (.cells #[.int .i64 0, .int .i64 0, .int .i64 0, .int .i64 e] 40 (0, 0))) := ⟨by rw [hw]; exact blk_put4 B5.out (.int .i64 0) (.int .i64 0) (.int .i64 0) (.int .i64 e)⟩; have m0_ : Aside0 (w4.heap[b4]? = some (.cells #[.int .i64 0, .int .i64 0, .int .i64 0, .int .i64 0] 40 (0, 0))) := ⟨by rw [hw]; exact blk_set4 B4.out Nb4b5.out (.int .i64 0) (.int .i64 0) (.int .i64 0) (.int .i64 e)⟩; clear HB B5 B4 hw hfz0 hfz1 hfz2 hfz3; have HB := n2_; have B5 := n3_; clear n2_ n3_; have B4 := m0_; clear m0_; clear hz0 hz1 hz2 hz3; have hz0 : w4.cell? ⟨b5, 0, none⟩ = some (.int .i64 0) := (blk_cell B5.out 0).trans rfl; have hz1 : w4.cell? ⟨b5, 1, none⟩ = some (.int .i64 0) := (blk_cell B5.out 1).trans rfl; have hz2 : w4.cell? ⟨b5, 2, none⟩ = some (.int .i64 0) := (blk_cell B5.out 2).trans rfl; have hz3 : w4.cell? ⟨b5, 3, none⟩ = some (.int .i64 e) := (blk_cell B5.out 3).trans rfl; skip)
    | ((with_reducible refine gate_builtin (b := .copy) (xs := #[.tmp 9, .tmp 10]) rfl ?_); refine vil_copy (a0 := w) rfl (.tmp 9) (.tmp 10) _ _ rfl 3 Try.underlying22 rfl b5 3 3 ad 1 c rfl rfl #[.int .i64 0, .int .i64 0, .int .i64 0, .int .i64 e] 40 B5.out ([x].map (Value.int .i64)) rfl (src_of rfl (Kd.C_below HC.out HB.out)) (by simp) (by intro v_ hv_; obtain ⟨a_, _, rfl⟩ := List.mem_map.1 hv_; rfl) #[.int .i64 x, .int .i64 0, .int .i64 0, .int .i64 e] rfl HB.out Gb5.out ?_; intro w5 q5_ qo_ qb_; have n1_ := Aside0.mk q5_; have n2_ := Aside0.mk ((qo_ b4 Nb4b5.out).trans B4.out); have n3_ := Aside0.mk qb_; clear B5 B4 HB q5_ qo_ qb_ hz0 hz1 hz2 hz3; have B5 := n1_; have B4 := n2_; have HB := n3_; clear n1_ n2_ n3_; have hz0 : w5.cell? ⟨b5, 0, none⟩ = some (.int .i64 x) := (blk_cell B5.out 0).trans rfl; have hz1 : w5.cell? ⟨b5, 1, none⟩ = some (.int .i64 0) := (blk_cell B5.out 1).trans rfl; have hz2 : w5.cell? ⟨b5, 2, none⟩ = some (.int .i64 0) := (blk_cell B5.out 2).trans rfl; have hz3 : w5.cell? ⟨b5, 3, none⟩ = some (.int .i64 e) := (blk_cell B5.out 3).trans rfl; have hy0 : w5.cell? ⟨b4, 0, none⟩ = some (.int .i64 0) := (blk_cell B4.out 0).trans rfl; have hy1 : w5.cell? ⟨b4, 1, none⟩ = some (.int .i64 0) := (blk_cell B4.out 1).trans rfl; have hy2 : w5.cell? ⟨b4, 2, none⟩ = some (.int .i64 0) := (blk_cell B4.out 2).trans rfl; have hy3 : w5.cell? ⟨b4, 3, none⟩ = some (.int .i64 0) := (blk_cell B4.out 3).trans rfl; skip)
    | ((with_reducible refine gate_store (t := 40) (p := 4) rfl ?_); have hfz0 := blk_frozen B4.out 0; have hfz1 := blk_frozen B4.out 1; have hfz2 := blk_frozen B4.out 2; have hfz3 := blk_frozen B4.out 3; refine store_event (t := 40) (p := 4) (v := .tmp 12) (w1 := ((((w5.setCell ⟨b4, 0, none⟩ (.int .i64 x)).setCell ⟨b4, 1, none⟩ (.int .i64 0)).setCell ⟨b4, 2, none⟩ (.int .i64 0)).setCell ⟨b4, 3, none⟩ (.int .i64 e))) ?hg ?ho ?hn ?hr ?_; (case ho => rfl); (case hg => rfl); (case hn => rfl); (case hr => first | (go_simp; done) | (go_simp; rfl)); intro w6 hw; have n2_ : Aside0 (Below w.heap.size w w6) := ⟨by rw [hw]; exact below_set4 HB.out Gb4.out _ _ _ _⟩; have n3_ : Aside0 (w6.heap[b4]? = some (.cells #[.int .i64 x, .int .i64 0, .int .i64 0, .int .i64 e] 40 (0, 0))) := ⟨by rw [hw]; exact blk_put4 B4.out (.int .i64 x) (.int .i64 0) (.int .i64 0) (.int .i64 e)⟩; clear HB B4  hw hfz0 hfz1 hfz2 hfz3; have HB := n2_; have B4 := n3_; clear n2_ n3_; clear hy0 hy1 hy2 hy3; skip))
  refine bodyPost_ret (results_cell_row rfl _ _ b4 40 #[.int .i64 x, .int .i64 0, .int .i64 0, .int .i64 e] (0, 0) _ rfl B4.out Try.underlying40 rfl (by kernel_rfl)) rfl ?_
  exact ⟨rfl, HB.out⟩
set_option maxHeartbeats 8000000 in
set_option maxRecDepth 100000 in
theorem village2 (e x y : Int) (A : Option Addr) (c : Nat) (w : World) (hC : Kd.C (Kd.int .i64) w A 2 [x, y]) :
    Calls Try.prog 23 #[.int .i64 e, .slice A 2 c] w fun e_ w' => e_ = .returned (.agg #[.int .i64 x, .int .i64 y, .int .i64 0, .int .i64 e]) ∧ Below w.heap.size w w' := by
  obtain ⟨ad, rfl, _⟩ := Kd.at_int hC 0 (by decide) (by decide)
  have HC := Aside0.mk hC
  have HB := Aside0.mk (Below.refl w.heap.size w)
  clear hC
  go_enter Try.func23, Try.ntmps23
  go_wp2_with (first
    | ((with_reducible refine gate_dst (N := 4) rfl ?_); refine box_event ?hg (N := 4) ?hd (cs := #[.int .i64 0, .int .i64 0, .int .i64 0, .int .i64 0]) (t := 40) ?hr ?_; (case hd => rfl); (case hg => rfl); (case hr => first | (go_simp; done) | (go_simp; rfl)); intro b4 hg w2 hbox hb; have Gb4 := Aside0.mk (show w.heap.size ≤ b4 by rw [hg]; exact HB.out.size); have n0_ := Aside0.mk (below_step HB.out hb); clear HB; have HB := n0_; clear n0_; have B4 := Aside0.mk hbox; clear hg hbox hb; skip)
    | ((with_reducible refine gate_dst (N := 5) rfl ?_); refine box_event ?hg (N := 5) ?hd (cs := #[.int .i64 0, .int .i64 0, .int .i64 0, .int .i64 0]) (t := 40) ?hr ?_; (case hd => rfl); (case hg => rfl); (case hr => first | (go_simp; done) | (go_simp; rfl)); intro b5 hg w3 hbox hb; have Gb5 := Aside0.mk (show w.heap.size ≤ b5 by rw [hg]; exact HB.out.size); have Nb4b5 := Aside0.mk (show b4 ≠ b5 by rw [hg]; exact Nat.ne_of_lt (blk_lt B4.out)); have n1_ := Aside0.mk (blk_below B4.out hb); clear B4; have B4 := n1_; clear n1_; have n0_ := Aside0.mk (below_step HB.out hb); clear HB; have HB := n0_; clear n0_; have B5 := Aside0.mk hbox; clear hg hbox hb; have hz0 : w3.cell? ⟨b5, 0, none⟩ = some (.int .i64 0) := (blk_cell B5.out 0).trans rfl; have hz1 : w3.cell? ⟨b5, 1, none⟩ = some (.int .i64 0) := (blk_cell B5.out 1).trans rfl; have hz2 : w3.cell? ⟨b5, 2, none⟩ = some (.int .i64 0) := (blk_cell B5.out 2).trans rfl; have hz3 : w3.cell? ⟨b5, 3, none⟩ = some (.int .i64 0) := (blk_cell B5.out 3).trans rfl; skip)
    | ((with_reducible refine gate_store (t := 40) (p := 5) rfl ?_); have hfz0 := blk_frozen B5.out 0; have hfz1 := blk_frozen B5.out 1; have hfz2 := blk_frozen B5.out 2; have hfz3 := blk_frozen B5.out 3; refine store_event (t := 40) (p := 5) (v := .tmp 7) (w1 := ((((w3.setCell ⟨b5, 0, none⟩ (.int .i64 0)).setCell ⟨b5, 1, none⟩ (.int .i64 0)).setCell ⟨b5, 2, none⟩ (.int .i64 0)).setCell ⟨b5, 3, none⟩ (.int .i64 e))) ?hg ?ho ?hn ?hr ?_; (case ho => rfl); (case hg => rfl); (case hn => rfl); (case hr => first | (go_simp; done) | (go_simp; rfl)); intro w4 hw; have n2_ : Aside0 (Below w.heap.size w w4) := ⟨by rw [hw]; exact below_set4 HB.out Gb5.out _ _ _ _⟩; have n3_ : Aside0 (w4.heap[b5]? = some (.cells #[.int .i64 0, .int .i64 0, .int .i64 0, .int .i64 e] 40 (0, 0))) := ⟨by rw [hw]; exact blk_put4 B5.out (.int .i64 0) (.int .i64 0) (.int .i64 0) (.int .i64 e)⟩; have m0_ : Aside0 (w4.heap[b4]? = some (.cells #[.int .i64 0, .int .i64 0, .int .i64 0, .int .i64 0] 40 (0, 0))) := ⟨by rw [hw]; exact blk_set4 B4.out Nb4b5.out (.int .i64 0) (.int .i64 0) (.int .i64 0) (.int .i64 e)⟩; clear HB B5 B4 hw hfz0 hfz1 hfz2 hfz3; have HB := n2_; have B5 := n3_; clear n2_ n3_; have B4 := m0_; clear m0_; clear hz0 hz1 hz2 hz3; have hz0 : w4.cell? ⟨b5, 0, none⟩ = some (.int .i64 0) := (blk_cell B5.out 0).trans rfl; have hz1 : w4.cell? ⟨b5, 1, none⟩ = some (.int .i64 0) := (blk_cell B5.out 1).trans rfl; have hz2 : w4.cell? ⟨b5, 2, none⟩ = some (.int .i64 0) := (blk_cell B5.out 2).trans rfl; have hz3 : w4.cell? ⟨b5, 3, none⟩ = some (.int .i64 e) := (blk_cell B5.out 3).trans rfl; skip)
    | ((with_reducible refine gate_builtin (b := .copy) (xs := #[.tmp 9, .tmp 10]) rfl ?_); refine vil_copy (a0 := w) rfl (.tmp 9) (.tmp 10) _ _ rfl 3 Try.underlying22 rfl b5 3 3 ad 2 c rfl rfl #[.int .i64 0, .int .i64 0, .int .i64 0, .int .i64 e] 40 B5.out ([x, y].map (Value.int .i64)) rfl (src_of rfl (Kd.C_below HC.out HB.out)) (by simp) (by intro v_ hv_; obtain ⟨a_, _, rfl⟩ := List.mem_map.1 hv_; rfl) #[.int .i64 x, .int .i64 y, .int .i64 0, .int .i64 e] rfl HB.out Gb5.out ?_; intro w5 q5_ qo_ qb_; have n1_ := Aside0.mk q5_; have n2_ := Aside0.mk ((qo_ b4 Nb4b5.out).trans B4.out); have n3_ := Aside0.mk qb_; clear B5 B4 HB q5_ qo_ qb_ hz0 hz1 hz2 hz3; have B5 := n1_; have B4 := n2_; have HB := n3_; clear n1_ n2_ n3_; have hz0 : w5.cell? ⟨b5, 0, none⟩ = some (.int .i64 x) := (blk_cell B5.out 0).trans rfl; have hz1 : w5.cell? ⟨b5, 1, none⟩ = some (.int .i64 y) := (blk_cell B5.out 1).trans rfl; have hz2 : w5.cell? ⟨b5, 2, none⟩ = some (.int .i64 0) := (blk_cell B5.out 2).trans rfl; have hz3 : w5.cell? ⟨b5, 3, none⟩ = some (.int .i64 e) := (blk_cell B5.out 3).trans rfl; have hy0 : w5.cell? ⟨b4, 0, none⟩ = some (.int .i64 0) := (blk_cell B4.out 0).trans rfl; have hy1 : w5.cell? ⟨b4, 1, none⟩ = some (.int .i64 0) := (blk_cell B4.out 1).trans rfl; have hy2 : w5.cell? ⟨b4, 2, none⟩ = some (.int .i64 0) := (blk_cell B4.out 2).trans rfl; have hy3 : w5.cell? ⟨b4, 3, none⟩ = some (.int .i64 0) := (blk_cell B4.out 3).trans rfl; skip)
    | ((with_reducible refine gate_store (t := 40) (p := 4) rfl ?_); have hfz0 := blk_frozen B4.out 0; have hfz1 := blk_frozen B4.out 1; have hfz2 := blk_frozen B4.out 2; have hfz3 := blk_frozen B4.out 3; refine store_event (t := 40) (p := 4) (v := .tmp 12) (w1 := ((((w5.setCell ⟨b4, 0, none⟩ (.int .i64 x)).setCell ⟨b4, 1, none⟩ (.int .i64 y)).setCell ⟨b4, 2, none⟩ (.int .i64 0)).setCell ⟨b4, 3, none⟩ (.int .i64 e))) ?hg ?ho ?hn ?hr ?_; (case ho => rfl); (case hg => rfl); (case hn => rfl); (case hr => first | (go_simp; done) | (go_simp; rfl)); intro w6 hw; have n2_ : Aside0 (Below w.heap.size w w6) := ⟨by rw [hw]; exact below_set4 HB.out Gb4.out _ _ _ _⟩; have n3_ : Aside0 (w6.heap[b4]? = some (.cells #[.int .i64 x, .int .i64 y, .int .i64 0, .int .i64 e] 40 (0, 0))) := ⟨by rw [hw]; exact blk_put4 B4.out (.int .i64 x) (.int .i64 y) (.int .i64 0) (.int .i64 e)⟩; clear HB B4  hw hfz0 hfz1 hfz2 hfz3; have HB := n2_; have B4 := n3_; clear n2_ n3_; clear hy0 hy1 hy2 hy3; skip))
  refine bodyPost_ret (results_cell_row rfl _ _ b4 40 #[.int .i64 x, .int .i64 y, .int .i64 0, .int .i64 e] (0, 0) _ rfl B4.out Try.underlying40 rfl (by kernel_rfl)) rfl ?_
  exact ⟨rfl, HB.out⟩
set_option maxHeartbeats 8000000 in
set_option maxRecDepth 100000 in
theorem village3 (e x y z : Int) (A : Option Addr) (c : Nat) (w : World) (hC : Kd.C (Kd.int .i64) w A 3 [x, y, z]) :
    Calls Try.prog 23 #[.int .i64 e, .slice A 3 c] w fun e_ w' => e_ = .returned (.agg #[.int .i64 x, .int .i64 y, .int .i64 z, .int .i64 e]) ∧ Below w.heap.size w w' := by
  obtain ⟨ad, rfl, _⟩ := Kd.at_int hC 0 (by decide) (by decide)
  have HC := Aside0.mk hC
  have HB := Aside0.mk (Below.refl w.heap.size w)
  clear hC
  go_enter Try.func23, Try.ntmps23
  go_wp2_with (first
    | ((with_reducible refine gate_dst (N := 4) rfl ?_); refine box_event ?hg (N := 4) ?hd (cs := #[.int .i64 0, .int .i64 0, .int .i64 0, .int .i64 0]) (t := 40) ?hr ?_; (case hd => rfl); (case hg => rfl); (case hr => first | (go_simp; done) | (go_simp; rfl)); intro b4 hg w2 hbox hb; have Gb4 := Aside0.mk (show w.heap.size ≤ b4 by rw [hg]; exact HB.out.size); have n0_ := Aside0.mk (below_step HB.out hb); clear HB; have HB := n0_; clear n0_; have B4 := Aside0.mk hbox; clear hg hbox hb; skip)
    | ((with_reducible refine gate_dst (N := 5) rfl ?_); refine box_event ?hg (N := 5) ?hd (cs := #[.int .i64 0, .int .i64 0, .int .i64 0, .int .i64 0]) (t := 40) ?hr ?_; (case hd => rfl); (case hg => rfl); (case hr => first | (go_simp; done) | (go_simp; rfl)); intro b5 hg w3 hbox hb; have Gb5 := Aside0.mk (show w.heap.size ≤ b5 by rw [hg]; exact HB.out.size); have Nb4b5 := Aside0.mk (show b4 ≠ b5 by rw [hg]; exact Nat.ne_of_lt (blk_lt B4.out)); have n1_ := Aside0.mk (blk_below B4.out hb); clear B4; have B4 := n1_; clear n1_; have n0_ := Aside0.mk (below_step HB.out hb); clear HB; have HB := n0_; clear n0_; have B5 := Aside0.mk hbox; clear hg hbox hb; have hz0 : w3.cell? ⟨b5, 0, none⟩ = some (.int .i64 0) := (blk_cell B5.out 0).trans rfl; have hz1 : w3.cell? ⟨b5, 1, none⟩ = some (.int .i64 0) := (blk_cell B5.out 1).trans rfl; have hz2 : w3.cell? ⟨b5, 2, none⟩ = some (.int .i64 0) := (blk_cell B5.out 2).trans rfl; have hz3 : w3.cell? ⟨b5, 3, none⟩ = some (.int .i64 0) := (blk_cell B5.out 3).trans rfl; skip)
    | ((with_reducible refine gate_store (t := 40) (p := 5) rfl ?_); have hfz0 := blk_frozen B5.out 0; have hfz1 := blk_frozen B5.out 1; have hfz2 := blk_frozen B5.out 2; have hfz3 := blk_frozen B5.out 3; refine store_event (t := 40) (p := 5) (v := .tmp 7) (w1 := ((((w3.setCell ⟨b5, 0, none⟩ (.int .i64 0)).setCell ⟨b5, 1, none⟩ (.int .i64 0)).setCell ⟨b5, 2, none⟩ (.int .i64 0)).setCell ⟨b5, 3, none⟩ (.int .i64 e))) ?hg ?ho ?hn ?hr ?_; (case ho => rfl); (case hg => rfl); (case hn => rfl); (case hr => first | (go_simp; done) | (go_simp; rfl)); intro w4 hw; have n2_ : Aside0 (Below w.heap.size w w4) := ⟨by rw [hw]; exact below_set4 HB.out Gb5.out _ _ _ _⟩; have n3_ : Aside0 (w4.heap[b5]? = some (.cells #[.int .i64 0, .int .i64 0, .int .i64 0, .int .i64 e] 40 (0, 0))) := ⟨by rw [hw]; exact blk_put4 B5.out (.int .i64 0) (.int .i64 0) (.int .i64 0) (.int .i64 e)⟩; have m0_ : Aside0 (w4.heap[b4]? = some (.cells #[.int .i64 0, .int .i64 0, .int .i64 0, .int .i64 0] 40 (0, 0))) := ⟨by rw [hw]; exact blk_set4 B4.out Nb4b5.out (.int .i64 0) (.int .i64 0) (.int .i64 0) (.int .i64 e)⟩; clear HB B5 B4 hw hfz0 hfz1 hfz2 hfz3; have HB := n2_; have B5 := n3_; clear n2_ n3_; have B4 := m0_; clear m0_; clear hz0 hz1 hz2 hz3; have hz0 : w4.cell? ⟨b5, 0, none⟩ = some (.int .i64 0) := (blk_cell B5.out 0).trans rfl; have hz1 : w4.cell? ⟨b5, 1, none⟩ = some (.int .i64 0) := (blk_cell B5.out 1).trans rfl; have hz2 : w4.cell? ⟨b5, 2, none⟩ = some (.int .i64 0) := (blk_cell B5.out 2).trans rfl; have hz3 : w4.cell? ⟨b5, 3, none⟩ = some (.int .i64 e) := (blk_cell B5.out 3).trans rfl; skip)
    | ((with_reducible refine gate_builtin (b := .copy) (xs := #[.tmp 9, .tmp 10]) rfl ?_); refine vil_copy (a0 := w) rfl (.tmp 9) (.tmp 10) _ _ rfl 3 Try.underlying22 rfl b5 3 3 ad 3 c rfl rfl #[.int .i64 0, .int .i64 0, .int .i64 0, .int .i64 e] 40 B5.out ([x, y, z].map (Value.int .i64)) rfl (src_of rfl (Kd.C_below HC.out HB.out)) (by simp) (by intro v_ hv_; obtain ⟨a_, _, rfl⟩ := List.mem_map.1 hv_; rfl) #[.int .i64 x, .int .i64 y, .int .i64 z, .int .i64 e] rfl HB.out Gb5.out ?_; intro w5 q5_ qo_ qb_; have n1_ := Aside0.mk q5_; have n2_ := Aside0.mk ((qo_ b4 Nb4b5.out).trans B4.out); have n3_ := Aside0.mk qb_; clear B5 B4 HB q5_ qo_ qb_ hz0 hz1 hz2 hz3; have B5 := n1_; have B4 := n2_; have HB := n3_; clear n1_ n2_ n3_; have hz0 : w5.cell? ⟨b5, 0, none⟩ = some (.int .i64 x) := (blk_cell B5.out 0).trans rfl; have hz1 : w5.cell? ⟨b5, 1, none⟩ = some (.int .i64 y) := (blk_cell B5.out 1).trans rfl; have hz2 : w5.cell? ⟨b5, 2, none⟩ = some (.int .i64 z) := (blk_cell B5.out 2).trans rfl; have hz3 : w5.cell? ⟨b5, 3, none⟩ = some (.int .i64 e) := (blk_cell B5.out 3).trans rfl; have hy0 : w5.cell? ⟨b4, 0, none⟩ = some (.int .i64 0) := (blk_cell B4.out 0).trans rfl; have hy1 : w5.cell? ⟨b4, 1, none⟩ = some (.int .i64 0) := (blk_cell B4.out 1).trans rfl; have hy2 : w5.cell? ⟨b4, 2, none⟩ = some (.int .i64 0) := (blk_cell B4.out 2).trans rfl; have hy3 : w5.cell? ⟨b4, 3, none⟩ = some (.int .i64 0) := (blk_cell B4.out 3).trans rfl; skip)
    | ((with_reducible refine gate_store (t := 40) (p := 4) rfl ?_); have hfz0 := blk_frozen B4.out 0; have hfz1 := blk_frozen B4.out 1; have hfz2 := blk_frozen B4.out 2; have hfz3 := blk_frozen B4.out 3; refine store_event (t := 40) (p := 4) (v := .tmp 12) (w1 := ((((w5.setCell ⟨b4, 0, none⟩ (.int .i64 x)).setCell ⟨b4, 1, none⟩ (.int .i64 y)).setCell ⟨b4, 2, none⟩ (.int .i64 z)).setCell ⟨b4, 3, none⟩ (.int .i64 e))) ?hg ?ho ?hn ?hr ?_; (case ho => rfl); (case hg => rfl); (case hn => rfl); (case hr => first | (go_simp; done) | (go_simp; rfl)); intro w6 hw; have n2_ : Aside0 (Below w.heap.size w w6) := ⟨by rw [hw]; exact below_set4 HB.out Gb4.out _ _ _ _⟩; have n3_ : Aside0 (w6.heap[b4]? = some (.cells #[.int .i64 x, .int .i64 y, .int .i64 z, .int .i64 e] 40 (0, 0))) := ⟨by rw [hw]; exact blk_put4 B4.out (.int .i64 x) (.int .i64 y) (.int .i64 z) (.int .i64 e)⟩; clear HB B4  hw hfz0 hfz1 hfz2 hfz3; have HB := n2_; have B4 := n3_; clear n2_ n3_; clear hy0 hy1 hy2 hy3; skip))
  refine bodyPost_ret (results_cell_row rfl _ _ b4 40 #[.int .i64 x, .int .i64 y, .int .i64 z, .int .i64 e] (0, 0) _ rfl B4.out Try.underlying40 rfl (by kernel_rfl)) rfl ?_
  exact ⟨rfl, HB.out⟩
theorem village_is (e : Int) (l : List Int) (n : Nat) (hn : l.length = n) (h1 : 1 ≤ n) (h3 : n ≤ 3) (A : Option Addr) (c : Nat) (w : World) (hC : Kd.C (Kd.int .i64) w A n l) :
    Calls Try.prog 23 #[.int .i64 e, .slice A n c] w fun e_ w' => e_ = .returned (hVA e l) ∧ Below w.heap.size w w' := by
  subst hn
  match l, h1, h3, hC with
  | [x], _, _, hC => exact village1 e x A c w hC
  | [x, y], _, _, hC => exact village2 e x y A c w hC
  | [x, y, z], _, _, hC => exact village3 e x y z A c w hC
  | [], h, _, _ => exact absurd h (by simp)
  | _ :: _ :: _ :: _ :: _, _, h, _ => exact absurd h (by simp)

/-! ### impl_FewestForHouses: function 8, a contract of our own -/
theorem isStocked_is (e : Int) (l : List Int) (hl : l.length ≤ 1000000) (k : Nat) (hk : l.length < k) : impl_isStocked.f k e l = some (hAsk e l) := by
  unfold impl_isStocked.f hAsk
  rw [(hoGood_is l hl k hk).2, Option.bind_some]
  cases hg : hGood l with
  | true =>
    rw [if_pos rfl, impl_needed_is, hoNeeded_isk l (hGood_true hg).2.1 k hk, Option.bind_some, impl_within_is]
    rfl
  | false => rfl
theorem hleast_of (e : Int) (l : List Int) (h1 : 1 ≤ l.length) (h3 : l.length ≤ 3) (hk : hOk l) (h0 : 0 ≤ e) (h6 : e ≤ 6) (mb : Nat) (W : World) (hM : HMemo W mb) :
    Calls Try.prog 22 #[.map (some mb), hVA e l] W fun e' w' => e' = .returned (.int .i64 (hVal e l)) ∧ HMemo w' mb ∧ KeptM W w' mb := by
  have h := HLeastC_all 25 e (l.getD 0 0) (l.getD 1 0) (l.getD 2 0) mb W (hPad_ok hk) h0 h6 (by have := hSum_le3 (hPad l) (hPad_ok hk) (by simp [hPad]); exact Nat.lt_succ_of_le this) hM
  have e1 : hVal e [l.getD 0 0, l.getD 1 0, l.getD 2 0] = hVal e l := hVal_pad e l h1 h3
  rw [e1] at h
  exact h
def impl_FewestForHouses.f (a0 : Int) (l1 : List Int) : Option (Int × Bool) := if l1.length ≤ 1000000 then some (if hAsk a0 l1 = true then hVal a0 l1 else 0, hAsk a0 l1) else none
set_option maxHeartbeats 8000000 in
set_option maxRecDepth 100000 in
theorem impl_FewestForHouses.calls (a0 : Int) (A1 : Option Addr) (c1 : Nat) (l1 : List Int) (r1 : Int) (r2 : Bool) (w : World) (hr1 : Kd.C (Kd.int .i64) w A1 l1.length l1) (hc1 : l1.length ≤ c1) (h : impl_FewestForHouses.f a0 l1 = some (r1, r2)) :
    Calls Try.prog 8 #[.int .i64 a0, .slice A1 l1.length c1] w fun e w' => e = .returned (.tuple #[.int .i64 r1, .bool r2]) ∧ Below w.heap.size w w' := by
  have HB := Aside0.mk (Below.refl w.heap.size w)
  unfold impl_FewestForHouses.f at h
  by_cases hl : l1.length ≤ 1000000
  case neg => rw [if_neg hl] at h; cases h
  rw [if_pos hl] at h
  obtain ⟨hq1, hq2⟩ := Prod.mk.inj (Option.some.inj h)
  have HG : Aside0 (∀ W, Below w.heap.size w W → Calls Try.prog 21 #[.int .i64 a0, .slice A1 l1.length c1] W fun e w' => e = .returned (.bool (hAsk a0 l1)) ∧ Below W.heap.size W w') := ⟨fun W hb => impl_isStocked.calls (l1.length + 1) a0 A1 c1 l1 _ W (Kd.C_below hr1 hb) hc1 (isStocked_is a0 l1 hl _ (by omega))⟩
  subst hq2
  clear h
  cases hgd : hAsk a0 l1 with
  | true =>
    rw [hgd] at HG
    rw [if_pos hgd] at hq1
    obtain ⟨g1, g2, g3, g4, g5⟩ := hAsk_true hgd
    have hnn := hNeed_nonneg l1
    obtain ⟨v, hv⟩ : ∃ v, hVA a0 l1 = v := ⟨_, rfl⟩
    have HV : Aside0 (∀ W, Below w.heap.size w W → Calls Try.prog 23 #[.int .i64 a0, .slice A1 l1.length c1] W fun e_ w' => e_ = .returned v ∧ Below W.heap.size W w') := ⟨fun W hb => by
      rw [← hv]
      exact village_is a0 l1 l1.length rfl g1 g2 A1 c1 W (Kd.C_below hr1 hb)⟩
    have HF : Aside0 (∀ (mb : Nat) (W : World), HMemo W mb → Calls Try.prog 22 #[.map (some mb), v] W fun e' w' => e' = .returned (.int .i64 r1) ∧ HMemo w' mb ∧ KeptM W w' mb) := ⟨fun mb W h => by
      rw [← hv, ← hq1]
      exact hleast_of a0 l1 g1 g2 g3 (by omega) g5 mb W h⟩
    clear hgd hq1 hnn g1 g2 g3 g4 g5 hr1 hl hv
    have hmm := @run_makeMap Try.prog
    go_enter Try.func8, Try.ntmps8
    go_wp2_with (first
      | (go_at_call 21; with_reducible refine (HG.out _ HB.out).mono ?_; rintro e_ w2 ⟨rfl, hb⟩; have n0_ := Aside0.mk (below_step HB.out hb); have n1_ := Aside0.mk (below_alloc n0_.out (.map #[] 0)); have HMB := Aside0.mk n0_.out.size; have HM := Aside0.mk (HMemo.start w2); clear HB hb; have HB := n1_; clear n0_ n1_)
      | (go_at_call 23; with_reducible refine (HV.out _ HB.out).mono ?_; rintro e_ w3 ⟨rfl, hb⟩; have n0_ := Aside0.mk (below_step HB.out hb); have n1_ := Aside0.mk (HMemo.below HM.out hb); clear HB HM hb; have HB := n0_; have HM := n1_; clear n0_ n1_)
      | (go_at_call 22; with_reducible refine (HF.out _ _ HM.out).mono ?_; rintro e_ w4 ⟨rfl, hM, hk⟩; have n0_ := Aside0.mk ((KeptM.then_ ⟨Kept.of_below HB.out _, HB.out.mono (Nat.zero_le _)⟩ hk).new HMB.out); clear HB HM hM hk; have HB := n0_; clear n0_))
    go_ret2
    exact ⟨rfl, HB.out⟩
  | false =>
    rw [hgd] at HG
    rw [if_neg (by rw [hgd]; decide)] at hq1
    subst hq1
    clear hgd hr1 hl
    go_enter Try.func8, Try.ntmps8
    go_wp2_with (go_at_call 21; with_reducible refine (HG.out _ HB.out).mono ?_; rintro e_ w2 ⟨rfl, hb⟩; have n0_ := Aside0.mk (below_step HB.out hb); clear HB hb; have HB := n0_; clear n0_)
    go_ret2
    exact ⟨rfl, HB.out⟩

end Go.Proofs.Ytoldjcmokcgaiaa.PrintA
