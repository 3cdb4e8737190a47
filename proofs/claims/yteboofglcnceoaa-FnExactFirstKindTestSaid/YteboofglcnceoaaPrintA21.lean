-- written by this session's own driver (wip/gen.py) with the kit's print and contracts of our own
import Derived.Test.YteboofglcnceoaaPrintA0
import Derived.Test.YteboofglcnceoaaPrintA17
import Derived.Test.YteboofglcnceoaaPrintA18
import Derived.Test.YteboofglcnceoaaPrintA19
import Derived.Test.YteboofglcnceoaaPrintA20
import Derived.DeepKeys5
import Derived.Maps.OwnSet
namespace Go.Proofs.Yteboofglcnceoaa.PrintA
open Go.RowKit Go.Proofs.YteboofglcnceoaaLib Go.Proofs.YteboofglcnceoaaW.PrintWords Go.Proofs.YteboofglcnceoaaW.PrintLast Go.Proofs.YteboofglcnceoaaW.PrintMore
attribute [local go_sem] max2_int min2_int max_two min_two max_three min_three max_four min_four   -- for this text's walks alone
set_option linter.unusedVariables false
set_option linter.unusedSimpArgs false

/-! ### impl_solver_least: function 18, a contract of our own -/
-- IMPORT Derived.Maps.OwnSet
-- IMPORT Derived.DeepKeys5
theorem kKeyed : Go.Maps.Keyed Try.prog 37 := Go.Maps.Keyed.of_law (Go.deep_law_laid (by kernel_rfl) (m := 20) (by decide) (of_decide_eq_true (by kernel_rfl)) (by kernel_rfl) (by kernel_rfl))
def kAgg (k : KSt) : Value := .agg #[.int .i64 k.a, .int .i64 k.b, .int .i64 k.c, .int .i64 k.d, .int .i64 k.w, .int .i64 k.s]
theorem kKey_some (k : KSt) (hk : KOk k) : ∃ l, Go.keyOf Try.prog 37 (kAgg k) = some l := by
  obtain ⟨h1, h2, h3, h4, h5, h6, h7, h8, h9, h10⟩ := hk
  have hu := Try.underlying37
  have hi := Try.underlying3
  have hkt : (Try.prog).keyType 37 = true := by kernel_rfl
  have hsz : ∃ n, (Try.prog).types.size + 1 = n + 2 := ⟨(Try.prog).types.size - 1, by have : (Try.prog).types.size = (Try.prog).types.size - 1 + 1 := (by kernel_rfl); omega⟩
  have hco : (Try.prog).cellsOf 37 = 6 := by kernel_rfl
  have hci : (Try.prog).cellsOf 3 = 1 := by kernel_rfl
  have hf : (kAgg k).formed Try.prog 37 = true := by
    simp [Value.formed, kAgg, hu, hco]
  obtain ⟨n, hn⟩ := hsz
  unfold Go.keyOf
  rw [hu]
  simp only [hkt, hf, Bool.and_self, if_true, hn]
  have hL : ∀ x : Int, 0 ≤ x → x ≤ 6 → (Try.prog).keyLits (n + 1) 3 [.int .i64 x] = some [.int .i64 x] := fun x g1 g2 => by
    have hw : (Lit.int .i64 x).wf = true := WalkArith.wf_i64 (by omega)
    simp [Program.keyLits, hi, hw]
  have e : (kAgg k).cells.toList = [.int .i64 k.a, .int .i64 k.b, .int .i64 k.c, .int .i64 k.d, .int .i64 k.w, .int .i64 k.s] := rfl
  have hall : (Try.prog).keyLits (n + 2) 37 (kAgg k).cells.toList = some [.int .i64 k.a, .int .i64 k.b, .int .i64 k.c, .int .i64 k.d, .int .i64 k.w, .int .i64 k.s] := by
    rw [e]
    unfold Program.keyLits
    rw [hu]
    simp [hco, hci, hL k.a (by omega) (by omega), hL k.b (by omega) (by omega), hL k.c (by omega) (by omega), hL k.d (by omega) (by omega), hL k.w (by omega) (by omega), hL k.s (by omega) (by omega)]
  rw [hall]
  exact ⟨_, rfl⟩
noncomputable def kLit (k : KSt) : Lit := (Go.keyOf Try.prog 37 (kAgg k)).getD (.int .i64 0)
theorem kLit_is (k : KSt) (hk : KOk k) : Go.keyOf Try.prog 37 (kAgg k) = some (kLit k) := by
  obtain ⟨l, hl⟩ := kKey_some k hk
  unfold kLit
  rw [hl]; rfl
theorem kAgg_inj (k k' : KSt) (h : kAgg k = kAgg k') : k = k' := by
  obtain ⟨a, b, c, d, we, se⟩ := k
  obtain ⟨a', b', c', d', we', se'⟩ := k'
  simp [kAgg] at h
  obtain ⟨rfl, rfl, rfl, rfl, rfl, rfl⟩ := h
  rfl
theorem kLit_ne (k k' : KSt) (hk : KOk k) (hk' : KOk k') (h : k ≠ k') : kLit k ≠ kLit k' := fun e => by
  have h1 := kLit_is k hk
  have h2 := kLit_is k' hk'
  rw [e] at h1
  exact h (kAgg_inj _ _ (kKeyed.inj h1 h2))
/-- What is known of states is right. -/
def Memo (al : Bool) (w : World) (mb n : Nat) : Prop := ∃ D : DataW Nat, w.ownsMap Try.prog 37 (Go.plainElem Try.prog 3) mb n D ∧ ∀ k, KOk k → Go.Maps.has D (kLit k) = true → ∀ z, D.atKey (kLit k) z = .lit (.int .i64 (kVal al k))
theorem Memo.look {al : Bool} {w : World} {mb n : Nat} (h : Memo al w mb n) (k : KSt) (hk : KOk k) :
    ∃ v b, (Instr.lookup 50 (.map (some mb)) (kAgg k) true).run Try.prog w = .ok (.tuple #[.int .i64 v, .bool b]) w ∧ (b = true → v = kVal al k) := by
  obtain ⟨D, ho, hD⟩ := h
  have hz : (zeroValue 3).run Try.prog w = .ok (.int .i64 0) w := by kernel_rfl
  have hw0 : (Lit.int .i64 0).wf = true := by decide
  obtain ⟨v, ps, hrun, hv⟩ := ho.look_ok kKeyed Try.underlying50 hz (Go.plainElem_int Try.underlying3 hw0) (kLit_is k hk)
  obtain ⟨a, rfl, ha, _⟩ := Go.plainElem_int_inv Try.underlying3 hv
  refine ⟨a, _, hrun, fun hb => ?_⟩
  have h1 := hD k hk hb (.lit (.int .i64 0))
  have h2 := (Prod.mk.inj ha).1
  rw [h1] at h2
  injection h2 with h2
  injection h2 with _ h2
  exact h2.symm
theorem Memo.update {al : Bool} {w : World} {mb n : Nat} (h : Memo al w mb n) (hn : n < maxLen) (k : KSt) (hk : KOk k) :
    ∃ w', (Instr.mapUpdate 50 (.map (some mb)) (kAgg k) (.int .i64 (kVal al k))).run Try.prog w = .ok () w' ∧ Memo al w' mb (n + 1) ∧ w.grownBy w' (some mb) := by
  obtain ⟨D, ho, hD⟩ := h
  have hr := kVal_range al k
  have hw : (Lit.int .i64 (kVal al k)).wf = true := WalkArith.wf_i64 (by unfold kNever at hr; omega)
  obtain ⟨w', hrun, ho', hg⟩ := ho.update kKeyed Try.underlying50 hn (kLit_is k hk) (Go.plainElem_int Try.underlying3 hw)
  refine ⟨w', hrun, ⟨_, ho', fun k' hk' hh z => ?_⟩, hg⟩
  by_cases he : k = k'
  · subst he
    exact Go.Maps.atKey_put_same ho.isMap (kKeyed.key (kLit_is k hk)) _ _
  · have hne := kLit_ne k' k hk' hk (fun e => he e.symm)
    rw [Go.Maps.has_put_other hne] at hh
    rw [Go.Maps.atKey_put_other hne]
    exact hD k' hk' hh z
theorem Memo.start (al : Bool) (w : World) : Memo al (w.alloc (.map #[] 0)) w.heap.size 0 :=
  ⟨_, World.ownsMap_made w _ _ _, fun k _ h => by cases h⟩
theorem Memo.mono {al : Bool} {w : World} {mb n n' : Nat} (h : Memo al w mb n) (hn : n ≤ n') : Memo al w mb n' := by
  obtain ⟨D, ho, hD⟩ := h
  exact ⟨D, ho.mono hn, hD⟩
theorem Memo.lt {al : Bool} {w : World} {mb n : Nat} (h : Memo al w mb n) : mb < w.heap.size := by
  obtain ⟨D, ho, _⟩ := h
  exact ho.lt
theorem Memo.step {al : Bool} {w w' : World} {mb n : Nat} (h : Memo al w mb n) (hb : w'.heap[mb]? = w.heap[mb]?) : Memo al w' mb n := by
  obtain ⟨D, ⟨es, clock, h1, h2⟩, hD⟩ := h
  exact ⟨D, ⟨es, clock, hb.trans h1, h2⟩, hD⟩
theorem Memo.below {al : Bool} {w w' : World} {mb n : Nat} (h : Memo al w mb n) (hb : Below w.heap.size w w') : Memo al w' mb n := h.step (hb.block mb h.lt)
/-- Nothing old is written but one map; the streams are as they were. -/
structure KeptM (w W : World) (mb : Nat) : Prop where
  one : Kept w W (fun k_ => k_ = mb)
  all : Below 0 w W
theorem KeptM.size {w W : World} {mb : Nat} (h : KeptM w W mb) : w.heap.size ≤ W.heap.size := h.1.1
theorem KeptM.refl (w : World) (mb : Nat) : KeptM w w mb := ⟨Kept.refl _ _, Below.refl _ _⟩
theorem KeptM.of_below {w W : World} (h : Below w.heap.size w W) (mb : Nat) : KeptM w W mb := ⟨Kept.of_below h _, h.mono (Nat.zero_le _)⟩
theorem KeptM.then_ {w W W2 : World} {mb : Nat} (h : KeptM w W mb) (k : KeptM W W2 mb) : KeptM w W2 mb := ⟨h.1.then_ k.1 (fun _ h_ => Or.inl h_), h.2.trans k.2⟩
theorem KeptM.below {w W W2 : World} {mb : Nat} (h : KeptM w W mb) (hb : Below W.heap.size W W2) : KeptM w W2 mb := ⟨h.1.below hb, h.2.trans (hb.mono (Nat.zero_le _))⟩
theorem KeptM.drew {w W : World} {mb : Nat} (h : KeptM w W mb) : KeptM w W.drew mb := ⟨h.1.drew, h.2.drew⟩
theorem KeptM.setCell {w W : World} {mb : Nat} (h : KeptM w W mb) {p : Addr} (hp : p.block = mb ∨ w.heap.size ≤ p.block) (u : Value) : KeptM w (W.setCell p u) mb := ⟨h.1.setCell hp u, h.2.setCell (Nat.zero_le _) u⟩
theorem KeptM.of_grown {w W W2 : World} {mb : Nat} (hg : W.grownBy W2 (some mb)) (h : KeptM w W mb) : KeptM w W2 mb := ⟨Kept.of_grown hg h.1 (fun _ hk => Or.inl (Option.some.inj hk).symm), h.2.grown hg (Nat.zero_le _) (fun _ _ => Nat.zero_le _)⟩
theorem KeptM.new {w W : World} {mb : Nat} (h : KeptM w W mb) (hm : w.heap.size ≤ mb) : Below w.heap.size w W := ⟨h.2.os, h.2.tape, h.2.output, h.1.1, fun k hk => h.1.2 k hk (by intro he; omega)⟩
/-- How many states are learnt at most. -/
def kT : Nat → Nat
  | 0 => 0
  | m + 1 => m * (2 * kT m) + 1
def LeastC (al : Bool) (m : Nat) : Prop := ∀ (k : KSt) (gs mb n : Nat) (W : World), KOk k → kMu k < m → n + kT m ≤ 2000000000000000000 → gs ≠ mb → W.heap[gs]? = some (.cells #[.bool al, .map (some mb)] 52 (0, 0)) → Memo al W mb n →
    Calls Try.prog 18 #[.pointer (some ⟨gs, 0, none⟩), .agg #[.int .i64 k.a, .int .i64 k.b, .int .i64 k.c, .int .i64 k.d, .int .i64 k.w, .int .i64 k.s]] W fun e' w' => e' = .returned (.int .i64 (kVal al k)) ∧ Memo al w' mb (n + kT m) ∧ KeptM W w' mb
set_option maxHeartbeats 8000000 in
set_option maxRecDepth 100000 in
theorem with_of (al : Bool) (m : Nat) (hP : LeastC al m) (k : KSt) (hk : KOk k) (hm : kMu k ≤ m) (st : Bool) (f : Int) (ht : (st, f) ∈ kTests k) (gs mb n : Nat) (W : World) (hn : n + 2 * kT m ≤ 2000000000000000000) (hne : gs ≠ mb) (hS : W.heap[gs]? = some (.cells #[.bool al, .map (some mb)] 52 (0, 0))) (hM : Memo al W mb n) :
    Calls Try.prog 31 #[.pointer (some ⟨gs, 0, none⟩), .agg #[.int .i64 k.a, .int .i64 k.b, .int .i64 k.c, .int .i64 k.d, .int .i64 k.w, .int .i64 k.s], .agg #[.bool st, .int .i64 f, .bool false]] W fun e' w' => e' = .returned (.int .i64 (kW al k (st, f))) ∧ Memo al w' mb (n + 2 * kT m) ∧ KeptM W w' mb := by
  have o1 := kAft_ok hk _ ht false
  have o2 := kAft_ok hk _ ht true
  have a1 := behind_is k hk _ ht false
  have a2 := behind_is k hk _ ht true
  simp only at o1 o2 a1 a2
  have hv : kW al k (st, f) = 1 + max (kVal al (kAft k st f false)) (kVal al (kAft k st f true)) := rfl
  have r1 := kVal_range al (kAft k st f false)
  have r2 := kVal_range al (kAft k st f true)
  have HF1 : Aside0 (∀ (W : World), W.heap[gs]? = some (.cells #[.bool al, .map (some mb)] 52 (0, 0)) → Memo al W mb n → Calls Try.prog 18 #[.pointer (some ⟨gs, 0, none⟩), .agg #[.int .i64 (kAft k st f false).a, .int .i64 (kAft k st f false).b, .int .i64 (kAft k st f false).c, .int .i64 (kAft k st f false).d, .int .i64 (kAft k st f false).w, .int .i64 (kAft k st f false).s]] W fun e' w' => e' = .returned (.int .i64 (kVal al (kAft k st f false))) ∧ Memo al w' mb (n + kT m) ∧ KeptM W w' mb) := ⟨fun W h1 h2 => hP _ gs mb n W o1.1 (by omega) (by omega) hne h1 h2⟩
  have HF2 : Aside0 (∀ (W : World), W.heap[gs]? = some (.cells #[.bool al, .map (some mb)] 52 (0, 0)) → Memo al W mb (n + kT m) → Calls Try.prog 18 #[.pointer (some ⟨gs, 0, none⟩), .agg #[.int .i64 (kAft k st f true).a, .int .i64 (kAft k st f true).b, .int .i64 (kAft k st f true).c, .int .i64 (kAft k st f true).d, .int .i64 (kAft k st f true).w, .int .i64 (kAft k st f true).s]] W fun e' w' => e' = .returned (.int .i64 (kVal al (kAft k st f true))) ∧ Memo al w' mb (n + kT m + kT m) ∧ KeptM W w' mb) := ⟨fun W h1 h2 => hP _ gs mb _ W o2.1 (by omega) (by omega) hne h1 h2⟩
  have HA1 := Aside0.mk (fun (W : World) => impl_knowledge_behind.calls 1 k.a k.b k.c k.d k.w k.s st f false _ _ _ _ _ _ W a1)
  have HA2 := Aside0.mk (fun (W : World) => impl_knowledge_behind.calls 1 k.a k.b k.c k.d k.w k.s st f true _ _ _ _ _ _ W a2)
  rw [hv]
  clear hv a1 a2 o1 o2 hP hm ht hk hn
  rw [show n + 2 * kT m = n + kT m + kT m by omega]
  generalize n + kT m = n1 at HF1 HF2 ⊢
  generalize n1 + kT m = n2 at HF2 ⊢
  generalize kVal al (kAft k st f false) = v1 at HF1 r1 ⊢
  generalize kVal al (kAft k st f true) = v2 at HF2 r2 ⊢
  generalize kAft k st f false = k1 at HF1 HA1
  generalize kAft k st f true = k2 at HF2 HA2
  obtain ⟨xa1, xb1, xc1, xd1, xw1, xs1⟩ := k1
  obtain ⟨xa2, xb2, xc2, xd2, xw2, xs2⟩ := k2
  obtain ⟨xa, xb, xc, xd, xw, xs⟩ := k
  simp only at HF1 HF2 HA1 HA2 ⊢
  have hmx : (if v1 < v2 then v2 else v1) = max v1 v2 := by split <;> omega
  have hmr : 0 ≤ max v1 v2 ∧ max v1 v2 ≤ 1125899906842624 := by unfold kNever at r1 r2; omega
  have hw1 : IntKind.i64.wrap (1 + max v1 v2) = 1 + max v1 v2 := by rw [i64_w]; unfold wrap64; omega
  have HM := Aside0.mk hM
  have KS := Aside0.mk hS
  have NS := Aside0.mk hne
  clear hM hS hne r1 r2
  go_enter Try.func31, Try.ntmps31
  go_wp2_with (first
    | ((with_reducible refine gate_dst (N := 4) rfl ?_); refine box_event ?hg (N := 4) ?hd (cs := #[.int .i64 xa, .int .i64 xb, .int .i64 xc, .int .i64 xd, .int .i64 xw, .int .i64 xs]) (t := 37) ?hr ?_; (case hd => rfl); (case hg => rfl); (case hr => first | (go_simp; done) | (go_simp; rfl)); intro gb hg w2 hbox hb; have NB := Aside0.mk (show gb ≠ mb by intro he; have h1_ := Memo.lt HM.out; omega); have n1_ := Aside0.mk (Memo.below HM.out hb); have n2_ := Aside0.mk (KeptM.of_below hb mb); have n3_ := Aside0.mk (blk_below KS.out hb); clear HM KS; have HM := n1_; have HKp := n2_; have KS := n3_; have KB := Aside0.mk hbox; clear n1_ n2_ n3_; have hb0 : w2.cell? ⟨gb, 0, none⟩ = some (.int .i64 xa) := (blk_cell KB.out 0).trans rfl; have hb1 : w2.cell? ⟨gb, 1, none⟩ = some (.int .i64 xb) := (blk_cell KB.out 1).trans rfl; have hb2 : w2.cell? ⟨gb, 2, none⟩ = some (.int .i64 xc) := (blk_cell KB.out 2).trans rfl; have hb3 : w2.cell? ⟨gb, 3, none⟩ = some (.int .i64 xd) := (blk_cell KB.out 3).trans rfl; have hb4 : w2.cell? ⟨gb, 4, none⟩ = some (.int .i64 xw) := (blk_cell KB.out 4).trans rfl; have hb5 : w2.cell? ⟨gb, 5, none⟩ = some (.int .i64 xs) := (blk_cell KB.out 5).trans rfl; clear hg hbox hb)
    | ((with_reducible refine gate_dst (N := 5) rfl ?_); refine box_event ?hg (N := 5) ?hd (cs := #[.bool st, .int .i64 f, .bool false]) (t := 42) ?hr ?_; (case hd => rfl); (case hg => rfl); (case hr => first | (go_simp; done) | (go_simp; rfl)); intro gt hg w3 hbox hb; have NT := Aside0.mk (show gt ≠ mb by intro he; have h1_ := Memo.lt HM.out; omega); have NBT := Aside0.mk (show gb ≠ gt by intro he; have h1_ := blk_lt KB.out; omega); have GT := Aside0.mk (show W.heap.size ≤ gt by rw [hg]; exact HKp.out.size); have NST := Aside0.mk (show gs ≠ gt by intro he; have h1_ := blk_lt KS.out; omega); have n1_ := Aside0.mk (Memo.below HM.out hb); have n2_ := Aside0.mk (HKp.out.below hb); have n3_ := Aside0.mk (blk_below KS.out hb); have n4_ := Aside0.mk (blk_below KB.out hb); clear HM KS HKp KB; have HM := n1_; have HKp := n2_; have KS := n3_; have KB := n4_; have KT := Aside0.mk hbox; clear n1_ n2_ n3_ n4_; clear hb0 hb1 hb2 hb3 hb4 hb5; have hb0 : w3.cell? ⟨gb, 0, none⟩ = some (.int .i64 xa) := (blk_cell KB.out 0).trans rfl; have hb1 : w3.cell? ⟨gb, 1, none⟩ = some (.int .i64 xb) := (blk_cell KB.out 1).trans rfl; have hb2 : w3.cell? ⟨gb, 2, none⟩ = some (.int .i64 xc) := (blk_cell KB.out 2).trans rfl; have hb3 : w3.cell? ⟨gb, 3, none⟩ = some (.int .i64 xd) := (blk_cell KB.out 3).trans rfl; have hb4 : w3.cell? ⟨gb, 4, none⟩ = some (.int .i64 xw) := (blk_cell KB.out 4).trans rfl; have hb5 : w3.cell? ⟨gb, 5, none⟩ = some (.int .i64 xs) := (blk_cell KB.out 5).trans rfl; have ht0 : w3.cell? ⟨gt, 0, none⟩ = some (.bool st) := (blk_cell KT.out 0).trans rfl; have ht1 : w3.cell? ⟨gt, 1, none⟩ = some (.int .i64 f) := (blk_cell KT.out 1).trans rfl; have ht2 : w3.cell? ⟨gt, 2, none⟩ = some (.bool false) := (blk_cell KT.out 2).trans rfl; clear hg hbox hb)
    | (go_at_call 36; with_reducible refine (HA1.out _).mono ?_; rintro e_ w4 ⟨rfl, hb⟩; have n1_ := Aside0.mk (Memo.below HM.out hb); have n2_ := Aside0.mk (HKp.out.below hb); have n3_ := Aside0.mk (blk_below KS.out hb); have n4_ := Aside0.mk (blk_below KB.out hb); have n5_ := Aside0.mk (blk_below KT.out hb); clear HM KS HKp KB KT; have HM := n1_; have HKp := n2_; have KS := n3_; have KB := n4_; have KT := n5_; clear n1_ n2_ n3_ n4_ n5_; clear hb0 hb1 hb2 hb3 hb4 hb5; clear ht0 ht1 ht2; have hb0 : w4.cell? ⟨gb, 0, none⟩ = some (.int .i64 xa) := (blk_cell KB.out 0).trans rfl; have hb1 : w4.cell? ⟨gb, 1, none⟩ = some (.int .i64 xb) := (blk_cell KB.out 1).trans rfl; have hb2 : w4.cell? ⟨gb, 2, none⟩ = some (.int .i64 xc) := (blk_cell KB.out 2).trans rfl; have hb3 : w4.cell? ⟨gb, 3, none⟩ = some (.int .i64 xd) := (blk_cell KB.out 3).trans rfl; have hb4 : w4.cell? ⟨gb, 4, none⟩ = some (.int .i64 xw) := (blk_cell KB.out 4).trans rfl; have hb5 : w4.cell? ⟨gb, 5, none⟩ = some (.int .i64 xs) := (blk_cell KB.out 5).trans rfl; have ht0 : w4.cell? ⟨gt, 0, none⟩ = some (.bool st) := (blk_cell KT.out 0).trans rfl; have ht1 : w4.cell? ⟨gt, 1, none⟩ = some (.int .i64 f) := (blk_cell KT.out 1).trans rfl; have ht2 : w4.cell? ⟨gt, 2, none⟩ = some (.bool false) := (blk_cell KT.out 2).trans rfl; clear hb)
    | (go_at_call 36; with_reducible refine (HA2.out _).mono ?_; rintro e_ w4 ⟨rfl, hb⟩; have n1_ := Aside0.mk (Memo.below HM.out hb); have n2_ := Aside0.mk (HKp.out.below hb); have n3_ := Aside0.mk (blk_below KS.out hb); have n4_ := Aside0.mk (blk_below KB.out hb); have n5_ := Aside0.mk (blk_below KT.out hb); clear HM KS HKp KB KT; have HM := n1_; have HKp := n2_; have KS := n3_; have KB := n4_; have KT := n5_; clear n1_ n2_ n3_ n4_ n5_; clear hb0 hb1 hb2 hb3 hb4 hb5; clear ht0 ht1 ht2; have hb0 : w4.cell? ⟨gb, 0, none⟩ = some (.int .i64 xa) := (blk_cell KB.out 0).trans rfl; have hb1 : w4.cell? ⟨gb, 1, none⟩ = some (.int .i64 xb) := (blk_cell KB.out 1).trans rfl; have hb2 : w4.cell? ⟨gb, 2, none⟩ = some (.int .i64 xc) := (blk_cell KB.out 2).trans rfl; have hb3 : w4.cell? ⟨gb, 3, none⟩ = some (.int .i64 xd) := (blk_cell KB.out 3).trans rfl; have hb4 : w4.cell? ⟨gb, 4, none⟩ = some (.int .i64 xw) := (blk_cell KB.out 4).trans rfl; have hb5 : w4.cell? ⟨gb, 5, none⟩ = some (.int .i64 xs) := (blk_cell KB.out 5).trans rfl; have ht0 : w4.cell? ⟨gt, 0, none⟩ = some (.bool st) := (blk_cell KT.out 0).trans rfl; have ht1 : w4.cell? ⟨gt, 1, none⟩ = some (.int .i64 f) := (blk_cell KT.out 1).trans rfl; have ht2 : w4.cell? ⟨gt, 2, none⟩ = some (.bool true) := (blk_cell KT.out 2).trans rfl; clear hb)
    | (go_at_call 18; with_reducible refine (HF1.out _ KS.out HM.out).mono ?_; rintro e_ w4 ⟨rfl, hM, hk⟩; have n2_ := Aside0.mk (HKp.out.then_ hk); have n3_ := Aside0.mk (blk_kept KS.out hk.one NS.out); have n4_ := Aside0.mk (blk_kept KB.out hk.one NB.out); have n5_ := Aside0.mk (blk_kept KT.out hk.one NT.out); clear HM KS HKp KB KT; have HM := Aside0.mk hM; have HKp := n2_; have KS := n3_; have KB := n4_; have KT := n5_; clear n2_ n3_ n4_ n5_; clear hb0 hb1 hb2 hb3 hb4 hb5; clear ht0 ht1 ht2; have hb0 : w4.cell? ⟨gb, 0, none⟩ = some (.int .i64 xa) := (blk_cell KB.out 0).trans rfl; have hb1 : w4.cell? ⟨gb, 1, none⟩ = some (.int .i64 xb) := (blk_cell KB.out 1).trans rfl; have hb2 : w4.cell? ⟨gb, 2, none⟩ = some (.int .i64 xc) := (blk_cell KB.out 2).trans rfl; have hb3 : w4.cell? ⟨gb, 3, none⟩ = some (.int .i64 xd) := (blk_cell KB.out 3).trans rfl; have hb4 : w4.cell? ⟨gb, 4, none⟩ = some (.int .i64 xw) := (blk_cell KB.out 4).trans rfl; have hb5 : w4.cell? ⟨gb, 5, none⟩ = some (.int .i64 xs) := (blk_cell KB.out 5).trans rfl; have ht0 : w4.cell? ⟨gt, 0, none⟩ = some (.bool st) := (blk_cell KT.out 0).trans rfl; have ht1 : w4.cell? ⟨gt, 1, none⟩ = some (.int .i64 f) := (blk_cell KT.out 1).trans rfl; have ht2 : w4.cell? ⟨gt, 2, none⟩ = some (.bool false) := (blk_cell KT.out 2).trans rfl; clear hM hk)
    | (go_at_call 18; with_reducible refine (HF2.out _ KS.out HM.out).mono ?_; rintro e_ w4 ⟨rfl, hM, hk⟩; have n2_ := Aside0.mk (HKp.out.then_ hk); have n3_ := Aside0.mk (blk_kept KS.out hk.one NS.out); have n4_ := Aside0.mk (blk_kept KB.out hk.one NB.out); have n5_ := Aside0.mk (blk_kept KT.out hk.one NT.out); clear HM KS HKp KB KT; have HM := Aside0.mk hM; have HKp := n2_; have KS := n3_; have KB := n4_; have KT := n5_; clear n2_ n3_ n4_ n5_; clear hb0 hb1 hb2 hb3 hb4 hb5; clear ht0 ht1 ht2; have hb0 : w4.cell? ⟨gb, 0, none⟩ = some (.int .i64 xa) := (blk_cell KB.out 0).trans rfl; have hb1 : w4.cell? ⟨gb, 1, none⟩ = some (.int .i64 xb) := (blk_cell KB.out 1).trans rfl; have hb2 : w4.cell? ⟨gb, 2, none⟩ = some (.int .i64 xc) := (blk_cell KB.out 2).trans rfl; have hb3 : w4.cell? ⟨gb, 3, none⟩ = some (.int .i64 xd) := (blk_cell KB.out 3).trans rfl; have hb4 : w4.cell? ⟨gb, 4, none⟩ = some (.int .i64 xw) := (blk_cell KB.out 4).trans rfl; have hb5 : w4.cell? ⟨gb, 5, none⟩ = some (.int .i64 xs) := (blk_cell KB.out 5).trans rfl; have ht0 : w4.cell? ⟨gt, 0, none⟩ = some (.bool st) := (blk_cell KT.out 0).trans rfl; have ht1 : w4.cell? ⟨gt, 1, none⟩ = some (.int .i64 f) := (blk_cell KT.out 1).trans rfl; have ht2 : w4.cell? ⟨gt, 2, none⟩ = some (.bool true) := (blk_cell KT.out 2).trans rfl; clear hM hk)
    | ((with_reducible refine gate_store (t := 4) (p := 13) rfl ?_); have hfz_ := blk_frozen KT.out 2; refine store_event (t := 4) (p := 13) (v := ?vo_) (w1 := (w4.setCell ⟨gt, 2, none⟩ (.bool true))) ?hg ?ho ?hn ?hr ?_; (case ho => rfl); (case hg => rfl); (case hn => rfl); (case hr => first | (go_simp; done) | (go_simp; rfl)); intro w5 hw; have n1_ := Aside0.mk (HM.out.step (w' := w5) (by rw [hw]; exact Below.heap_setCell w4 _ _ mb (Ne.symm NT.out))); have n2_ : Aside0 (KeptM W w5 mb) := ⟨by rw [hw]; exact HKp.out.setCell (Or.inr GT.out) _⟩; have n3_ : Aside0 (w5.heap[gs]? = some (.cells #[.bool al, .map (some mb)] 52 (0, 0))) := ⟨by rw [hw]; exact (Below.heap_setCell w4 _ _ gs NST.out).trans KS.out⟩; have n4_ : Aside0 (w5.heap[gb]? = some (.cells #[.int .i64 xa, .int .i64 xb, .int .i64 xc, .int .i64 xd, .int .i64 xw, .int .i64 xs] 37 (0, 0))) := ⟨by rw [hw]; exact (Below.heap_setCell w4 _ _ gb NBT.out).trans KB.out⟩; have n5_ : Aside0 (w5.heap[gt]? = some (.cells #[.bool st, .int .i64 f, .bool true] 42 (0, 0))) := ⟨by rw [hw]; have h9_ := blk_set KT.out 2 (.bool true); simpa using h9_⟩; clear HM KS HKp KB KT hw hfz_; have HM := n1_; have HKp := n2_; have KS := n3_; have KB := n4_; have KT := n5_; clear n1_ n2_ n3_ n4_ n5_; clear hb0 hb1 hb2 hb3 hb4 hb5; clear ht0 ht1 ht2; have hb0 : w5.cell? ⟨gb, 0, none⟩ = some (.int .i64 xa) := (blk_cell KB.out 0).trans rfl; have hb1 : w5.cell? ⟨gb, 1, none⟩ = some (.int .i64 xb) := (blk_cell KB.out 1).trans rfl; have hb2 : w5.cell? ⟨gb, 2, none⟩ = some (.int .i64 xc) := (blk_cell KB.out 2).trans rfl; have hb3 : w5.cell? ⟨gb, 3, none⟩ = some (.int .i64 xd) := (blk_cell KB.out 3).trans rfl; have hb4 : w5.cell? ⟨gb, 4, none⟩ = some (.int .i64 xw) := (blk_cell KB.out 4).trans rfl; have hb5 : w5.cell? ⟨gb, 5, none⟩ = some (.int .i64 xs) := (blk_cell KB.out 5).trans rfl; have ht0 : w5.cell? ⟨gt, 0, none⟩ = some (.bool st) := (blk_cell KT.out 0).trans rfl; have ht1 : w5.cell? ⟨gt, 1, none⟩ = some (.int .i64 f) := (blk_cell KT.out 1).trans rfl; have ht2 : w5.cell? ⟨gt, 2, none⟩ = some (.bool true) := (blk_cell KT.out 2).trans rfl; skip))
  go_ret
  exact ⟨rfl, HM.out, HKp.out⟩
set_option maxHeartbeats 8000000 in
set_option maxRecDepth 100000 in
theorem least_end (al : Bool) (m : Nat) (k : KSt) (gs mb n : Nat) (W : World) (hk : KOk k) (hne : gs ≠ mb) (hS : W.heap[gs]? = some (.cells #[.bool al, .map (some mb)] 52 (0, 0))) (hM : Memo al W mb n) (he : kEnd al k = true) :
    Calls Try.prog 18 #[.pointer (some ⟨gs, 0, none⟩), .agg #[.int .i64 k.a, .int .i64 k.b, .int .i64 k.c, .int .i64 k.d, .int .i64 k.w, .int .i64 k.s]] W fun e' w' => e' = .returned (.int .i64 (kVal al k)) ∧ Memo al w' mb (n + kT m) ∧ KeptM W w' mb := by
  have hv : kVal al k = 0 := by rw [kVal_eq al k hk, if_pos he]
  have HV := Aside0.mk hv
  have HM := Aside0.mk hM
  have KS := Aside0.mk hS
  have HMN : Aside0 (n ≤ n + kT m) := ⟨Nat.le_add_right _ _⟩
  unfold kEnd at he
  rw [Bool.and_eq_true, decide_eq_true_eq] at he
  obtain ⟨hab, h2⟩ := he
  have hq1 : (k.a == k.b) = true := by rw [beq_iff_eq]; exact hab
  clear hv hM hS hk hab hne
  cases al with
  | true =>
    clear h2
    go_enter Try.func18, Try.ntmps18
    go_wp2_with (((with_reducible refine gate_dst (N := 3) rfl ?_); refine box_event ?hg (N := 3) ?hd (cs := #[.int .i64 k.a, .int .i64 k.b, .int .i64 k.c, .int .i64 k.d, .int .i64 k.w, .int .i64 k.s]) (t := 37) ?hr ?_; (case hd => rfl); (case hg => rfl); (case hr => first | (go_simp; done) | (go_simp; rfl)); intro gb hg w2 hbox hb; have NB := Aside0.mk (show gb ≠ mb by intro he; have h1_ := Memo.lt HM.out; omega); have n1_ := Aside0.mk (Memo.below HM.out hb); have n2_ := Aside0.mk (KeptM.of_below hb mb); have n3_ := Aside0.mk (blk_below KS.out hb); clear HM KS; have HM := n1_; have HKp := n2_; have KS := n3_; have KB := Aside0.mk hbox; clear n1_ n2_ n3_; have hb0 : w2.cell? ⟨gb, 0, none⟩ = some (.int .i64 k.a) := (blk_cell KB.out 0).trans rfl; have hb1 : w2.cell? ⟨gb, 1, none⟩ = some (.int .i64 k.b) := (blk_cell KB.out 1).trans rfl; have hb2 : w2.cell? ⟨gb, 2, none⟩ = some (.int .i64 k.c) := (blk_cell KB.out 2).trans rfl; have hb3 : w2.cell? ⟨gb, 3, none⟩ = some (.int .i64 k.d) := (blk_cell KB.out 3).trans rfl; have hb4 : w2.cell? ⟨gb, 4, none⟩ = some (.int .i64 k.w) := (blk_cell KB.out 4).trans rfl; have hb5 : w2.cell? ⟨gb, 5, none⟩ = some (.int .i64 k.s) := (blk_cell KB.out 5).trans rfl; have hs0 : w2.cell? ⟨gs, 0, none⟩ = some (.bool true) := (blk_cell KS.out 0).trans rfl; have hs1 : w2.cell? ⟨gs, 1, none⟩ = some (.map (some mb)) := (blk_cell KS.out 1).trans rfl; clear hg hbox hb))
    go_ret
    exact ⟨by rw [HV.out]; rfl, HM.out.mono HMN.out, HKp.out⟩
  | false =>
    rw [Bool.false_or, decide_eq_true_eq] at h2
    have hq2 : (k.c == k.d) = true := by rw [beq_iff_eq]; exact h2
    clear h2
    go_enter Try.func18, Try.ntmps18
    go_wp2_with (((with_reducible refine gate_dst (N := 3) rfl ?_); refine box_event ?hg (N := 3) ?hd (cs := #[.int .i64 k.a, .int .i64 k.b, .int .i64 k.c, .int .i64 k.d, .int .i64 k.w, .int .i64 k.s]) (t := 37) ?hr ?_; (case hd => rfl); (case hg => rfl); (case hr => first | (go_simp; done) | (go_simp; rfl)); intro gb hg w2 hbox hb; have NB := Aside0.mk (show gb ≠ mb by intro he; have h1_ := Memo.lt HM.out; omega); have n1_ := Aside0.mk (Memo.below HM.out hb); have n2_ := Aside0.mk (KeptM.of_below hb mb); have n3_ := Aside0.mk (blk_below KS.out hb); clear HM KS; have HM := n1_; have HKp := n2_; have KS := n3_; have KB := Aside0.mk hbox; clear n1_ n2_ n3_; have hb0 : w2.cell? ⟨gb, 0, none⟩ = some (.int .i64 k.a) := (blk_cell KB.out 0).trans rfl; have hb1 : w2.cell? ⟨gb, 1, none⟩ = some (.int .i64 k.b) := (blk_cell KB.out 1).trans rfl; have hb2 : w2.cell? ⟨gb, 2, none⟩ = some (.int .i64 k.c) := (blk_cell KB.out 2).trans rfl; have hb3 : w2.cell? ⟨gb, 3, none⟩ = some (.int .i64 k.d) := (blk_cell KB.out 3).trans rfl; have hb4 : w2.cell? ⟨gb, 4, none⟩ = some (.int .i64 k.w) := (blk_cell KB.out 4).trans rfl; have hb5 : w2.cell? ⟨gb, 5, none⟩ = some (.int .i64 k.s) := (blk_cell KB.out 5).trans rfl; have hs0 : w2.cell? ⟨gs, 0, none⟩ = some (.bool false) := (blk_cell KS.out 0).trans rfl; have hs1 : w2.cell? ⟨gs, 1, none⟩ = some (.map (some mb)) := (blk_cell KS.out 1).trans rfl; clear hg hbox hb))
    go_ret
    exact ⟨by rw [HV.out]; rfl, HM.out.mono HMN.out, HKp.out⟩
/-- The cells of a row of tests, as long as all but one block stays. -/
theorem kRow_cells (b mb : Nat) (w3 : World) (A : Option Addr) (n c : Nat) (l : List (Bool × Int)) (hR : Kd.R k42 42 w3 b (fun _ => True) (.slice A n c) (kTs l)) (hmb : mb < b) : ∀ (wr : World), Kept w3 wr (fun k_ => k_ = mb) → ∀ i, i < n → ∃ g, A = some ⟨g, 0, none⟩ ∧ wr.cell? ⟨g, i * 3, none⟩ = some (.bool (l.getD i (false, 0)).1) ∧ wr.cell? ⟨g, i * 3 + 1, none⟩ = some (.int .i64 (l.getD i (false, 0)).2) ∧ wr.cell? ⟨g, i * 3 + 2, none⟩ = some (.bool false) := by
  intro wr hk i hi
  obtain ⟨h1, _, _⟩ := Kd.R_reads' hR
  obtain ⟨g, cc, hv, hg0, hg1, _⟩ := Kd.R_form hR (by omega)
  injection hv with hA hn hc
  subst hA
  refine ⟨g, rfl, ?_⟩
  obtain ⟨cl, hc1, hM, hcell, _⟩ := Kd.R_elem hR ⟨false, 0, false⟩ (i : Int) (by omega) (by omega)
  obtain rfl := k42_openM hM
  have hsz : (k42).sz = 3 := rfl
  have hcg : ∀ o, wr.cell? ⟨g, o, none⟩ = w3.cell? ⟨g, o, none⟩ := fun o => by
    unfold World.cell?
    show (match wr.heap[g]? with | some (.cells c _ _) => _ | _ => _) = (match w3.heap[g]? with | some (.cells c _ _) => _ | _ => _)
    rw [hk.2 g hg1 (by intro he; omega)]
  have e : (kTs l).getD i ⟨false, 0, false⟩ = ⟨(l.getD i (false, 0)).1, (l.getD i (false, 0)).2, false⟩ := by
    rw [kTs_len] at h1
    simp only [kTs, List.getD_eq_getElem?_getD, List.getElem?_map]
    rw [List.getElem?_eq_getElem (by omega)]
    rfl
  rw [Int.toNat_natCast, hsz, e] at hcell
  rw [hcg, hcg, hcg]
  exact ⟨hcell 0 _ rfl, hcell 1 _ rfl, hcell 2 _ rfl⟩
theorem kFold_take (al : Bool) (k : KSt) (l : List (Bool × Int)) (o : Int) (i : Nat) (hi : i < l.length) : kFold al k (l.take (i + 1)) o = min (kFold al k (l.take i) o) (kW al k (l.getD i (false, 0))) := by
  rw [List.take_add_one, kFold_append, List.getD_eq_getElem?_getD, List.getElem?_eq_getElem hi]
  rfl
theorem kTests_le (k : KSt) (hk : KOk k) : (kTests k).length ≤ 12 := by
  obtain ⟨h1, h2, h3, h4, h5, h6, h7, h8, h9, h10⟩ := hk
  unfold kTests
  rw [List.length_append, kRow_len, kRow_len]
  unfold kWn kSn
  split <;> split <;> omega
theorem kTests_mu (k : KSt) (hk : KOk k) : (kTests k).length ≤ kMu k := by
  obtain ⟨h1, h2, h3, h4, h5, h6, h7, h8, h9, h10⟩ := hk
  unfold kTests
  rw [List.length_append, kRow_len, kRow_len]
  unfold kWn kSn kMu
  split <;> split <;> omega
theorem getD_mem' (l : List (Bool × Int)) (i : Nat) (hi : i < l.length) : l.getD i (false, 0) ∈ l := by
  rw [List.getD_eq_getElem?_getD, List.getElem?_eq_getElem hi]
  exact List.getElem_mem hi
theorem store3 {w : World} {g : Nat} {x y z x' y' z' : Value} {t : TypeId} (h : w.heap[g]? = some (.cells #[x, y, z] t (0, 0))) : (((w.setCell ⟨g, 0, none⟩ x').setCell ⟨g, 1, none⟩ y').setCell ⟨g, 2, none⟩ z').heap[g]? = some (.cells #[x', y', z'] t (0, 0)) := by
  have h1 := blk_set h 0 x'
  have h2 := blk_set h1 1 y'
  have h3 := blk_set h2 2 z'
  simpa using h3
set_option maxHeartbeats 8000000 in
set_option maxRecDepth 100000 in
theorem least_known (al : Bool) (m : Nat) (hP : LeastC al m) (k : KSt) (gs mb n : Nat) (W : World) (hk : KOk k) (hm : kMu k ≤ m) (hn : n + kT (m + 1) ≤ 2000000000000000000) (hne : gs ≠ mb) (hS : W.heap[gs]? = some (.cells #[.bool al, .map (some mb)] 52 (0, 0))) (hM : Memo al W mb n) (hab : k.a ≠ k.b) :
    Calls Try.prog 18 #[.pointer (some ⟨gs, 0, none⟩), .agg #[.int .i64 k.a, .int .i64 k.b, .int .i64 k.c, .int .i64 k.d, .int .i64 k.w, .int .i64 k.s]] W fun e' w' => e' = .returned (.int .i64 (kVal al k)) ∧ Memo al w' mb (n + kT (m + 1)) ∧ KeptM W w' mb := by
  have hend : kEnd al k = false := by unfold kEnd; rw [decide_eq_false hab]; rfl
  have hq1 : (k.a == k.b) = false := by rw [beq_eq_false_iff_ne]; exact hab
  clear hab
  have HM := Aside0.mk hM
  have KS := Aside0.mk hS
  have NS := Aside0.mk hne
  have HOK := Aside0.mk hk
  have HMU := Aside0.mk hm
  obtain ⟨d_, hd⟩ : ∃ d_, 2 * kT m = d_ := ⟨_, rfl⟩
  have HD := Aside0.mk hd
  have HVAL : Aside0 (kVal al k = kFold al k (kTests k) kNever) := ⟨by rw [kVal_eq al k hk, if_neg (by rw [hend]; decide)]⟩
  obtain ⟨n_, hl⟩ : ∃ n_, (kTests k).length = n_ := ⟨_, rfl⟩
  have HL2 := Aside0.mk hl
  have HL : Aside0 ((kTs (kTests k)).length = n_) := ⟨by rw [kTs_len]; exact hl⟩
  have hn12 : n_ ≤ 12 := by rw [← hl]; exact kTests_le k hk
  have HN12 := Aside0.mk hn12
  obtain ⟨tt, htt⟩ : ∃ tt : Nat → Bool × Int, tt = fun i => (kTests k).getD i (false, 0) := ⟨_, rfl⟩
  have hnm : n_ ≤ m := by rw [← hl]; exact Nat.le_trans (kTests_mu k hk) hm
  have hpow : kT (m + 1) = m * d_ + 1 := by rw [kT, hd]
  have hmul : ∀ i, i ≤ n_ → i * d_ ≤ m * d_ := fun i hi => Nat.mul_le_mul_right _ (by omega)
  have HMEM : Aside0 (∀ i, i < n_ → tt i ∈ kTests k) := ⟨fun i hi => by rw [htt]; exact getD_mem' _ _ (by omega)⟩
  have HFOLD : Aside0 (∀ i, i < n_ → kFold al k ((kTests k).take (i + 1)) kNever = min (kFold al k ((kTests k).take i) kNever) (kW al k (tt i))) := ⟨fun i hi => by rw [htt]; exact kFold_take al k _ _ i (by omega)⟩
  have HBIG : Aside0 (∀ i, i < n_ → n + i * d_ + 2 * kT m ≤ 2000000000000000000) := ⟨fun i hi => by
    have h1 : (i + 1) * d_ ≤ m * d_ := hmul (i + 1) (by omega)
    rw [Nat.succ_mul] at h1
    omega⟩
  have HMAX : Aside0 (n + n_ * d_ < maxLen) := ⟨by
    have h1 := hmul n_ (Nat.le_refl _)
    have h2 : (2000000000000000000 : Nat) < maxLen := by decide
    omega⟩
  have HMAX2 : Aside0 (n + n_ * d_ + 1 ≤ n + kT (m + 1)) := ⟨by
    have h1 := hmul n_ (Nat.le_refl _)
    omega⟩
  have HTT : Aside0 (tt = fun i => (kTests k).getD i (false, 0)) := ⟨htt⟩
  have HTS := Aside0.mk (fun (W : World) => impl_knowledge_tests.calls 200 k.a k.b k.c k.d k.w k.s _ W (tests_is k hk))
  clear hM hS hk hm hn hne hend hd hl hn12 hnm htt hpow hmul
  go_enter Try.func18, Try.ntmps18
  go_wp2_with (((with_reducible refine gate_dst (N := 3) rfl ?_); refine box_event ?hg (N := 3) ?hd (cs := #[.int .i64 k.a, .int .i64 k.b, .int .i64 k.c, .int .i64 k.d, .int .i64 k.w, .int .i64 k.s]) (t := 37) ?hr ?_; (case hd => rfl); (case hg => rfl); (case hr => first | (go_simp; done) | (go_simp; rfl)); intro gb hg w2 hbox hb; have NB := Aside0.mk (show gb ≠ mb by intro he; have h1_ := Memo.lt HM.out; omega); have n1_ := Aside0.mk (Memo.below HM.out hb); have n2_ := Aside0.mk (KeptM.of_below hb mb); have n3_ := Aside0.mk (blk_below KS.out hb); clear HM KS; have HM := n1_; have HKp := n2_; have KS := n3_; have KB := Aside0.mk hbox; clear n1_ n2_ n3_; have hb0 : w2.cell? ⟨gb, 0, none⟩ = some (.int .i64 k.a) := (blk_cell KB.out 0).trans rfl; have hb1 : w2.cell? ⟨gb, 1, none⟩ = some (.int .i64 k.b) := (blk_cell KB.out 1).trans rfl; have hb2 : w2.cell? ⟨gb, 2, none⟩ = some (.int .i64 k.c) := (blk_cell KB.out 2).trans rfl; have hb3 : w2.cell? ⟨gb, 3, none⟩ = some (.int .i64 k.d) := (blk_cell KB.out 3).trans rfl; have hb4 : w2.cell? ⟨gb, 4, none⟩ = some (.int .i64 k.w) := (blk_cell KB.out 4).trans rfl; have hb5 : w2.cell? ⟨gb, 5, none⟩ = some (.int .i64 k.s) := (blk_cell KB.out 5).trans rfl; have hs0 : w2.cell? ⟨gs, 0, none⟩ = some (.bool al) := (blk_cell KS.out 0).trans rfl; have hs1 : w2.cell? ⟨gs, 1, none⟩ = some (.map (some mb)) := (blk_cell KS.out 1).trans rfl; clear hg hbox hb))
  obtain ⟨x, kn, hlk, hkn⟩ := Memo.look (HM.out.step (w' := w2.drew) rfl) k HOK.out
  have HLK : Aside0 ((Instr.lookup 50 (.map (some mb)) (.agg #[.int .i64 k.a, .int .i64 k.b, .int .i64 k.c, .int .i64 k.d, .int .i64 k.w, .int .i64 k.s]) true).run Try.prog w2.drew = .ok (.tuple #[.int .i64 x, .bool kn]) w2.drew) := ⟨hlk⟩
  have HKN := Aside0.mk hkn
  clear hlk hkn
  refine start_ (n := 11) (S := fun w' => w'.cell? ⟨gs, 1, none⟩ = some (.map (some mb)) ∧ w'.cell? ⟨gb, 0, none⟩ = some (.int .i64 k.a) ∧ w'.cell? ⟨gb, 1, none⟩ = some (.int .i64 k.b) ∧ w'.cell? ⟨gb, 2, none⟩ = some (.int .i64 k.c) ∧ w'.cell? ⟨gb, 3, none⟩ = some (.int .i64 k.d) ∧ w'.cell? ⟨gb, 4, none⟩ = some (.int .i64 k.w) ∧ w'.cell? ⟨gb, 5, none⟩ = some (.int .i64 k.s) ∧ (Instr.lookup 50 (.map (some mb)) (.agg #[.int .i64 k.a, .int .i64 k.b, .int .i64 k.c, .int .i64 k.d, .int .i64 k.w, .int .i64 k.s]) true).run Try.prog w' = .ok (.tuple #[.int .i64 x, .bool kn]) w') (ds := []) #[false, false, false, false, false, false, false, false, false, false, false] (by kernel_rfl) rfl rfl ⟨hs1, hb0, hb1, hb2, hb3, hb4, hb5, HLK.out⟩ (fun hHeld => ?_)
  refine pure_ (i := 0) (N := some 29) (v := ?_) (a' := ?_) #[true, false, false, false, false, false, false, false, false, false, false] rfl rfl (by kernel_rfl) (fun _ _ _ h => h) (Or.inl ⟨by rfl, ?_⟩) ?_ ?_
  rotate_left
  · intro w'
    go_simp
    with_reducible rfl
  rotate_left
  · simp only [Act.put, List.setIfInBounds_toArray, List.set_cons_zero, List.set_cons_succ, i64_w, i32_w]
    rfl
  refine pure_ (i := 1) (N := some 30) (v := ?_) (a' := ?_) #[true, true, false, false, false, false, false, false, false, false, false] rfl rfl (by kernel_rfl) (fun _ _ _ h => h) (Or.inl ⟨by rfl, ?_⟩) ?_ ?_
  rotate_left
  · intro w'
    go_simp
    with_reducible rfl
  rotate_left
  · simp only [Act.put, List.setIfInBounds_toArray, List.set_cons_zero, List.set_cons_succ, i64_w, i32_w]
    rfl
  refine pure_ (i := 2) (N := some 31) (v := ?_) (a' := ?_) #[true, true, true, false, false, false, false, false, false, false, false] rfl rfl (by kernel_rfl) (fun _ _ _ h => h) (Or.inl ⟨by rfl, ?_⟩) ?_ ?_
  rotate_left
  · intro w'
    go_simp
    with_reducible rfl
  rotate_left
  · simp only [Act.put, List.setIfInBounds_toArray, List.set_cons_zero, List.set_cons_succ, i64_w, i32_w]
    rfl
  refine take_ (i := 3) (N := some 32) (v := ?_) (a' := ?_) #[true, true, true, true, false, false, false, false, false, false, false] rfl rfl (by kernel_rfl) (fun _ _ _ h => h) (Or.inl ⟨by rfl, ?_⟩) hHeld ?_ ?_
  rotate_left
  · rintro w' ⟨s0, s1, s2, s3, s4, s5, s6, s7⟩
    go_simp
    with_reducible rfl
  rotate_left
  · simp only [Act.put, List.setIfInBounds_toArray, List.set_cons_zero, List.set_cons_succ, i64_w, i32_w]
    rfl
  refine take_ (i := 4) (N := some 33) (v := ?_) (a' := ?_) #[true, true, true, true, true, false, false, false, false, false, false] rfl rfl (by kernel_rfl) (fun _ _ _ h => h) (Or.inl ⟨by rfl, ?_⟩) hHeld ?_ ?_
  rotate_left
  · rintro w' ⟨s0, s1, s2, s3, s4, s5, s6, s7⟩
    go_simp
    with_reducible rfl
  rotate_left
  · simp only [Act.put, List.setIfInBounds_toArray, List.set_cons_zero, List.set_cons_succ, i64_w, i32_w]
    rfl
  refine take_ (i := 5) (N := some 34) (v := ?_) (a' := ?_) #[true, true, true, true, true, true, false, false, false, false, false] rfl rfl (by kernel_rfl) (fun _ _ _ h => h) (Or.inl ⟨by rfl, ?_⟩) hHeld ?_ ?_
  rotate_left
  · rintro w' ⟨s0, s1, s2, s3, s4, s5, s6, s7⟩
    go_simp
    with_reducible rfl
  rotate_left
  · simp only [Act.put, List.setIfInBounds_toArray, List.set_cons_zero, List.set_cons_succ, i64_w, i32_w]
    rfl
  refine pure_ (i := 6) (N := some 28) (v := ?_) (a' := ?_) #[true, true, true, true, true, true, true, false, false, false, false] rfl rfl (by kernel_rfl) (fun _ _ _ h => h) (Or.inl ⟨by rfl, ?_⟩) ?_ ?_
  rotate_left
  · intro w'
    go_simp
    with_reducible rfl
  rotate_left
  · simp only [Act.put, List.setIfInBounds_toArray, List.set_cons_zero, List.set_cons_succ, i64_w, i32_w]
    rfl
  refine pure_ (i := 7) (N := some 35) (v := ?_) (a' := ?_) #[true, true, true, true, true, true, true, true, false, false, false] rfl rfl (by kernel_rfl) (fun _ _ _ h => h) (Or.inl ⟨by rfl, ?_⟩) ?_ ?_
  rotate_left
  · intro w'
    go_simp
    with_reducible rfl
  rotate_left
  · simp only [Act.put, List.setIfInBounds_toArray, List.set_cons_zero, List.set_cons_succ, i64_w, i32_w]
    rfl
  refine pure_ (i := 8) (N := some 36) (v := ?_) (a' := ?_) #[true, true, true, true, true, true, true, true, true, false, false] rfl rfl (by kernel_rfl) (fun _ _ _ h => h) (Or.inl ⟨by rfl, ?_⟩) ?_ ?_
  rotate_left
  · intro w'
    go_simp
    with_reducible rfl
  rotate_left
  · simp only [Act.put, List.setIfInBounds_toArray, List.set_cons_zero, List.set_cons_succ, i64_w, i32_w]
    rfl
  refine pure_ (i := 9) (N := some 5) (v := ?_) (a' := ?_) #[true, true, true, true, true, true, true, true, true, true, false] rfl rfl (by kernel_rfl) (fun _ _ _ h => h) (Or.inl ⟨by rfl, ?_⟩) ?_ ?_
  rotate_left
  · intro w'
    go_simp
    with_reducible rfl
  rotate_left
  · simp only [Act.put, List.setIfInBounds_toArray, List.set_cons_zero, List.set_cons_succ, i64_w, i32_w]
    rfl
  refine pure_ (i := 10) (N := some 6) (v := ?_) (a' := ?_) #[true, true, true, true, true, true, true, true, true, true, true] rfl rfl (by kernel_rfl) (fun _ _ _ h => h) (Or.inl ⟨by rfl, ?_⟩) ?_ ?_
  rotate_left
  · intro w'
    go_simp
    with_reducible rfl
  rotate_left
  · simp only [Act.put, List.setIfInBounds_toArray, List.set_cons_zero, List.set_cons_succ, i64_w, i32_w]
    rfl
  refine done_ (by kernel_rfl) ?_
  cases kn with
  | true =>
    have hx := HKN.out rfl
    have HX := Aside0.mk hx
    have HM2 := Aside0.mk (Memo.mono (HM.out.step (w' := w2.drew) rfl) (Nat.le_add_right n (kT (m + 1))))
    clear hx
    go_wp2
    go_ret
    exact ⟨(by rw [HX.out]; rfl), HM2.out, HKp.out.drew⟩
  | false =>
    have n1_ := Aside0.mk (HM.out.step (w' := w2.drew) rfl)
    have n2_ := Aside0.mk HKp.out.drew
    have n3_ : Aside0 ((w2.drew).heap[gs]? = some (.cells #[.bool al, .map (some mb)] 52 (0, 0))) := ⟨KS.out⟩
    have n4_ : Aside0 ((w2.drew).heap[gb]? = some (.cells #[.int .i64 k.a, .int .i64 k.b, .int .i64 k.c, .int .i64 k.d, .int .i64 k.w, .int .i64 k.s] 37 (0, 0))) := ⟨KB.out⟩
    clear HM HKp KS KB hb0 hb1 hb2 hb3 hb4 hb5 hs0 hs1 HLK HKN
    have HM := n1_
    have HKp := n2_
    have KS := n3_
    have KB := n4_
    clear n1_ n2_ n3_ n4_
    have hb0 : (w2.drew).cell? ⟨gb, 0, none⟩ = some (.int .i64 k.a) := (blk_cell KB.out 0).trans rfl; have hb1 : (w2.drew).cell? ⟨gb, 1, none⟩ = some (.int .i64 k.b) := (blk_cell KB.out 1).trans rfl; have hb2 : (w2.drew).cell? ⟨gb, 2, none⟩ = some (.int .i64 k.c) := (blk_cell KB.out 2).trans rfl; have hb3 : (w2.drew).cell? ⟨gb, 3, none⟩ = some (.int .i64 k.d) := (blk_cell KB.out 3).trans rfl; have hb4 : (w2.drew).cell? ⟨gb, 4, none⟩ = some (.int .i64 k.w) := (blk_cell KB.out 4).trans rfl; have hb5 : (w2.drew).cell? ⟨gb, 5, none⟩ = some (.int .i64 k.s) := (blk_cell KB.out 5).trans rfl
    go_wp2_with (go_at_call 30; with_reducible refine (HTS.out _).mono ?_; rintro e_ w3 ⟨v_, rfl, hr, hb⟩; obtain ⟨A_, c_, eo_⟩ := Kd.R_slice hr; rw [HL.out] at eo_; subst eo_; have HROW := Aside0.mk (kRow_cells _ _ _ _ _ _ _ hr (Memo.lt HM.out)); have n1_ := Aside0.mk (Memo.below HM.out hb); have n2_ := Aside0.mk (HKp.out.below hb); have n3_ := Aside0.mk (blk_below KS.out hb); have n4_ := Aside0.mk (blk_below KB.out hb); clear HM HKp KS KB; have HM := n1_; have HKp := n2_; have KS := n3_; have KB := n4_; clear n1_ n2_ n3_ n4_ hr hb hb0 hb1 hb2 hb3 hb4 hb5)
    clear HTS
    have HKr := Aside0.mk (Kept.refl w3 (fun k_ => k_ = mb))
    have HROW2 : Aside0 (∀ (wr : World), Kept w3 wr (fun k_ => k_ = mb) → ∀ i, i < n_ → ∃ g, A_ = some ⟨g, 0, none⟩ ∧ wr.cell? ⟨g, i * 3, none⟩ = some (.bool (tt i).1) ∧ wr.cell? ⟨g, i * 3 + 1, none⟩ = some (.int .i64 (tt i).2) ∧ wr.cell? ⟨g, i * 3 + 2, none⟩ = some (.bool false)) := ⟨by rw [HTT.out]; exact HROW.out⟩
    clear HROW HTT
    have HROW := HROW2
    clear HROW2
    go_loopg [7, 9, 42] n_ (fun gg v7 v9 v42 wr => ∃ (i : Nat) (o : Int), v42 = .int .i64 i ∧ v7 = .int .i64 o ∧ i ≤ n_ ∧ n_ - i ≤ gg ∧ Aside0 (o = kFold al k ((kTests k).take i) kNever) ∧ Aside0 (Kept w3 wr (fun k_ => k_ = mb)) ∧ Aside0 (Memo al wr mb (n + i * d_)) ∧ Aside0 (KeptM W wr mb) ∧ Aside0 (wr.heap[gs]? = some (.cells #[.bool al, .map (some mb)] 52 (0, 0))) ∧ Aside0 (wr.heap[gb]? = some (.cells #[.int .i64 k.a, .int .i64 k.b, .int .i64 k.c, .int .i64 k.d, .int .i64 k.w, .int .i64 k.s] 37 (0, 0))))
    case atStart => exact ⟨0, 1125899906842624, rfl, rfl, Nat.zero_le _, Nat.le_refl _, ⟨rfl⟩, HKr, ⟨by rw [Nat.zero_mul, Nat.add_zero]; exact HM.out⟩, HKp, KS, KB⟩
    case round =>
      clear HM HKp KS KB HKr
      obtain ⟨i, o, rfl, rfl, hi, hgg, HO, HKr, HM, HKp, KS, KB⟩ := hrel
      by_cases hlt : i < n_
      · have hltz : (i : Int) < (n_ : Int) := by omega
        obtain ⟨ga, eA, hc0, hc1, hc2⟩ := HROW.out _ HKr.out i hlt
        have hmem := HMEM.out i hlt
        have hfold := HFOLD.out i hlt
        have hbig := HBIG.out i hlt
        obtain ⟨⟨st, f⟩, ht⟩ : ∃ t : Bool × Int, t = tt i := ⟨_, rfl⟩
        rw [← ht] at hmem hfold hc0 hc1
        rw [← HO.out] at hfold
        have hxr := kW_range al k (st, f)
        have HWI : Aside0 (∀ (W : World), W.heap[gs]? = some (.cells #[.bool al, .map (some mb)] 52 (0, 0)) → Memo al W mb (n + i * d_) → Calls Try.prog 31 #[.pointer (some ⟨gs, 0, none⟩), .agg #[.int .i64 k.a, .int .i64 k.b, .int .i64 k.c, .int .i64 k.d, .int .i64 k.w, .int .i64 k.s], .agg #[.bool st, .int .i64 f, .bool false]] W fun e' w' => e' = .returned (.int .i64 (kW al k (st, f))) ∧ Memo al w' mb (n + (i + 1) * d_) ∧ KeptM W w' mb) := ⟨fun W h1 h2 => by
          have := with_of al m hP k HOK.out HMU.out st f hmem gs mb (n + i * d_) W hbig NS.out h1 h2
          rw [HD.out] at this
          rw [Nat.succ_mul, ← Nat.add_assoc]
          exact this⟩
        generalize kW al k (st, f) = x at HWI hfold hxr
        obtain ⟨o3, ho3⟩ : ∃ o3, o3 = min o x := ⟨_, rfl⟩
        have hmn : (if x < o then x else o) = o3 := by rw [ho3]; split <;> omega
        have HN : Aside0 (o3 = kFold al k ((kTests k).take (i + 1)) kNever) := ⟨by rw [hfold, ho3]⟩
        have hw1 : IntKind.i64.wrap ((i : Int) + 1) = (i : Int) + 1 := by
          have h9 := HN12.out
          clear hmn ho3 hxr
          rw [i64_w]; unfold wrap64; omega
        clear hmem hfold hbig HO ho3 hxr
        simp only at hc0 hc1
        subst eA
        have hb0 : (wr).cell? ⟨gb, 0, none⟩ = some (.int .i64 k.a) := (blk_cell KB.out 0).trans rfl; have hb1 : (wr).cell? ⟨gb, 1, none⟩ = some (.int .i64 k.b) := (blk_cell KB.out 1).trans rfl; have hb2 : (wr).cell? ⟨gb, 2, none⟩ = some (.int .i64 k.c) := (blk_cell KB.out 2).trans rfl; have hb3 : (wr).cell? ⟨gb, 3, none⟩ = some (.int .i64 k.d) := (blk_cell KB.out 3).trans rfl; have hb4 : (wr).cell? ⟨gb, 4, none⟩ = some (.int .i64 k.w) := (blk_cell KB.out 4).trans rfl; have hb5 : (wr).cell? ⟨gb, 5, none⟩ = some (.int .i64 k.s) := (blk_cell KB.out 5).trans rfl
        go_wp2_with (first
          | ((with_reducible refine gate_dst (N := 9) rfl ?_); refine box_event ?hg (N := 9) ?hd (cs := #[.bool false, .int .i64 0, .bool false]) (t := 42) ?hr ?_; (case hd => rfl); (case hg => rfl); (case hr => first | (go_simp; done) | (go_simp; rfl)); intro gt hg w4 hbox hb; have NT := Aside0.mk (show gt ≠ mb by intro he; have h1_ := Memo.lt HM.out; omega); have GT := Aside0.mk (show W.heap.size ≤ gt by rw [hg]; exact HKp.out.size); have GT3 := Aside0.mk (show w3.heap.size ≤ gt by rw [hg]; exact HKr.out.1); have NST := Aside0.mk (show gs ≠ gt by intro he; have h1_ := blk_lt KS.out; omega); have NBT := Aside0.mk (show gb ≠ gt by intro he; have h1_ := blk_lt KB.out; omega); have n1_ := Aside0.mk (Memo.below HM.out hb); have n2_ := Aside0.mk (HKp.out.below hb); have n3_ := Aside0.mk (blk_below KS.out hb); have n4_ := Aside0.mk (blk_below KB.out hb); have n5_ := Aside0.mk (HKr.out.below hb); clear HM KS HKp KB HKr; have HM := n1_; have HKp := n2_; have KS := n3_; have KB := n4_; have HKr := n5_; have KT := Aside0.mk hbox; clear n1_ n2_ n3_ n4_ n5_; clear hc0 hc1 hc2; clear hb0 hb1 hb2 hb3 hb4 hb5; have hb0 : (w4).cell? ⟨gb, 0, none⟩ = some (.int .i64 k.a) := (blk_cell KB.out 0).trans rfl; have hb1 : (w4).cell? ⟨gb, 1, none⟩ = some (.int .i64 k.b) := (blk_cell KB.out 1).trans rfl; have hb2 : (w4).cell? ⟨gb, 2, none⟩ = some (.int .i64 k.c) := (blk_cell KB.out 2).trans rfl; have hb3 : (w4).cell? ⟨gb, 3, none⟩ = some (.int .i64 k.d) := (blk_cell KB.out 3).trans rfl; have hb4 : (w4).cell? ⟨gb, 4, none⟩ = some (.int .i64 k.w) := (blk_cell KB.out 4).trans rfl; have hb5 : (w4).cell? ⟨gb, 5, none⟩ = some (.int .i64 k.s) := (blk_cell KB.out 5).trans rfl; have hz0 : w4.cell? ⟨gt, 0, none⟩ = some (.bool false) := (blk_cell KT.out 0).trans rfl; have hz1 : w4.cell? ⟨gt, 1, none⟩ = some (.int .i64 0) := (blk_cell KT.out 1).trans rfl; have hz2 : w4.cell? ⟨gt, 2, none⟩ = some (.bool false) := (blk_cell KT.out 2).trans rfl; clear hg hbox hb)
          | ((with_reducible refine gate_store (t := 42) (p := 9) rfl ?_); have hfz0_ := blk_frozen KT.out 0; have hfz1_ := blk_frozen KT.out 1; have hfz2_ := blk_frozen KT.out 2; refine store_event (t := 42) (p := 9) (v := ?vo_) (w1 := (((w4.setCell ⟨gt, 0, none⟩ (.bool st)).setCell ⟨gt, 1, none⟩ (.int .i64 f)).setCell ⟨gt, 2, none⟩ (.bool false))) ?hg ?ho ?hn ?hr ?_; (case ho => rfl); (case hg => rfl); (case hn => rfl); (case hr => first | (go_simp; done) | (go_simp; rfl)); intro w5 hw; have hh_ : Aside0 (∀ q, q ≠ gt → w5.heap[q]? = w4.heap[q]?) := ⟨fun q hq => by rw [hw]; exact (Below.heap_setCell _ _ _ q hq).trans ((Below.heap_setCell _ _ _ q hq).trans (Below.heap_setCell _ _ _ q hq))⟩; have n1_ := Aside0.mk (HM.out.step (w' := w5) (hh_.out mb (Ne.symm NT.out))); have n2_ : Aside0 (KeptM W w5 mb) := ⟨by rw [hw]; exact ((HKp.out.setCell (Or.inr GT.out) _).setCell (Or.inr GT.out) _).setCell (Or.inr GT.out) _⟩; have n6_ : Aside0 (Kept w3 w5 (fun k_ => k_ = mb)) := ⟨by rw [hw]; exact ((HKr.out.setCell (Or.inr GT3.out) _).setCell (Or.inr GT3.out) _).setCell (Or.inr GT3.out) _⟩; have n3_ : Aside0 (w5.heap[gs]? = some (.cells #[.bool al, .map (some mb)] 52 (0, 0))) := ⟨(hh_.out gs NST.out).trans KS.out⟩; have n4_ : Aside0 (w5.heap[gb]? = some (.cells #[.int .i64 k.a, .int .i64 k.b, .int .i64 k.c, .int .i64 k.d, .int .i64 k.w, .int .i64 k.s] 37 (0, 0))) := ⟨(hh_.out gb NBT.out).trans KB.out⟩; have n5_ : Aside0 (w5.heap[gt]? = some (.cells #[.bool st, .int .i64 f, .bool false] 42 (0, 0))) := ⟨by rw [hw]; exact store3 KT.out⟩; clear HM KS HKp KB KT HKr hh_ hw hfz0_ hfz1_ hfz2_ hz0 hz1 hz2; have HM := n1_; have HKp := n2_; have KS := n3_; have KB := n4_; have KT := n5_; have HKr := n6_; clear n1_ n2_ n3_ n4_ n5_ n6_; clear hb0 hb1 hb2 hb3 hb4 hb5; have hb0 : (w5).cell? ⟨gb, 0, none⟩ = some (.int .i64 k.a) := (blk_cell KB.out 0).trans rfl; have hb1 : (w5).cell? ⟨gb, 1, none⟩ = some (.int .i64 k.b) := (blk_cell KB.out 1).trans rfl; have hb2 : (w5).cell? ⟨gb, 2, none⟩ = some (.int .i64 k.c) := (blk_cell KB.out 2).trans rfl; have hb3 : (w5).cell? ⟨gb, 3, none⟩ = some (.int .i64 k.d) := (blk_cell KB.out 3).trans rfl; have hb4 : (w5).cell? ⟨gb, 4, none⟩ = some (.int .i64 k.w) := (blk_cell KB.out 4).trans rfl; have hb5 : (w5).cell? ⟨gb, 5, none⟩ = some (.int .i64 k.s) := (blk_cell KB.out 5).trans rfl; have ht0 : w5.cell? ⟨gt, 0, none⟩ = some (.bool st) := (blk_cell KT.out 0).trans rfl; have ht1 : w5.cell? ⟨gt, 1, none⟩ = some (.int .i64 f) := (blk_cell KT.out 1).trans rfl; have ht2 : w5.cell? ⟨gt, 2, none⟩ = some (.bool false) := (blk_cell KT.out 2).trans rfl)
          | (go_at_call 31; with_reducible refine (HWI.out _ KS.out HM.out).mono ?_; rintro e_ w6 ⟨rfl, hM, hk⟩; have n1_ := Aside0.mk hM; have n2_ := Aside0.mk (HKp.out.then_ hk); have n3_ := Aside0.mk (blk_kept KS.out hk.one NS.out); have n4_ := Aside0.mk (blk_kept KB.out hk.one NB.out); have n6_ := Aside0.mk (HKr.out.then_ hk.one (fun k_ h_ => Or.inl h_)); clear HM KS HKp KB KT HKr hM hk ht0 ht1 ht2; have HM := n1_; have HKp := n2_; have KS := n3_; have KB := n4_; have HKr := n6_; clear n1_ n2_ n3_ n4_ n6_; clear hb0 hb1 hb2 hb3 hb4 hb5; skip))
        go_roundg (n_ - (i + 1))
        case measure => omega
        case rel => exact ⟨i + 1, o3, by go_num, rfl, by omega, by omega, HN, HKr, HM, HKp, KS, KB⟩
      · have hltz : ¬ (i : Int) < (n_ : Int) := by omega
        obtain rfl : i = n_ := by omega
        have hres : o = kVal al k := by rw [HVAL.out, HO.out, ← HL2.out, List.take_length]
        have HRES := Aside0.mk hres
        obtain ⟨w9, hup, hm9, hg9⟩ := Memo.update (HM.out.step (w' := wr.drew) rfl) HMAX.out k HOK.out
        rw [← hres] at hup
        have HUP : Aside0 ((Instr.mapUpdate 50 (.map (some mb)) (.agg #[.int .i64 k.a, .int .i64 k.b, .int .i64 k.c, .int .i64 k.d, .int .i64 k.w, .int .i64 k.s]) (.int .i64 o)).run Try.prog wr.drew = .ok () w9) := ⟨hup⟩
        have HM9 := Aside0.mk (Memo.mono hm9 HMAX2.out)
        have HK9 := Aside0.mk (KeptM.of_grown hg9 HKp.out.drew)
        have hb0 : (wr).cell? ⟨gb, 0, none⟩ = some (.int .i64 k.a) := (blk_cell KB.out 0).trans rfl; have hb1 : (wr).cell? ⟨gb, 1, none⟩ = some (.int .i64 k.b) := (blk_cell KB.out 1).trans rfl; have hb2 : (wr).cell? ⟨gb, 2, none⟩ = some (.int .i64 k.c) := (blk_cell KB.out 2).trans rfl; have hb3 : (wr).cell? ⟨gb, 3, none⟩ = some (.int .i64 k.d) := (blk_cell KB.out 3).trans rfl; have hb4 : (wr).cell? ⟨gb, 4, none⟩ = some (.int .i64 k.w) := (blk_cell KB.out 4).trans rfl; have hb5 : (wr).cell? ⟨gb, 5, none⟩ = some (.int .i64 k.s) := (blk_cell KB.out 5).trans rfl
        have hs0 : (wr).cell? ⟨gs, 0, none⟩ = some (.bool al) := (blk_cell KS.out 0).trans rfl; have hs1 : (wr).cell? ⟨gs, 1, none⟩ = some (.map (some mb)) := (blk_cell KS.out 1).trans rfl
        clear hres hup hm9 hg9 HO HVAL HL2 HMEM HFOLD HBIG HROW HMAX HMAX2 HKr HM HKp
        go_wp2
        refine start_ (n := 7) (S := fun w' => w'.cell? ⟨gs, 1, none⟩ = some (.map (some mb)) ∧ w'.cell? ⟨gb, 0, none⟩ = some (.int .i64 k.a) ∧ w'.cell? ⟨gb, 1, none⟩ = some (.int .i64 k.b) ∧ w'.cell? ⟨gb, 2, none⟩ = some (.int .i64 k.c) ∧ w'.cell? ⟨gb, 3, none⟩ = some (.int .i64 k.d) ∧ w'.cell? ⟨gb, 4, none⟩ = some (.int .i64 k.w) ∧ w'.cell? ⟨gb, 5, none⟩ = some (.int .i64 k.s) ∧ (Instr.mapUpdate 50 (.map (some mb)) (.agg #[.int .i64 k.a, .int .i64 k.b, .int .i64 k.c, .int .i64 k.d, .int .i64 k.w, .int .i64 k.s]) (.int .i64 o)).run Try.prog w' = .ok () w9) (ds := [6]) #[false, false, false, false, false, false, false] (by kernel_rfl) rfl rfl ⟨hs1, hb0, hb1, hb2, hb3, hb4, hb5, HUP.out⟩ (fun hHeld => ?_)
        refine pure_ (i := 0) (N := some 53) (v := ?_) (a' := ?_) #[true, false, false, false, false, false, false] rfl rfl (by kernel_rfl) (fun _ _ _ h => h) (Or.inl ⟨by rfl, ?_⟩) ?_ ?_
        rotate_left
        · intro w'
          go_simp
          with_reducible rfl
        rotate_left
        · simp only [Act.put, List.setIfInBounds_toArray, List.set_cons_zero, List.set_cons_succ, i64_w, i32_w]
          rfl
        refine pure_ (i := 1) (N := some 54) (v := ?_) (a' := ?_) #[true, true, false, false, false, false, false] rfl rfl (by kernel_rfl) (fun _ _ _ h => h) (Or.inl ⟨by rfl, ?_⟩) ?_ ?_
        rotate_left
        · intro w'
          go_simp
          with_reducible rfl
        rotate_left
        · simp only [Act.put, List.setIfInBounds_toArray, List.set_cons_zero, List.set_cons_succ, i64_w, i32_w]
          rfl
        refine pure_ (i := 2) (N := some 55) (v := ?_) (a' := ?_) #[true, true, true, false, false, false, false] rfl rfl (by kernel_rfl) (fun _ _ _ h => h) (Or.inl ⟨by rfl, ?_⟩) ?_ ?_
        rotate_left
        · intro w'
          go_simp
          with_reducible rfl
        rotate_left
        · simp only [Act.put, List.setIfInBounds_toArray, List.set_cons_zero, List.set_cons_succ, i64_w, i32_w]
          rfl
        refine pure_ (i := 5) (N := some 58) (v := ?_) (a' := ?_) #[true, true, true, false, false, true, false] rfl rfl (by kernel_rfl) (fun _ _ _ h => h) (Or.inl ⟨by rfl, ?_⟩) ?_ ?_
        rotate_left
        · intro w'
          go_simp
          with_reducible rfl
        rotate_left
        · simp only [Act.put, List.setIfInBounds_toArray, List.set_cons_zero, List.set_cons_succ, i64_w, i32_w]
          rfl
        refine take_ (i := 3) (N := some 56) (v := ?_) (a' := ?_) #[true, true, true, true, false, true, false] rfl rfl (by kernel_rfl) (fun _ _ _ h => h) (Or.inl ⟨by rfl, ?_⟩) hHeld ?_ ?_
        rotate_left
        · rintro w' ⟨s0, s1, s2, s3, s4, s5, s6, s7⟩
          go_simp
          with_reducible rfl
        rotate_left
        · simp only [Act.put, List.setIfInBounds_toArray, List.set_cons_zero, List.set_cons_succ, i64_w, i32_w]
          rfl
        refine take_ (i := 4) (N := some 57) (v := ?_) (a' := ?_) #[true, true, true, true, true, true, false] rfl rfl (by kernel_rfl) (fun _ _ _ h => h) (Or.inl ⟨by rfl, ?_⟩) hHeld ?_ ?_
        rotate_left
        · rintro w' ⟨s0, s1, s2, s3, s4, s5, s6, s7⟩
          go_simp
          with_reducible rfl
        rotate_left
        · simp only [Act.put, List.setIfInBounds_toArray, List.set_cons_zero, List.set_cons_succ, i64_w, i32_w]
          rfl
        refine last_ (i := 6) (N := none) #[true, true, true, true, true, true, true] rfl rfl (by kernel_rfl) (by decide) (fun K hK => ?_)
        refine skip_ (w1 := ?_) (by rfl) rfl ?_ ?_
        rotate_left
        · go_simp
          rfl
        refine hK.out _ _ ?_
        clear hK K
        refine done_ (by kernel_rfl) ?_
        go_wp2
        go_ret
        exact ⟨(by rw [HRES.out]; rfl), HM9.out, HK9.out⟩
set_option maxHeartbeats 8000000 in
set_option maxRecDepth 100000 in
theorem least_known2 (m : Nat) (hP : LeastC false m) (k : KSt) (gs mb n : Nat) (W : World) (hk : KOk k) (hm : kMu k ≤ m) (hn : n + kT (m + 1) ≤ 2000000000000000000) (hne : gs ≠ mb) (hS : W.heap[gs]? = some (.cells #[.bool false, .map (some mb)] 52 (0, 0))) (hM : Memo false W mb n) (hab : k.a = k.b) (hcd : k.c ≠ k.d) :
    Calls Try.prog 18 #[.pointer (some ⟨gs, 0, none⟩), .agg #[.int .i64 k.a, .int .i64 k.b, .int .i64 k.c, .int .i64 k.d, .int .i64 k.w, .int .i64 k.s]] W fun e' w' => e' = .returned (.int .i64 (kVal false k)) ∧ Memo false w' mb (n + kT (m + 1)) ∧ KeptM W w' mb := by
  have hend : kEnd false k = false := by unfold kEnd; rw [decide_eq_true hab, decide_eq_false hcd]; rfl
  have hq1 : (k.a == k.b) = true := by rw [beq_iff_eq]; exact hab
  have hq2 : (k.c == k.d) = false := by rw [beq_eq_false_iff_ne]; exact hcd
  clear hab hcd
  have HM := Aside0.mk hM
  have KS := Aside0.mk hS
  have NS := Aside0.mk hne
  have HOK := Aside0.mk hk
  have HMU := Aside0.mk hm
  obtain ⟨d_, hd⟩ : ∃ d_, 2 * kT m = d_ := ⟨_, rfl⟩
  have HD := Aside0.mk hd
  have HVAL : Aside0 (kVal false k = kFold false k (kTests k) kNever) := ⟨by rw [kVal_eq false k hk, if_neg (by rw [hend]; decide)]⟩
  obtain ⟨n_, hl⟩ : ∃ n_, (kTests k).length = n_ := ⟨_, rfl⟩
  have HL2 := Aside0.mk hl
  have HL : Aside0 ((kTs (kTests k)).length = n_) := ⟨by rw [kTs_len]; exact hl⟩
  have hn12 : n_ ≤ 12 := by rw [← hl]; exact kTests_le k hk
  have HN12 := Aside0.mk hn12
  obtain ⟨tt, htt⟩ : ∃ tt : Nat → Bool × Int, tt = fun i => (kTests k).getD i (false, 0) := ⟨_, rfl⟩
  have hnm : n_ ≤ m := by rw [← hl]; exact Nat.le_trans (kTests_mu k hk) hm
  have hpow : kT (m + 1) = m * d_ + 1 := by rw [kT, hd]
  have hmul : ∀ i, i ≤ n_ → i * d_ ≤ m * d_ := fun i hi => Nat.mul_le_mul_right _ (by omega)
  have HMEM : Aside0 (∀ i, i < n_ → tt i ∈ kTests k) := ⟨fun i hi => by rw [htt]; exact getD_mem' _ _ (by omega)⟩
  have HFOLD : Aside0 (∀ i, i < n_ → kFold false k ((kTests k).take (i + 1)) kNever = min (kFold false k ((kTests k).take i) kNever) (kW false k (tt i))) := ⟨fun i hi => by rw [htt]; exact kFold_take false k _ _ i (by omega)⟩
  have HBIG : Aside0 (∀ i, i < n_ → n + i * d_ + 2 * kT m ≤ 2000000000000000000) := ⟨fun i hi => by
    have h1 : (i + 1) * d_ ≤ m * d_ := hmul (i + 1) (by omega)
    rw [Nat.succ_mul] at h1
    omega⟩
  have HMAX : Aside0 (n + n_ * d_ < maxLen) := ⟨by
    have h1 := hmul n_ (Nat.le_refl _)
    have h2 : (2000000000000000000 : Nat) < maxLen := by decide
    omega⟩
  have HMAX2 : Aside0 (n + n_ * d_ + 1 ≤ n + kT (m + 1)) := ⟨by
    have h1 := hmul n_ (Nat.le_refl _)
    omega⟩
  have HTT : Aside0 (tt = fun i => (kTests k).getD i (false, 0)) := ⟨htt⟩
  have HTS := Aside0.mk (fun (W : World) => impl_knowledge_tests.calls 200 k.a k.b k.c k.d k.w k.s _ W (tests_is k hk))
  clear hM hS hk hm hn hne hend hd hl hn12 hnm htt hpow hmul
  go_enter Try.func18, Try.ntmps18
  go_wp2_with (((with_reducible refine gate_dst (N := 3) rfl ?_); refine box_event ?hg (N := 3) ?hd (cs := #[.int .i64 k.a, .int .i64 k.b, .int .i64 k.c, .int .i64 k.d, .int .i64 k.w, .int .i64 k.s]) (t := 37) ?hr ?_; (case hd => rfl); (case hg => rfl); (case hr => first | (go_simp; done) | (go_simp; rfl)); intro gb hg w2 hbox hb; have NB := Aside0.mk (show gb ≠ mb by intro he; have h1_ := Memo.lt HM.out; omega); have n1_ := Aside0.mk (Memo.below HM.out hb); have n2_ := Aside0.mk (KeptM.of_below hb mb); have n3_ := Aside0.mk (blk_below KS.out hb); clear HM KS; have HM := n1_; have HKp := n2_; have KS := n3_; have KB := Aside0.mk hbox; clear n1_ n2_ n3_; have hb0 : w2.cell? ⟨gb, 0, none⟩ = some (.int .i64 k.a) := (blk_cell KB.out 0).trans rfl; have hb1 : w2.cell? ⟨gb, 1, none⟩ = some (.int .i64 k.b) := (blk_cell KB.out 1).trans rfl; have hb2 : w2.cell? ⟨gb, 2, none⟩ = some (.int .i64 k.c) := (blk_cell KB.out 2).trans rfl; have hb3 : w2.cell? ⟨gb, 3, none⟩ = some (.int .i64 k.d) := (blk_cell KB.out 3).trans rfl; have hb4 : w2.cell? ⟨gb, 4, none⟩ = some (.int .i64 k.w) := (blk_cell KB.out 4).trans rfl; have hb5 : w2.cell? ⟨gb, 5, none⟩ = some (.int .i64 k.s) := (blk_cell KB.out 5).trans rfl; have hs0 : w2.cell? ⟨gs, 0, none⟩ = some (.bool false) := (blk_cell KS.out 0).trans rfl; have hs1 : w2.cell? ⟨gs, 1, none⟩ = some (.map (some mb)) := (blk_cell KS.out 1).trans rfl; clear hg hbox hb))
  obtain ⟨x, kn, hlk, hkn⟩ := Memo.look (HM.out.step (w' := w2.drew) rfl) k HOK.out
  have HLK : Aside0 ((Instr.lookup 50 (.map (some mb)) (.agg #[.int .i64 k.a, .int .i64 k.b, .int .i64 k.c, .int .i64 k.d, .int .i64 k.w, .int .i64 k.s]) true).run Try.prog w2.drew = .ok (.tuple #[.int .i64 x, .bool kn]) w2.drew) := ⟨hlk⟩
  have HKN := Aside0.mk hkn
  clear hlk hkn
  refine start_ (n := 11) (S := fun w' => w'.cell? ⟨gs, 1, none⟩ = some (.map (some mb)) ∧ w'.cell? ⟨gb, 0, none⟩ = some (.int .i64 k.a) ∧ w'.cell? ⟨gb, 1, none⟩ = some (.int .i64 k.b) ∧ w'.cell? ⟨gb, 2, none⟩ = some (.int .i64 k.c) ∧ w'.cell? ⟨gb, 3, none⟩ = some (.int .i64 k.d) ∧ w'.cell? ⟨gb, 4, none⟩ = some (.int .i64 k.w) ∧ w'.cell? ⟨gb, 5, none⟩ = some (.int .i64 k.s) ∧ (Instr.lookup 50 (.map (some mb)) (.agg #[.int .i64 k.a, .int .i64 k.b, .int .i64 k.c, .int .i64 k.d, .int .i64 k.w, .int .i64 k.s]) true).run Try.prog w' = .ok (.tuple #[.int .i64 x, .bool kn]) w') (ds := []) #[false, false, false, false, false, false, false, false, false, false, false] (by kernel_rfl) rfl rfl ⟨hs1, hb0, hb1, hb2, hb3, hb4, hb5, HLK.out⟩ (fun hHeld => ?_)
  refine pure_ (i := 0) (N := some 29) (v := ?_) (a' := ?_) #[true, false, false, false, false, false, false, false, false, false, false] rfl rfl (by kernel_rfl) (fun _ _ _ h => h) (Or.inl ⟨by rfl, ?_⟩) ?_ ?_
  rotate_left
  · intro w'
    go_simp
    with_reducible rfl
  rotate_left
  · simp only [Act.put, List.setIfInBounds_toArray, List.set_cons_zero, List.set_cons_succ, i64_w, i32_w]
    rfl
  refine pure_ (i := 1) (N := some 30) (v := ?_) (a' := ?_) #[true, true, false, false, false, false, false, false, false, false, false] rfl rfl (by kernel_rfl) (fun _ _ _ h => h) (Or.inl ⟨by rfl, ?_⟩) ?_ ?_
  rotate_left
  · intro w'
    go_simp
    with_reducible rfl
  rotate_left
  · simp only [Act.put, List.setIfInBounds_toArray, List.set_cons_zero, List.set_cons_succ, i64_w, i32_w]
    rfl
  refine pure_ (i := 2) (N := some 31) (v := ?_) (a' := ?_) #[true, true, true, false, false, false, false, false, false, false, false] rfl rfl (by kernel_rfl) (fun _ _ _ h => h) (Or.inl ⟨by rfl, ?_⟩) ?_ ?_
  rotate_left
  · intro w'
    go_simp
    with_reducible rfl
  rotate_left
  · simp only [Act.put, List.setIfInBounds_toArray, List.set_cons_zero, List.set_cons_succ, i64_w, i32_w]
    rfl
  refine take_ (i := 3) (N := some 32) (v := ?_) (a' := ?_) #[true, true, true, true, false, false, false, false, false, false, false] rfl rfl (by kernel_rfl) (fun _ _ _ h => h) (Or.inl ⟨by rfl, ?_⟩) hHeld ?_ ?_
  rotate_left
  · rintro w' ⟨s0, s1, s2, s3, s4, s5, s6, s7⟩
    go_simp
    with_reducible rfl
  rotate_left
  · simp only [Act.put, List.setIfInBounds_toArray, List.set_cons_zero, List.set_cons_succ, i64_w, i32_w]
    rfl
  refine take_ (i := 4) (N := some 33) (v := ?_) (a' := ?_) #[true, true, true, true, true, false, false, false, false, false, false] rfl rfl (by kernel_rfl) (fun _ _ _ h => h) (Or.inl ⟨by rfl, ?_⟩) hHeld ?_ ?_
  rotate_left
  · rintro w' ⟨s0, s1, s2, s3, s4, s5, s6, s7⟩
    go_simp
    with_reducible rfl
  rotate_left
  · simp only [Act.put, List.setIfInBounds_toArray, List.set_cons_zero, List.set_cons_succ, i64_w, i32_w]
    rfl
  refine take_ (i := 5) (N := some 34) (v := ?_) (a' := ?_) #[true, true, true, true, true, true, false, false, false, false, false] rfl rfl (by kernel_rfl) (fun _ _ _ h => h) (Or.inl ⟨by rfl, ?_⟩) hHeld ?_ ?_
  rotate_left
  · rintro w' ⟨s0, s1, s2, s3, s4, s5, s6, s7⟩
    go_simp
    with_reducible rfl
  rotate_left
  · simp only [Act.put, List.setIfInBounds_toArray, List.set_cons_zero, List.set_cons_succ, i64_w, i32_w]
    rfl
  refine pure_ (i := 6) (N := some 28) (v := ?_) (a' := ?_) #[true, true, true, true, true, true, true, false, false, false, false] rfl rfl (by kernel_rfl) (fun _ _ _ h => h) (Or.inl ⟨by rfl, ?_⟩) ?_ ?_
  rotate_left
  · intro w'
    go_simp
    with_reducible rfl
  rotate_left
  · simp only [Act.put, List.setIfInBounds_toArray, List.set_cons_zero, List.set_cons_succ, i64_w, i32_w]
    rfl
  refine pure_ (i := 7) (N := some 35) (v := ?_) (a' := ?_) #[true, true, true, true, true, true, true, true, false, false, false] rfl rfl (by kernel_rfl) (fun _ _ _ h => h) (Or.inl ⟨by rfl, ?_⟩) ?_ ?_
  rotate_left
  · intro w'
    go_simp
    with_reducible rfl
  rotate_left
  · simp only [Act.put, List.setIfInBounds_toArray, List.set_cons_zero, List.set_cons_succ, i64_w, i32_w]
    rfl
  refine pure_ (i := 8) (N := some 36) (v := ?_) (a' := ?_) #[true, true, true, true, true, true, true, true, true, false, false] rfl rfl (by kernel_rfl) (fun _ _ _ h => h) (Or.inl ⟨by rfl, ?_⟩) ?_ ?_
  rotate_left
  · intro w'
    go_simp
    with_reducible rfl
  rotate_left
  · simp only [Act.put, List.setIfInBounds_toArray, List.set_cons_zero, List.set_cons_succ, i64_w, i32_w]
    rfl
  refine pure_ (i := 9) (N := some 5) (v := ?_) (a' := ?_) #[true, true, true, true, true, true, true, true, true, true, false] rfl rfl (by kernel_rfl) (fun _ _ _ h => h) (Or.inl ⟨by rfl, ?_⟩) ?_ ?_
  rotate_left
  · intro w'
    go_simp
    with_reducible rfl
  rotate_left
  · simp only [Act.put, List.setIfInBounds_toArray, List.set_cons_zero, List.set_cons_succ, i64_w, i32_w]
    rfl
  refine pure_ (i := 10) (N := some 6) (v := ?_) (a' := ?_) #[true, true, true, true, true, true, true, true, true, true, true] rfl rfl (by kernel_rfl) (fun _ _ _ h => h) (Or.inl ⟨by rfl, ?_⟩) ?_ ?_
  rotate_left
  · intro w'
    go_simp
    with_reducible rfl
  rotate_left
  · simp only [Act.put, List.setIfInBounds_toArray, List.set_cons_zero, List.set_cons_succ, i64_w, i32_w]
    rfl
  refine done_ (by kernel_rfl) ?_
  cases kn with
  | true =>
    have hx := HKN.out rfl
    have HX := Aside0.mk hx
    have HM2 := Aside0.mk (Memo.mono (HM.out.step (w' := w2.drew) rfl) (Nat.le_add_right n (kT (m + 1))))
    clear hx
    go_wp2
    go_ret
    exact ⟨(by rw [HX.out]; rfl), HM2.out, HKp.out.drew⟩
  | false =>
    have n1_ := Aside0.mk (HM.out.step (w' := w2.drew) rfl)
    have n2_ := Aside0.mk HKp.out.drew
    have n3_ : Aside0 ((w2.drew).heap[gs]? = some (.cells #[.bool false, .map (some mb)] 52 (0, 0))) := ⟨KS.out⟩
    have n4_ : Aside0 ((w2.drew).heap[gb]? = some (.cells #[.int .i64 k.a, .int .i64 k.b, .int .i64 k.c, .int .i64 k.d, .int .i64 k.w, .int .i64 k.s] 37 (0, 0))) := ⟨KB.out⟩
    clear HM HKp KS KB hb0 hb1 hb2 hb3 hb4 hb5 hs0 hs1 HLK HKN
    have HM := n1_
    have HKp := n2_
    have KS := n3_
    have KB := n4_
    clear n1_ n2_ n3_ n4_
    have hb0 : (w2.drew).cell? ⟨gb, 0, none⟩ = some (.int .i64 k.a) := (blk_cell KB.out 0).trans rfl; have hb1 : (w2.drew).cell? ⟨gb, 1, none⟩ = some (.int .i64 k.b) := (blk_cell KB.out 1).trans rfl; have hb2 : (w2.drew).cell? ⟨gb, 2, none⟩ = some (.int .i64 k.c) := (blk_cell KB.out 2).trans rfl; have hb3 : (w2.drew).cell? ⟨gb, 3, none⟩ = some (.int .i64 k.d) := (blk_cell KB.out 3).trans rfl; have hb4 : (w2.drew).cell? ⟨gb, 4, none⟩ = some (.int .i64 k.w) := (blk_cell KB.out 4).trans rfl; have hb5 : (w2.drew).cell? ⟨gb, 5, none⟩ = some (.int .i64 k.s) := (blk_cell KB.out 5).trans rfl
    go_wp2_with (go_at_call 30; with_reducible refine (HTS.out _).mono ?_; rintro e_ w3 ⟨v_, rfl, hr, hb⟩; obtain ⟨A_, c_, eo_⟩ := Kd.R_slice hr; rw [HL.out] at eo_; subst eo_; have HROW := Aside0.mk (kRow_cells _ _ _ _ _ _ _ hr (Memo.lt HM.out)); have n1_ := Aside0.mk (Memo.below HM.out hb); have n2_ := Aside0.mk (HKp.out.below hb); have n3_ := Aside0.mk (blk_below KS.out hb); have n4_ := Aside0.mk (blk_below KB.out hb); clear HM HKp KS KB; have HM := n1_; have HKp := n2_; have KS := n3_; have KB := n4_; clear n1_ n2_ n3_ n4_ hr hb hb0 hb1 hb2 hb3 hb4 hb5)
    clear HTS
    have HKr := Aside0.mk (Kept.refl w3 (fun k_ => k_ = mb))
    have HROW2 : Aside0 (∀ (wr : World), Kept w3 wr (fun k_ => k_ = mb) → ∀ i, i < n_ → ∃ g, A_ = some ⟨g, 0, none⟩ ∧ wr.cell? ⟨g, i * 3, none⟩ = some (.bool (tt i).1) ∧ wr.cell? ⟨g, i * 3 + 1, none⟩ = some (.int .i64 (tt i).2) ∧ wr.cell? ⟨g, i * 3 + 2, none⟩ = some (.bool false)) := ⟨by rw [HTT.out]; exact HROW.out⟩
    clear HROW HTT
    have HROW := HROW2
    clear HROW2
    go_loopg [7, 9, 42] n_ (fun gg v7 v9 v42 wr => ∃ (i : Nat) (o : Int), v42 = .int .i64 i ∧ v7 = .int .i64 o ∧ i ≤ n_ ∧ n_ - i ≤ gg ∧ Aside0 (o = kFold false k ((kTests k).take i) kNever) ∧ Aside0 (Kept w3 wr (fun k_ => k_ = mb)) ∧ Aside0 (Memo false wr mb (n + i * d_)) ∧ Aside0 (KeptM W wr mb) ∧ Aside0 (wr.heap[gs]? = some (.cells #[.bool false, .map (some mb)] 52 (0, 0))) ∧ Aside0 (wr.heap[gb]? = some (.cells #[.int .i64 k.a, .int .i64 k.b, .int .i64 k.c, .int .i64 k.d, .int .i64 k.w, .int .i64 k.s] 37 (0, 0))))
    case atStart => exact ⟨0, 1125899906842624, rfl, rfl, Nat.zero_le _, Nat.le_refl _, ⟨rfl⟩, HKr, ⟨by rw [Nat.zero_mul, Nat.add_zero]; exact HM.out⟩, HKp, KS, KB⟩
    case round =>
      clear HM HKp KS KB HKr
      obtain ⟨i, o, rfl, rfl, hi, hgg, HO, HKr, HM, HKp, KS, KB⟩ := hrel
      by_cases hlt : i < n_
      · have hltz : (i : Int) < (n_ : Int) := by omega
        obtain ⟨ga, eA, hc0, hc1, hc2⟩ := HROW.out _ HKr.out i hlt
        have hmem := HMEM.out i hlt
        have hfold := HFOLD.out i hlt
        have hbig := HBIG.out i hlt
        obtain ⟨⟨st, f⟩, ht⟩ : ∃ t : Bool × Int, t = tt i := ⟨_, rfl⟩
        rw [← ht] at hmem hfold hc0 hc1
        rw [← HO.out] at hfold
        have hxr := kW_range false k (st, f)
        have HWI : Aside0 (∀ (W : World), W.heap[gs]? = some (.cells #[.bool false, .map (some mb)] 52 (0, 0)) → Memo false W mb (n + i * d_) → Calls Try.prog 31 #[.pointer (some ⟨gs, 0, none⟩), .agg #[.int .i64 k.a, .int .i64 k.b, .int .i64 k.c, .int .i64 k.d, .int .i64 k.w, .int .i64 k.s], .agg #[.bool st, .int .i64 f, .bool false]] W fun e' w' => e' = .returned (.int .i64 (kW false k (st, f))) ∧ Memo false w' mb (n + (i + 1) * d_) ∧ KeptM W w' mb) := ⟨fun W h1 h2 => by
          have := with_of false m hP k HOK.out HMU.out st f hmem gs mb (n + i * d_) W hbig NS.out h1 h2
          rw [HD.out] at this
          rw [Nat.succ_mul, ← Nat.add_assoc]
          exact this⟩
        generalize kW false k (st, f) = x at HWI hfold hxr
        obtain ⟨o3, ho3⟩ : ∃ o3, o3 = min o x := ⟨_, rfl⟩
        have hmn : (if x < o then x else o) = o3 := by rw [ho3]; split <;> omega
        have HN : Aside0 (o3 = kFold false k ((kTests k).take (i + 1)) kNever) := ⟨by rw [hfold, ho3]⟩
        have hw1 : IntKind.i64.wrap ((i : Int) + 1) = (i : Int) + 1 := by
          have h9 := HN12.out
          clear hmn ho3 hxr
          rw [i64_w]; unfold wrap64; omega
        clear hmem hfold hbig HO ho3 hxr
        simp only at hc0 hc1
        subst eA
        have hb0 : (wr).cell? ⟨gb, 0, none⟩ = some (.int .i64 k.a) := (blk_cell KB.out 0).trans rfl; have hb1 : (wr).cell? ⟨gb, 1, none⟩ = some (.int .i64 k.b) := (blk_cell KB.out 1).trans rfl; have hb2 : (wr).cell? ⟨gb, 2, none⟩ = some (.int .i64 k.c) := (blk_cell KB.out 2).trans rfl; have hb3 : (wr).cell? ⟨gb, 3, none⟩ = some (.int .i64 k.d) := (blk_cell KB.out 3).trans rfl; have hb4 : (wr).cell? ⟨gb, 4, none⟩ = some (.int .i64 k.w) := (blk_cell KB.out 4).trans rfl; have hb5 : (wr).cell? ⟨gb, 5, none⟩ = some (.int .i64 k.s) := (blk_cell KB.out 5).trans rfl
        go_wp2_with (first
          | ((with_reducible refine gate_dst (N := 9) rfl ?_); refine box_event ?hg (N := 9) ?hd (cs := #[.bool false, .int .i64 0, .bool false]) (t := 42) ?hr ?_; (case hd => rfl); (case hg => rfl); (case hr => first | (go_simp; done) | (go_simp; rfl)); intro gt hg w4 hbox hb; have NT := Aside0.mk (show gt ≠ mb by intro he; have h1_ := Memo.lt HM.out; omega); have GT := Aside0.mk (show W.heap.size ≤ gt by rw [hg]; exact HKp.out.size); have GT3 := Aside0.mk (show w3.heap.size ≤ gt by rw [hg]; exact HKr.out.1); have NST := Aside0.mk (show gs ≠ gt by intro he; have h1_ := blk_lt KS.out; omega); have NBT := Aside0.mk (show gb ≠ gt by intro he; have h1_ := blk_lt KB.out; omega); have n1_ := Aside0.mk (Memo.below HM.out hb); have n2_ := Aside0.mk (HKp.out.below hb); have n3_ := Aside0.mk (blk_below KS.out hb); have n4_ := Aside0.mk (blk_below KB.out hb); have n5_ := Aside0.mk (HKr.out.below hb); clear HM KS HKp KB HKr; have HM := n1_; have HKp := n2_; have KS := n3_; have KB := n4_; have HKr := n5_; have KT := Aside0.mk hbox; clear n1_ n2_ n3_ n4_ n5_; clear hc0 hc1 hc2; clear hb0 hb1 hb2 hb3 hb4 hb5; have hb0 : (w4).cell? ⟨gb, 0, none⟩ = some (.int .i64 k.a) := (blk_cell KB.out 0).trans rfl; have hb1 : (w4).cell? ⟨gb, 1, none⟩ = some (.int .i64 k.b) := (blk_cell KB.out 1).trans rfl; have hb2 : (w4).cell? ⟨gb, 2, none⟩ = some (.int .i64 k.c) := (blk_cell KB.out 2).trans rfl; have hb3 : (w4).cell? ⟨gb, 3, none⟩ = some (.int .i64 k.d) := (blk_cell KB.out 3).trans rfl; have hb4 : (w4).cell? ⟨gb, 4, none⟩ = some (.int .i64 k.w) := (blk_cell KB.out 4).trans rfl; have hb5 : (w4).cell? ⟨gb, 5, none⟩ = some (.int .i64 k.s) := (blk_cell KB.out 5).trans rfl; have hz0 : w4.cell? ⟨gt, 0, none⟩ = some (.bool false) := (blk_cell KT.out 0).trans rfl; have hz1 : w4.cell? ⟨gt, 1, none⟩ = some (.int .i64 0) := (blk_cell KT.out 1).trans rfl; have hz2 : w4.cell? ⟨gt, 2, none⟩ = some (.bool false) := (blk_cell KT.out 2).trans rfl; clear hg hbox hb)
          | ((with_reducible refine gate_store (t := 42) (p := 9) rfl ?_); have hfz0_ := blk_frozen KT.out 0; have hfz1_ := blk_frozen KT.out 1; have hfz2_ := blk_frozen KT.out 2; refine store_event (t := 42) (p := 9) (v := ?vo_) (w1 := (((w4.setCell ⟨gt, 0, none⟩ (.bool st)).setCell ⟨gt, 1, none⟩ (.int .i64 f)).setCell ⟨gt, 2, none⟩ (.bool false))) ?hg ?ho ?hn ?hr ?_; (case ho => rfl); (case hg => rfl); (case hn => rfl); (case hr => first | (go_simp; done) | (go_simp; rfl)); intro w5 hw; have hh_ : Aside0 (∀ q, q ≠ gt → w5.heap[q]? = w4.heap[q]?) := ⟨fun q hq => by rw [hw]; exact (Below.heap_setCell _ _ _ q hq).trans ((Below.heap_setCell _ _ _ q hq).trans (Below.heap_setCell _ _ _ q hq))⟩; have n1_ := Aside0.mk (HM.out.step (w' := w5) (hh_.out mb (Ne.symm NT.out))); have n2_ : Aside0 (KeptM W w5 mb) := ⟨by rw [hw]; exact ((HKp.out.setCell (Or.inr GT.out) _).setCell (Or.inr GT.out) _).setCell (Or.inr GT.out) _⟩; have n6_ : Aside0 (Kept w3 w5 (fun k_ => k_ = mb)) := ⟨by rw [hw]; exact ((HKr.out.setCell (Or.inr GT3.out) _).setCell (Or.inr GT3.out) _).setCell (Or.inr GT3.out) _⟩; have n3_ : Aside0 (w5.heap[gs]? = some (.cells #[.bool false, .map (some mb)] 52 (0, 0))) := ⟨(hh_.out gs NST.out).trans KS.out⟩; have n4_ : Aside0 (w5.heap[gb]? = some (.cells #[.int .i64 k.a, .int .i64 k.b, .int .i64 k.c, .int .i64 k.d, .int .i64 k.w, .int .i64 k.s] 37 (0, 0))) := ⟨(hh_.out gb NBT.out).trans KB.out⟩; have n5_ : Aside0 (w5.heap[gt]? = some (.cells #[.bool st, .int .i64 f, .bool false] 42 (0, 0))) := ⟨by rw [hw]; exact store3 KT.out⟩; clear HM KS HKp KB KT HKr hh_ hw hfz0_ hfz1_ hfz2_ hz0 hz1 hz2; have HM := n1_; have HKp := n2_; have KS := n3_; have KB := n4_; have KT := n5_; have HKr := n6_; clear n1_ n2_ n3_ n4_ n5_ n6_; clear hb0 hb1 hb2 hb3 hb4 hb5; have hb0 : (w5).cell? ⟨gb, 0, none⟩ = some (.int .i64 k.a) := (blk_cell KB.out 0).trans rfl; have hb1 : (w5).cell? ⟨gb, 1, none⟩ = some (.int .i64 k.b) := (blk_cell KB.out 1).trans rfl; have hb2 : (w5).cell? ⟨gb, 2, none⟩ = some (.int .i64 k.c) := (blk_cell KB.out 2).trans rfl; have hb3 : (w5).cell? ⟨gb, 3, none⟩ = some (.int .i64 k.d) := (blk_cell KB.out 3).trans rfl; have hb4 : (w5).cell? ⟨gb, 4, none⟩ = some (.int .i64 k.w) := (blk_cell KB.out 4).trans rfl; have hb5 : (w5).cell? ⟨gb, 5, none⟩ = some (.int .i64 k.s) := (blk_cell KB.out 5).trans rfl; have ht0 : w5.cell? ⟨gt, 0, none⟩ = some (.bool st) := (blk_cell KT.out 0).trans rfl; have ht1 : w5.cell? ⟨gt, 1, none⟩ = some (.int .i64 f) := (blk_cell KT.out 1).trans rfl; have ht2 : w5.cell? ⟨gt, 2, none⟩ = some (.bool false) := (blk_cell KT.out 2).trans rfl)
          | (go_at_call 31; with_reducible refine (HWI.out _ KS.out HM.out).mono ?_; rintro e_ w6 ⟨rfl, hM, hk⟩; have n1_ := Aside0.mk hM; have n2_ := Aside0.mk (HKp.out.then_ hk); have n3_ := Aside0.mk (blk_kept KS.out hk.one NS.out); have n4_ := Aside0.mk (blk_kept KB.out hk.one NB.out); have n6_ := Aside0.mk (HKr.out.then_ hk.one (fun k_ h_ => Or.inl h_)); clear HM KS HKp KB KT HKr hM hk ht0 ht1 ht2; have HM := n1_; have HKp := n2_; have KS := n3_; have KB := n4_; have HKr := n6_; clear n1_ n2_ n3_ n4_ n6_; clear hb0 hb1 hb2 hb3 hb4 hb5; skip))
        go_roundg (n_ - (i + 1))
        case measure => omega
        case rel => exact ⟨i + 1, o3, by go_num, rfl, by omega, by omega, HN, HKr, HM, HKp, KS, KB⟩
      · have hltz : ¬ (i : Int) < (n_ : Int) := by omega
        obtain rfl : i = n_ := by omega
        have hres : o = kVal false k := by rw [HVAL.out, HO.out, ← HL2.out, List.take_length]
        have HRES := Aside0.mk hres
        obtain ⟨w9, hup, hm9, hg9⟩ := Memo.update (HM.out.step (w' := wr.drew) rfl) HMAX.out k HOK.out
        rw [← hres] at hup
        have HUP : Aside0 ((Instr.mapUpdate 50 (.map (some mb)) (.agg #[.int .i64 k.a, .int .i64 k.b, .int .i64 k.c, .int .i64 k.d, .int .i64 k.w, .int .i64 k.s]) (.int .i64 o)).run Try.prog wr.drew = .ok () w9) := ⟨hup⟩
        have HM9 := Aside0.mk (Memo.mono hm9 HMAX2.out)
        have HK9 := Aside0.mk (KeptM.of_grown hg9 HKp.out.drew)
        have hb0 : (wr).cell? ⟨gb, 0, none⟩ = some (.int .i64 k.a) := (blk_cell KB.out 0).trans rfl; have hb1 : (wr).cell? ⟨gb, 1, none⟩ = some (.int .i64 k.b) := (blk_cell KB.out 1).trans rfl; have hb2 : (wr).cell? ⟨gb, 2, none⟩ = some (.int .i64 k.c) := (blk_cell KB.out 2).trans rfl; have hb3 : (wr).cell? ⟨gb, 3, none⟩ = some (.int .i64 k.d) := (blk_cell KB.out 3).trans rfl; have hb4 : (wr).cell? ⟨gb, 4, none⟩ = some (.int .i64 k.w) := (blk_cell KB.out 4).trans rfl; have hb5 : (wr).cell? ⟨gb, 5, none⟩ = some (.int .i64 k.s) := (blk_cell KB.out 5).trans rfl
        have hs0 : (wr).cell? ⟨gs, 0, none⟩ = some (.bool false) := (blk_cell KS.out 0).trans rfl; have hs1 : (wr).cell? ⟨gs, 1, none⟩ = some (.map (some mb)) := (blk_cell KS.out 1).trans rfl
        clear hres hup hm9 hg9 HO HVAL HL2 HMEM HFOLD HBIG HROW HMAX HMAX2 HKr HM HKp
        go_wp2
        refine start_ (n := 7) (S := fun w' => w'.cell? ⟨gs, 1, none⟩ = some (.map (some mb)) ∧ w'.cell? ⟨gb, 0, none⟩ = some (.int .i64 k.a) ∧ w'.cell? ⟨gb, 1, none⟩ = some (.int .i64 k.b) ∧ w'.cell? ⟨gb, 2, none⟩ = some (.int .i64 k.c) ∧ w'.cell? ⟨gb, 3, none⟩ = some (.int .i64 k.d) ∧ w'.cell? ⟨gb, 4, none⟩ = some (.int .i64 k.w) ∧ w'.cell? ⟨gb, 5, none⟩ = some (.int .i64 k.s) ∧ (Instr.mapUpdate 50 (.map (some mb)) (.agg #[.int .i64 k.a, .int .i64 k.b, .int .i64 k.c, .int .i64 k.d, .int .i64 k.w, .int .i64 k.s]) (.int .i64 o)).run Try.prog w' = .ok () w9) (ds := [6]) #[false, false, false, false, false, false, false] (by kernel_rfl) rfl rfl ⟨hs1, hb0, hb1, hb2, hb3, hb4, hb5, HUP.out⟩ (fun hHeld => ?_)
        refine pure_ (i := 0) (N := some 53) (v := ?_) (a' := ?_) #[true, false, false, false, false, false, false] rfl rfl (by kernel_rfl) (fun _ _ _ h => h) (Or.inl ⟨by rfl, ?_⟩) ?_ ?_
        rotate_left
        · intro w'
          go_simp
          with_reducible rfl
        rotate_left
        · simp only [Act.put, List.setIfInBounds_toArray, List.set_cons_zero, List.set_cons_succ, i64_w, i32_w]
          rfl
        refine pure_ (i := 1) (N := some 54) (v := ?_) (a' := ?_) #[true, true, false, false, false, false, false] rfl rfl (by kernel_rfl) (fun _ _ _ h => h) (Or.inl ⟨by rfl, ?_⟩) ?_ ?_
        rotate_left
        · intro w'
          go_simp
          with_reducible rfl
        rotate_left
        · simp only [Act.put, List.setIfInBounds_toArray, List.set_cons_zero, List.set_cons_succ, i64_w, i32_w]
          rfl
        refine pure_ (i := 2) (N := some 55) (v := ?_) (a' := ?_) #[true, true, true, false, false, false, false] rfl rfl (by kernel_rfl) (fun _ _ _ h => h) (Or.inl ⟨by rfl, ?_⟩) ?_ ?_
        rotate_left
        · intro w'
          go_simp
          with_reducible rfl
        rotate_left
        · simp only [Act.put, List.setIfInBounds_toArray, List.set_cons_zero, List.set_cons_succ, i64_w, i32_w]
          rfl
        refine pure_ (i := 5) (N := some 58) (v := ?_) (a' := ?_) #[true, true, true, false, false, true, false] rfl rfl (by kernel_rfl) (fun _ _ _ h => h) (Or.inl ⟨by rfl, ?_⟩) ?_ ?_
        rotate_left
        · intro w'
          go_simp
          with_reducible rfl
        rotate_left
        · simp only [Act.put, List.setIfInBounds_toArray, List.set_cons_zero, List.set_cons_succ, i64_w, i32_w]
          rfl
        refine take_ (i := 3) (N := some 56) (v := ?_) (a' := ?_) #[true, true, true, true, false, true, false] rfl rfl (by kernel_rfl) (fun _ _ _ h => h) (Or.inl ⟨by rfl, ?_⟩) hHeld ?_ ?_
        rotate_left
        · rintro w' ⟨s0, s1, s2, s3, s4, s5, s6, s7⟩
          go_simp
          with_reducible rfl
        rotate_left
        · simp only [Act.put, List.setIfInBounds_toArray, List.set_cons_zero, List.set_cons_succ, i64_w, i32_w]
          rfl
        refine take_ (i := 4) (N := some 57) (v := ?_) (a' := ?_) #[true, true, true, true, true, true, false] rfl rfl (by kernel_rfl) (fun _ _ _ h => h) (Or.inl ⟨by rfl, ?_⟩) hHeld ?_ ?_
        rotate_left
        · rintro w' ⟨s0, s1, s2, s3, s4, s5, s6, s7⟩
          go_simp
          with_reducible rfl
        rotate_left
        · simp only [Act.put, List.setIfInBounds_toArray, List.set_cons_zero, List.set_cons_succ, i64_w, i32_w]
          rfl
        refine last_ (i := 6) (N := none) #[true, true, true, true, true, true, true] rfl rfl (by kernel_rfl) (by decide) (fun K hK => ?_)
        refine skip_ (w1 := ?_) (by rfl) rfl ?_ ?_
        rotate_left
        · go_simp
          rfl
        refine hK.out _ _ ?_
        clear hK K
        refine done_ (by kernel_rfl) ?_
        go_wp2
        go_ret
        exact ⟨(by rw [HRES.out]; rfl), HM9.out, HK9.out⟩
theorem LeastC_all (al : Bool) : ∀ m, LeastC al m
  | 0 => fun _ _ _ _ _ _ h => absurd h (Nat.not_lt_zero _)
  | m + 1 => fun k gs mb n W hk hm hn hne hS hM => by
    by_cases he : kEnd al k = true
    · exact least_end al (m + 1) k gs mb n W hk hne hS hM he
    · by_cases hab : k.a = k.b
      · have hal : al = false := by
          cases al with
          | false => rfl
          | true => exact absurd (by unfold kEnd; rw [decide_eq_true hab]; rfl) he
        have hcd : k.c ≠ k.d := by
          intro hcd
          exact he (by unfold kEnd; rw [decide_eq_true hab, decide_eq_true hcd]; cases al <;> rfl)
        subst hal
        exact least_known2 m (LeastC_all false m) k gs mb n W hk (by omega) hn hne hS hM hab hcd
      · exact least_known al m (LeastC_all al m) k gs mb n W hk (by omega) hn hne hS hM hab

end Go.Proofs.Yteboofglcnceoaa.PrintA
