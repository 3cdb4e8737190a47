-- written by this session's own driver (wip/gen.py) with the kit's print and contracts of our own
import Derived.Test.YtkflioekhadebaaPrintA0
import Derived.Test.YtkflioekhadebaaPrintA5
import Derived.Test.YtkflioekhadebaaPrintA6
import Derived.Test.YtkflioekhadebaaPrintA7
import Derived.Test.YtkflioekhadebaaPrintA9
import Derived.Test.YtkflioekhadebaaPrintA10
namespace Go.Proofs.Ytkflioekhadebaa.PrintA
open Go.RowKit Go.Proofs.YtkflioekhadebaaLib Go.Proofs.YtkflioekhadebaaW.PrintWords Go.Proofs.YtkflioekhadebaaW.PrintLast Go.Proofs.YtkflioekhadebaaW.PrintMore
attribute [local go_sem] max2_int min2_int max_two min_two max_three min_three max_four min_four   -- for this text's walks alone
set_option linter.unusedVariables false
set_option linter.unusedSimpArgs false

/-! ### spec_HousesLeft: function 19, a contract of our own -/
theorem hlIn_ok (x lo hi : Int) (W : World) : Calls Try.prog 38 #[.int .i64 x, .int .i64 lo, .int .i64 hi] W fun e w' => e = .returned (.bool (decide (lo ≤ x) && decide (x ≤ hi))) ∧ W = w' :=
  spec_l1In.calls0 x lo hi _ W (by
    unfold spec_l1In.f
    by_cases h : x ≥ lo
    · have h2 : lo ≤ x := h
      rw [if_pos h, decide_eq_true h2, Bool.true_and]
    · have h2 : ¬ lo ≤ x := h
      rw [if_neg h, decide_eq_false h2, Bool.false_and])
theorem hlLeast_ok (x y : Int) (W : World) : Calls Try.prog 39 #[.int .i64 x, .int .i64 y] W fun e w' => e = .returned (.int .i64 (min x y)) ∧ W = w' :=
  spec_l1Least.calls0 x y _ W (by
    unfold spec_l1Least.f
    by_cases h : x < y
    · rw [if_pos h]; congr 1; omega
    · rw [if_neg h]; congr 1; omega)
theorem hlMost_ok (x y : Int) (W : World) : Calls Try.prog 40 #[.int .i64 x, .int .i64 y] W fun e w' => e = .returned (.int .i64 (max x y)) ∧ W = w' :=
  spec_l1Most.calls0 x y _ W (by
    unfold spec_l1Most.f
    by_cases h : x > y
    · rw [if_pos h]; congr 1; omega
    · rw [if_neg h]; congr 1; omega)
/-- A row of a row, ready to be written. -/
theorem row_put {W : World} {b g n c : Nat} {okS : Nat → Prop} {out : List (List Int)} (hS : Kd.S (Kd.slice 3 (Kd.int .i64)) 22 W b okS (.slice (some ⟨g, 0, none⟩) n c) out) (h : Nat) (hh : h < n) (lo hi : Int) (hrow : out.getD h [] = [lo, hi]) :
    ∃ gr cr, b ≤ gr ∧ W.cell? ⟨g, h, none⟩ = some (.slice (some ⟨gr, 0, none⟩) 2 cr) ∧ W.cell? ⟨gr, 0, none⟩ = some (.int .i64 lo) ∧ W.cell? ⟨gr, 1, none⟩ = some (.int .i64 hi) ∧ W.frozen? ⟨gr, 0, none⟩ = false ∧ W.frozen? ⟨gr, 1, none⟩ = false ∧
      (∀ x, Kd.S (Kd.slice 3 (Kd.int .i64)) 22 (W.setCell ⟨gr, 0, none⟩ (.int .i64 x)) b okS (.slice (some ⟨g, 0, none⟩) n c) (out.set h [x, hi])) ∧
      (∀ x, Kd.S (Kd.slice 3 (Kd.int .i64)) 22 (W.setCell ⟨gr, 1, none⟩ (.int .i64 x)) b okS (.slice (some ⟨g, 0, none⟩) n c) (out.set h [lo, x])) := by
  obtain ⟨oki, cl, hc1, hM, hcell, hoki, hH⟩ := Kd.S_lend hS [] (h : Int) (by omega) (by omega)
  rw [Int.toNat_natCast, hrow] at hM
  rw [Int.toNat_natCast] at hcell
  obtain ⟨v, rfl, hr⟩ := (hM : ∃ v, cl = [v] ∧ Kd.R (Kd.int .i64) 3 W b oki v [lo, hi])
  obtain ⟨gr, cr, hv, hbg, _, _⟩ := Kd.R_form hr (by simp)
  subst hv
  have h0 := hcell 0 _ rfl
  have e1 : h * (Kd.slice 3 (Kd.int .i64)).sz + 0 = h := by show h * 1 + 0 = h; omega
  rw [e1] at h0
  obtain ⟨a0, f0⟩ := Kd.R_celln 0 hr 0 (by decide) (by simp)
  obtain ⟨a1, f1⟩ := Kd.R_celln 0 hr 1 (by decide) (by simp)
  have hokg : oki gr := hr.1 gr (slice_own gr _ _)
  have hput : ∀ (i : Int) (x : Int), Kd.S (Kd.slice 3 (Kd.int .i64)) 22 (W.setCell ⟨gr, i.toNat, none⟩ (.int .i64 x)) b okS (.slice (some ⟨g, 0, none⟩) n c) (out.set h ([lo, hi].set i.toNat x)) := fun i x => by
    have h1 := Kd.R_putn hr i x
    have h2 := Kd.H_back (Kd.H_step hH (fun k _ hk _ => Below.heap_setCell W ⟨gr, i.toNat, none⟩ (.int .i64 x) k (fun he => hk (by have he2 : k = gr := he; rw [he2]; exact hokg)))) (okp := oki) (Exists.intro _ ⟨rfl, h1⟩ : ∃ v_, [Value.slice (some ⟨gr, 0, none⟩) [lo, hi].length cr] = [v_] ∧ Kd.R (Kd.int .i64) 3 (W.setCell ⟨gr, i.toNat, none⟩ (.int .i64 x)) b oki v_ ([lo, hi].set i.toNat x)) (fun _ hk => hk)
    rw [Int.toNat_natCast] at h2
    exact h2
  exact ⟨gr, cr, hbg, h0, a0, a1, f0, f1, fun x => hput 0 x, fun x => hput 1 x⟩
/-- What is left after no drop. -/
def hlInit (l : List Int) (i : Nat) : List (List Int) := (List.range i).map (fun t => [0, l.getD t 0])
theorem hlInit_succ (l : List Int) (i : Nat) : hlInit l (i + 1) = hlInit l i ++ [[0, l.getD i 0]] := by
  unfold hlInit
  rw [List.range_succ, List.map_append]
  rfl
theorem hlInit_all (l : List Int) (n : Nat) : hlInit l n = hlOut l [] n := rfl
theorem hlOut_len (l : List Int) (ds : List S47) (n : Nat) : (hlOut l ds n).length = n := by unfold hlOut; rw [List.length_map, List.length_range]
theorem hlOut_get (l : List Int) (ds : List S47) (n i : Nat) (hi : i < n) : (hlOut l ds n).getD i [] = [(hlRow l ds i).1, (hlRow l ds i).2] := by
  unfold hlOut
  rw [List.getD_eq_getElem?_getD, List.getElem?_map, List.getElem?_range hi]
  rfl
theorem hlRow_more (l : List Int) (ds : List S47) (d : S47) (i : Nat) : hlRow l (ds ++ [d]) i = if d.f0 = (i : Int) then hlStep (hlRow l ds i) (hlD d) else hlRow l ds i := by
  unfold hlRow
  rw [hlOwn_more]
  by_cases h : d.f0 = (i : Int)
  · rw [if_pos h, if_pos h, List.foldl_append]; rfl
  · rw [if_neg h, if_neg h]
theorem hlOut_more (l : List Int) (ds : List S47) (d : S47) (n h : Nat) (hh : d.f0 = (h : Int)) (hn : h < n) : hlOut l (ds ++ [d]) n = (hlOut l ds n).set h [(hlStep (hlRow l ds h) (hlD d)).1, (hlStep (hlRow l ds h) (hlD d)).2] := by
  unfold hlOut
  apply List.ext_getElem?
  intro i
  rw [List.getElem?_set]
  by_cases hi : i < n
  · rw [List.getElem?_map, List.getElem?_range hi, List.getElem?_map, List.getElem?_range hi, List.length_map, List.length_range]
    show some [(hlRow l (ds ++ [d]) i).1, (hlRow l (ds ++ [d]) i).2] = _
    rw [hlRow_more]
    by_cases he : h = i
    · subst he
      rw [if_pos rfl, if_pos hn, if_pos hh]
    · rw [if_neg he, if_neg (by omega)]
      rfl
  · have h1 : ((List.range n).map (fun i => [(hlRow l (ds ++ [d]) i).1, (hlRow l (ds ++ [d]) i).2]))[i]? = none := List.getElem?_eq_none (by simp; omega)
    have h2 : ((List.range n).map (fun i => [(hlRow l ds i).1, (hlRow l ds i).2]))[i]? = none := List.getElem?_eq_none (by simp; omega)
    rw [h1, h2, if_neg (by omega)]
theorem hlRow_le (l : List Int) (hl : hOk l) (ds : List S47) (i : Nat) (hds : ∀ d ∈ ds, hlOk l d = true) : 0 ≤ (hlRow l ds i).1 ∧ (hlRow l ds i).1 ≤ 1000 ∧ -1000 ≤ (hlRow l ds i).2 ∧ (hlRow l ds i).2 ≤ 1000 := by
  have hgo : ∀ (es : List S55) (a : Int × Int), (∀ d ∈ es, 0 ≤ d.f0 ∧ d.f0 ≤ 1000) → 0 ≤ a.1 ∧ a.1 ≤ 1000 ∧ -1000 ≤ a.2 ∧ a.2 ≤ 1000 → 0 ≤ (es.foldl hlStep a).1 ∧ (es.foldl hlStep a).1 ≤ 1000 ∧ -1000 ≤ (es.foldl hlStep a).2 ∧ (es.foldl hlStep a).2 ≤ 1000 := by
    intro es
    induction es with
    | nil => intro a _ h; exact h
    | cons d es ih =>
      intro a hd h
      rw [List.foldl_cons]
      refine ih _ (fun x hx => hd x (List.mem_cons_of_mem _ hx)) ?_
      have h1 := hd d List.mem_cons_self
      unfold hlStep
      split
      · show 0 ≤ a.1 ∧ a.1 ≤ 1000 ∧ -1000 ≤ min a.2 (d.f0 - 1) ∧ min a.2 (d.f0 - 1) ≤ 1000
        omega
      · show 0 ≤ max a.1 d.f0 ∧ max a.1 d.f0 ≤ 1000 ∧ -1000 ≤ a.2 ∧ a.2 ≤ 1000
        omega
  refine hgo _ _ (fun x hx => ?_) ?_
  · obtain ⟨d, hd, rfl, _⟩ := hlOwn_mem ds i x hx
    have h := hds d hd
    unfold hlOk at h
    simp only [Bool.and_eq_true, decide_eq_true_eq] at h
    have := hOk_get hl d.f0.toNat
    show 0 ≤ d.f1 ∧ d.f1 ≤ 1000
    omega
  · have := hOk_get hl i
    show 0 ≤ (0 : Int) ∧ (0 : Int) ≤ 1000 ∧ -1000 ≤ l.getD i 0 ∧ l.getD i 0 ≤ 1000
    omega
-- @@WALK@@
def hlIn (x lo hi : Int) : Bool := decide (lo ≤ x) && decide (x ≤ hi)
theorem hlIn_same (x lo hi : Int) (W : World) : Calls Try.prog 38 #[.int .i64 x, .int .i64 lo, .int .i64 hi] W fun e w' => e = .returned (.bool (hlIn x lo hi)) ∧ w' = W :=
  (hlIn_ok x lo hi W).mono fun _ _ h => ⟨h.1, h.2.symm⟩
theorem hlGood_iff (l : List Int) (hg : hlGood l = true) : 1 ≤ l.length ∧ l.length ≤ 3 ∧ hOk l := by
  unfold hlGood at hg
  simp only [Bool.and_eq_true, decide_eq_true_eq, List.all_eq_true] at hg
  exact ⟨hg.1.1, hg.1.2, hg.2⟩
theorem hl_good_calls (A : Option Addr) (c : Nat) (l : List Int) (W : World) (hr : Kd.C (Kd.int .i64) W A l.length l) (hc : l.length ≤ c) (hl : l.length ≤ 1000000) :
    Calls Try.prog 28 #[.slice A l.length c] W fun e w' => e = .returned (.bool (hlGood l)) ∧ Drawn0 W w' := by
  obtain ⟨b, h1, h2, _⟩ := spec_hoGood_is l hl (l.length + 1) (by omega)
  have hA : impl_AreHouses.f l = some (hlGood l) := by unfold impl_AreHouses.f; rw [if_pos (by omega)]; rfl
  rw [hA] at h2
  rw [← Option.some.inj h2] at h1
  exact spec_hoGood.calls (l.length + 1) A c l _ W hr hc h1
theorem hlRes_bad (l : List Int) (ds : List S47) (i : Nat) (hi : i < ds.length) (h : hlOk l (ds.getD i z47) = false) : hlRes l ds = ([], false) := by
  unfold hlRes hlAll
  have : ds.all (hlOk l) = false := by
    rw [List.all_eq_false]
    refine ⟨ds.getD i z47, ?_, by rw [h]; decide⟩
    rw [List.getD_eq_getElem?_getD, List.getElem?_eq_getElem hi]
    exact List.getElem_mem hi
  rw [this, Bool.false_and]
  rfl
theorem hlRes_row (l : List Int) (ds : List S47) (i : Nat) (hi : i < l.length) (h : hlOkRow l ds i = false) : hlRes l ds = ([], false) := by
  unfold hlRes hlAll
  have : (List.range l.length).all (fun i => decide ((hlRow l ds i).1 ≤ (hlRow l ds i).2)) = false := by
    rw [List.all_eq_false]
    exact ⟨i, List.mem_range.2 hi, by show ¬ hlOkRow l ds i = true; rw [h]; decide⟩
  rw [this, Bool.and_false]
  rfl
theorem hlRes_ok (l : List Int) (ds : List S47) (h1 : ∀ d ∈ ds, hlOk l d = true) (h2 : ∀ i, i < l.length → hlOkRow l ds i = true) : hlRes l ds = (hlOut l ds l.length, true) := by
  unfold hlRes hlAll
  have e1 : ds.all (hlOk l) = true := List.all_eq_true.2 h1
  have e2 : (List.range l.length).all (fun i => decide ((hlRow l ds i).1 ≤ (hlRow l ds i).2)) = true := List.all_eq_true.2 (fun i hi => h2 i (List.mem_range.1 hi))
  rw [e1, e2]
  rfl
theorem hl_take (ds : List S47) (i : Nat) (hi : i < ds.length) : ds.take (i + 1) = ds.take i ++ [rd_T47 ds (i : Int)] := by
  rw [List.take_add_one, List.getElem?_eq_getElem hi]
  unfold rd_T47
  rw [Int.toNat_natCast, List.getD_eq_getElem?_getD, List.getElem?_eq_getElem hi]
  rfl
/-- One drop more, with its house. -/
theorem hl_more (l : List Int) (hl : hOk l) (ds : List S47) (n i h : Nat) (f1 : Int) (f2 : Bool) (hi : i < ds.length) (hd : rd_T47 ds (i : Int) = ⟨(h : Int), f1, f2⟩) (hh : h < n) (hf : 1 ≤ f1 ∧ f1 ≤ 1000) (hpre : ∀ d ∈ ds.take i, hlOk l d = true) :
    ∃ lo hi_, (hlOut l (ds.take i) n).getD h [] = [lo, hi_] ∧ (0 ≤ lo ∧ lo ≤ 1000 ∧ -1000 ≤ hi_ ∧ hi_ ≤ 1000) ∧
      (f2 = true → hlOut l (ds.take (i + 1)) n = (hlOut l (ds.take i) n).set h [lo, min hi_ (f1 - 1)]) ∧ (f2 = false → hlOut l (ds.take (i + 1)) n = (hlOut l (ds.take i) n).set h [max lo f1, hi_]) := by
  refine ⟨_, _, hlOut_get l (ds.take i) n h hh, hlRow_le l hl (ds.take i) h hpre, fun h2 => ?_, fun h2 => ?_⟩
  · rw [hl_take ds i hi, hd, hlOut_more l (ds.take i) _ n h rfl hh]
    subst h2
    rfl
  · rw [hl_take ds i hi, hd, hlOut_more l (ds.take i) _ n h rfl hh]
    subst h2
    rfl
set_option maxHeartbeats 8000000 in
set_option maxRecDepth 100000 in
theorem hleft_good (l : List Int) (ds : List S47) (n m : Nat) (hn : l.length = n) (hm : ds.length = m) (hg : hlGood l = true) (h60 : m ≤ 60) (A0 A1 : Option Addr) (c0 c1 : Nat) (w : World) (hr0 : Kd.C (Kd.int .i64) w A0 n l) (hc0 : n ≤ c0) (hr1 : Kd.C k47 w A1 m ds) (r1 : List (List Int)) (r2 : Bool) (hres : hlRes l ds = (r1, r2)) :
    Calls Try.prog 19 #[.slice A0 n c0, .slice A1 m c1] w fun e_ w' => ∃ v, e_ = .returned (.tuple #[v, .bool r2]) ∧ Kd.S (Kd.slice 3 (Kd.int .i64)) 22 w' w.heap.size (fun _ => True) v r1 ∧ Below w.heap.size w w' := by
  have hu := Try.underlying47
  have HR0 := Aside0.mk hr0
  have HR1 := Aside0.mk hr1
  have HB := Aside0.mk (Below.refl w.heap.size w)
  obtain ⟨g1, g2, g3⟩ := hlGood_iff l hg
  rw [hn] at g1 g2
  have HOK := Aside0.mk g3
  have HGD : Aside0 (∀ W, Below w.heap.size w W → Calls Try.prog 28 #[.slice A0 n c0] W fun e w' => e = .returned (.bool true) ∧ Drawn0 W w') := ⟨fun W hb => by
    have h := hl_good_calls A0 c0 l W (by rw [hn]; exact Kd.C_below hr0 hb) (by rw [hn]; exact hc0) (by omega)
    rw [hn, hg] at h
    exact h⟩
  have HRES := Aside0.mk hres
  clear hres
  have HN := Aside0.mk hn
  have HM := Aside0.mk hm
  have HINI := Aside0.mk (hlInit_succ l)
  have HGET : Aside0 (∀ i, i < n → 0 ≤ l.getD i 0 ∧ l.getD i 0 ≤ 1000) := ⟨fun i _ => by have := hOk_get g3 i; omega⟩
  clear hr0 hr1 hg hn hm g3 hc0
  have hm60 : ((m : Int) > 60) = False := by rw [eq_iff_iff]; constructor <;> intro h <;> first | omega | exact h.elim
  go_enter Try.func19, Try.ntmps19
  go_wp2_with (first
    | (go_at_call 28; with_reducible refine (HGD.out _ HB.out).mono ?_; rintro e_ w2 ⟨rfl, ⟨nd, rfl⟩⟩; have n0_ := Aside0.mk (pw_below_drewN HB.out nd); clear HB; have HB := n0_; clear n0_))
  go_wp2
  go_loopg [6, 24] n (fun gg v6 v24 wr => ∃ (i : Nat), v24 = .int .i64 i ∧ i ≤ n ∧ n - i ≤ gg ∧ Aside0 (Kd.S (Kd.slice 3 (Kd.int .i64)) 22 wr w.heap.size (fun _ => True) v6 (hlInit l i)) ∧ Aside0 (Below w.heap.size w wr))
  case atStart => exact ⟨0, rfl, Nat.zero_le _, Nat.le_refl _, ⟨Kd.S_nil _ _ _ _ _⟩, HB⟩
  case round =>
    clear HB
    obtain ⟨i, rfl, hi, hgg, HO, HB⟩ := hrel
    obtain ⟨wm, rfl⟩ : ∃ wm, wm = wr := ⟨_, rfl⟩
    by_cases hlt : i < n
    · have hltz : (i : Int) < (n : Int) := by omega
      obtain ⟨ad0, rfl, hx0⟩ := Kd.at_int (Kd.C_below HR0.out HB.out) (i : Int) (by omega) hltz
      have hrd : rd l (i : Int) = l.getD i 0 := by unfold rd; rw [Int.toNat_natCast]
      rw [Int.toNat_natCast, hrd] at hx0
      clear hrd
      have hsu := HINI.out i
      obtain ⟨x, hx⟩ : ∃ x, x = l.getD i 0 := ⟨_, rfl⟩
      rw [← hx] at hx0 hsu
      clear hx
      have HLEN : Aside0 (((hlInit l i).length + 1) * 24 ≤ 140737488355328) := ⟨by unfold hlInit; rw [List.length_map, List.length_range]; omega⟩
      generalize hlInit l i = out at HO HLEN hsu
      have HSU := Aside0.mk hsu
      clear hsu
      have hw9 : IntKind.i64.wrap ((i : Int) + 1) = (i : Int) + 1 := by rw [i64_w]; unfold wrap64; omega
      go_wp2_with (first
        | ((with_reducible refine gate_dst (N := 30) rfl ?_); refine Kd.R_lit (Kd.int .i64) _ 3 ?hg (N := 30) ?hd (xs := ([0, x] : List Int)) (inner := [.int .i64 0, .int .i64 x]) (ok := fun _ => True) (okp := fun _ => True) ?hr ?hp (fun _ hk => hk) trivial (Below.refl _ _) (Nat.le_refl _) (by simp) ?_; (case hd => rfl); (case hg => rfl); (case hr => first | (go_simp; done) | (go_simp; rfl)); (case hp => exact (Reps.one (show Kd.M (Kd.int .i64) _ _ _ 0 [.int .i64 0] from rfl) (Reps.one (show Kd.M (Kd.int .i64) _ _ _ x [.int .i64 x] from rfl) (Reps.none _ _)))); intro v30 w4 ho hb hg_ hnew_; have n0_ := Aside0.mk (Kd.S_elder' HO.out (Kd.R_base ho) hb); have HN1 := Aside0.mk (Kd.R_lower ho HB.out.size); have n1_ := Aside0.mk (below_step HB.out hb); clear HO HB hg_ hnew_ ho hb; have HO := n0_; have HB := n1_; clear n0_ n1_; obtain ⟨Ao, co, eo⟩ := Kd.R_slice HN1.out; subst eo)
        | ((with_reducible refine gate_builtin (b := .append) (xs := #[.tmp 28, .tmp 31]) rfl ?_); at_builtin; refine Kd.S_append (Kd.slice 3 (Kd.int .i64)) (w0 := w) w.heap.size rfl (.tmp 28) (.tmp 31) 30 22 (.slice none 0 0) 24 rfl Try.underlying30 info22 rfl (by decide) (by omega) u6 out [0, x] [.slice Ao [0, x].length co] (fun _ => True) (fun k_ => some k_ = (.slice Ao [0, x].length co : Value).ownBlock) rfl rfl ?aP (fun k_ hk_ => ((Kd.R_mono (ok' := fun k_ => ((fun _ => True)) k_ ∧ some k_ ≠ (u6 : Value).ownBlock) (Kd.R_apart' (HN1.out) (Kd.S_typed HO.out) (by decide)) (fun k_ hk => ⟨trivial, hk.2⟩))).1 k_ hk_.symm) ?aF ?aO ?aB ?aS ?aL ?_; (case aP => exact Kd.M_row (Kd.R_mono (Kd.R_tight rfl (Kd.R_mono (ok' := fun k_ => ((fun _ => True)) k_ ∧ some k_ ≠ (u6 : Value).ownBlock) (Kd.R_apart' (HN1.out) (Kd.S_typed HO.out) (by decide)) (fun k_ hk => ⟨trivial, hk.2⟩))) (fun _ h_ => h_))); (case aB => exact HB.out); (case aF => exact (fun _ _ => trivial)); (case aO => exact (Kd.S_mono HO.out (fun k_ hk => ⟨trivial, fun e_ => hk.2 e_⟩))); (case aS => exact HB.out.size); (case aL => exact HLEN.out); intro v32 w7 ho hb hg hat; rw [← HSU.out] at ho; clear HO HB HN1; have HO := Aside0.mk ho; have HB := Aside0.mk hb; clear ho hb hg hat))
      go_roundg (n - (i + 1))
      case measure => omega
      case rel => exact ⟨i + 1, by go_num, by clear hw9; omega, by clear hw9; omega, HO, HB⟩
    · have hltz : ¬ (i : Int) < (n : Int) := by omega
      obtain rfl : n = i := by omega
      have HO2 : Aside0 (Kd.S (Kd.slice 3 (Kd.int .i64)) 22 wm w.heap.size (fun _ => True) u6 (hlOut l (ds.take 0) n)) := ⟨by rw [List.take_zero, ← hlInit_all]; exact HO.out⟩
      clear HO HINI
      obtain ⟨g, cap, hv, hbg, _, _⟩ := Kd.S_form HO2.out (by rw [hlOut_len]; omega)
      rw [hlOut_len] at hv
      subst hv
      clear hbg
      have HP0 : Aside0 (∀ d ∈ ds.take 0, hlOk l d = true) := ⟨fun d hd => by simp at hd⟩
      go_wp2
      go_loopg [36] m (fun gg v36 wr => ∃ (j : Nat), v36 = .int .i64 j ∧ j ≤ m ∧ m - j ≤ gg ∧ Aside0 (∀ d ∈ ds.take j, hlOk l d = true) ∧ Aside0 (Kd.S (Kd.slice 3 (Kd.int .i64)) 22 wr w.heap.size (fun _ => True) (.slice (some ⟨g, 0, none⟩) n cap) (hlOut l (ds.take j) n)) ∧ Aside0 (Below w.heap.size w wr))
      case atStart => exact ⟨0, rfl, Nat.zero_le _, Nat.le_refl _, HP0, HO2, HB⟩
      case round =>
        clear HP0 HO2 HB
        obtain ⟨j, rfl, hj, hgj, HPRE, HO, HB⟩ := hrel
        obtain ⟨wq, rfl⟩ : ∃ wq, wq = wr := ⟨_, rfl⟩
        by_cases hjm : j < m
        · have hjz : (j : Int) < (m : Int) := by omega
          obtain ⟨ad1, rfl, hx0, hx1, hx2⟩ := at_T47 (Kd.C_below HR1.out HB.out) (j : Int) (by omega) hjz
          rw [Int.toNat_natCast] at hx0 hx1 hx2
          obtain ⟨d, hd⟩ : ∃ d, rd_T47 ds (j : Int) = d := ⟨_, rfl⟩
          rw [hd] at hx0 hx1 hx2
          have HD := Aside0.mk hd
          clear hd
          obtain ⟨f0, f1, f2⟩ := d
          dsimp only at hx0 hx1 hx2
          have HBAD : Aside0 (hlOk l ⟨f0, f1, f2⟩ = false → r1 = [] ∧ r2 = false) := ⟨fun h => by
            have h1 := hlRes_bad l ds j (by rw [HM.out]; exact hjm) (by rw [show ds.getD j z47 = rd_T47 ds (j : Int) by unfold rd_T47; rw [Int.toNat_natCast], HD.out]; exact h)
            rw [HRES.out] at h1
            exact Prod.mk.inj h1⟩
          have hw9 : IntKind.i64.wrap ((j : Int) + 1) = (j : Int) + 1 := by rw [i64_w]; unfold wrap64; omega
          have hw8 : IntKind.i64.wrap ((n : Int) - 1) = (n : Int) - 1 := by clear hw9; rw [i64_w]; unfold wrap64; omega
          go_wp2_with (first
            | ((with_reducible refine gate_dst (N := 10) rfl ?_); refine box_event ?hg (N := 10) ?hd (cs := #[.int .i64 0, .int .i64 0, .bool false]) (t := 47) ?hr ?_; (case hd => rfl); (case hg => rfl); (case hr => first | (go_simp; done) | (go_simp; rfl)); intro gb hg w5 hbox hb; have n0_ := Aside0.mk (Kd.S_below HO.out hb); have n1_ := Aside0.mk (below_step HB.out hb); have BK := Aside0.mk hbox; have GE : Aside0 (w.heap.size ≤ gb) := ⟨by rw [hg]; exact HB.out.size⟩; clear HO HB; have HO := n0_; have HB := n1_; clear n0_ n1_ hb hbox hg; have hcz0 : w5.cell? ⟨gb, 0, none⟩ = some (.int .i64 0) := (blk_cell BK.out 0).trans rfl; have hcz1 : w5.cell? ⟨gb, 1, none⟩ = some (.int .i64 0) := (blk_cell BK.out 1).trans rfl; have hcz2 : w5.cell? ⟨gb, 2, none⟩ = some (.bool false) := (blk_cell BK.out 2).trans rfl; have hfz0 := blk_frozen BK.out 0; have hfz1 := blk_frozen BK.out 1; have hfz2 := blk_frozen BK.out 2))
          have n0_ : Aside0 (Kd.S (Kd.slice 3 (Kd.int .i64)) 22 (((w5.setCell ⟨gb, 0, none⟩ (.int .i64 f0)).setCell ⟨gb, 1, none⟩ (.int .i64 f1)).setCell ⟨gb, 2, none⟩ (.bool f2)) w.heap.size (fun _ => True) (.slice (some ⟨g, 0, none⟩) n cap) (hlOut l (ds.take j) n)) := ⟨Kd.S_mono (Kd.S_far (p := ⟨gb, 2, none⟩) (Kd.S_far (p := ⟨gb, 1, none⟩) (Kd.S_far (p := ⟨gb, 0, none⟩) (Kd.S_types HO.out BK.out (by decide)) (fun _ hk => hk.2) (.int .i64 f0)) (fun _ hk => hk.2) (.int .i64 f1)) (fun _ hk => hk.2) (.bool f2)) (fun _ hk => trivial)⟩
          have n1_ : Aside0 ((((w5.setCell ⟨gb, 0, none⟩ (.int .i64 f0)).setCell ⟨gb, 1, none⟩ (.int .i64 f1)).setCell ⟨gb, 2, none⟩ (.bool f2)).heap[gb]? = some (.cells #[.int .i64 f0, .int .i64 f1, .bool f2] 47 (0, 0))) := ⟨blk_put (cs := #[.int .i64 f0, .int .i64 f1, .bool false]) (blk_put (cs := #[.int .i64 f0, .int .i64 0, .bool false]) (blk_put (cs := #[.int .i64 0, .int .i64 0, .bool false]) BK.out 0 _ rfl) 1 _ rfl) 2 _ rfl⟩
          have n2_ : Aside0 (Below w.heap.size w (((w5.setCell ⟨gb, 0, none⟩ (.int .i64 f0)).setCell ⟨gb, 1, none⟩ (.int .i64 f1)).setCell ⟨gb, 2, none⟩ (.bool f2))) := ⟨below_set (below_set (below_set HB.out GE.out) GE.out) GE.out⟩
          clear HO BK HB hcz0 hcz1 hcz2 hfz0 hfz1 hfz2 hx0 hx1 hx2
          generalize (((w5.setCell ⟨gb, 0, none⟩ (.int .i64 f0)).setCell ⟨gb, 1, none⟩ (.int .i64 f1)).setCell ⟨gb, 2, none⟩ (.bool f2)) = w6 at n0_ n1_ n2_ ⊢
          have HO := n0_
          have BK := n1_
          have HB := n2_
          clear n0_ n1_ n2_
          have hb0 : w6.cell? ⟨gb, 0, none⟩ = some (.int .i64 f0) := (blk_cell BK.out 0).trans rfl
          have hb1 : w6.cell? ⟨gb, 1, none⟩ = some (.int .i64 f1) := (blk_cell BK.out 1).trans rfl
          by_cases c1 : (decide (0 ≤ f0) && decide (f0 ≤ (n : Int) - 1)) = true
          · have hq1 : hlIn f0 0 ((n : Int) - 1) = true := c1
            have c1' := c1
            simp only [Bool.and_eq_true, decide_eq_true_eq] at c1'
            obtain ⟨h, rfl⟩ : ∃ h : Nat, f0 = (h : Int) := ⟨f0.toNat, by clear hw9 hw8; omega⟩
            have hhn : h < n := by clear hw9 hw8; omega
            clear c1 c1'
            obtain ⟨ad0, rfl, hy0⟩ := Kd.at_int (Kd.C_below HR0.out HB.out) (h : Int) (by clear hw9 hw8; omega) (by clear hw9 hw8; omega)
            have hrd : rd l (h : Int) = l.getD h 0 := by unfold rd; rw [Int.toNat_natCast]
            rw [Int.toNat_natCast, hrd] at hy0
            clear hrd
            have hxr := HGET.out h hhn
            have HOKD : Aside0 (hlOk l ⟨(h : Int), f1, f2⟩ = (decide (1 ≤ f1) && decide (f1 ≤ l.getD h 0))) := ⟨by
              unfold hlOk
              rw [HN.out]
              dsimp only
              rw [Int.toNat_natCast, decide_eq_true (by clear hw9 hw8; omega), decide_eq_true (by clear hw9 hw8; omega)]
              rfl⟩
            have hz0 : (0 : Int) ≤ (h : Int) := by clear hw9 hw8; omega
            have hz1 : (h : Int) < (n : Int) := by clear hw9 hw8; omega
            generalize l.getD h 0 = x at hy0 hxr HOKD
            by_cases c2 : (decide (1 ≤ f1) && decide (f1 ≤ x)) = true
            · have hq2 : hlIn f1 1 x = true := c2
              rw [c2] at HOKD
              simp only [Bool.and_eq_true, decide_eq_true_eq] at c2
              go_quiet ((go_at_call 38; refine Calls.quiet_of_same (hlIn_same _ _ _ _)))
              obtain ⟨lo, hi_, hrow, hbd, hT, hF⟩ := hl_more l HOK.out ds n j h f1 f2 (by rw [HM.out]; exact hjm) HD.out hhn (by omega) HPRE.out
              have HPRE2 : Aside0 (∀ d ∈ ds.take (j + 1), hlOk l d = true) := ⟨fun d hd => by
                rw [hl_take ds j (by rw [HM.out]; exact hjm), HD.out] at hd
                rcases List.mem_append.1 hd with h_ | h_
                · exact HPRE.out d h_
                · rw [List.mem_singleton] at h_; rw [h_]; exact HOKD.out⟩
              have HT := Aside0.mk hT
              have HF := Aside0.mk hF
              have hf1 : 1 ≤ f1 ∧ f1 ≤ 1000 := by clear hw9 hw8; omega
              clear hT hF HPRE hq1 hq2 c2 hy0 HOKD HBAD
              have HOL : Aside0 ((hlOut l (ds.take j) n).length = n) := ⟨hlOut_len l (ds.take j) n⟩
              generalize hlOut l (ds.take j) n = out at HO hrow HT HF HOL
              have n0_ := Aside0.mk (Kd.S_drewN HO.out nq)
              have n1_ := Aside0.mk (blk_drewN BK.out nq)
              have n2_ := Aside0.mk (pw_below_drewN HB.out nq)
              clear HO BK HB hb0 hb1
              generalize w6.drewN nq = w8 at n0_ n1_ n2_ ⊢
              have HO := n0_
              have BK := n1_
              have HB := n2_
              clear n0_ n1_ n2_
              have hb0 : w8.cell? ⟨gb, 0, none⟩ = some (.int .i64 (h : Int)) := (blk_cell BK.out 0).trans rfl
              have hb2 : w8.cell? ⟨gb, 2, none⟩ = some (.bool f2) := (blk_cell BK.out 2).trans rfl
              obtain ⟨gr, cr, hbgr, hcr, hr0, hr1, hfr0, hfr1, hput0, hput1⟩ := row_put HO.out h hhn lo hi_ hrow
              have HPUT0 := Aside0.mk hput0
              have HPUT1 := Aside0.mk hput1
              clear hput0 hput1 hrow
              have HROW := Aside0.mk (And.intro hr0 (And.intro hr1 (And.intro hfr0 hfr1)))
              clear hr0 hr1 hfr0 hfr1
              cases f2 with
              | true =>
                go_wp2
                obtain ⟨hr0, hr1, hfr0, hfr1⟩ := HROW.out
                have hb1 : w8.drew.cell? ⟨gb, 1, none⟩ = some (.int .i64 f1) := (blk_cell (show w8.drew.heap[gb]? = _ from BK.out) 1).trans rfl
                have hq1 : w8.drew.cell? ⟨gr, 1, none⟩ = some (.int .i64 hi_) := hr1
                have hqf : w8.drew.frozen? ⟨gr, 1, none⟩ = false := hfr1
                have hw7 : IntKind.i64.wrap (f1 - 1) = f1 - 1 := by clear hw9 hw8; rw [i64_w]; unfold wrap64; omega
                have hw6 : wrap64 (f1 - 1) = f1 - 1 := by clear hw9 hw8 hw7; unfold wrap64; omega
                refine start_ (n := 10) (S := fun w' => w'.cell? ⟨gr, 1, none⟩ = some (.int .i64 hi_) ∧ w'.cell? ⟨gb, 1, none⟩ = some (.int .i64 f1)) (ds := [9]) #[false, false, false, false, false, false, false, false, false, false] (by kernel_rfl) rfl rfl ⟨hq1, hb1⟩ (fun hHeld => ?_)
                refine pure_ (i := 0) (N := some 65) (v := ?_) (a' := ?_) #[true, false, false, false, false, false, false, false, false, false] rfl rfl (by kernel_rfl) (fun _ _ _ h => h) (Or.inl ⟨by rfl, ?_⟩) ?_ ?_
                rotate_left
                · intro w'
                  go_simp
                  with_reducible rfl
                rotate_left
                · simp only [Act.put, List.setIfInBounds_toArray, List.set_cons_zero, List.set_cons_succ, i64_w, i32_w]
                  rfl
                refine pure_ (i := 1) (N := some 66) (v := ?_) (a' := ?_) #[true, true, false, false, false, false, false, false, false, false] rfl rfl (by kernel_rfl) (fun _ _ _ h => h) (Or.inl ⟨by rfl, ?_⟩) ?_ ?_
                rotate_left
                · intro w'
                  go_simp
                  with_reducible rfl
                rotate_left
                · simp only [Act.put, List.setIfInBounds_toArray, List.set_cons_zero, List.set_cons_succ, i64_w, i32_w]
                  rfl
                refine pure_ (i := 2) (N := some 67) (v := ?_) (a' := ?_) #[true, true, true, false, false, false, false, false, false, false] rfl rfl (by kernel_rfl) (fun _ _ _ h => h) (Or.inl ⟨by rfl, ?_⟩) ?_ ?_
                rotate_left
                · intro w'
                  go_simp
                  with_reducible rfl
                rotate_left
                · simp only [Act.put, List.setIfInBounds_toArray, List.set_cons_zero, List.set_cons_succ, i64_w, i32_w]
                  rfl
                refine pure_ (i := 4) (N := some 69) (v := ?_) (a' := ?_) #[true, true, true, false, true, false, false, false, false, false] rfl rfl (by kernel_rfl) (fun _ _ _ h => h) (Or.inl ⟨by rfl, ?_⟩) ?_ ?_
                rotate_left
                · intro w'
                  go_simp
                  with_reducible rfl
                rotate_left
                · simp only [Act.put, List.setIfInBounds_toArray, List.set_cons_zero, List.set_cons_succ, i64_w, i32_w]
                  rfl
                refine take_ (i := 3) (N := some 68) (v := ?_) (a' := ?_) #[true, true, true, true, true, false, false, false, false, false] rfl rfl (by kernel_rfl) (fun _ _ _ h => h) (Or.inl ⟨by rfl, ?_⟩) hHeld ?_ ?_
                rotate_left
                · rintro w' ⟨s0, s1⟩
                  go_simp
                  with_reducible rfl
                rotate_left
                · simp only [Act.put, List.setIfInBounds_toArray, List.set_cons_zero, List.set_cons_succ, i64_w, i32_w]
                  rfl
                refine take_ (i := 5) (N := some 70) (v := ?_) (a' := ?_) #[true, true, true, true, true, true, false, false, false, false] rfl rfl (by kernel_rfl) (fun _ _ _ h => h) (Or.inl ⟨by rfl, ?_⟩) hHeld ?_ ?_
                rotate_left
                · rintro w' ⟨s0, s1⟩
                  go_simp
                  with_reducible rfl
                rotate_left
                · simp only [Act.put, List.setIfInBounds_toArray, List.set_cons_zero, List.set_cons_succ, i64_w, i32_w]
                  rfl
                refine pure_ (i := 6) (N := some 71) (v := ?_) (a' := ?_) #[true, true, true, true, true, true, true, false, false, false] rfl rfl (by kernel_rfl) (fun _ _ _ h => h) (Or.inl ⟨by rfl, ?_⟩) ?_ ?_
                rotate_left
                · intro w'
                  go_simp
                  with_reducible rfl
                rotate_left
                · simp only [Act.put, List.setIfInBounds_toArray, List.set_cons_zero, List.set_cons_succ, i64_w, i32_w]
                  rfl
                refine one_ (i := 7) (N := some 72) #[true, true, true, true, true, true, true, true, false, false] rfl rfl (by kernel_rfl) (by decide) (fun K hK => ?_)
                refine goes_ Try.func39 (by kernel_rfl) rfl #[.int .i64 hi_, .int .i64 (f1 - 1)] (by rfl) rfl rfl (by (try simp only [List.map_toArray, List.map_cons, List.map_nil]); first | done | rfl) ?_
                with_reducible refine (hlLeast_ok _ _ _).mono ?_
                rintro _ _ ⟨rfl, rfl⟩
                refine ⟨_, rfl, ?_⟩
                refine hK.out _ _ ⟨hq1, hb1⟩ (fun hHeld => ?_)
                clear hK K
                refine norm_ (a' := ?_) ?_ ?_
                rotate_left
                · show Act.put _ (some 72) _ = _
                  simp only [Act.put, List.setIfInBounds_toArray, List.set_cons_zero, List.set_cons_succ, i64_w, i32_w]
                  rfl
                refine pure_ (i := 8) (N := some 73) (v := ?_) (a' := ?_) #[true, true, true, true, true, true, true, true, true, false] rfl rfl (by kernel_rfl) (fun _ _ _ h => h) (Or.inl ⟨by rfl, ?_⟩) ?_ ?_
                rotate_left
                · intro w'
                  go_simp
                  with_reducible rfl
                rotate_left
                · simp only [Act.put, List.setIfInBounds_toArray, List.set_cons_zero, List.set_cons_succ, i64_w, i32_w]
                  rfl
                refine last_ (i := 9) (N := none) #[true, true, true, true, true, true, true, true, true, true] rfl rfl (by kernel_rfl) (by decide) (fun K hK => ?_)
                refine skip_ (w1 := ?_) (by rfl) rfl ?_ ?_
                rotate_left
                · go_simp
                  rfl
                refine hK.out _ _ ?_
                clear hK K
                refine done_ (by kernel_rfl) ?_
                clear hr0 hr1 hfr0 hfr1 hb0 hb1 hb2 hcr hq1 hqf hw7 hw6
                have n0_ : Aside0 (Kd.S (Kd.slice 3 (Kd.int .i64)) 22 ((w8.setCell ⟨gr, 1, none⟩ (.int .i64 (min hi_ (f1 - 1)))).drew) w.heap.size (fun _ => True) (.slice (some ⟨g, 0, none⟩) n cap) (hlOut l (ds.take (j + 1)) n)) := ⟨by rw [HT.out (by first | rfl | exact trivial)]; exact Kd.S_drew (HPUT1.out _)⟩
                have n1_ : Aside0 (Below w.heap.size w (w8.setCell ⟨gr, 1, none⟩ (.int .i64 (min hi_ (f1 - 1)))).drew) := ⟨below_drew1 (below_set HB.out hbgr)⟩
                clear HO HB BK HROW HPUT0 HPUT1 hbgr HT HF
                generalize (w8.setCell ⟨gr, 1, none⟩ (.int .i64 (min hi_ (f1 - 1)))).drew = w10 at n0_ n1_ ⊢
                go_wp2
                go_roundg (m - (j + 1))
                case measure => omega
                case rel => exact ⟨j + 1, by go_num, by clear hw9 hw8; omega, by clear hw9 hw8; omega, HPRE2, n0_, n1_⟩
              | false =>
                go_wp2
                obtain ⟨hr0, hr1, hfr0, hfr1⟩ := HROW.out
                have hb1 : w8.drew.cell? ⟨gb, 1, none⟩ = some (.int .i64 f1) := (blk_cell (show w8.drew.heap[gb]? = _ from BK.out) 1).trans rfl
                have hq1 : w8.drew.cell? ⟨gr, 0, none⟩ = some (.int .i64 lo) := hr0
                have hqf : w8.drew.frozen? ⟨gr, 0, none⟩ = false := hfr0
                have hw7 : IntKind.i64.wrap (f1 - 1) = f1 - 1 := by clear hw9 hw8; rw [i64_w]; unfold wrap64; omega
                have hw6 : wrap64 (f1 - 1) = f1 - 1 := by clear hw9 hw8 hw7; unfold wrap64; omega
                refine start_ (n := 9) (S := fun w' => w'.cell? ⟨gr, 0, none⟩ = some (.int .i64 lo) ∧ w'.cell? ⟨gb, 1, none⟩ = some (.int .i64 f1)) (ds := [8]) #[false, false, false, false, false, false, false, false, false] (by kernel_rfl) rfl rfl ⟨hq1, hb1⟩ (fun hHeld => ?_)
                refine pure_ (i := 0) (N := some 74) (v := ?_) (a' := ?_) #[true, false, false, false, false, false, false, false, false] rfl rfl (by kernel_rfl) (fun _ _ _ h => h) (Or.inl ⟨by rfl, ?_⟩) ?_ ?_
                rotate_left
                · intro w'
                  go_simp
                  with_reducible rfl
                rotate_left
                · simp only [Act.put, List.setIfInBounds_toArray, List.set_cons_zero, List.set_cons_succ, i64_w, i32_w]
                  rfl
                refine pure_ (i := 1) (N := some 75) (v := ?_) (a' := ?_) #[true, true, false, false, false, false, false, false, false] rfl rfl (by kernel_rfl) (fun _ _ _ h => h) (Or.inl ⟨by rfl, ?_⟩) ?_ ?_
                rotate_left
                · intro w'
                  go_simp
                  with_reducible rfl
                rotate_left
                · simp only [Act.put, List.setIfInBounds_toArray, List.set_cons_zero, List.set_cons_succ, i64_w, i32_w]
                  rfl
                refine pure_ (i := 2) (N := some 76) (v := ?_) (a' := ?_) #[true, true, true, false, false, false, false, false, false] rfl rfl (by kernel_rfl) (fun _ _ _ h => h) (Or.inl ⟨by rfl, ?_⟩) ?_ ?_
                rotate_left
                · intro w'
                  go_simp
                  with_reducible rfl
                rotate_left
                · simp only [Act.put, List.setIfInBounds_toArray, List.set_cons_zero, List.set_cons_succ, i64_w, i32_w]
                  rfl
                refine pure_ (i := 4) (N := some 78) (v := ?_) (a' := ?_) #[true, true, true, false, true, false, false, false, false] rfl rfl (by kernel_rfl) (fun _ _ _ h => h) (Or.inl ⟨by rfl, ?_⟩) ?_ ?_
                rotate_left
                · intro w'
                  go_simp
                  with_reducible rfl
                rotate_left
                · simp only [Act.put, List.setIfInBounds_toArray, List.set_cons_zero, List.set_cons_succ, i64_w, i32_w]
                  rfl
                refine take_ (i := 3) (N := some 77) (v := ?_) (a' := ?_) #[true, true, true, true, true, false, false, false, false] rfl rfl (by kernel_rfl) (fun _ _ _ h => h) (Or.inl ⟨by rfl, ?_⟩) hHeld ?_ ?_
                rotate_left
                · rintro w' ⟨s0, s1⟩
                  go_simp
                  with_reducible rfl
                rotate_left
                · simp only [Act.put, List.setIfInBounds_toArray, List.set_cons_zero, List.set_cons_succ, i64_w, i32_w]
                  rfl
                refine take_ (i := 5) (N := some 79) (v := ?_) (a' := ?_) #[true, true, true, true, true, true, false, false, false] rfl rfl (by kernel_rfl) (fun _ _ _ h => h) (Or.inl ⟨by rfl, ?_⟩) hHeld ?_ ?_
                rotate_left
                · rintro w' ⟨s0, s1⟩
                  go_simp
                  with_reducible rfl
                rotate_left
                · simp only [Act.put, List.setIfInBounds_toArray, List.set_cons_zero, List.set_cons_succ, i64_w, i32_w]
                  rfl
                refine one_ (i := 6) (N := some 80) #[true, true, true, true, true, true, true, false, false] rfl rfl (by kernel_rfl) (by decide) (fun K hK => ?_)
                refine goes_ Try.func40 (by kernel_rfl) rfl #[.int .i64 lo, .int .i64 f1] (by rfl) rfl rfl (by (try simp only [List.map_toArray, List.map_cons, List.map_nil]); first | done | rfl) ?_
                with_reducible refine (hlMost_ok _ _ _).mono ?_
                rintro _ _ ⟨rfl, rfl⟩
                refine ⟨_, rfl, ?_⟩
                refine hK.out _ _ ⟨hq1, hb1⟩ (fun hHeld => ?_)
                clear hK K
                refine norm_ (a' := ?_) ?_ ?_
                rotate_left
                · show Act.put _ (some 80) _ = _
                  simp only [Act.put, List.setIfInBounds_toArray, List.set_cons_zero, List.set_cons_succ, i64_w, i32_w]
                  rfl
                refine pure_ (i := 7) (N := some 81) (v := ?_) (a' := ?_) #[true, true, true, true, true, true, true, true, false] rfl rfl (by kernel_rfl) (fun _ _ _ h => h) (Or.inl ⟨by rfl, ?_⟩) ?_ ?_
                rotate_left
                · intro w'
                  go_simp
                  with_reducible rfl
                rotate_left
                · simp only [Act.put, List.setIfInBounds_toArray, List.set_cons_zero, List.set_cons_succ, i64_w, i32_w]
                  rfl
                refine last_ (i := 8) (N := none) #[true, true, true, true, true, true, true, true, true] rfl rfl (by kernel_rfl) (by decide) (fun K hK => ?_)
                refine skip_ (w1 := ?_) (by rfl) rfl ?_ ?_
                rotate_left
                · go_simp
                  rfl
                refine hK.out _ _ ?_
                clear hK K
                refine done_ (by kernel_rfl) ?_
                clear hr0 hr1 hfr0 hfr1 hb0 hb1 hb2 hcr hq1 hqf hw7 hw6
                have n0_ : Aside0 (Kd.S (Kd.slice 3 (Kd.int .i64)) 22 ((w8.setCell ⟨gr, 0, none⟩ (.int .i64 (max lo f1))).drew) w.heap.size (fun _ => True) (.slice (some ⟨g, 0, none⟩) n cap) (hlOut l (ds.take (j + 1)) n)) := ⟨by rw [HF.out (by first | rfl | exact trivial)]; exact Kd.S_drew (HPUT0.out _)⟩
                have n1_ : Aside0 (Below w.heap.size w (w8.setCell ⟨gr, 0, none⟩ (.int .i64 (max lo f1))).drew) := ⟨below_drew1 (below_set HB.out hbgr)⟩
                clear HO HB BK HROW HPUT0 HPUT1 hbgr HT HF
                generalize (w8.setCell ⟨gr, 0, none⟩ (.int .i64 (max lo f1))).drew = w10 at n0_ n1_ ⊢
                go_wp2
                go_roundg (m - (j + 1))
                case measure => omega
                case rel => exact ⟨j + 1, by go_num, by clear hw9 hw8; omega, by clear hw9 hw8; omega, HPRE2, n0_, n1_⟩
            · have hq2 : hlIn f1 1 x = false := Bool.eq_false_iff.mpr c2
              obtain ⟨rfl, rfl⟩ := HBAD.out (by rw [HOKD.out, Bool.eq_false_iff.mpr c2])
              clear c2
              go_quiet ((go_at_call 38; refine Calls.quiet_of_same (hlIn_same _ _ _ _)))
              go_wp2
              go_ret2
              exact ⟨_, rfl, Kd.S_nil _ _ _ _ _, pw_below_drewN HB.out _⟩
          · have hq1 : hlIn f0 0 ((n : Int) - 1) = false := Bool.eq_false_iff.mpr c1
            obtain ⟨rfl, rfl⟩ := HBAD.out (by unfold hlOk; rw [HN.out]; dsimp only; rw [Bool.eq_false_iff.mpr c1, Bool.false_and])
            clear c1
            go_quiet ((go_at_call 38; refine Calls.quiet_of_same (hlIn_same _ _ _ _)))
            go_wp2
            go_ret2
            exact ⟨_, rfl, Kd.S_nil _ _ _ _ _, pw_below_drewN HB.out _⟩
        · have hjz : ¬ (j : Int) < (m : Int) := by omega
          obtain rfl : m = j := by omega
          have HTK : Aside0 (ds.take m = ds) := ⟨by rw [← HM.out]; exact List.take_length⟩
          have HPA : Aside0 (∀ d ∈ ds, hlOk l d = true) := ⟨by have h := HPRE.out; rw [HTK.out] at h; exact h⟩
          have HO3 : Aside0 (Kd.S (Kd.slice 3 (Kd.int .i64)) 22 wq w.heap.size (fun _ => True) (.slice (some ⟨g, 0, none⟩) n cap) (hlOut l ds n)) := ⟨by have h := HO.out; rw [HTK.out] at h; exact h⟩
          have HK0 : Aside0 (∀ t, t < 0 → hlOkRow l ds t = true) := ⟨fun t ht => absurd ht (Nat.not_lt_zero t)⟩
          clear HPRE HO HTK
          go_wp2
          go_loopg [85] n (fun gg v85 wr => ∃ (k : Nat), v85 = .int .i64 k ∧ k ≤ n ∧ n - k ≤ gg ∧ Aside0 (∀ t, t < k → hlOkRow l ds t = true) ∧ Aside0 (Kd.S (Kd.slice 3 (Kd.int .i64)) 22 wr w.heap.size (fun _ => True) (.slice (some ⟨g, 0, none⟩) n cap) (hlOut l ds n)) ∧ Aside0 (Below w.heap.size w wr))
          case atStart => exact ⟨0, rfl, Nat.zero_le _, Nat.le_refl _, HK0, HO3, HB⟩
          case round =>
            clear HK0 HO3 HB
            obtain ⟨k, rfl, hk, hgk, HKS, HO, HB⟩ := hrel
            obtain ⟨wz, rfl⟩ : ∃ wz, wz = wr := ⟨_, rfl⟩
            by_cases hkn : k < n
            · have hkz : (k : Int) < (n : Int) := by omega
              have hk0 : (0 : Int) ≤ (k : Int) := by omega
              obtain ⟨gr, cr, hbgr, hcr, hr0, hr1, hfr0, hfr1, hput0, hput1⟩ := row_put HO.out k hkn _ _ (hlOut_get l ds n k hkn)
              clear hput0 hput1 hfr0 hfr1 hbgr
              have HROK : Aside0 (hlOkRow l ds k = decide ((hlRow l ds k).1 ≤ (hlRow l ds k).2)) := ⟨rfl⟩
              generalize (hlRow l ds k).1 = lo at hr0 HROK
              generalize (hlRow l ds k).2 = hi_ at hr1 HROK
              have hw9 : IntKind.i64.wrap ((k : Int) + 1) = (k : Int) + 1 := by rw [i64_w]; unfold wrap64; omega
              by_cases hle : lo ≤ hi_
              · have hgt : (lo > hi_) = False := by rw [eq_iff_iff]; constructor <;> intro h <;> first | omega | exact h.elim
                have HKS2 : Aside0 (∀ t, t < k + 1 → hlOkRow l ds t = true) := ⟨fun t ht => by
                  by_cases h : t < k
                  · exact HKS.out t h
                  · obtain rfl : t = k := by clear hw9; omega
                    rw [HROK.out]; exact decide_eq_true hle⟩
                clear HROK hle HKS
                go_wp2
                go_quiet (fail)
                have n0_ := Aside0.mk (Kd.S_drewN HO.out nq)
                have n1_ := Aside0.mk (pw_below_drewN HB.out nq)
                clear HO HB hcr hr0 hr1
                go_wp2
                go_roundg (n - (k + 1))
                case measure => omega
                case rel => exact ⟨k + 1, by go_num, by clear hw9; omega, by clear hw9; omega, HKS2, n0_, n1_⟩
              · have hgt : (lo > hi_) = True := by rw [eq_iff_iff]; constructor <;> intro h <;> first | omega | exact trivial
                have h1 := hlRes_row l ds k (by rw [HN.out]; exact hkn) (by rw [HROK.out]; exact decide_eq_false hle)
                rw [HRES.out] at h1
                obtain ⟨rfl, rfl⟩ := Prod.mk.inj h1
                clear HROK hle h1 HKS HRES
                go_wp2
                go_quiet (fail)
                go_wp2
                go_ret2
                exact ⟨_, rfl, Kd.S_nil _ _ _ _ _, pw_below_drewN HB.out _⟩
            · have hkz : ¬ (k : Int) < (n : Int) := by omega
              obtain rfl : n = k := by omega
              have h1 := hlRes_ok l ds HPA.out (by rw [HN.out]; exact HKS.out)
              rw [HRES.out, HN.out] at h1
              obtain ⟨rfl, rfl⟩ := Prod.mk.inj h1
              clear h1
              go_wp2
              go_ret2
              exact ⟨_, rfl, HO.out, HB.out⟩
set_option maxHeartbeats 8000000 in
set_option maxRecDepth 100000 in
theorem hleft_none (l : List Int) (ds : List S47) (n m : Nat) (hn : l.length = n) (hm : ds.length = m) (hn9 : n ≤ 1000000) (hm9 : m ≤ 1000000) (hbad : ¬ (hlGood l = true ∧ m ≤ 60)) (A0 A1 : Option Addr) (c0 c1 : Nat) (w : World) (hr0 : Kd.C (Kd.int .i64) w A0 n l) (hc0 : n ≤ c0) :
    Calls Try.prog 19 #[.slice A0 n c0, .slice A1 m c1] w fun e_ w' => ∃ v, e_ = .returned (.tuple #[v, .bool false]) ∧ Kd.S (Kd.slice 3 (Kd.int .i64)) 22 w' w.heap.size (fun _ => True) v [] ∧ Below w.heap.size w w' := by
  have HGD : Aside0 (Calls Try.prog 28 #[.slice A0 n c0] w fun e w' => e = .returned (.bool (hlGood l)) ∧ Drawn0 w w') := ⟨by
    have h := hl_good_calls A0 c0 l w (by rw [hn]; exact hr0) (by rw [hn]; exact hc0) (by omega)
    rw [hn] at h
    exact h⟩
  cases hg : hlGood l with
  | true =>
    rw [hg] at HGD hbad
    have hm61 : 60 < m := by
      rcases Nat.lt_or_ge 60 m with h | h
      · exact h
      · exact absurd ⟨rfl, h⟩ hbad
    have hm60 : ((m : Int) > 60) = True := by rw [eq_iff_iff]; constructor <;> intro h <;> first | exact trivial | omega
    clear hm61
    clear hg hbad hr0 hc0 hn hm hn9
    go_enter Try.func19, Try.ntmps19
    go_wp2_with (go_at_call 28; with_reducible refine (HGD.out).mono ?_; rintro e_ w2 ⟨rfl, ⟨nd, rfl⟩⟩)
    go_ret2
    exact ⟨_, rfl, Kd.S_nil _ _ _ _ _, pw_below_drewN (Below.refl _ _) _⟩
  | false =>
    rw [hg] at HGD
    clear hg hbad hr0 hc0 hn hm hn9
    go_enter Try.func19, Try.ntmps19
    go_wp2_with (go_at_call 28; with_reducible refine (HGD.out).mono ?_; rintro e_ w2 ⟨rfl, ⟨nd, rfl⟩⟩)
    go_ret2
    exact ⟨_, rfl, Kd.S_nil _ _ _ _ _, pw_below_drewN (Below.refl _ _) _⟩
def spec_HousesLeft.f (l0 : List Int) (l1 : List S47) : Option (List (List Int) × Bool) := if l0.length ≤ 1000000 ∧ l1.length ≤ 1000000 then some (hlAnswer l0 l1) else none
theorem spec_HousesLeft.calls (A0 : Option Addr) (c0 : Nat) (l0 : List Int) (A1 : Option Addr) (c1 : Nat) (l1 : List S47) (r1 : List (List Int)) (r2 : Bool) (w : World) (hr0 : Kd.C (Kd.int .i64) w A0 l0.length l0) (hc0 : l0.length ≤ c0) (hr1 : Kd.C k47 w A1 l1.length l1) (hc1 : l1.length ≤ c1) (h : spec_HousesLeft.f l0 l1 = some (r1, r2)) :
    Calls Try.prog 19 #[.slice A0 l0.length c0, .slice A1 l1.length c1] w fun e_ w' => ∃ v0_ : Value, e_ = .returned (.tuple #[v0_, .bool r2]) ∧ Kd.R (Kd.slice 3 (Kd.int .i64)) 22 w' w.heap.size (fun _ => True) v0_ r1 ∧ Below w.heap.size w w' := by
  unfold spec_HousesLeft.f at h
  by_cases hl : l0.length ≤ 1000000 ∧ l1.length ≤ 1000000
  case neg => rw [if_neg hl] at h; cases h
  rw [if_pos hl] at h
  have hq := Option.some.inj h
  unfold hlAnswer at hq
  by_cases hg : hlGood l0 = true ∧ l1.length ≤ 60
  · rw [if_pos hg] at hq
    refine (hleft_good l0 l1 l0.length l1.length rfl rfl hg.1 hg.2 A0 A1 c0 c1 w hr0 hc0 hr1 r1 r2 hq).mono ?_
    rintro e_ w' ⟨v, he, hS, hb⟩
    exact ⟨v, he, Kd.S_R hS, hb⟩
  · rw [if_neg hg] at hq
    obtain ⟨rfl, rfl⟩ := Prod.mk.inj hq
    refine (hleft_none l0 l1 l0.length l1.length rfl rfl hl.1 hl.2 hg A0 A1 c0 c1 w hr0 hc0).mono ?_
    rintro e_ w' ⟨v, he, hS, hb⟩
    exact ⟨v, he, Kd.S_R hS, hb⟩


end Go.Proofs.Ytkflioekhadebaa.PrintA
