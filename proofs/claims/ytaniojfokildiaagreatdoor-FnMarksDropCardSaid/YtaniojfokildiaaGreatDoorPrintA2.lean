-- written by this session's own driver (wip/gen.py) with the kit's print and contracts of our own
import Derived.Test.YtaniojfokildiaaGreatDoorPrintA0
import Derived.Lib.SmallJoins
import Derived.Sort.OwnSorted
namespace Go.Proofs.YtaniojfokildiaaGreatDoor.PrintA
open Go.RowKit Go.Proofs.YtaniojfokildiaaGreatDoorLib Go.Proofs.YtaniojfokildiaaGreatDoorW.PrintWords Go.Proofs.YtaniojfokildiaaGreatDoorW.PrintLast Go.Proofs.YtaniojfokildiaaGreatDoorW.PrintMore
attribute [local go_sem] max2_int min2_int max_two min_two max_three min_three max_four min_four   -- for this text's walks alone
set_option linter.unusedVariables false
set_option linter.unusedSimpArgs false

/-- What is asked of a function value that is handed on: at every x, in every later world, it says p x, and leaves all that lay as it was. -/
def Tells {α : Type} (g : Nat) (lb : Array Value) (enc : α → Value) (p : α → Bool) (w : World) : Prop :=
  ∀ (W : World) (x : α), Below w.heap.size w W → Calls Tryz.prog g (#[enc x] ++ lb) W fun e w' => e = .returned (.bool (p x)) ∧ Below w.heap.size w w'
/-- The index of the first element of which p holds, or -1. -/
def idxOf {α : Type} (p : α → Bool) (l : List α) : Int := match l.findIdx? p with
  | some i => (i : Int)
  | none => -1
theorem idxOf_hit {α : Type} (p : α → Bool) (l : List α) (d : α) (k : Nat) (hk : k < l.length) (h : p (l.getD k d) = true) (hb : ∀ j, j < k → p (l.getD j d) = false) : idxOf p l = (k : Int) := by
  have : l.findIdx? p = some k := by
    rw [List.findIdx?_eq_some_iff_getElem]
    refine ⟨hk, ?_, fun j hj => ?_⟩
    · rw [List.getD_eq_getElem?_getD, List.getElem?_eq_getElem hk] at h; exact h
    · have := hb j hj
      rw [List.getD_eq_getElem?_getD, List.getElem?_eq_getElem (by omega)] at this; simpa using this
  simp [idxOf, this]
theorem idxOf_miss {α : Type} (p : α → Bool) (l : List α) (d : α) (hb : ∀ j, j < l.length → p (l.getD j d) = false) : idxOf p l = -1 := by
  have : l.findIdx? p = none := by
    rw [List.findIdx?_eq_none_iff]
    intro x hx
    obtain ⟨j, hj, rfl⟩ := List.getElem_of_mem hx
    have := hb j hj
    rw [List.getD_eq_getElem?_getD, List.getElem?_eq_getElem hj] at this; simpa using this
  simp [idxOf, this]
theorem idxOf_any {α : Type} (p : α → Bool) (l : List α) : decide (0 ≤ idxOf p l) = l.any p := by
  unfold idxOf
  cases h : l.findIdx? p with
  | none =>
    rw [List.findIdx?_eq_none_iff] at h
    have : l.any p = false := by rw [List.any_eq_false]; intro x hx; simp [h x hx]
    rw [this]; rfl
  | some i =>
    rw [List.findIdx?_eq_some_iff_getElem] at h
    obtain ⟨hi, h1, _⟩ := h
    have : l.any p = true := List.any_eq_true.2 ⟨_, List.getElem_mem hi, h1⟩
    rw [this]; simp
/-- A number lies outside of bounds. -/
def outIn (lo hi x : Int) : Bool := !(decide (lo ≤ x) && decide (x ≤ hi))
/-- A call of a function value, as an arm of the walk. -/
theorem goesV_ {P : Program} {ops : Array Oper} {Q : Exit → Act → World → Prop} {rest : List Oper} {oi : Oper} {a : Act} {w : World} (N : Option Tmp) (hd : oi.dst = N) (hg : oi.guard = none) {g : FuncId} {fb lb : Array Value}
    (eg : ∀ args w, (callFunc g args).run P w = .ok (.enter g args) w) (args : Array Value) {t : Tmp} {os_ : Array Operand} {ts_ : Array TypeId}
    (hop : oi.op = .call { callee := .value (.tmp t), args := os_, argTypes := ts_ }) (hv : a.eval (.tmp t) = .func (.func g) fb lb) (hargs : os_.map a.eval = args)
    (h : Calls P g (fb ++ args ++ lb) w fun e w' => ∃ v, e = .returned v ∧ wpList P ops Q rest (a.put N v) w') : wpList P ops Q (oi :: rest) a w := by
  refine wpList_plain hg fun K hK => ?_
  have hrun : (execOp a.eval oi).run P w = .ok (.enter g (fb ++ args ++ lb)) w := by
    unfold execOp
    simp [hop, resolve, Deferred.ofValue, invoke, hv, hargs, eg]
  unfold Oper.wp
  rw [hrun, Oper.upon_enter]
  refine h.mono fun e w'' hh => ?_
  obtain ⟨v, rfl, hk⟩ := hh
  subst hd
  exact hK _ _ hk
/-- The cells of an array of numbers. -/
def arrV (n : Nat) (f : Nat → Int) : Array Value := ((List.range n).map (fun i => Value.int .i64 (f i))).toArray
theorem arrV_size (n : Nat) (f : Nat → Int) : (arrV n f).size = n := by simp [arrV]
theorem arrV_get (n : Nat) (f : Nat → Int) (i : Nat) (h : i < n) : (arrV n f)[i]? = some (.int .i64 (f i)) := by simp [arrV, h]
def updI (f : Nat → Int) (p : Nat) (x : Int) : Nat → Int := fun i => if i = p then x else f i
theorem arrV_set (n : Nat) (f : Nat → Int) (p : Nat) (x : Int) : (arrV n f).setIfInBounds p (.int .i64 x) = arrV n (updI f p x) := by
  apply Array.ext_getElem?
  intro i
  by_cases hi : i < n
  · rw [arrV_get _ _ _ hi, Array.getElem?_setIfInBounds]
    by_cases e : p = i
    · subst e; simp [arrV_size, hi, updI]
    · rw [if_neg e, arrV_get _ _ _ hi]; simp [updI, Ne.symm e]
  · rw [Array.getElem?_eq_none (by simp [arrV_size]; omega), Array.getElem?_eq_none (by simp [arrV_size]; omega)]
theorem arrV_congr (n : Nat) (f f' : Nat → Int) (h : ∀ i, i < n → f i = f' i) : arrV n f = arrV n f' := by
  unfold arrV; congr 1; apply List.map_congr_left; intro i hi; rw [h i (List.mem_range.1 hi)]
/-- Block g is an array of n numbers f. -/
structure ArrI (w : World) (g T n : Nat) (f : Nat → Int) : Prop where
  out : w.heap[g]? = some (.cells (arrV n f) T (0, 0))
theorem ArrI.cell {w : World} {g T n : Nat} {f : Nat → Int} (h : ArrI w g T n f) (i : Nat) (hi : i < n) : w.cell? ⟨g, i, none⟩ = some (.int .i64 (f i)) := by
  rw [blk_cell h.out, arrV_get _ _ _ hi]
theorem ArrI.frozen {w : World} {g T n : Nat} {f : Nat → Int} (h : ArrI w g T n f) (i : Nat) : w.frozen? ⟨g, i, none⟩ = false := blk_frozen h.out i
theorem ArrI.below {w w1 : World} {g T n : Nat} {f : Nat → Int} (h : ArrI w g T n f) (hb : Below w.heap.size w w1) : ArrI w1 g T n f := ⟨blk_below h.out hb⟩
theorem ArrI.set {w : World} {g T n : Nat} {f : Nat → Int} (h : ArrI w g T n f) (p : Nat) (x : Int) : ArrI (w.setCell ⟨g, p, none⟩ (.int .i64 x)) g T n (updI f p x) :=
  ⟨by rw [blk_set h.out, arrV_set]⟩
theorem ArrI.congr {w : World} {g T n : Nat} {f f' : Nat → Int} (h : ArrI w g T n f) (hf : ∀ i, i < n → f i = f' i) : ArrI w g T n f' := ⟨by rw [h.out, arrV_congr n f f' hf]⟩
def isZ : Value → Bool
  | .int .i64 (.ofNat 0) => true
  | _ => false
def chkZ : List Value → Nat → Bool
  | [], 0 => true
  | v :: l, n + 1 => isZ v && chkZ l n
  | _, _ => false
theorem chkZ_is : ∀ (l : List Value) (n : Nat), chkZ l n = true → l = (List.range n).map (fun _ => Value.int .i64 0) := by
  intro l
  induction l with
  | nil => intro n h; cases n with
    | zero => rfl
    | succ n => simp [chkZ] at h
  | cons v l ih => intro n h; cases n with
    | zero => simp [chkZ] at h
    | succ n =>
      simp only [chkZ, Bool.and_eq_true] at h
      have hv : v = .int .i64 0 := by
        have h1 := h.1
        unfold isZ at h1
        split at h1
        · rfl
        · cases h1
      rw [hv, ih n h.2, List.range_succ_eq_map, List.map_cons, List.map_map]
      rfl
/-- How far tests reach, at most just above the greatest reach. -/
def rch : Nat → Nat → Int
  | 0, _ => 0
  | _ + 1, 0 => 0
  | t + 1, e + 1 => min 1000000001 (rch t e + rch t (e + 1) + 1)
theorem rch_range : ∀ t e, 0 ≤ rch t e ∧ rch t e ≤ 1000000001
  | 0, _ => by simp [rch]
  | t + 1, 0 => by simp [rch]
  | t + 1, e + 1 => by
    have h1 := rch_range t e
    have h2 := rch_range t (e + 1)
    simp only [rch]
    omega
theorem rch_mono1 : ∀ t e, rch t e ≤ rch (t + 1) e
  | t, 0 => by cases t <;> simp [rch]
  | 0, e + 1 => by have := rch_range 1 (e + 1); simpa [rch] using this.1
  | t + 1, e + 1 => by
    have h1 := rch_mono1 t e
    have h2 := rch_mono1 t (e + 1)
    rw [rch, rch]
    omega
theorem rch_mono {t t' : Nat} (e : Nat) (h : t ≤ t') : rch t e ≤ rch t' e := by
  induction h with
  | refl => exact Int.le_refl _
  | step _ ih => exact Int.le_trans ih (rch_mono1 _ _)
/-- The fewest tests, 1000 where even these are too few. -/
def few (e : Nat) (n : Int) : Nat := ((List.range 1000).find? (fun t => decide (n ≤ rch t e))).getD 1000
theorem few_le_iff (e : Nat) (n : Int) (m : Nat) (hm : m < 1000) : few e n ≤ m ↔ n ≤ rch m e := by
  unfold few
  cases hf : (List.range 1000).find? (fun t => decide (n ≤ rch t e)) with
  | none =>
    rw [List.find?_eq_none] at hf
    have := hf m (List.mem_range.2 hm)
    simp at this ⊢
    omega
  | some t =>
    have h1 := List.find?_some hf
    simp only [decide_eq_true_eq] at h1
    simp only [Option.getD_some]
    constructor
    · intro h; exact Int.le_trans h1 (rch_mono e h)
    · intro h
      apply Nat.le_of_not_lt
      intro hlt
      rw [List.find?_range_eq_some] at hf
      have := hf.2.2 m hlt
      simp at this
      omega
theorem few_le (e : Nat) (n : Int) : few e n ≤ 1000 := by
  unfold few
  cases hf : (List.range 1000).find? (fun t => decide (n ≤ rch t e)) with
  | none => simp
  | some t => have := List.mem_of_find?_eq_some hf; simp at this ⊢; omega
def reachArr (p i : Nat) : Int := if i < p then rch (i / 11) (i % 11) else 0
theorem reachArr_start (i : Nat) : reachArr 12 i = 0 := by
  unfold reachArr
  split
  · by_cases h : i < 11
    · rw [show i / 11 = 0 by omega]; rfl
    · rw [show i / 11 = 1 by omega, show i % 11 = 0 by omega]; rfl
  · rfl
theorem reachArr_row (t i : Nat) : reachArr (t * 11 + 11) i = reachArr ((t + 1) * 11 + 1) i := by
  unfold reachArr
  by_cases h : i < t * 11 + 11
  · rw [if_pos h, if_pos (by omega)]
  · rw [if_neg h]
    by_cases e : i = (t + 1) * 11
    · rw [if_pos (by omega), e, show (t + 1) * 11 / 11 = t + 1 by omega, show (t + 1) * 11 % 11 = 0 by omega]; rfl
    · rw [if_neg (by omega)]
theorem reachArr_set (t e i : Nat) (h1 : 1 ≤ t) (h2 : 1 ≤ e) (h3 : e ≤ 10) : updI (reachArr (t * 11 + e)) (t * 11 + e) (min 1000000001 (rch (t - 1) (e - 1) + rch (t - 1) e + 1)) i = reachArr (t * 11 + (e + 1)) i := by
  unfold updI reachArr
  by_cases h : i = t * 11 + e
  · rw [if_pos h, if_pos (by omega), h, show (t * 11 + e) / 11 = t by omega, show (t * 11 + e) % 11 = e by omega]
    obtain ⟨t', rfl⟩ : ∃ t', t = t' + 1 := ⟨t - 1, by omega⟩
    obtain ⟨e', rfl⟩ : ∃ e', e = e' + 1 := ⟨e - 1, by omega⟩
    rfl
  · rw [if_neg h]
    by_cases h' : i < t * 11 + e
    · rw [if_pos h', if_pos (by omega)]
    · rw [if_neg h', if_neg (by omega)]
/-- The table of reaches, in block g. -/
def IsReaches (w : World) (g : Nat) : Prop := ArrI w g 107 11011 (reachArr 11011)
theorem IsReaches.at_ {w : World} {g : Nat} (h : IsReaches w g) (t e : Nat) (ht : t ≤ 1000) (he : e ≤ 10) : w.cell? ⟨g, t * 11 + e, none⟩ = some (.int .i64 (rch t e)) := by
  have := ArrI.cell h (t * 11 + e) (by omega)
  rw [this]; unfold reachArr
  rw [if_pos (by omega), show (t * 11 + e) / 11 = t by omega, show (t * 11 + e) % 11 = e by omega]
theorem IsReaches.below {w w1 : World} {g : Nat} (h : IsReaches w g) (hb : Below w.heap.size w w1) : IsReaches w1 g := ArrI.below h hb
-- SHELF slices.Delete[[]int,int]|slices.Sort[[]int,int]
-- IMPORT Derived.Sort.OwnSorted
open Go.Sort in
theorem putCells_take (cur : Array Value) (ts : List Int) (h : ts.length ≤ cur.size) : (putCells (Value.int .i64) 0 ts.toArray cur).toList.take ts.length = encs (Value.int .i64) ts := by
  apply List.ext_getElem?
  intro j
  by_cases hj : j < ts.length
  · rw [List.getElem?_take_of_lt hj, Array.getElem?_toList]
    simp [putCells, hj, show j < cur.size by omega, encs]
  · rw [List.getElem?_take_eq_none (by omega), List.getElem?_eq_none (by simp [encs]; omega)]
open Go.Sort in
theorem R_holds {e base : Nat} {W : World} {ok : Nat → Prop} {g cap : Nat} {xs : List Int} (h : Kd.R (Kd.int .i64) e W base ok (.slice (some ⟨g, 0, none⟩) xs.length cap) xs) : Holds (Value.int .i64) W g 0 xs.toArray ∧ g < W.heap.size ∧ xs.length ≤ cap ∧ cap ≤ maxLen := by
  have ho := Kd.own_of_R (enc := Value.int .i64) (h1 := fun _ => rfl) h
  rcases ho.2 with ⟨h0, _⟩ | ⟨g', cap', cur, hv, hg, hh, hn, hcap, _, ht⟩
  · cases h0
  · cases hv
    refine ⟨?_, (Array.getElem?_eq_some_iff.1 hh).1, hn, hcap⟩
    intro j hj
    have hj' : j < xs.length := by simpa using hj
    refine ⟨?_, by simp [World.frozen?, hh]⟩
    rw [Nat.mul_one] at ht
    have h1 : (cur.toList.take xs.length)[j]? = (encs (Value.int .i64) xs)[j]? := by rw [ht]
    rw [List.getElem?_take_of_lt hj'] at h1
    simp only [World.cell?, hh, Nat.zero_add]
    simp only [Option.isSome_none, Bool.false_eq_true, if_false]
    rw [← Array.getElem?_toList, h1]
    simp [hj', encs]
open Go.Sort in
theorem R_put_row {e base : Nat} {W : World} {ok : Nat → Prop} {g cap : Nat} {xs : List Int} (h : Kd.R (Kd.int .i64) e W base ok (.slice (some ⟨g, 0, none⟩) xs.length cap) xs) (ys : List Int) (hl : ys.length = xs.length) (q : Nat) (os : Array Obj) :
    Kd.R (Kd.int .i64) e (grow (putRow (Value.int .i64) (Sort.ahead W q) g 0 ys.toArray) os) base ok (.slice (some ⟨g, 0, none⟩) ys.length cap) ys ∧ W.grownBy (grow (putRow (Value.int .i64) (Sort.ahead W q) g 0 ys.toArray) os) (some g) := by
  have ho := Kd.own_of_R (enc := Value.int .i64) (h1 := fun _ => rfl) h
  rcases ho.2 with ⟨h0, _⟩ | ⟨g', cap', cur, hv, hg, hh, hn, hcap, hcs, ht⟩
  · cases h0
  · cases hv
    have hgs : g < W.heap.size := (Array.getElem?_eq_some_iff.1 hh).1
    have hheap : (grow (putRow (Value.int .i64) (Sort.ahead W q) g 0 ys.toArray) os).heap[g]? = some (.cells (putCells (Value.int .i64) 0 ys.toArray cur) e (0, 0)) := by
      rw [heap_grow_old _ _ (by simpa using hgs)]
      simp [putRow, mapBlock, Sort.ahead, Array.getElem?_modify, hh, onCells]
    refine ⟨Kd.R_of_own ?_ (fun k hk => h.1 k hk), ⟨rfl, rfl, rfl, by simp, fun k hk hne => ?_⟩⟩
    · refine ⟨by simp [encs], .inr ⟨g, cap, _, rfl, hg, hheap, by omega, hcap, by simp [putCells, hcs], ?_⟩⟩
      rw [Nat.mul_one]
      exact putCells_take cur ys (by omega)
    · rw [heap_grow_old _ _ (by simpa using hk)]
      have : g ≠ k := fun e => hne (by rw [e])
      simp [putRow, mapBlock, Sort.ahead, Array.getElem?_modify, this]
/-! ### laws_big: function 4 -/
def laws_big.f (l0 : List Int) (l1 : List Int) : Option (Bool) := if (l0.length : Int) > 1048576 then (some true) else (some (decide ((l1.length : Int) > (wrap64 (1048576 - (l0.length : Int))))))
set_option maxHeartbeats 8000000 in
set_option maxRecDepth 100000 in
theorem laws_big.calls (A0 : Option Addr) (c0 : Nat) (l0 : List Int) (A1 : Option Addr) (c1 : Nat) (l1 : List Int) (r : Bool) (w : World) (hr0 : Kd.C (Kd.int .u8) w A0 l0.length l0) (hc0 : l0.length ≤ c0) (hr1 : Kd.C (Kd.int .u8) w A1 l1.length l1) (hc1 : l1.length ≤ c1) (h : laws_big.f l0 l1 = some r) :
    Calls Tryz.prog 4 #[.slice A0 l0.length c0, .slice A1 l1.length c1] w fun e w' => e = .returned (.bool r) ∧ Drawn0 w w' := by
  have HR0 := Aside0.mk hr0
  have HC0 := Aside0.mk hc0
  clear hr0 hc0
  have HR1 := Aside0.mk hr1
  have HC1 := Aside0.mk hc1
  clear hr1 hc1
  have H : (if (l0.length : Int) > 1048576 then (some true) else (some (decide ((l1.length : Int) > (wrap64 (1048576 - (l0.length : Int))))))) = some r := h
  clear h
  by_cases c3 : (l0.length : Int) > 1048576
  · rw [if_pos c3] at H
    have c3b0 : decide (1048576 < (l0.length : Int)) = true := decide_eq_true c3
    have c3b1 : decide (1048576 < l0.length) = true := decide_eq_true (by omega)
    clear c3
    obtain rfl := Option.some.inj H
    go_enter Tryz.func4, Tryz.ntmps4
    go_wp2
    go_ret
    exact ⟨by first | rfl | (simp; done) | (simp [*]; done), by repeat (first | exact Drawn0.refl _ | apply Drawn0.step)⟩
  · rw [if_neg c3] at H
    have c3b0 : decide (1048576 < (l0.length : Int)) = false := decide_eq_false c3
    have c3b1 : decide (1048576 < l0.length) = false := decide_eq_false (by omega)
    clear c3
    obtain rfl := Option.some.inj H
    go_enter Tryz.func4, Tryz.ntmps4
    go_wp2
    go_ret
    exact ⟨by first | rfl | (simp; done) | (simp [*]; done), by repeat (first | exact Drawn0.refl _ | apply Drawn0.step)⟩

/-! ### strconv_Itoa_89: function 89, a contract of our own -/
-- SHELF strconv.Itoa|strings.Join
-- IMPORT Derived.Lib.SmallJoins
/-- What the library's numerals read: the table of the powers of ten. -/
structure Tabs (w : World) : Prop where
  pow : Lib.TabIs Tryz.prog w "internal/strconv.uint64pow10" .u64 Lib.pow10Tab
theorem Tabs.below {w w' : World} (h : Tabs w) (hb : Below w.heap.size w w') : Tabs w' := ⟨Go.Joins.tab_stays (g := 2) (by kernel_rfl) h.pow hb (Nat.le_refl _)⟩
theorem below_grow (w : World) (os : Array Obj) : Below w.heap.size w (Go.Sort.grow w os) := ⟨rfl, rfl, rfl, by simp [Go.Sort.grow], fun k hk => by simp [Go.Sort.grow, Array.getElem?_append, hk]⟩
theorem toList_loop (s : ByteArray) : ∀ (d i : Nat) (r : List UInt8), s.size - i = d → i ≤ s.size → ByteArray.toList.loop s i r = r.reverse ++ s.data.toList.drop i
  | 0, i, r, hd, hi => by
    unfold ByteArray.toList.loop
    rw [if_neg (by omega), List.drop_of_length_le (by rw [Array.length_toList]; show s.size ≤ i; omega), List.append_nil]
  | d + 1, i, r, hd, hi => by
    unfold ByteArray.toList.loop
    have hlt : i < s.data.toList.length := by rw [Array.length_toList]; show i < s.size; omega
    have hg : s.get! i = s.data.toList[i] := by
      show s.data[i]! = _
      rw [getElem!_pos s.data i (by rw [Array.length_toList] at hlt; exact hlt), Array.getElem_toList]
    rw [if_pos (by omega), toList_loop s d (i + 1) _ (by omega) (by omega), hg, List.reverse_cons, List.append_assoc, List.drop_eq_getElem_cons hlt]
    rfl
theorem ba_toList (s : ByteArray) : s.toList = s.data.toList := by
  unfold ByteArray.toList
  rw [toList_loop s s.size 0 [] (by omega) (by omega)]
  rfl
/-- Bytes as a string. -/
def baOf (l : List UInt8) : ByteArray := ⟨l.toArray⟩
theorem baOf_list (l : List UInt8) : (baOf l).data.toList = l := by simp [baOf]
theorem baOf_size (l : List UInt8) : (baOf l).size = l.length := by simp [baOf, ByteArray.size]
theorem baOf_app (a b : List UInt8) : baOf a ++ baOf b = baOf (a ++ b) := by
  apply ByteArray.ext
  simp [baOf]
theorem ba_self (s : ByteArray) : baOf s.data.toList = s := by
  apply ByteArray.ext
  simp [baOf]
theorem digits_len (u : Nat) (h : u < 10000) : (Lib.decDigits u).length ≤ 4 ∧ 1 ≤ (Lib.decDigits u).length := by
  by_cases h1 : u < 10
  · rw [Lib.decDigits_one h1]; simp
  · rw [Lib.decDigits, dif_neg h1]
    by_cases h2 : u / 10 < 10
    · rw [Lib.decDigits_one h2]; simp
    · rw [Lib.decDigits, dif_neg h2]
      by_cases h3 : u / 10 / 10 < 10
      · rw [Lib.decDigits_one h3]; simp
      · rw [Lib.decDigits, dif_neg h3, Lib.decDigits_one (by omega : u / 10 / 10 / 10 < 10)]; simp
theorem itoa_nat (u : Nat) : Lib.itoa (u : Int) = Lib.decDigits u := by
  unfold Lib.itoa
  rw [if_neg (by omega)]; simp
def strconv_Itoa_89.f (a0 : Int) : Option ByteArray := if -9223372036854775808 ≤ a0 ∧ a0 ≤ 9223372036854775807 then some ⟨(Lib.itoa a0).toArray⟩ else none
theorem strconv_Itoa_89.calls (a0 : Int) (r : ByteArray) (w : World) (h : strconv_Itoa_89.f a0 = some r) (ht : Tabs w) :
    Calls Tryz.prog 89 #[.int .i64 a0] w fun e w' => e = .returned (.string r) ∧ Below w.heap.size w w' := by
  unfold strconv_Itoa_89.f at h
  by_cases hc : -9223372036854775808 ≤ a0 ∧ a0 ≤ 9223372036854775807
  · rw [if_pos hc] at h
    obtain rfl := Option.some.inj h
    refine (Tryz.strconv_Itoa a0 hc.1 hc.2 w ht.pow).mono ?_
    rintro e w' ⟨rfl, k, os, rfl⟩
    have hb := below_grow (w.drewN k) os
    exact ⟨rfl, hb.os, hb.tape, hb.output, hb.size, hb.block⟩
  · rw [if_neg hc] at h
    exact absurd h (by simp)

/-! ### spec_l1Split: function 94 -/
def spec_l1Split.l0 : Nat → ByteArray → Int → List ByteArray → Int → Int → Option (List ByteArray)
  | 0, _, _, _, _, _ => none
  | k + 1, x0, x1, x5, x6, x7 => if x7 < (x0.size : Int) then (if 0 ≤ x7 then (if (bt x0 x7) = x1 then (if 0 ≤ x6 then (if x6 ≤ x7 then (if x7 ≤ (x0.size : Int) then (if x5.length < 8796093022208 then (spec_l1Split.l0 k x0 x1 (x5 ++ [x0.extract (x6 : Int).toNat (x7 : Int).toNat]) (wrap64 (x7 + 1)) (wrap64 (x7 + 1))) else (none)) else (none)) else (none)) else (none)) else (spec_l1Split.l0 k x0 x1 x5 x6 (wrap64 (x7 + 1)))) else (none)) else (if 0 ≤ x6 then (if x6 ≤ (x0.size : Int) then (if x5.length < 8796093022208 then (some (x5 ++ [x0.extract (x6 : Int).toNat x0.size])) else (none)) else (none)) else (none))
def spec_l1Split.f (k : Nat) (a0 : ByteArray) (a1 : Int) : Option (List ByteArray) := spec_l1Split.l0 k a0 a1 ([] : List ByteArray) 0 0
set_option maxHeartbeats 8000000 in
set_option maxRecDepth 100000 in
theorem spec_l1Split.calls (k : Nat) (a0 : ByteArray) (a1 : Int) (r : List ByteArray) (w : World) (h : spec_l1Split.f k a0 a1 = some r) :
    Calls Tryz.prog 94 #[.string a0, .int .u8 a1] w fun e w' => ∃ v0_ : Value, e = .returned (v0_) ∧ Kd.R Kd.string 9 w' w.heap.size (fun _ => True) v0_ r ∧ Below w.heap.size w w' := by
  have HB := Aside0.mk (Below.refl w.heap.size w)
  have H : (spec_l1Split.l0 k a0 a1 ([] : List ByteArray) 0 0) = some r := h
  clear h
  have H' := Aside0.mk H
  clear H
  go_enter Tryz.func94, Tryz.ntmps94
  go_wp2
  go_loopg [5, 6, 7] k (fun kq v5 v6 v7 w' => ∃ (x5_1 : List ByteArray) (x6_1 : Int) (x7_1 : Int), v6 = .int .i64 x6_1 ∧ v7 = .int .i64 x7_1 ∧ Aside0 (spec_l1Split.l0 kq a0 a1 x5_1 x6_1 x7_1 = some r) ∧ Aside0 (kq ≤ k) ∧ Aside0 (Kd.R Kd.string 9 w' w.heap.size (fun _ => True) v5 x5_1) ∧ Aside0 (Below w.heap.size w w'))
  case atStart => exact ⟨(([] : List ByteArray)), (0), (0), (by first | rfl | (simp; done) | (simp [*]; done)), (by first | rfl | (simp; done) | (simp [*]; done)), H', ⟨Nat.le_refl _⟩, ⟨by first | exact Kd.R_nil _ _ _ _ _ | exact Kd.N_nil _ _ _ _ _ | exact Kd.V_nil _ _ _ _ _ | exact Kd.Q_nil _ _ _ _ _ | exact Kd.S_nil _ _ _ _ _⟩, ⟨by repeat (first | (with_reducible first | exact HB.out | apply below_alloc | apply pw_below_drewN | apply below_drew1) | exact HB.out)⟩⟩
  case round =>
    clear H'
    try clear p2
    obtain ⟨x5_1, x6_1, x7_1, rfl, rfl, HA, HK1, HO_5, HB⟩ := hrel
    cases gk with
    | zero => exact absurd HA.out (by simp [spec_l1Split.l0])
    | succ k1 =>
      have H := HA.out
      clear HA
      simp only [spec_l1Split.l0] at H
      by_cases c3 : x7_1 < (a0.size : Int)
      · rw [if_pos c3] at H
        have c3b0 : decide (x7_1 < (a0.size : Int)) = true := decide_eq_true c3
        clear c3
        by_cases c4 : 0 ≤ x7_1
        · rw [if_pos c4] at H
          have c4b0 : decide (0 ≤ x7_1) = true := decide_eq_true c4
          clear c4
          by_cases c6 : (bt a0 x7_1) = a1
          · rw [if_pos c6] at H
            have c6b0 : ((bt a0 x7_1) == a1) = true := beq_iff_eq.mpr c6
            have c6b1 : ((bt a0 x7_1) != a1) = false := bne_eq_false_iff_eq.mpr c6
            clear c6
            by_cases c7 : 0 ≤ x6_1
            · rw [if_pos c7] at H
              have c7b0 := eq_true c7
              have c7b1 : decide (0 ≤ x6_1) = true := decide_eq_true c7
              clear c7
              by_cases c8 : x6_1 ≤ x7_1
              · rw [if_pos c8] at H
                have c8b0 := eq_true c8
                have c8b1 : decide (x6_1 ≤ x7_1) = true := decide_eq_true c8
                clear c8
                by_cases c9 : x7_1 ≤ (a0.size : Int)
                · rw [if_pos c9] at H
                  have c9b0 := eq_true c9
                  have c9b1 : decide (x7_1 ≤ (a0.size : Int)) = true := decide_eq_true c9
                  clear c9
                  by_cases c10 : x5_1.length < 8796093022208
                  · rw [if_pos c10] at H
                    have LMc10 := Aside0.mk c10
                    clear c10
                    obtain ⟨y548, hy548⟩ : ∃ y_ : List ByteArray, y_ = (x5_1 ++ [a0.extract (x6_1 : Int).toNat (x7_1 : Int).toNat]) := ⟨_, rfl⟩
                    replace H : (spec_l1Split.l0 k1 a0 a1 y548 (wrap64 (x7_1 + 1)) (wrap64 (x7_1 + 1))) = some r := by first | (rw [hy548]; with_reducible exact H) | (have H2_ := (Option.bind_some _ _).symm.trans H; rw [hy548]; with_reducible exact H2_) | (have H2_ := (Option.bind_some _ _).symm.trans H; with_reducible exact H2_) | with_reducible exact H | (rw [hy548]; exact H) | exact H
                    have Ny548 := Aside0.mk hy548
                    clear hy548
                    have H' := Aside0.mk H
                    clear H
                    have p5 : 0 ≤ (x7_1 : Int) := of_decide_eq_true (by first | (with_reducible assumption) | assumption)
                    have q5 : x7_1 < (a0.size : Int) := of_decide_eq_true (by first | (with_reducible assumption) | assumption)
                    have hx5 := bt_at a0 x7_1
                    replace p5 := eq_true p5
                    replace q5 := eq_true q5
                    go_wp2_with (first | ((with_reducible refine gate_builtin (b := .append) (xs := #[.tmp 19, .tmp 24]) rfl ?_); at_builtin; refine Kd.R_append Kd.string (w0 := w) w.heap.size rfl (.tmp 19) (.tmp 24) 94 9 (.string ⟨#[]⟩) 16 rfl Tryz.underlying94 info9 rfl (by decide) (by omega) u5 x5_1 (a0.extract (x6_1 : Int).toNat (x7_1 : Int).toNat) [.string (a0.extract (x6_1 : Int).toNat (x7_1 : Int).toNat)] (fun _ => True) (fun _ => False) rfl rfl ?aP (fun _ hk => hk.elim) ?aF ?aO ?aB ?aS ?aL ?_; (case aP => exact rfl); (case aB => exact (by repeat (first | (with_reducible first | exact HB.out | apply below_alloc | apply pw_below_drewN | apply below_drew1) | exact HB.out))); (case aF => exact (fun _ _ => trivial)); (case aO => exact (by (with_reducible repeat (first | apply Kd.R_alloc | apply Kd.R_drewN | apply Kd.R_drew)); exact HO_5.out)); (case aS => exact (below_size (by repeat (first | (with_reducible first | exact HB.out | apply below_alloc | apply pw_below_drewN | apply below_drew1) | exact HB.out)))); (case aL => have := LMc10.out; omega); intro v549 w11 ho hb hg hat; rw [← Ny548.out] at ho; have n0_ := Aside0.mk (hb); have n1_ := Aside0.mk (ho); clear HB; clear HO_5; have HB := n0_; have HO550 := n1_; clear n0_ n1_; clear ho hb hg hat))
                    go_roundg k1
                    case measure => have := HK1.out; omega
                    case rel => exact ⟨(y548), (wrap64 (x7_1 + 1)), (wrap64 (x7_1 + 1)), (by first | rfl | (simp; done) | (simp [*]; done)), (by first | rfl | (simp; done) | (simp [*]; done)), H', ⟨by have := HK1.out; omega⟩, ⟨by (with_reducible repeat (first | apply Kd.R_alloc | apply Kd.R_drewN | apply Kd.R_drew)); exact HO550.out⟩, ⟨by repeat (first | (with_reducible first | exact HB.out | apply below_alloc | apply pw_below_drewN | apply below_drew1) | exact HB.out)⟩⟩
                  · rw [if_neg c10] at H
                    exact absurd H (by simp)
                · rw [if_neg c9] at H
                  exact absurd H (by simp)
              · rw [if_neg c8] at H
                exact absurd H (by simp)
            · rw [if_neg c7] at H
              exact absurd H (by simp)
          · rw [if_neg c6] at H
            have c6b0 : ((bt a0 x7_1) == a1) = false := beq_eq_false_iff_ne.mpr c6
            have c6b1 : ((bt a0 x7_1) != a1) = true := bne_iff_ne.mpr c6
            have H' := Aside0.mk H
            clear H
            have p5 : 0 ≤ (x7_1 : Int) := of_decide_eq_true (by first | (with_reducible assumption) | assumption)
            have q5 : x7_1 < (a0.size : Int) := of_decide_eq_true (by first | (with_reducible assumption) | assumption)
            have hx5 := bt_at a0 x7_1
            replace p5 := eq_true p5
            replace q5 := eq_true q5
            go_wp2
            go_roundg k1
            case measure => have := HK1.out; omega
            case rel => exact ⟨(x5_1), (x6_1), (wrap64 (x7_1 + 1)), (by first | rfl | (simp; done) | (simp [*]; done)), (by first | rfl | (simp; done) | (simp [*]; done)), H', ⟨by have := HK1.out; omega⟩, ⟨by (with_reducible repeat (first | apply Kd.R_alloc | apply Kd.R_drewN | apply Kd.R_drew)); exact HO_5.out⟩, ⟨by repeat (first | (with_reducible first | exact HB.out | apply below_alloc | apply pw_below_drewN | apply below_drew1) | exact HB.out)⟩⟩
        · rw [if_neg c4] at H
          exact absurd H (by simp)
      · rw [if_neg c3] at H
        have c3b0 : decide (x7_1 < (a0.size : Int)) = false := decide_eq_false c3
        clear c3
        by_cases c12 : 0 ≤ x6_1
        · rw [if_pos c12] at H
          have c12b0 := eq_true c12
          have c12b1 : decide (0 ≤ x6_1) = true := decide_eq_true c12
          clear c12
          by_cases c13 : x6_1 ≤ (a0.size : Int)
          · rw [if_pos c13] at H
            have c13b0 := eq_true c13
            have c13b1 : decide (x6_1 ≤ (a0.size : Int)) = true := decide_eq_true c13
            clear c13
            by_cases c14 : x5_1.length < 8796093022208
            · rw [if_pos c14] at H
              have LMc14 := Aside0.mk c14
              clear c14
              obtain ⟨y551, hy551⟩ : ∃ y_ : List ByteArray, y_ = (x5_1 ++ [a0.extract (x6_1 : Int).toNat a0.size]) := ⟨_, rfl⟩
              replace H : (some y551) = some r := by first | (rw [hy551]; with_reducible exact H) | (have H2_ := (Option.bind_some _ _).symm.trans H; rw [hy551]; with_reducible exact H2_) | (have H2_ := (Option.bind_some _ _).symm.trans H; with_reducible exact H2_) | with_reducible exact H | (rw [hy551]; exact H) | exact H
              have Ny551 := Aside0.mk hy551
              clear hy551
              obtain rfl := Option.some.inj H
              go_wp2_with (first | ((with_reducible refine gate_builtin (b := .append) (xs := #[.tmp 28, .tmp 32]) rfl ?_); at_builtin; refine Kd.R_append Kd.string (w0 := w) w.heap.size rfl (.tmp 28) (.tmp 32) 94 9 (.string ⟨#[]⟩) 16 rfl Tryz.underlying94 info9 rfl (by decide) (by omega) u5 x5_1 (a0.extract (x6_1 : Int).toNat a0.size) [.string (a0.extract (x6_1 : Int).toNat a0.size)] (fun _ => True) (fun _ => False) rfl rfl ?aP (fun _ hk => hk.elim) ?aF ?aO ?aB ?aS ?aL ?_; (case aP => exact rfl); (case aB => exact (by repeat (first | (with_reducible first | exact HB.out | apply below_alloc | apply pw_below_drewN | apply below_drew1) | exact HB.out))); (case aF => exact (fun _ _ => trivial)); (case aO => exact (by (with_reducible repeat (first | apply Kd.R_alloc | apply Kd.R_drewN | apply Kd.R_drew)); exact HO_5.out)); (case aS => exact (below_size (by repeat (first | (with_reducible first | exact HB.out | apply below_alloc | apply pw_below_drewN | apply below_drew1) | exact HB.out)))); (case aL => have := LMc14.out; omega); intro v552 w15 ho hb hg hat; rw [← Ny551.out] at ho; have n0_ := Aside0.mk (hb); have n1_ := Aside0.mk (ho); clear HB; clear HO_5; have HB := n0_; have HO553 := n1_; clear n0_ n1_; clear ho hb hg hat))
              go_ret
              exact ⟨_, by first | rfl | (simp [errW_none, errW_some] <;> rfl) | (simp [*, errW_none, errW_some] <;> rfl), by (with_reducible repeat (first | apply Kd.R_alloc | apply Kd.R_drewN | apply Kd.R_drew)); exact HO553.out, by repeat (first | (with_reducible first | exact HB.out | apply below_alloc | apply pw_below_drewN | apply below_drew1) | exact HB.out)⟩
            · rw [if_neg c14] at H
              exact absurd H (by simp)
          · rw [if_neg c13] at H
            exact absurd H (by simp)
        · rw [if_neg c12] at H
          exact absurd H (by simp)

/-! behind spec_l1Split -/
/-- A text parted at each c. -/
def spl (c : UInt8) : List UInt8 → List (List UInt8)
  | [] => [[]]
  | b :: r => if b = c then [] :: spl c r else (b :: (spl c r).headD []) :: (spl c r).tail
theorem spl_cons (c : UInt8) : ∀ s, spl c s = (spl c s).headD [] :: (spl c s).tail
  | [] => rfl
  | b :: r => by
    rw [spl]
    split <;> rfl
theorem spl_sizes (c : UInt8) : ∀ s, ((spl c s).map (fun x => x.length + 1)).sum = s.length + 1
  | [] => rfl
  | b :: r => by
    have ih := spl_sizes c r
    rw [spl]
    by_cases h : b = c
    · rw [if_pos h, List.map_cons, List.sum_cons, ih, List.length_cons, List.length_nil]; omega
    · rw [spl_cons, List.map_cons, List.sum_cons] at ih
      rw [if_neg h, List.map_cons, List.sum_cons, List.length_cons, List.length_cons]; omega
theorem spl_len (c : UInt8) : ∀ s, (spl c s).length ≤ s.length + 1
  | [] => by simp [spl]
  | b :: r => by
    have ih := spl_len c r
    rw [spl_cons c r, List.length_cons] at ih
    rw [spl]
    split
    · rw [spl_cons c r, List.length_cons, List.length_cons, List.length_cons]; omega
    · rw [List.length_cons, List.length_cons]; omega
theorem mem_sum : ∀ (l : List (List UInt8)) (x : List UInt8), x ∈ l → x.length + 1 ≤ (l.map (fun x => x.length + 1)).sum
  | a :: l, x, h => by
    rw [List.map_cons, List.sum_cons]
    rcases List.mem_cons.1 h with rfl | h
    · omega
    · have := mem_sum l x h
      omega
theorem spl_mem (c : UInt8) : ∀ s, ∀ x ∈ spl c s, x.length ≤ s.length := by
  intro s x hx
  have h := spl_sizes c s
  have h2 := mem_sum (spl c s) x hx
  omega
theorem bt_ba (s : List UInt8) (i : Nat) (h : i < s.length) : bt (baOf s) (i : Int) = (s[i].toNat : Int) := by
  unfold bt
  rw [dif_pos (by rw [Int.toNat_natCast, baOf_size]; exact h)]
  rfl
theorem ba_extract (s : List UInt8) (f i : Nat) : (baOf s).extract f i = baOf ((s.drop f).take (i - f)) := by
  rw [← ba_self ((baOf s).extract f i), Lib.extract_data, baOf_list]
theorem u8_eq (b : UInt8) (n : Nat) (hn : n < 256) : (b.toNat : Int) = n ↔ b = UInt8.ofNat n := by
  constructor
  · intro h
    apply UInt8.toNat_inj.1
    rw [UInt8.toNat_ofNat']
    omega
  · rintro rfl
    rw [UInt8.toNat_ofNat']
    omega
theorem l1Split_l0 (s : List UInt8) (hs : s.length ≤ 1000000) : ∀ (d k i f : Nat) (out : List (List UInt8)), f ≤ i → i ≤ s.length → s.length - i = d → d < k → out.length ≤ f →
    spec_l1Split.l0 k (baOf s) 45 (out.map baOf) (f : Int) (i : Int) = some ((out ++ ((s.drop f).take (i - f) ++ (spl 45 (s.drop i)).headD []) :: (spl 45 (s.drop i)).tail).map baOf)
  | 0, k, i, f, out, h1, hi, hd, hk, ho => by
    obtain ⟨k, rfl⟩ : ∃ m, k = m + 1 := ⟨k - 1, by omega⟩
    obtain rfl : i = s.length := by omega
    rw [spec_l1Split.l0, if_neg (by rw [baOf_size]; omega), if_pos (by omega), if_pos (by rw [baOf_size]; omega), if_pos (by rw [List.length_map]; omega), Int.toNat_natCast, baOf_size, ba_extract]
    rw [List.drop_of_length_le (Nat.le_refl _), List.map_append]
    simp [spl]
  | d + 1, k, i, f, out, h1, hi, hd, hk, ho => by
    obtain ⟨k, rfl⟩ : ∃ m, k = m + 1 := ⟨k - 1, by omega⟩
    have hlt : i < s.length := by omega
    have e2 : wrap64 ((i : Int) + 1) = ((i + 1 : Nat) : Int) := by unfold wrap64; omega
    have hdr := List.drop_eq_getElem_cons hlt
    have hu : (s[i].toNat : Int) = 45 ↔ s[i] = 45 := u8_eq s[i] 45 (by omega)
    rw [spec_l1Split.l0, if_pos (by rw [baOf_size]; clear e2; omega), if_pos (by clear e2; omega), bt_ba s i hlt, e2]
    by_cases hb : s[i] = 45
    · rw [if_pos (hu.2 hb), if_pos (by clear e2; omega), if_pos (by clear e2; omega), if_pos (by rw [baOf_size]; clear e2; omega), if_pos (by rw [List.length_map]; clear e2; omega), Int.toNat_natCast, Int.toNat_natCast, ba_extract]
      have ih := l1Split_l0 s hs d k (i + 1) (i + 1) (out ++ [(s.drop f).take (i - f)]) (by clear e2; omega) (by clear e2; omega) (by clear e2; omega) (by clear e2; omega) (by rw [List.length_append, List.length_singleton]; clear e2; omega)
      rw [List.map_append, List.map_singleton] at ih
      rw [ih, hdr, spl, if_pos hb, Nat.sub_self, List.take_zero, List.nil_append, ← spl_cons, List.headD_cons, List.tail_cons, List.append_nil]
      simp
    · rw [if_neg (fun h => hb (hu.1 h)), l1Split_l0 s hs d k (i + 1) f out (by clear e2; omega) (by clear e2; omega) (by clear e2; omega) (by clear e2; omega) ho, hdr, spl, if_neg hb, List.headD_cons, List.tail_cons]
      have et : (s.drop f).take (i + 1 - f) = (s.drop f).take (i - f) ++ [s[i]] := by
        rw [show i + 1 - f = (i - f) + 1 by clear e2; omega, List.take_add_one, List.getElem?_drop, show f + (i - f) = i by clear e2; omega, List.getElem?_eq_getElem hlt]; rfl
      rw [et, List.append_assoc]; rfl
theorem l1Split_is (s : List UInt8) (hs : s.length ≤ 1000000) (k : Nat) (hk : s.length < k) : spec_l1Split.f k (baOf s) 45 = some ((spl 45 s).map baOf) := by
  have h := l1Split_l0 s hs s.length k 0 0 [] (by omega) (by omega) (by omega) hk (by simp)
  unfold spec_l1Split.f
  rw [List.drop_zero, Nat.sub_self, List.take_zero, List.nil_append, List.nil_append, ← spl_cons] at h
  exact h

/-! ### strings_Split: function 92, a contract of our own -/
-- SHELF strings.Split|strconv.Atoi
/-- What the library reads: the table, the two errors, a bound. -/
structure TabsE (w : World) : Prop where
  tabs : Tabs w
  max : ∃ m, w.cell? ⟨3, 0, none⟩ = some (.int .i64 m)
  syn : ∃ tp p, w.var? Tryz.prog "strconv.ErrSyntax" = some #[.iface tp p]
  rng : ∃ tp p, w.var? Tryz.prog "strconv.ErrRange" = some #[.iface tp p]
theorem TabsE.below {w w' : World} (h : TabsE w) (hb : Below w.heap.size w w') : TabsE w' := by
  obtain ⟨h1, ⟨m, h2⟩, ⟨t1, p1, h3⟩, ⟨t2, p2, h4⟩⟩ := h
  refine ⟨h1.below hb, ⟨m, (hb.cell (World.block_lt_of_cell? w _ h2)).trans h2⟩, ⟨t1, p1, ?_⟩, ⟨t2, p2, ?_⟩⟩
  · exact Go.Joins.var_stays (g := 0) (by kernel_rfl) h3 hb (Nat.le_refl _)
  · exact Go.Joins.var_stays (g := 1) (by kernel_rfl) h4 hb (Nat.le_refl _)
theorem splitK_spl (c : UInt8) : ∀ s : List UInt8, Lib.splitK [c] 0 (Lib.count s [c]) s = spl c s
  | [] => by
    have h : Lib.index [] [c] = -1 := by rw [Lib.index_one]; rfl
    rw [Lib.count_miss h]; rfl
  | b :: r => by
    have ih := splitK_spl c r
    have hi : Lib.index (b :: r) [c] = if b == c then 0 else if Lib.index r [c] == -1 then -1 else Lib.index r [c] + 1 := by rw [Lib.index_one, Lib.index_one]; rfl
    by_cases hb : b = c
    · subst hb
      have hi0 : Lib.index (b :: r) [b] = ((0 : Nat) : Int) := by rw [hi, if_pos (by simp)]; rfl
      rw [Lib.count_hit (by simp) hi0, Nat.add_comm 1]
      rw [Lib.splitK, if_neg (by rw [hi0]; decide), hi0, spl, if_pos rfl]
      show List.take 0 (b :: r) :: Lib.splitK [b] 0 _ (List.drop 1 (b :: r)) = _
      rw [List.take_zero, ← ih]; rfl
    · have hne : ¬ (b == c) = true := by simpa using hb
      rw [if_neg hne] at hi
      rw [spl, if_neg hb]
      by_cases hr : Lib.index r [c] = -1
      · rw [if_pos (by rw [hr]; rfl)] at hi
        rw [Lib.count_miss hr] at ih
        rw [Lib.count_miss hi, ← ih]; rfl
      · have hge := Lib.index_ge r [c]
        obtain ⟨i, hiN⟩ : ∃ i : Nat, Lib.index r [c] = (i : Int) := ⟨(Lib.index r [c]).toNat, by omega⟩
        rw [if_neg (by simpa using hr)] at hi
        have hi1 : Lib.index (b :: r) [c] = ((i + 1 : Nat) : Int) := by rw [hi, hiN]; omega
        have c1 := Lib.count_hit (by simp) hiN
        have c2 := Lib.count_hit (by simp) hi1
        rw [Nat.add_comm 1] at c1 c2
        have hd : (b :: r).drop (i + 1 + [c].length) = r.drop (i + [c].length) := by
          rw [show i + 1 + [c].length = (i + [c].length) + 1 by omega]; rfl
        rw [hd] at c2
        rw [c1, Lib.splitK, if_neg (by simpa using hr), hiN] at ih
        rw [c2, Lib.splitK, if_neg (by rw [hi1]; simp only [beq_iff_eq]; omega), hi1, ← ih, Int.toNat_natCast, Int.toNat_natCast, hd, List.headD_cons, List.tail_cons]
        rfl
theorem splitB_spl (s : ByteArray) : Lib.splitB (baOf [45]) 0 (Lib.countB s (baOf [45])) s = (spl 45 s.data.toList).map baOf := by
  have h := Lib.splitB_data (baOf [45]) 0 (Lib.countB s (baOf [45])) s
  rw [baOf_list] at h
  have h2 : Lib.countB s (baOf [45]) = Lib.count s.data.toList [45] := by show Lib.count _ _ = _; rw [baOf_list]
  rw [h2, splitK_spl] at h
  rw [h2, ← h, List.map_map]
  conv => lhs; rw [← List.map_id (Lib.splitB _ _ _ _)]
  exact List.map_congr_left fun x _ => (ba_self x).symm
/-- The words of a text: a new row of the call's own, read whatever is made behind it. -/
theorem split_calls (a0 : ByteArray) (hs : a0.size ≤ 1000000) (w : World) (ht : TabsE w) :
    Calls Tryz.prog 92 #[.string a0, .string (baOf [45])] w fun e w' => ∃ ad : Addr, e = .returned (.slice (some ad) (spl 45 a0.data.toList).length (spl 45 a0.data.toList).length) ∧ Below w.heap.size w w' ∧ w.heap.size < w'.heap.size ∧
      ∀ W : World, W.heap[w.heap.size]? = w'.heap[w.heap.size]? → ∀ j x, (spl 45 a0.data.toList)[j]? = some x → W.cell? (ad.add j) = some (.string (baOf x)) := by
  obtain ⟨m, hm⟩ := ht.max
  have hl : (Lib.splitB (baOf [45]) 0 (Lib.countB a0 (baOf [45])) a0).length = Lib.countB a0 (baOf [45]) + 1 := Lib.splitB_all (baOf [45]) (by decide) 0 _ a0 rfl
  have he := splitB_spl a0
  rw [he, List.length_map] at hl
  refine (Tryz.strings_Split a0 (baOf [45]) m w (by omega) hm (by decide)).mono ?_
  rintro e w' ⟨rfl, rfl⟩
  rw [he, ← hl]
  refine ⟨⟨w.heap.size, 0, none⟩, rfl, (Below.refl _ w).alloc (Nat.le_refl _) _, by simp, ?_⟩
  intro W hW j x hx
  have ea : (⟨w.heap.size, 0, none⟩ : Addr).add j = ⟨w.heap.size, j, none⟩ := by
    unfold Addr.add
    split
    · rename_i h_; subst h_; rfl
    · simp
  have hb : (w.alloc (.cells (((spl 45 a0.data.toList).map baOf).map Value.string).toArray 9)).heap[w.heap.size]? = some (.cells (((spl 45 a0.data.toList).map baOf).map Value.string).toArray 9 (0, 0)) := by
    show (w.heap.push _)[w.heap.size]? = _
    rw [Array.getElem?_push_size]
  rw [ea]
  unfold World.cell?
  rw [hW, hb]
  simp [hx]
theorem atoi_ok (x : List UInt8) (hx : x.length ≤ 1000000) (v : Int) (h : Lib.atoiAll x = .ok v) (w : World) :
    Calls Tryz.prog 93 #[.string (baOf x)] w fun e w' => e = .returned (.tuple #[.int .i64 v, .nilIface]) ∧ Below w.heap.size w w' := by
  refine (Tryz.strconv_Atoi_ok (baOf x) (by rw [baOf_size]; omega) v (by rw [baOf_list]; exact h) w).mono ?_
  rintro e w' ⟨rfl, hw⟩
  refine ⟨rfl, ?_⟩
  rcases hw with rfl | ⟨t, rfl⟩
  · exact Below.refl _ _
  · exact bytes_below (Below.refl _ _) (Nat.le_refl _) _ t
theorem atoi_err (x : List UInt8) (hx : x.length ≤ 1000000) (h : ∀ v, Lib.atoiAll x ≠ .ok v) (w : World) (ht : TabsE w) :
    Calls Tryz.prog 93 #[.string (baOf x)] w fun e w' => ∃ (n : Int) (N : Nat), e = .returned (.tuple #[.int .i64 n, .iface 137 (.pointer (some ⟨N, 0, none⟩))]) ∧ Below w.heap.size w w' := by
  cases hc : Lib.atoiAll x with
  | ok v => exact absurd hc (h v)
  | range =>
    obtain ⟨t, p, hv⟩ := ht.rng
    refine (Tryz.strconv_Atoi_range_var (baOf x) (by rw [baOf_size]; omega) (by rw [baOf_list]; exact hc) t p w hv).mono ?_
    rintro e w' ⟨N, rfl, _, _, hb⟩
    exact ⟨_, N, rfl, hb⟩
  | _ =>
    obtain ⟨t, p, hv⟩ := ht.syn
    refine (Tryz.strconv_Atoi_syntax_var (baOf x) (by rw [baOf_size]; omega) (by rw [baOf_list]; exact hc) t p w hv).mono ?_
    rintro e w' ⟨N, rfl, _, _, hb⟩
    exact ⟨_, N, rfl, hb⟩

/-! behind laws_big -/
def MBig (code : List Int) (nc : Nat) (more : List Int) (nm : Nat) : Prop := ∀ W A c A' c', nc ≤ c → Kd.C (Kd.int .u8) W A nc code → nm ≤ c' → Kd.C (Kd.int .u8) W A' nm more → Calls Tryz.prog 4 #[.slice A nc c, .slice A' nm c'] W fun e w' => e = .returned (.bool false) ∧ Below W.heap.size W w'
/-- A draw of a number and marks. -/
def MDr2 (F : Nat) (code : List Int) (nc : Nat) : Prop := ∀ W A c, nc ≤ c → Kd.C (Kd.int .u8) W A nc code → Calls Tryz.prog F #[.slice A nc c] W fun e w' => ∃ (f : Int) (m : List Int) (n : Nat) (A1 : Option Addr) (c1 : Nat), e = .returned (.tuple #[.int .i64 f, .slice A1 n c1]) ∧ n ≤ c1 ∧ m.length = n ∧ n ≤ 110 ∧ (-1 ≤ f ∧ f ≤ 200) ∧ Kd.C (Kd.int .i64) w' A1 n m ∧ Below W.heap.size W w'
def MDr3 (F : Nat) (code : List Int) (nc : Nat) : Prop := ∀ W A c, nc ≤ c → Kd.C (Kd.int .u8) W A nc code → Calls Tryz.prog F #[.slice A nc c] W fun e w' => ∃ (f : Int) (m : List Int) (n : Nat) (p : Int) (A1 : Option Addr) (c1 : Nat), e = .returned (.tuple #[.int .i64 f, .slice A1 n c1, .int .i64 p]) ∧ n ≤ c1 ∧ m.length = n ∧ n ≤ 110 ∧ (-1 ≤ f ∧ f ≤ 200) ∧ (-10 ≤ p ∧ p ≤ 300) ∧ Kd.C (Kd.int .i64) w' A1 n m ∧ Below W.heap.size W w'
def MDr1 (F : Nat) (code : List Int) (nc : Nat) : Prop := ∀ W A c, nc ≤ c → Kd.C (Kd.int .u8) W A nc code → Calls Tryz.prog F #[.slice A nc c] W fun e w' => ∃ (m : List Int) (n : Nat) (A1 : Option Addr) (c1 : Nat), e = .returned (.slice A1 n c1) ∧ n ≤ c1 ∧ m.length = n ∧ n ≤ 110 ∧ Kd.C (Kd.int .i64) w' A1 n m ∧ Below W.heap.size W w'
def MDrS (F : Nat) (code : List Int) (nc : Nat) : Prop := ∀ W A c, nc ≤ c → Kd.C (Kd.int .u8) W A nc code → Calls Tryz.prog F #[.slice A nc c] W fun e w' => ∃ (s : ByteArray), e = .returned (.string s) ∧ s.size ≤ 1000 ∧ Below W.heap.size W w'
/-- Of a number and marks: a list and a sign; a number and a sign; a sign. -/
def ML2 (F : Nat) (f : Int) (m : List Int) (n : Nat) (r : List Int) (k : Nat) (ok : Bool) : Prop := ∀ W A c, n ≤ c → Kd.C (Kd.int .i64) W A n m → Calls Tryz.prog F #[.int .i64 f, .slice A n c] W fun e w' => ∃ A1 c1, e = .returned (.tuple #[.slice A1 k c1, .bool ok]) ∧ k ≤ c1 ∧ Kd.C (Kd.int .i64) w' A1 k r ∧ Below W.heap.size W w'
def MN2 (F : Nat) (f : Int) (m : List Int) (n : Nat) (r : Int) (ok : Bool) : Prop := ∀ W A c, n ≤ c → Kd.C (Kd.int .i64) W A n m → Calls Tryz.prog F #[.int .i64 f, .slice A n c] W fun e w' => e = .returned (.tuple #[.int .i64 r, .bool ok]) ∧ Below W.heap.size W w'
def MB2 (F : Nat) (f : Int) (m : List Int) (n : Nat) (ok : Bool) : Prop := ∀ W A c, n ≤ c → Kd.C (Kd.int .i64) W A n m → Calls Tryz.prog F #[.int .i64 f, .slice A n c] W fun e w' => e = .returned (.bool ok) ∧ Below W.heap.size W w'
def MD3 (F : Nat) (f : Int) (m : List Int) (n : Nat) (b : Int) (r : List S65) (k : Nat) (ok : Bool) : Prop := ∀ W A c, n ≤ c → Kd.C (Kd.int .i64) W A n m → Calls Tryz.prog F #[.int .i64 f, .slice A n c, .int .i64 b] W fun e w' => ∃ A1 c1, e = .returned (.tuple #[.slice A1 k c1, .bool ok]) ∧ k ≤ c1 ∧ Kd.C k65 w' A1 k r ∧ Below W.heap.size W w'
def ML3 (F : Nat) (f : Int) (m : List Int) (n : Nat) (b : Int) (r : List Int) (k : Nat) (ok : Bool) : Prop := ∀ W A c, n ≤ c → Kd.C (Kd.int .i64) W A n m → Calls Tryz.prog F #[.int .i64 f, .slice A n c, .int .i64 b] W fun e w' => ∃ A1 c1, e = .returned (.tuple #[.slice A1 k c1, .bool ok]) ∧ k ≤ c1 ∧ Kd.C (Kd.int .i64) w' A1 k r ∧ Below W.heap.size W w'
def MN3 (F : Nat) (f : Int) (m : List Int) (n : Nat) (b : Int) (r : Int) (ok : Bool) : Prop := ∀ W A c, n ≤ c → Kd.C (Kd.int .i64) W A n m → Calls Tryz.prog F #[.int .i64 f, .slice A n c, .int .i64 b] W fun e w' => e = .returned (.tuple #[.int .i64 r, .bool ok]) ∧ Below W.heap.size W w'
/-- Of marks: a text and a sign. Of a text: marks and a sign. -/
def MT1 (F : Nat) (m : List Int) (n : Nat) (s : ByteArray) (ok : Bool) : Prop := ∀ W A c, n ≤ c → Kd.C (Kd.int .i64) W A n m → TabsE W → Calls Tryz.prog F #[.slice A n c] W fun e w' => e = .returned (.tuple #[.string s, .bool ok]) ∧ Below W.heap.size W w'
def MP1 (F : Nat) (s : ByteArray) (r : List Int) (k : Nat) (ok : Bool) : Prop := ∀ W, TabsE W → Calls Tryz.prog F #[.string s] W fun e w' => ∃ A1 c1, e = .returned (.tuple #[.slice A1 k c1, .bool ok]) ∧ k ≤ c1 ∧ Kd.C (Kd.int .i64) w' A1 k r ∧ Below W.heap.size W w'
def MSame (x : List Int) (n : Nat) : Prop := ∀ W A c A' c', n ≤ c → Kd.C (Kd.int .i64) W A n x → n ≤ c' → Kd.C (Kd.int .i64) W A' n x → Calls Tryz.prog 14 #[.slice A n c, .slice A' n c'] W fun e w' => e = .returned (.bool true) ∧ Below W.heap.size W w'
def MSameD (x : List S65) (n : Nat) : Prop := ∀ W A c A' c', n ≤ c → Kd.C k65 W A n x → n ≤ c' → Kd.C k65 W A' n x → Calls Tryz.prog 40 #[.slice A n c, .slice A' n c'] W fun e w' => e = .returned (.bool true) ∧ Below W.heap.size W w'
def MHas (x : List Int) (n : Nat) (q : Int) (b : Bool) : Prop := ∀ W A c, n ≤ c → Kd.C (Kd.int .i64) W A n x → Calls Tryz.prog 22 #[.slice A n c, .int .i64 q] W fun e w' => e = .returned (.bool b) ∧ Below W.heap.size W w'
def MRises (x : List Int) (n : Nat) : Prop := ∀ W A c, n ≤ c → Kd.C (Kd.int .i64) W A n x → Calls Tryz.prog 24 #[.slice A n c] W fun e w' => e = .returned (.bool true) ∧ Below W.heap.size W w'
def MOpen (n : Int) (x : List S65) (m : Nat) (b : Int) : Prop := ∀ W A c, m ≤ c → Kd.C k65 W A m x → Calls Tryz.prog 19 #[.int .i64 n, .slice A m c] W fun e w' => e = .returned (.tuple #[.int .i64 b, .int .i64 b, .bool true]) ∧ Below W.heap.size W w'
def MIdle (n : Int) (x : List S65) (m : Nat) : Prop := ∀ W A c, m ≤ c → Kd.C k65 W A m x → Calls Tryz.prog 20 #[.int .i64 n, .slice A m c] W fun e w' => ∃ A1 c1, e = .returned (.tuple #[.slice A1 0 c1, .bool true]) ∧ Below W.heap.size W w'
def MBrk (x : List S65) (m : Nat) (b : Int) : Prop := ∀ W A c, m ≤ c → Kd.C k65 W A m x → Calls Tryz.prog 21 #[.slice A m c] W fun e w' => e = .returned (.int .i64 b) ∧ Below W.heap.size W w'
def MLw (a r : Int) : Prop := ∀ W, Calls Tryz.prog 23 #[.int .i64 a] W fun e w' => e = .returned (.tuple #[.int .i64 r, .bool true]) ∧ Below W.heap.size W w'
/-- What the law's first half meets. -/
structure MF (f : Int) (m : List Int) (n : Nat) (hard : List Int) (nh : Nat) (worst sum : Int) (harm : List Int) (ng : Nat) (ok : Bool) : Prop where
  h1 : ML2 6 f m n hard nh ok
  h2 : ML2 7 f m n hard nh ok
  w1 : MN2 8 f m n worst ok
  w2 : MN2 9 f m n worst ok
  s1 : MN2 10 f m n sum ok
  s2 : MN2 11 f m n sum ok
  g1 : ML2 12 f m n harm ng ok
  g2 : ML2 13 f m n harm ng ok
  a1 : MB2 15 f m n ok
  a2 : MB2 16 f m n ok
  e1 : MSame hard nh
  e2 : MSame harm ng
/-- What the law's loops meet. -/
structure MP (fn : Nat) (m : List Int) (n : Nat) (hard : List Int) (nh : Nat) (worst sum : Int) (harm : List Int) (ng : Nat) (few : Int) (ds : Nat → List S65) (dl : Nat → Nat) (br sm mx : Nat → Int) (ls : Nat → List Int) (ll : Nat → Nat) (st : Nat → Int) : Prop where
  md : ∀ b, b ≤ fn → MD3 17 fn m n (b : Int) (ds b) (dl b) true
  mt : ∀ b, b ≤ fn → MN3 18 fn m n (b : Int) (dl b) true
  lo : ∀ b, b ≤ fn → MOpen fn (ds b) (dl b) (b : Int)
  id : ∀ b, b ≤ fn → MIdle fn (ds b) (dl b)
  eb : ∀ b, b ≤ fn → MBrk (ds b) (dl b) (br b)
  bre : ∀ b, b ≤ fn → br b ≤ 2
  dll : ∀ b, b ≤ fn → dl b ≤ 1000
  eh : ∀ b, b ≤ fn → MHas hard nh (b : Int) ((dl b : Int) == worst)
  sm0 : sm 0 = 0
  sms : ∀ b, b ≤ fn → sm (b + 1) = sm b + (dl b : Int) ∧ 0 ≤ sm b ∧ sm b ≤ 1000000
  smn : sm (fn + 1) = sum
  mx0 : mx 0 = 0
  mxs : ∀ b, b ≤ fn → mx (b + 1) = max (mx b) (dl b : Int)
  mxn : mx (fn + 1) = worst
  r1 : MRises hard nh
  r2 : MRises harm ng
  lw : MLw fn few
  lwf : few ≤ worst
  dm : ∀ k, k < n → ML3 25 fn m n (k : Int) (ls k) (ll k) true
  dw : ∀ k, k < n → MN2 8 fn (ls k) (ll k) (st k) true
  da : ∀ k, k < n → ML3 26 fn (ls k) (ll k) (rd m k) m n true
  dh : ∀ k, k < n → MHas harm ng (k : Int) (st k == worst)
  sa : MSame m n
def MHead (f : Int) (m : List Int) (n : Nat) : Prop := ∃ hard nh worst sum harm ng ok, MF f m n hard nh worst sum harm ng ok ∧ (ok = true → ∃ (fn : Nat), ∃ few ds dl br sm mx ls ll st, f = (fn : Int) ∧ fn ≤ 100 ∧ MP fn m n hard nh worst sum harm ng few ds dl br sm mx ls ll st)
/-- What the law's second half meets. -/
structure MS1 (f : Int) (m : List Int) (n : Nat) (b : Int) (dr : List S65) (nd : Nat) (t : Int) (ok : Bool) : Prop where
  d1 : MD3 17 f m n b dr nd ok
  d2 : MD3 28 f m n b dr nd ok
  t1 : MN3 18 f m n b t ok
  t2 : MN3 29 f m n b t ok
  e : MSameD dr nd
structure MS2 (f : Int) (m : List Int) (n : Nat) (b : Int) (ad : List Int) (na : Nat) (ok : Bool) : Prop where
  d1 : ML3 26 f m n b ad na ok
  d2 : ML3 31 f m n b ad na ok
  e : MSame ad na
  y : ok = true → MB2 15 f ad na true ∧ IntKind.i64.wrap ((n : Int) + 1) = (na : Int) ∧ MHas ad na b true
structure MS3 (f : Int) (m : List Int) (n : Nat) (b : Int) (dp : List Int) (nd : Nat) (ok : Bool) : Prop where
  d1 : ML3 25 f m n b dp nd ok
  d2 : ML3 33 f m n b dp nd ok
  e : MSame dp nd
structure MS4 (m : List Int) (n : Nat) (s : ByteArray) (ok : Bool) : Prop where
  d1 : MT1 35 m n s ok
  d2 : MT1 36 m n s ok
  e : MSame m n
  y : ok = true → MP1 38 s m n true
structure MS5 (s : ByteArray) (m : List Int) (n : Nat) (ok : Bool) : Prop where
  d1 : MP1 38 s m n ok
  d2 : MP1 39 s m n ok
  e : MSame m n
  y : ok = true → MT1 35 m n s true
/-- All that the law asks of the drawn. -/
structure MAll : Prop where
  h : ∀ f m n, m.length = n → n ≤ 110 → (-1 ≤ f ∧ f ≤ 200) → MHead f m n
  s1 : ∀ f m n p, m.length = n → n ≤ 110 → (-1 ≤ f ∧ f ≤ 200) → (-10 ≤ p ∧ p ≤ 300) → ∃ dr nd t ok, MS1 f m n p dr nd t ok
  s2 : ∀ f m n p, m.length = n → n ≤ 110 → (-1 ≤ f ∧ f ≤ 200) → (-10 ≤ p ∧ p ≤ 300) → ∃ ad na ok, MS2 f m n p ad na ok
  s3 : ∀ f m n p, m.length = n → n ≤ 110 → (-1 ≤ f ∧ f ≤ 200) → (-10 ≤ p ∧ p ≤ 300) → ∃ dp nd ok, MS3 f m n p dp nd ok
  s4 : ∀ m n, m.length = n → n ≤ 110 → ∃ s ok, MS4 m n s ok
  s5 : ∀ s : ByteArray, s.size ≤ 1000 → ∃ m n ok, MS5 s m n ok

end Go.Proofs.YtaniojfokildiaaGreatDoor.PrintA
