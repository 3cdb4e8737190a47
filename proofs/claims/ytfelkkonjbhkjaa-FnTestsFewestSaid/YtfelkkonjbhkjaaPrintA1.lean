-- written by this session's own driver (wip/gen.py) with the kit's print and contracts of our own
import Derived.Test.YtfelkkonjbhkjaaPrintA0
namespace Go.Proofs.Ytfelkkonjbhkjaa.PrintA
open Go.RowKit Go.Proofs.YtfelkkonjbhkjaaLib Go.Proofs.YtfelkkonjbhkjaaW.PrintWords Go.Proofs.YtfelkkonjbhkjaaW.PrintLast Go.Proofs.YtfelkkonjbhkjaaW.PrintMore
attribute [local go_sem] max2_int min2_int max_two min_two max_three min_three max_four min_four   -- for this text's walks alone
set_option linter.unusedVariables false
set_option linter.unusedSimpArgs false

/-- What is asked of a function value that is handed on: at every x, in every later world, it says p x, and leaves all that lay as it was. -/
def Tells {α : Type} (g : Nat) (lb : Array Value) (enc : α → Value) (p : α → Bool) (w : World) : Prop :=
  ∀ (W : World) (x : α), Below w.heap.size w W → Calls Try.prog g (#[enc x] ++ lb) W fun e w' => e = .returned (.bool (p x)) ∧ Below w.heap.size w w'
/-- The index of the first element of which p holds, or -1. -/
def idxOf {α : Type} (p : α → Bool) (l : List α) : Int := match l.findIdx? p with
  | some i => (i : Int)
  | none => -1
theorem idxOf_hit {α : Type} (p : α → Bool) (l : List α) (d : α) (k : Nat) (hk : k < l.length) (h : p (l.getD k d) = true) (hb : ∀ j, j < k → p (l.getD j d) = false) : idxOf p l = (k : Int) := by
  have : l.findIdx? p = some k := by
    rw [List.findIdx?_eq_some_iff_getElem]
    refine ⟨hk, ?_, fun j hj => ?_⟩
    · rw [List.getD_eq_getElem?_getD, List.getElem?_eq_getElem hk] at h; exact h
    · have := hb j hj
      rw [List.getD_eq_getElem?_getD, List.getElem?_eq_getElem (by omega)] at this; simpa using this
  simp [idxOf, this]
theorem idxOf_miss {α : Type} (p : α → Bool) (l : List α) (d : α) (hb : ∀ j, j < l.length → p (l.getD j d) = false) : idxOf p l = -1 := by
  have : l.findIdx? p = none := by
    rw [List.findIdx?_eq_none_iff]
    intro x hx
    obtain ⟨j, hj, rfl⟩ := List.getElem_of_mem hx
    have := hb j hj
    rw [List.getD_eq_getElem?_getD, List.getElem?_eq_getElem hj] at this; simpa using this
  simp [idxOf, this]
theorem idxOf_any {α : Type} (p : α → Bool) (l : List α) : decide (0 ≤ idxOf p l) = l.any p := by
  unfold idxOf
  cases h : l.findIdx? p with
  | none =>
    rw [List.findIdx?_eq_none_iff] at h
    have : l.any p = false := by rw [List.any_eq_false]; intro x hx; simp [h x hx]
    rw [this]; rfl
  | some i =>
    rw [List.findIdx?_eq_some_iff_getElem] at h
    obtain ⟨hi, h1, _⟩ := h
    have : l.any p = true := List.any_eq_true.2 ⟨_, List.getElem_mem hi, h1⟩
    rw [this]; simp
/-- A number lies outside of bounds. -/
def outIn (lo hi x : Int) : Bool := !(decide (lo ≤ x) && decide (x ≤ hi))
theorem outIn_all (lo hi : Int) (l : List Int) : (!(l.any (outIn lo hi))) = l.all (fun x => decide (lo ≤ x) && decide (x ≤ hi)) := by
  unfold outIn; rw [List.all_eq_not_any_not]
/-- A call of a function value, as an arm of the walk. -/
theorem goesV_ {P : Program} {ops : Array Oper} {Q : Exit → Act → World → Prop} {rest : List Oper} {oi : Oper} {a : Act} {w : World} (N : Option Tmp) (hd : oi.dst = N) (hg : oi.guard = none) {g : FuncId} {fb lb : Array Value}
    (eg : ∀ args w, (callFunc g args).run P w = .ok (.enter g args) w) (args : Array Value) {t : Tmp} {os_ : Array Operand} {ts_ : Array TypeId}
    (hop : oi.op = .call { callee := .value (.tmp t), args := os_, argTypes := ts_ }) (hv : a.eval (.tmp t) = .func (.func g) fb lb) (hargs : os_.map a.eval = args)
    (h : Calls P g (fb ++ args ++ lb) w fun e w' => ∃ v, e = .returned v ∧ wpList P ops Q rest (a.put N v) w') : wpList P ops Q (oi :: rest) a w := by
  refine wpList_plain hg fun K hK => ?_
  have hrun : (execOp a.eval oi).run P w = .ok (.enter g (fb ++ args ++ lb)) w := by
    unfold execOp
    simp [hop, resolve, Deferred.ofValue, invoke, hv, hargs, eg]
  unfold Oper.wp
  rw [hrun, Oper.upon_enter]
  refine h.mono fun e w'' hh => ?_
  obtain ⟨v, rfl, hk⟩ := hh
  subst hd
  exact hK _ _ hk
def Btw (a b k : Nat) : Prop := a ≤ k ∧ k < b
theorem r_btw {α : Type} {d : Kd α} {e : Nat} {w1 : World} {base b0 : Nat} {ok : Nat → Prop} {v : Value} {xs : List α} (h : Kd.R d e w1 base ok v xs) (hb : b0 ≤ base) : Kd.R d e w1 b0 (Btw base w1.heap.size) v xs :=
  Kd.R_lower (Kd.R_mono (Kd.R_bound h) (fun _ hk => ⟨hk.2.1, hk.2.2.1⟩)) hb
theorem r_int_ok {k : IntKind} {e : Nat} {w1 : World} {b0 : Nat} {ok ok' : Nat → Prop} {v : Value} {xs : List Int} (h : Kd.R (Kd.int k) e w1 b0 ok v xs) (hp : ∀ k, v.ownBlock = some k → ok' k) : Kd.R (Kd.int k) e w1 b0 ok' v xs :=
  ⟨hp, h.2.imp_ (fun _ _ hm => hm)⟩
theorem r_own {k : IntKind} {e : Nat} {w1 : World} {base b0 : Nat} {ok : Nat → Prop} {v : Value} {xs : List Int} (h : Kd.R (Kd.int k) e w1 base ok v xs) (hb : b0 ≤ base) : Kd.R (Kd.int k) e w1 b0 (fun k => v.ownBlock = some k ∧ Btw base w1.heap.size k) v xs :=
  r_int_ok (r_btw h hb) (fun k hk => ⟨hk, (r_btw h hb).1 k hk⟩)
theorem btw_ne {a b c d k : Nat} (h : Btw a b k) (h' : Btw c d k) (hbc : b ≤ c) : False := by unfold Btw at h h'; omega
theorem r_keep {α : Type} {d : Kd α} {e : Nat} {w w1 : World} {base : Nat} {ok S : Nat → Prop} {v : Value} {xs : List α} (h : Kd.R d e w base ok v xs) (hk : Kept w w1 S) (hne : ∀ k, ok k → S k → False) : Kd.R d e w1 base ok v xs :=
  Kd.R_step h (fun k ho hlt => hk.2 k hlt (fun hS => hne k ho hS))
/-- The cells of an array of numbers. -/
def arrV (n : Nat) (f : Nat → Int) : Array Value := ((List.range n).map (fun i => Value.int .i64 (f i))).toArray
theorem arrV_size (n : Nat) (f : Nat → Int) : (arrV n f).size = n := by simp [arrV]
theorem arrV_get (n : Nat) (f : Nat → Int) (i : Nat) (h : i < n) : (arrV n f)[i]? = some (.int .i64 (f i)) := by simp [arrV, h]
def updI (f : Nat → Int) (p : Nat) (x : Int) : Nat → Int := fun i => if i = p then x else f i
theorem arrV_set (n : Nat) (f : Nat → Int) (p : Nat) (x : Int) : (arrV n f).setIfInBounds p (.int .i64 x) = arrV n (updI f p x) := by
  apply Array.ext_getElem?
  intro i
  by_cases hi : i < n
  · rw [arrV_get _ _ _ hi, Array.getElem?_setIfInBounds]
    by_cases e : p = i
    · subst e; simp [arrV_size, hi, updI]
    · rw [if_neg e, arrV_get _ _ _ hi]; simp [updI, Ne.symm e]
  · rw [Array.getElem?_eq_none (by simp [arrV_size]; omega), Array.getElem?_eq_none (by simp [arrV_size]; omega)]
theorem arrV_congr (n : Nat) (f f' : Nat → Int) (h : ∀ i, i < n → f i = f' i) : arrV n f = arrV n f' := by
  unfold arrV; congr 1; apply List.map_congr_left; intro i hi; rw [h i (List.mem_range.1 hi)]
/-- Block g is an array of n numbers f. -/
structure ArrI (w : World) (g T n : Nat) (f : Nat → Int) : Prop where
  out : w.heap[g]? = some (.cells (arrV n f) T (0, 0))
theorem ArrI.cell {w : World} {g T n : Nat} {f : Nat → Int} (h : ArrI w g T n f) (i : Nat) (hi : i < n) : w.cell? ⟨g, i, none⟩ = some (.int .i64 (f i)) := by
  rw [blk_cell h.out, arrV_get _ _ _ hi]
theorem ArrI.frozen {w : World} {g T n : Nat} {f : Nat → Int} (h : ArrI w g T n f) (i : Nat) : w.frozen? ⟨g, i, none⟩ = false := blk_frozen h.out i
theorem ArrI.below {w w1 : World} {g T n : Nat} {f : Nat → Int} (h : ArrI w g T n f) (hb : Below w.heap.size w w1) : ArrI w1 g T n f := ⟨blk_below h.out hb⟩
theorem ArrI.lt {w : World} {g T n : Nat} {f : Nat → Int} (h : ArrI w g T n f) : g < w.heap.size := blk_lt h.out
theorem ArrI.set {w : World} {g T n : Nat} {f : Nat → Int} (h : ArrI w g T n f) (p : Nat) (x : Int) : ArrI (w.setCell ⟨g, p, none⟩ (.int .i64 x)) g T n (updI f p x) :=
  ⟨by rw [blk_set h.out, arrV_set]⟩
theorem ArrI.congr {w : World} {g T n : Nat} {f f' : Nat → Int} (h : ArrI w g T n f) (hf : ∀ i, i < n → f i = f' i) : ArrI w g T n f' := ⟨by rw [h.out, arrV_congr n f f' hf]⟩
def isZ : Value → Bool
  | .int .i64 (.ofNat 0) => true
  | _ => false
def chkZ : List Value → Nat → Bool
  | [], 0 => true
  | v :: l, n + 1 => isZ v && chkZ l n
  | _, _ => false
theorem chkZ_is : ∀ (l : List Value) (n : Nat), chkZ l n = true → l = (List.range n).map (fun _ => Value.int .i64 0) := by
  intro l
  induction l with
  | nil => intro n h; cases n with
    | zero => rfl
    | succ n => simp [chkZ] at h
  | cons v l ih => intro n h; cases n with
    | zero => simp [chkZ] at h
    | succ n =>
      simp only [chkZ, Bool.and_eq_true] at h
      have hv : v = .int .i64 0 := by
        have h1 := h.1
        unfold isZ at h1
        split at h1
        · rfl
        · cases h1
      rw [hv, ih n h.2, List.range_succ_eq_map, List.map_cons, List.map_map]
      rfl
/-- A type's zero value is an array of n zeros. -/
theorem zero_arr {P : Program} {t n : Nat} (h : (P.info? t).map (fun i => (match i.zero with | some (.agg z) => chkZ z.toList n | _ => false) && i.size == n) = some true) :
    ∃ i, P.info? t = some i ∧ i.zero = some (.agg (arrV n (fun _ => 0))) ∧ i.size = n := by
  obtain ⟨i, hi, hx⟩ := Option.map_eq_some_iff.1 h
  rw [Bool.and_eq_true, beq_iff_eq] at hx
  refine ⟨i, hi, ?_, hx.2⟩
  have h1 := hx.1
  split at h1
  · rename_i z hz
    rw [hz]
    have := chkZ_is _ _ h1
    congr 2
    apply Array.ext'
    rw [this]; simp [arrV]
  · cases h1

/-- How far tests reach, at most just above the greatest reach. -/
def rch : Nat → Nat → Int
  | 0, _ => 0
  | _ + 1, 0 => 0
  | t + 1, e + 1 => min 1000000001 (rch t e + rch t (e + 1) + 1)
theorem rch_range : ∀ t e, 0 ≤ rch t e ∧ rch t e ≤ 1000000001
  | 0, _ => by simp [rch]
  | t + 1, 0 => by simp [rch]
  | t + 1, e + 1 => by
    have h1 := rch_range t e
    have h2 := rch_range t (e + 1)
    simp only [rch]
    omega
theorem rch_mono1 : ∀ t e, rch t e ≤ rch (t + 1) e
  | t, 0 => by cases t <;> simp [rch]
  | 0, e + 1 => by have := rch_range 1 (e + 1); simpa [rch] using this.1
  | t + 1, e + 1 => by
    have h1 := rch_mono1 t e
    have h2 := rch_mono1 t (e + 1)
    rw [rch, rch]
    omega
theorem rch_mono {t t' : Nat} (e : Nat) (h : t ≤ t') : rch t e ≤ rch t' e := by
  induction h with
  | refl => exact Int.le_refl _
  | step _ ih => exact Int.le_trans ih (rch_mono1 _ _)
theorem rch_lin : ∀ (t e : Nat), 1 ≤ e → t ≤ 1000000000 → (t : Int) ≤ rch t e
  | 0, _, _, _ => by simp [rch]
  | t + 1, e + 1, _, ht => by
    have h1 := rch_lin t (e + 1) (by omega) (by omega)
    have h2 := (rch_range t e).1
    simp only [rch]
    omega
/-- The fewest tests, 1000 where even these are too few. -/
def few (e : Nat) (n : Int) : Nat := ((List.range 1000).find? (fun t => decide (n ≤ rch t e))).getD 1000
theorem few_le_iff (e : Nat) (n : Int) (m : Nat) (hm : m < 1000) : few e n ≤ m ↔ n ≤ rch m e := by
  unfold few
  cases hf : (List.range 1000).find? (fun t => decide (n ≤ rch t e)) with
  | none =>
    rw [List.find?_eq_none] at hf
    have := hf m (List.mem_range.2 hm)
    simp at this ⊢
    omega
  | some t =>
    have h1 := List.find?_some hf
    simp only [decide_eq_true_eq] at h1
    simp only [Option.getD_some]
    constructor
    · intro h; exact Int.le_trans h1 (rch_mono e h)
    · intro h
      apply Nat.le_of_not_lt
      intro hlt
      rw [List.find?_range_eq_some] at hf
      have := hf.2.2 m hlt
      simp at this
      omega
theorem few_le (e : Nat) (n : Int) : few e n ≤ 1000 := by
  unfold few
  cases hf : (List.range 1000).find? (fun t => decide (n ≤ rch t e)) with
  | none => simp
  | some t => have := List.mem_of_find?_eq_some hf; simp at this ⊢; omega
theorem few_pos (e : Nat) (n : Int) (h : 1 ≤ n) : 1 ≤ few e n := by
  apply Nat.lt_of_not_le
  intro h0
  have := (few_le_iff e n 0 (by omega)).1 h0
  simp [rch] at this
  omega
/-- The least floor of a first drop. -/
def bestF (e : Nat) (n : Int) : Int := max 1 (n - rch (few e n - 1) e)
theorem rch_one : ∀ t, rch t 1 ≤ t
  | 0 => by simp [rch]
  | t + 1 => by
    have h := rch_one t
    have h0 : rch t 0 = 0 := by cases t <;> rfl
    have h1 : rch t (0 + 1) = rch t 1 := rfl
    simp only [rch, h0, h1]
    omega
theorem bestF_range (e : Nat) (n : Int) (h : 1 ≤ n) : 1 ≤ bestF e n ∧ bestF e n ≤ n := by
  unfold bestF
  have := (rch_range (few e n - 1) e).1
  omega
theorem bestF_one (n : Int) (h : 1 ≤ n) (h2 : n ≤ 1000) : bestF 1 n = 1 := by
  unfold bestF
  have h3 := few_le 1 n
  have h4 := few_pos 1 n h
  have h5 : n ≤ few 1 n := by
    by_cases hf : few 1 n < 1000
    · exact Int.le_trans ((few_le_iff 1 n (few 1 n) hf).1 (Nat.le_refl _)) (rch_one _)
    · omega
  have h6 := rch_lin (few 1 n - 1) 1 (by omega) (by omega)
  omega
/-- A row of the table, of which the upper part is one test on. -/
def rowL (t x e : Nat) : List Int := (List.range (e + 1)).map (fun j => if x < j then rch (t + 1) j else rch t j)
theorem rowL_len (t x e : Nat) : (rowL t x e).length = e + 1 := by simp [rowL]
theorem rowL_rd (t x e j : Nat) (h : j ≤ e) : rd (rowL t x e) (j : Int) = if x < j then rch (t + 1) j else rch t j := by
  simp [rowL, rd, List.getD_eq_getElem?_getD, List.getElem?_map, List.getElem?_range (by omega : j < e + 1)]
theorem rowL_set (t x e : Nat) (h1 : 1 ≤ x) : (rowL t x e).set x (rch (t + 1) x) = rowL t (x - 1) e := by
  apply List.ext_getElem
  · simp [rowL]
  · intro i a b
    simp only [rowL, List.getElem_set, List.getElem_map, List.getElem_range]
    by_cases h : x = i
    · subst h; rw [if_pos rfl, if_pos (by omega)]
    · rw [if_neg h]
      by_cases h' : x < i
      · rw [if_pos h', if_pos (by omega)]
      · rw [if_neg h', if_neg (by omega)]
theorem rowL_zero (t e : Nat) : rowL t 0 e = rowL (t + 1) e e := by
  apply List.ext_getElem
  · simp [rowL]
  · intro i a b
    simp only [rowL, List.getElem_map, List.getElem_range]
    have hi : i < e + 1 := by simpa [rowL] using a
    rw [if_neg (by omega : ¬ e < i)]
    by_cases h : 0 < i
    · rw [if_pos h]
    · obtain rfl : i = 0 := by omega
      rw [if_neg (by omega)]
      cases t <;> rfl
theorem rowL_start (e : Nat) : List.replicate (e + 1) (0 : Int) = rowL 0 e e := by
  apply List.ext_getElem
  · simp [rowL]
  · intro i a b
    simp only [rowL, List.getElem_map, List.getElem_range, List.getElem_replicate]
    have hi : i < e + 1 := by simpa [rowL] using b
    rw [if_neg (by omega : ¬ e < i)]; rfl
theorem few_step (e : Nat) (n : Int) (he : 1 ≤ e) (hn : n ≤ 1000) (t : Nat) (ht : t ≤ few e n) : rch t e < n ↔ t < few e n := by
  have h1 := few_le e n
  by_cases h : t < 1000
  · have := few_le_iff e n t h
    omega
  · obtain rfl : t = 1000 := by omega
    have := rch_lin 1000 e he (by omega)
    omega
def reachArr (p i : Nat) : Int := if i < p then rch (i / 11) (i % 11) else 0
theorem reachArr_start (i : Nat) : reachArr 12 i = 0 := by
  unfold reachArr
  split
  · by_cases h : i < 11
    · rw [show i / 11 = 0 by omega]; rfl
    · rw [show i / 11 = 1 by omega, show i % 11 = 0 by omega]; rfl
  · rfl
theorem reachArr_row (t i : Nat) : reachArr (t * 11 + 11) i = reachArr ((t + 1) * 11 + 1) i := by
  unfold reachArr
  by_cases h : i < t * 11 + 11
  · rw [if_pos h, if_pos (by omega)]
  · rw [if_neg h]
    by_cases e : i = (t + 1) * 11
    · rw [if_pos (by omega), e, show (t + 1) * 11 / 11 = t + 1 by omega, show (t + 1) * 11 % 11 = 0 by omega]; rfl
    · rw [if_neg (by omega)]
theorem reachArr_set (t e i : Nat) (h1 : 1 ≤ t) (h2 : 1 ≤ e) (h3 : e ≤ 10) : updI (reachArr (t * 11 + e)) (t * 11 + e) (min 1000000001 (rch (t - 1) (e - 1) + rch (t - 1) e + 1)) i = reachArr (t * 11 + (e + 1)) i := by
  unfold updI reachArr
  by_cases h : i = t * 11 + e
  · rw [if_pos h, if_pos (by omega), h, show (t * 11 + e) / 11 = t by omega, show (t * 11 + e) % 11 = e by omega]
    obtain ⟨t', rfl⟩ : ∃ t', t = t' + 1 := ⟨t - 1, by omega⟩
    obtain ⟨e', rfl⟩ : ∃ e', e = e' + 1 := ⟨e - 1, by omega⟩
    rfl
  · rw [if_neg h]
    by_cases h' : i < t * 11 + e
    · rw [if_pos h', if_pos (by omega)]
    · rw [if_neg h', if_neg (by omega)]
/-- The table of reaches, in block g. -/
def IsReaches (w : World) (g : Nat) : Prop := ArrI w g 64 11011 (reachArr 11011)
theorem IsReaches.at_ {w : World} {g : Nat} (h : IsReaches w g) (t e : Nat) (ht : t ≤ 1000) (he : e ≤ 10) : w.cell? ⟨g, t * 11 + e, none⟩ = some (.int .i64 (rch t e)) := by
  have := ArrI.cell h (t * 11 + e) (by omega)
  rw [this]; unfold reachArr
  rw [if_pos (by omega), show (t * 11 + e) / 11 = t by omega, show (t * 11 + e) % 11 = e by omega]
theorem IsReaches.below {w w1 : World} {g : Nat} (h : IsReaches w g) (hb : Below w.heap.size w w1) : IsReaches w1 g := ArrI.below h hb
/-! ### laws_big: function 4 -/
def laws_big.f (l0 : List Int) (l1 : List Int) : Option (Bool) := if (l0.length : Int) > 1048576 then (some true) else (some (decide ((l1.length : Int) > (wrap64 (1048576 - (l0.length : Int))))))
set_option maxHeartbeats 8000000 in
set_option maxRecDepth 100000 in
theorem laws_big.calls (A0 : Option Addr) (c0 : Nat) (l0 : List Int) (A1 : Option Addr) (c1 : Nat) (l1 : List Int) (r : Bool) (w : World) (hr0 : Kd.C (Kd.int .u8) w A0 l0.length l0) (hc0 : l0.length ≤ c0) (hr1 : Kd.C (Kd.int .u8) w A1 l1.length l1) (hc1 : l1.length ≤ c1) (h : laws_big.f l0 l1 = some r) :
    Calls Try.prog 4 #[.slice A0 l0.length c0, .slice A1 l1.length c1] w fun e w' => e = .returned (.bool r) ∧ Drawn0 w w' := by
  have HR0 := Aside0.mk hr0
  have HC0 := Aside0.mk hc0
  clear hr0 hc0
  have HR1 := Aside0.mk hr1
  have HC1 := Aside0.mk hc1
  clear hr1 hc1
  have H : (if (l0.length : Int) > 1048576 then (some true) else (some (decide ((l1.length : Int) > (wrap64 (1048576 - (l0.length : Int))))))) = some r := h
  clear h
  by_cases c3 : (l0.length : Int) > 1048576
  · rw [if_pos c3] at H
    have c3b0 : decide (1048576 < (l0.length : Int)) = true := decide_eq_true c3
    have c3b1 : decide (1048576 < l0.length) = true := decide_eq_true (by omega)
    clear c3
    obtain rfl := Option.some.inj H
    go_enter Try.func4, Try.ntmps4
    go_wp2
    go_ret
    exact ⟨by first | rfl | (simp; done) | (simp [*]; done), by repeat (first | exact Drawn0.refl _ | apply Drawn0.step)⟩
  · rw [if_neg c3] at H
    have c3b0 : decide (1048576 < (l0.length : Int)) = false := decide_eq_false c3
    have c3b1 : decide (1048576 < l0.length) = false := decide_eq_false (by omega)
    clear c3
    obtain rfl := Option.some.inj H
    go_enter Try.func4, Try.ntmps4
    go_wp2
    go_ret
    exact ⟨by first | rfl | (simp; done) | (simp [*]; done), by repeat (first | exact Drawn0.refl _ | apply Drawn0.step)⟩

set_option maxHeartbeats 8000000 in
set_option maxRecDepth 100000 in
theorem laws_big.calls0 (A0 : Option Addr) (c0 : Nat) (l0 : List Int) (A1 : Option Addr) (c1 : Nat) (l1 : List Int) (r : Bool) (w : World) (hr0 : Kd.C (Kd.int .u8) w A0 l0.length l0) (hc0 : l0.length ≤ c0) (hr1 : Kd.C (Kd.int .u8) w A1 l1.length l1) (hc1 : l1.length ≤ c1) (h : laws_big.f l0 l1 = some r) :
    Calls Try.prog 4 #[.slice A0 l0.length c0, .slice A1 l1.length c1] w fun e w' => e = .returned (.bool r) ∧ w = w' := by
  have HR0 := Aside0.mk hr0
  have HC0 := Aside0.mk hc0
  clear hr0 hc0
  have HR1 := Aside0.mk hr1
  have HC1 := Aside0.mk hc1
  clear hr1 hc1
  have H : (if (l0.length : Int) > 1048576 then (some true) else (some (decide ((l1.length : Int) > (wrap64 (1048576 - (l0.length : Int))))))) = some r := h
  clear h
  by_cases c3 : (l0.length : Int) > 1048576
  · rw [if_pos c3] at H
    have c3b0 : decide (1048576 < (l0.length : Int)) = true := decide_eq_true c3
    have c3b1 : decide (1048576 < l0.length) = true := decide_eq_true (by omega)
    clear c3
    obtain rfl := Option.some.inj H
    go_enter Try.func4, Try.ntmps4
    go_wp2
    go_ret
    exact ⟨by first | rfl | (simp; done) | (simp [*]; done), by first | rfl | simp⟩
  · rw [if_neg c3] at H
    have c3b0 : decide (1048576 < (l0.length : Int)) = false := decide_eq_false c3
    have c3b1 : decide (1048576 < l0.length) = false := decide_eq_false (by omega)
    clear c3
    obtain rfl := Option.some.inj H
    go_enter Try.func4, Try.ntmps4
    go_wp2
    go_ret
    exact ⟨by first | rfl | (simp; done) | (simp [*]; done), by first | rfl | simp⟩

/-! ### impl_within: function 62 -/
def impl_within.f (a0 : Int) (a1 : Int) (a2 : Int) : Option (Bool) := if a0 ≥ a1 then (some (decide (a0 ≤ a2))) else (some false)
set_option maxHeartbeats 8000000 in
set_option maxRecDepth 100000 in
theorem impl_within.calls (a0 : Int) (a1 : Int) (a2 : Int) (r : Bool) (w : World) (h : impl_within.f a0 a1 a2 = some r) :
    Calls Try.prog 62 #[.int .i64 a0, .int .i64 a1, .int .i64 a2] w fun e w' => e = .returned (.bool r) ∧ Drawn0 w w' := by
  have H : (if a0 ≥ a1 then (some (decide (a0 ≤ a2))) else (some false)) = some r := h
  clear h
  by_cases c4 : a0 ≥ a1
  · rw [if_pos c4] at H
    have c4b0 : decide (a1 ≤ a0) = true := decide_eq_true c4
    clear c4
    obtain rfl := Option.some.inj H
    go_enter Try.func62, Try.ntmps62
    go_wp2
    go_ret
    exact ⟨by first | rfl | (simp; done) | (simp [*]; done), by repeat (first | exact Drawn0.refl _ | apply Drawn0.step)⟩
  · rw [if_neg c4] at H
    have c4b0 : decide (a1 ≤ a0) = false := decide_eq_false c4
    clear c4
    obtain rfl := Option.some.inj H
    go_enter Try.func62, Try.ntmps62
    go_wp2
    go_ret
    exact ⟨by first | rfl | (simp; done) | (simp [*]; done), by repeat (first | exact Drawn0.refl _ | apply Drawn0.step)⟩

set_option maxHeartbeats 8000000 in
set_option maxRecDepth 100000 in
theorem impl_within.calls0 (a0 : Int) (a1 : Int) (a2 : Int) (r : Bool) (w : World) (h : impl_within.f a0 a1 a2 = some r) :
    Calls Try.prog 62 #[.int .i64 a0, .int .i64 a1, .int .i64 a2] w fun e w' => e = .returned (.bool r) ∧ w = w' := by
  have H : (if a0 ≥ a1 then (some (decide (a0 ≤ a2))) else (some false)) = some r := h
  clear h
  by_cases c4 : a0 ≥ a1
  · rw [if_pos c4] at H
    have c4b0 : decide (a1 ≤ a0) = true := decide_eq_true c4
    clear c4
    obtain rfl := Option.some.inj H
    go_enter Try.func62, Try.ntmps62
    go_wp2
    go_ret
    exact ⟨by first | rfl | (simp; done) | (simp [*]; done), by first | rfl | simp⟩
  · rw [if_neg c4] at H
    have c4b0 : decide (a1 ≤ a0) = false := decide_eq_false c4
    clear c4
    obtain rfl := Option.some.inj H
    go_enter Try.func62, Try.ntmps62
    go_wp2
    go_ret
    exact ⟨by first | rfl | (simp; done) | (simp [*]; done), by first | rfl | simp⟩

/-! behind impl_within -/
theorem impl_within_is (a lo hi : Int) : impl_within.f a lo hi = some (decide (lo ≤ a) && decide (a ≤ hi)) := by
  unfold impl_within.f
  by_cases h : a ≥ lo
  · rw [if_pos h, decide_eq_true (by omega : lo ≤ a)]; rfl
  · rw [if_neg h, decide_eq_false (by omega : ¬ lo ≤ a)]; rfl

/-! ### impl_isEggs: function 49 -/
def impl_isEggs.f (a0 : Int) : Option (Bool) := (impl_within.f a0 1 10).bind fun t127 => (some t127)
set_option maxHeartbeats 8000000 in
set_option maxRecDepth 100000 in
theorem impl_isEggs.calls (a0 : Int) (r : Bool) (w : World) (h : impl_isEggs.f a0 = some r) :
    Calls Try.prog 49 #[.int .i64 a0] w fun e w' => e = .returned (.bool r) ∧ Drawn0 w w' := by
  have H : ((impl_within.f a0 1 10).bind fun t127 => (some t127)) = some r := h
  clear h
  replace H := Option.bind_eq_some_iff.mp H
  obtain ⟨t127, A20, H⟩ := H
  replace H : (some t127) = some r := H
  have A2 := Aside0.mk A20
  clear A20
  obtain rfl := Option.some.inj H
  go_enter Try.func49, Try.ntmps49
  go_wp2_with (first | ((with_reducible refine gate_callee (f := 62) rfl ?_); refine goesL_ (some 4) rfl rfl Try.func62 (by kernel_rfl) rfl #[.int .i64 a0, .int .i64 1, .int .i64 10] rfl (by (try simp only [List.map_toArray, List.map_cons, List.map_nil]); first | done | rfl | (simp only [List.length_drop, List.length_take]; rfl)) ?_; (with_reducible refine (impl_within.calls0 a0 1 10 t127 _ A2.out).mono ?_); rintro e w' ⟨rfl, rfl⟩; refine ⟨_, rfl, ?_⟩))
  go_ret
  exact ⟨by first | rfl | (simp; done) | (simp [*]; done), by repeat (first | exact Drawn0.refl _ | apply Drawn0.step)⟩

set_option maxHeartbeats 8000000 in
set_option maxRecDepth 100000 in
theorem impl_isEggs.calls0 (a0 : Int) (r : Bool) (w : World) (h : impl_isEggs.f a0 = some r) :
    Calls Try.prog 49 #[.int .i64 a0] w fun e w' => e = .returned (.bool r) ∧ w = w' := by
  have H : ((impl_within.f a0 1 10).bind fun t127 => (some t127)) = some r := h
  clear h
  replace H := Option.bind_eq_some_iff.mp H
  obtain ⟨t127, A20, H⟩ := H
  replace H : (some t127) = some r := H
  have A2 := Aside0.mk A20
  clear A20
  obtain rfl := Option.some.inj H
  go_enter Try.func49, Try.ntmps49
  go_wp2_with (first | ((with_reducible refine gate_callee (f := 62) rfl ?_); refine goesL_ (some 4) rfl rfl Try.func62 (by kernel_rfl) rfl #[.int .i64 a0, .int .i64 1, .int .i64 10] rfl (by (try simp only [List.map_toArray, List.map_cons, List.map_nil]); first | done | rfl | (simp only [List.length_drop, List.length_take]; rfl)) ?_; (with_reducible refine (impl_within.calls0 a0 1 10 t127 _ A2.out).mono ?_); rintro e w' ⟨rfl, rfl⟩; refine ⟨_, rfl, ?_⟩))
  go_ret
  exact ⟨by first | rfl | (simp; done) | (simp [*]; done), by first | rfl | simp⟩

/-! behind impl_isEggs -/
theorem impl_isEggs_is (a : Int) : impl_isEggs.f a = some (decide (1 ≤ a) && decide (a ≤ 10)) := by unfold impl_isEggs.f; rw [impl_within_is]; rfl

/-! ### impl_isFloors: function 55 -/
def impl_isFloors.f (a0 : Int) : Option (Bool) := (impl_within.f a0 0 1000).bind fun t128 => (some t128)
set_option maxHeartbeats 8000000 in
set_option maxRecDepth 100000 in
theorem impl_isFloors.calls (a0 : Int) (r : Bool) (w : World) (h : impl_isFloors.f a0 = some r) :
    Calls Try.prog 55 #[.int .i64 a0] w fun e w' => e = .returned (.bool r) ∧ Drawn0 w w' := by
  have H : ((impl_within.f a0 0 1000).bind fun t128 => (some t128)) = some r := h
  clear h
  replace H := Option.bind_eq_some_iff.mp H
  obtain ⟨t128, A20, H⟩ := H
  replace H : (some t128) = some r := H
  have A2 := Aside0.mk A20
  clear A20
  obtain rfl := Option.some.inj H
  go_enter Try.func55, Try.ntmps55
  go_wp2_with (first | ((with_reducible refine gate_callee (f := 62) rfl ?_); refine goesL_ (some 4) rfl rfl Try.func62 (by kernel_rfl) rfl #[.int .i64 a0, .int .i64 0, .int .i64 1000] rfl (by (try simp only [List.map_toArray, List.map_cons, List.map_nil]); first | done | rfl | (simp only [List.length_drop, List.length_take]; rfl)) ?_; (with_reducible refine (impl_within.calls0 a0 0 1000 t128 _ A2.out).mono ?_); rintro e w' ⟨rfl, rfl⟩; refine ⟨_, rfl, ?_⟩))
  go_ret
  exact ⟨by first | rfl | (simp; done) | (simp [*]; done), by repeat (first | exact Drawn0.refl _ | apply Drawn0.step)⟩

set_option maxHeartbeats 8000000 in
set_option maxRecDepth 100000 in
theorem impl_isFloors.calls0 (a0 : Int) (r : Bool) (w : World) (h : impl_isFloors.f a0 = some r) :
    Calls Try.prog 55 #[.int .i64 a0] w fun e w' => e = .returned (.bool r) ∧ w = w' := by
  have H : ((impl_within.f a0 0 1000).bind fun t128 => (some t128)) = some r := h
  clear h
  replace H := Option.bind_eq_some_iff.mp H
  obtain ⟨t128, A20, H⟩ := H
  replace H : (some t128) = some r := H
  have A2 := Aside0.mk A20
  clear A20
  obtain rfl := Option.some.inj H
  go_enter Try.func55, Try.ntmps55
  go_wp2_with (first | ((with_reducible refine gate_callee (f := 62) rfl ?_); refine goesL_ (some 4) rfl rfl Try.func62 (by kernel_rfl) rfl #[.int .i64 a0, .int .i64 0, .int .i64 1000] rfl (by (try simp only [List.map_toArray, List.map_cons, List.map_nil]); first | done | rfl | (simp only [List.length_drop, List.length_take]; rfl)) ?_; (with_reducible refine (impl_within.calls0 a0 0 1000 t128 _ A2.out).mono ?_); rintro e w' ⟨rfl, rfl⟩; refine ⟨_, rfl, ?_⟩))
  go_ret
  exact ⟨by first | rfl | (simp; done) | (simp [*]; done), by first | rfl | simp⟩

/-! behind impl_isFloors -/
theorem impl_isFloors_is (a : Int) : impl_isFloors.f a = some (decide (0 ≤ a) && decide (a ≤ 1000)) := by unfold impl_isFloors.f; rw [impl_within_is]; rfl

end Go.Proofs.Ytfelkkonjbhkjaa.PrintA
