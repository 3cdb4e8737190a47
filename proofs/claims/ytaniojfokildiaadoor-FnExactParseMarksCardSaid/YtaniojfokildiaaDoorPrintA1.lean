-- written by this session's own driver (wip/gen.py) with the kit's print and contracts of our own
import Derived.Test.YtaniojfokildiaaDoorPrintA0
namespace Go.Proofs.YtaniojfokildiaaDoor.PrintA
open Go.RowKit Go.Proofs.YtaniojfokildiaaDoorLib Go.Proofs.YtaniojfokildiaaDoorW.PrintWords Go.Proofs.YtaniojfokildiaaDoorW.PrintLast Go.Proofs.YtaniojfokildiaaDoorW.PrintMore
attribute [local go_sem] max2_int min2_int max_two min_two max_three min_three max_four min_four   -- for this text's walks alone
set_option linter.unusedVariables false
set_option linter.unusedSimpArgs false

/-- What is asked of a function value that is handed on: at every x, in every later world, it says p x, and leaves all that lay as it was. -/
def Tells {α : Type} (g : Nat) (lb : Array Value) (enc : α → Value) (p : α → Bool) (w : World) : Prop :=
  ∀ (W : World) (x : α), Below w.heap.size w W → Calls Tryd.prog g (#[enc x] ++ lb) W fun e w' => e = .returned (.bool (p x)) ∧ Below w.heap.size w w'
/-- The index of the first element of which p holds, or -1. -/
def idxOf {α : Type} (p : α → Bool) (l : List α) : Int := match l.findIdx? p with
  | some i => (i : Int)
  | none => -1
theorem idxOf_hit {α : Type} (p : α → Bool) (l : List α) (d : α) (k : Nat) (hk : k < l.length) (h : p (l.getD k d) = true) (hb : ∀ j, j < k → p (l.getD j d) = false) : idxOf p l = (k : Int) := by
  have : l.findIdx? p = some k := by
    rw [List.findIdx?_eq_some_iff_getElem]
    refine ⟨hk, ?_, fun j hj => ?_⟩
    · rw [List.getD_eq_getElem?_getD, List.getElem?_eq_getElem hk] at h; exact h
    · have := hb j hj
      rw [List.getD_eq_getElem?_getD, List.getElem?_eq_getElem (by omega)] at this; simpa using this
  simp [idxOf, this]
theorem idxOf_miss {α : Type} (p : α → Bool) (l : List α) (d : α) (hb : ∀ j, j < l.length → p (l.getD j d) = false) : idxOf p l = -1 := by
  have : l.findIdx? p = none := by
    rw [List.findIdx?_eq_none_iff]
    intro x hx
    obtain ⟨j, hj, rfl⟩ := List.getElem_of_mem hx
    have := hb j hj
    rw [List.getD_eq_getElem?_getD, List.getElem?_eq_getElem hj] at this; simpa using this
  simp [idxOf, this]
theorem idxOf_any {α : Type} (p : α → Bool) (l : List α) : decide (0 ≤ idxOf p l) = l.any p := by
  unfold idxOf
  cases h : l.findIdx? p with
  | none =>
    rw [List.findIdx?_eq_none_iff] at h
    have : l.any p = false := by rw [List.any_eq_false]; intro x hx; simp [h x hx]
    rw [this]; rfl
  | some i =>
    rw [List.findIdx?_eq_some_iff_getElem] at h
    obtain ⟨hi, h1, _⟩ := h
    have : l.any p = true := List.any_eq_true.2 ⟨_, List.getElem_mem hi, h1⟩
    rw [this]; simp
/-- A number lies outside of bounds. -/
def outIn (lo hi x : Int) : Bool := !(decide (lo ≤ x) && decide (x ≤ hi))
theorem outIn_all (lo hi : Int) (l : List Int) : (!(l.any (outIn lo hi))) = l.all (fun x => decide (lo ≤ x) && decide (x ≤ hi)) := by
  unfold outIn; rw [List.all_eq_not_any_not]
/-- A call of a function value, as an arm of the walk. -/
theorem goesV_ {P : Program} {ops : Array Oper} {Q : Exit → Act → World → Prop} {rest : List Oper} {oi : Oper} {a : Act} {w : World} (N : Option Tmp) (hd : oi.dst = N) (hg : oi.guard = none) {g : FuncId} {fb lb : Array Value}
    (eg : ∀ args w, (callFunc g args).run P w = .ok (.enter g args) w) (args : Array Value) {t : Tmp} {os_ : Array Operand} {ts_ : Array TypeId}
    (hop : oi.op = .call { callee := .value (.tmp t), args := os_, argTypes := ts_ }) (hv : a.eval (.tmp t) = .func (.func g) fb lb) (hargs : os_.map a.eval = args)
    (h : Calls P g (fb ++ args ++ lb) w fun e w' => ∃ v, e = .returned v ∧ wpList P ops Q rest (a.put N v) w') : wpList P ops Q (oi :: rest) a w := by
  refine wpList_plain hg fun K hK => ?_
  have hrun : (execOp a.eval oi).run P w = .ok (.enter g (fb ++ args ++ lb)) w := by
    unfold execOp
    simp [hop, resolve, Deferred.ofValue, invoke, hv, hargs, eg]
  unfold Oper.wp
  rw [hrun, Oper.upon_enter]
  refine h.mono fun e w'' hh => ?_
  obtain ⟨v, rfl, hk⟩ := hh
  subst hd
  exact hK _ _ hk
def Btw (a b k : Nat) : Prop := a ≤ k ∧ k < b
theorem r_btw {α : Type} {d : Kd α} {e : Nat} {w1 : World} {base b0 : Nat} {ok : Nat → Prop} {v : Value} {xs : List α} (h : Kd.R d e w1 base ok v xs) (hb : b0 ≤ base) : Kd.R d e w1 b0 (Btw base w1.heap.size) v xs :=
  Kd.R_lower (Kd.R_mono (Kd.R_bound h) (fun _ hk => ⟨hk.2.1, hk.2.2.1⟩)) hb
theorem r_int_ok {k : IntKind} {e : Nat} {w1 : World} {b0 : Nat} {ok ok' : Nat → Prop} {v : Value} {xs : List Int} (h : Kd.R (Kd.int k) e w1 b0 ok v xs) (hp : ∀ k, v.ownBlock = some k → ok' k) : Kd.R (Kd.int k) e w1 b0 ok' v xs :=
  ⟨hp, h.2.imp_ (fun _ _ hm => hm)⟩
theorem r_own {k : IntKind} {e : Nat} {w1 : World} {base b0 : Nat} {ok : Nat → Prop} {v : Value} {xs : List Int} (h : Kd.R (Kd.int k) e w1 base ok v xs) (hb : b0 ≤ base) : Kd.R (Kd.int k) e w1 b0 (fun k => v.ownBlock = some k ∧ Btw base w1.heap.size k) v xs :=
  r_int_ok (r_btw h hb) (fun k hk => ⟨hk, (r_btw h hb).1 k hk⟩)
theorem btw_ne {a b c d k : Nat} (h : Btw a b k) (h' : Btw c d k) (hbc : b ≤ c) : False := by unfold Btw at h h'; omega
theorem r_keep {α : Type} {d : Kd α} {e : Nat} {w w1 : World} {base : Nat} {ok S : Nat → Prop} {v : Value} {xs : List α} (h : Kd.R d e w base ok v xs) (hk : Kept w w1 S) (hne : ∀ k, ok k → S k → False) : Kd.R d e w1 base ok v xs :=
  Kd.R_step h (fun k ho hlt => hk.2 k hlt (fun hS => hne k ho hS))
/-- The cells of an array of numbers. -/
def arrV (n : Nat) (f : Nat → Int) : Array Value := ((List.range n).map (fun i => Value.int .i64 (f i))).toArray
theorem arrV_size (n : Nat) (f : Nat → Int) : (arrV n f).size = n := by simp [arrV]
theorem arrV_get (n : Nat) (f : Nat → Int) (i : Nat) (h : i < n) : (arrV n f)[i]? = some (.int .i64 (f i)) := by simp [arrV, h]
def updI (f : Nat → Int) (p : Nat) (x : Int) : Nat → Int := fun i => if i = p then x else f i
theorem arrV_set (n : Nat) (f : Nat → Int) (p : Nat) (x : Int) : (arrV n f).setIfInBounds p (.int .i64 x) = arrV n (updI f p x) := by
  apply Array.ext_getElem?
  intro i
  by_cases hi : i < n
  · rw [arrV_get _ _ _ hi, Array.getElem?_setIfInBounds]
    by_cases e : p = i
    · subst e; simp [arrV_size, hi, updI]
    · rw [if_neg e, arrV_get _ _ _ hi]; simp [updI, Ne.symm e]
  · rw [Array.getElem?_eq_none (by simp [arrV_size]; omega), Array.getElem?_eq_none (by simp [arrV_size]; omega)]
theorem arrV_congr (n : Nat) (f f' : Nat → Int) (h : ∀ i, i < n → f i = f' i) : arrV n f = arrV n f' := by
  unfold arrV; congr 1; apply List.map_congr_left; intro i hi; rw [h i (List.mem_range.1 hi)]
/-- Block g is an array of n numbers f. -/
structure ArrI (w : World) (g T n : Nat) (f : Nat → Int) : Prop where
  out : w.heap[g]? = some (.cells (arrV n f) T (0, 0))
theorem ArrI.cell {w : World} {g T n : Nat} {f : Nat → Int} (h : ArrI w g T n f) (i : Nat) (hi : i < n) : w.cell? ⟨g, i, none⟩ = some (.int .i64 (f i)) := by
  rw [blk_cell h.out, arrV_get _ _ _ hi]
theorem ArrI.frozen {w : World} {g T n : Nat} {f : Nat → Int} (h : ArrI w g T n f) (i : Nat) : w.frozen? ⟨g, i, none⟩ = false := blk_frozen h.out i
theorem ArrI.below {w w1 : World} {g T n : Nat} {f : Nat → Int} (h : ArrI w g T n f) (hb : Below w.heap.size w w1) : ArrI w1 g T n f := ⟨blk_below h.out hb⟩
theorem ArrI.lt {w : World} {g T n : Nat} {f : Nat → Int} (h : ArrI w g T n f) : g < w.heap.size := blk_lt h.out
theorem ArrI.set {w : World} {g T n : Nat} {f : Nat → Int} (h : ArrI w g T n f) (p : Nat) (x : Int) : ArrI (w.setCell ⟨g, p, none⟩ (.int .i64 x)) g T n (updI f p x) :=
  ⟨by rw [blk_set h.out, arrV_set]⟩
theorem ArrI.congr {w : World} {g T n : Nat} {f f' : Nat → Int} (h : ArrI w g T n f) (hf : ∀ i, i < n → f i = f' i) : ArrI w g T n f' := ⟨by rw [h.out, arrV_congr n f f' hf]⟩
def isZ : Value → Bool
  | .int .i64 (.ofNat 0) => true
  | _ => false
def chkZ : List Value → Nat → Bool
  | [], 0 => true
  | v :: l, n + 1 => isZ v && chkZ l n
  | _, _ => false
theorem chkZ_is : ∀ (l : List Value) (n : Nat), chkZ l n = true → l = (List.range n).map (fun _ => Value.int .i64 0) := by
  intro l
  induction l with
  | nil => intro n h; cases n with
    | zero => rfl
    | succ n => simp [chkZ] at h
  | cons v l ih => intro n h; cases n with
    | zero => simp [chkZ] at h
    | succ n =>
      simp only [chkZ, Bool.and_eq_true] at h
      have hv : v = .int .i64 0 := by
        have h1 := h.1
        unfold isZ at h1
        split at h1
        · rfl
        · cases h1
      rw [hv, ih n h.2, List.range_succ_eq_map, List.map_cons, List.map_map]
      rfl
/-- A type's zero value is an array of n zeros. -/
theorem zero_arr {P : Program} {t n : Nat} (h : (P.info? t).map (fun i => (match i.zero with | some (.agg z) => chkZ z.toList n | _ => false) && i.size == n) = some true) :
    ∃ i, P.info? t = some i ∧ i.zero = some (.agg (arrV n (fun _ => 0))) ∧ i.size = n := by
  obtain ⟨i, hi, hx⟩ := Option.map_eq_some_iff.1 h
  rw [Bool.and_eq_true, beq_iff_eq] at hx
  refine ⟨i, hi, ?_, hx.2⟩
  have h1 := hx.1
  split at h1
  · rename_i z hz
    rw [hz]
    have := chkZ_is _ _ h1
    congr 2
    apply Array.ext'
    rw [this]; simp [arrV]
  · cases h1

/-! ### spec_l1In: function 38 -/
def spec_l1In.f (a0 : Int) (a1 : Int) (a2 : Int) : Option (Bool) := if a0 ≥ a1 then (some (decide (a0 ≤ a2))) else (some false)
set_option maxHeartbeats 8000000 in
set_option maxRecDepth 100000 in
theorem spec_l1In.calls (a0 : Int) (a1 : Int) (a2 : Int) (r : Bool) (w : World) (h : spec_l1In.f a0 a1 a2 = some r) :
    Calls Tryd.prog 38 #[.int .i64 a0, .int .i64 a1, .int .i64 a2] w fun e w' => e = .returned (.bool r) ∧ Drawn0 w w' := by
  have H : (if a0 ≥ a1 then (some (decide (a0 ≤ a2))) else (some false)) = some r := h
  clear h
  by_cases c4 : a0 ≥ a1
  · rw [if_pos c4] at H
    have c4b0 : decide (a1 ≤ a0) = true := decide_eq_true c4
    clear c4
    obtain rfl := Option.some.inj H
    go_enter Tryd.func38, Tryd.ntmps38
    go_wp2
    go_ret
    exact ⟨by first | rfl | (simp; done) | (simp [*]; done), by repeat (first | exact Drawn0.refl _ | apply Drawn0.step)⟩
  · rw [if_neg c4] at H
    have c4b0 : decide (a1 ≤ a0) = false := decide_eq_false c4
    clear c4
    obtain rfl := Option.some.inj H
    go_enter Tryd.func38, Tryd.ntmps38
    go_wp2
    go_ret
    exact ⟨by first | rfl | (simp; done) | (simp [*]; done), by repeat (first | exact Drawn0.refl _ | apply Drawn0.step)⟩

set_option maxHeartbeats 8000000 in
set_option maxRecDepth 100000 in
theorem spec_l1In.calls0 (a0 : Int) (a1 : Int) (a2 : Int) (r : Bool) (w : World) (h : spec_l1In.f a0 a1 a2 = some r) :
    Calls Tryd.prog 38 #[.int .i64 a0, .int .i64 a1, .int .i64 a2] w fun e w' => e = .returned (.bool r) ∧ w = w' := by
  have H : (if a0 ≥ a1 then (some (decide (a0 ≤ a2))) else (some false)) = some r := h
  clear h
  by_cases c4 : a0 ≥ a1
  · rw [if_pos c4] at H
    have c4b0 : decide (a1 ≤ a0) = true := decide_eq_true c4
    clear c4
    obtain rfl := Option.some.inj H
    go_enter Tryd.func38, Tryd.ntmps38
    go_wp2
    go_ret
    exact ⟨by first | rfl | (simp; done) | (simp [*]; done), by first | rfl | simp⟩
  · rw [if_neg c4] at H
    have c4b0 : decide (a1 ≤ a0) = false := decide_eq_false c4
    clear c4
    obtain rfl := Option.some.inj H
    go_enter Tryd.func38, Tryd.ntmps38
    go_wp2
    go_ret
    exact ⟨by first | rfl | (simp; done) | (simp [*]; done), by first | rfl | simp⟩

/-! behind spec_l1In -/
theorem spec_l1In_is (a lo hi : Int) : spec_l1In.f a lo hi = some (decide (lo ≤ a) && decide (a ≤ hi)) := by
  unfold spec_l1In.f
  by_cases h : a ≥ lo
  · rw [if_pos h, decide_eq_true (by omega : lo ≤ a)]; rfl
  · rw [if_neg h, decide_eq_false (by omega : ¬ lo ≤ a)]; rfl

/-! ### spec_stFloors: function 34 -/
def spec_stFloors.f (a0 : Int) : Option (Bool) := (spec_l1In.f a0 0 100).bind fun t101 => (some t101)
set_option maxHeartbeats 8000000 in
set_option maxRecDepth 100000 in
theorem spec_stFloors.calls (a0 : Int) (r : Bool) (w : World) (h : spec_stFloors.f a0 = some r) :
    Calls Tryd.prog 34 #[.int .i64 a0] w fun e w' => e = .returned (.bool r) ∧ Drawn0 w w' := by
  have H : ((spec_l1In.f a0 0 100).bind fun t101 => (some t101)) = some r := h
  clear h
  replace H := Option.bind_eq_some_iff.mp H
  obtain ⟨t101, A20, H⟩ := H
  replace H : (some t101) = some r := H
  have A2 := Aside0.mk A20
  clear A20
  obtain rfl := Option.some.inj H
  go_enter Tryd.func34, Tryd.ntmps34
  go_wp2_with (first | ((with_reducible refine gate_callee (f := 38) rfl ?_); refine goesL_ (some 4) rfl rfl Tryd.func38 (by kernel_rfl) rfl #[.int .i64 a0, .int .i64 0, .int .i64 100] rfl (by (try simp only [List.map_toArray, List.map_cons, List.map_nil]); first | done | rfl | (simp only [List.length_drop, List.length_take]; rfl)) ?_; (with_reducible refine (spec_l1In.calls0 a0 0 100 t101 _ A2.out).mono ?_); rintro e w' ⟨rfl, rfl⟩; refine ⟨_, rfl, ?_⟩))
  go_ret
  exact ⟨by first | rfl | (simp; done) | (simp [*]; done), by repeat (first | exact Drawn0.refl _ | apply Drawn0.step)⟩

set_option maxHeartbeats 8000000 in
set_option maxRecDepth 100000 in
theorem spec_stFloors.calls0 (a0 : Int) (r : Bool) (w : World) (h : spec_stFloors.f a0 = some r) :
    Calls Tryd.prog 34 #[.int .i64 a0] w fun e w' => e = .returned (.bool r) ∧ w = w' := by
  have H : ((spec_l1In.f a0 0 100).bind fun t101 => (some t101)) = some r := h
  clear h
  replace H := Option.bind_eq_some_iff.mp H
  obtain ⟨t101, A20, H⟩ := H
  replace H : (some t101) = some r := H
  have A2 := Aside0.mk A20
  clear A20
  obtain rfl := Option.some.inj H
  go_enter Tryd.func34, Tryd.ntmps34
  go_wp2_with (first | ((with_reducible refine gate_callee (f := 38) rfl ?_); refine goesL_ (some 4) rfl rfl Tryd.func38 (by kernel_rfl) rfl #[.int .i64 a0, .int .i64 0, .int .i64 100] rfl (by (try simp only [List.map_toArray, List.map_cons, List.map_nil]); first | done | rfl | (simp only [List.length_drop, List.length_take]; rfl)) ?_; (with_reducible refine (spec_l1In.calls0 a0 0 100 t101 _ A2.out).mono ?_); rintro e w' ⟨rfl, rfl⟩; refine ⟨_, rfl, ?_⟩))
  go_ret
  exact ⟨by first | rfl | (simp; done) | (simp [*]; done), by first | rfl | simp⟩

end Go.Proofs.YtaniojfokildiaaDoor.PrintA
