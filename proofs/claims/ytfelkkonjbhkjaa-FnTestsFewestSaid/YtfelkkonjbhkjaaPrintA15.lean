-- written by this session's own driver (wip/gen.py) with the kit's print and contracts of our own
import Derived.Test.YtfelkkonjbhkjaaPrintA0
import Derived.Test.YtfelkkonjbhkjaaPrintA1
import Derived.Test.YtfelkkonjbhkjaaPrintA2
import Derived.Test.YtfelkkonjbhkjaaPrintA7
import Derived.Test.YtfelkkonjbhkjaaPrintA8
import Derived.Test.YtfelkkonjbhkjaaPrintA9
import Derived.Test.YtfelkkonjbhkjaaPrintA10
import Derived.Test.YtfelkkonjbhkjaaPrintA11
import Derived.Test.YtfelkkonjbhkjaaPrintA12
import Derived.Test.YtfelkkonjbhkjaaPrintA13
import Derived.Test.YtfelkkonjbhkjaaPrintA14
namespace Go.Proofs.Ytfelkkonjbhkjaa.PrintA
open Go.RowKit Go.Proofs.YtfelkkonjbhkjaaLib Go.Proofs.YtfelkkonjbhkjaaW.PrintWords Go.Proofs.YtfelkkonjbhkjaaW.PrintLast Go.Proofs.YtfelkkonjbhkjaaW.PrintMore
attribute [local go_sem] max2_int min2_int max_two min_two max_three min_three max_four min_four   -- for this text's walks alone
set_option linter.unusedVariables false
set_option linter.unusedSimpArgs false

/-! behind impl_LeftOpen -/
-- LIB Play
/-- The drops of a plan for a break. -/
def dsP (e n : Nat) (b : Nat) : List S61 := playF bestF (b : Int) n e n 0 []
theorem dsP_len (e n b : Nat) : (dsP e n b).length ≤ n := by
  have := playF_len bestF (b : Int) n e n 0 []
  simpa [dsP] using this
theorem playN_ds (e n b : Nat) : playN e n (b : Int) = ((dsP e n b).length : Int) := by
  unfold playN dsP
  rw [Int.toNat_natCast]
theorem isPlay_yes (e n b : Nat) (h1 : 1 ≤ e) (h2 : e ≤ 10) (h3 : n ≤ 1000) (hb : b ≤ n) : impl_isPlay.f (e : Int) (n : Int) (b : Int) = some true := by
  rw [impl_isPlay_is, decide_eq_true (by omega), decide_eq_true (by omega), decide_eq_true (by omega), decide_eq_true (by omega), decide_eq_true (by omega), decide_eq_true (by omega)]; rfl
theorem pd_i (e n b : Nat) (h1 : 1 ≤ e) (h2 : e ≤ 10) (h3 : n ≤ 1000) (hb : b ≤ n) : impl_PlayDrops.f (e : Int) (n : Int) (b : Int) = some (dsP e n b, true) := by
  unfold impl_PlayDrops.f dsP
  rw [isPlay_yes e n b h1 h2 h3 hb, Option.bind_some, if_pos rfl, Int.toNat_natCast, Int.toNat_natCast]
theorem cd_i (e n b : Nat) (h1 : 1 ≤ e) (h2 : e ≤ 10) (h3 : n ≤ 1000) (hb : b ≤ n) : impl_CountDrops.f (e : Int) (n : Int) (b : Int) = some (((dsP e n b).length : Int), true) := by
  unfold impl_CountDrops.f
  rw [pd_i e n b h1 h2 h3 hb]; rfl
theorem be_i (e n b : Nat) (h1 : 1 ≤ e) (h2 : e ≤ 10) (h3 : n ≤ 1000) (hb : b ≤ n) : impl_BrokenEggs.f 3000 (e : Int) (n : Int) (b : Int) = some ((cntE (dsP e n b) : Int), true) := by
  have hl := dsP_len e n b
  unfold impl_BrokenEggs.f
  have hc := cBroken_is (dsP e n b) (by omega) 3000 (by omega)
  rw [pd_i e n b h1 h2 h3 hb, Option.bind_some]
  show (impl_countBroken.f 3000 (dsP e n b)).bind _ = _
  rw [hc]; rfl
theorem lo_i (e n b : Nat) (h1 : 1 ≤ e) (h2 : e ≤ 10) (h3 : n ≤ 1000) (hb : b ≤ n) : impl_LeftOpen.f 3000 (n : Int) (dsP e n b) = some ((b : Int), (b : Int), true) := by
  have hl := dsP_len e n b
  have hin : ∀ d ∈ dsP e n b, 0 + 1 ≤ d.f0 ∧ d.f0 ≤ 0 + (n : Int) := play_in (b : Int) n e n 0 (by omega)
  have ho := play_open (b : Int) n e n 0 (by omega) (by omega) (by omega) (by omega)
  rw [Int.zero_add] at ho
  unfold impl_LeftOpen.f impl_AreDrops.f
  have hall : (dsP e n b).all (fun d => decide (1 ≤ d.f0) && decide (d.f0 ≤ (n : Int))) = true := by
    rw [List.all_eq_true]
    intro d hd
    have := hin d hd
    rw [decide_eq_true (by omega), decide_eq_true (by omega)]; rfl
  rw [if_pos (by omega), hall, decide_eq_true (by omega), decide_eq_true (by omega), decide_eq_true (by omega), Option.bind_some, if_pos (show (true && true && true && true) = true from rfl)]
  rw [open_is2 (n : Int) (dsP e n b) (fun d hd => by have := hin d hd; omega) (by omega) 3000 (by omega), Option.bind_some]
  rw [show (dsP e n b).foldl opStep (0, (n : Int)) = ((b : Int), (b : Int)) from ho, if_neg (by omega)]
theorem lhas_of (x : List Int) (q : Int) (hx : x.length ≤ 2000) (b : Bool) (hb : b = decide (q ∈ x)) : LHas x x.length q b := fun W A c h1 h2 => (laws_eHas.calls 3000 A c x q b W h2 h1 (by rw [hb]; exact eHas_is x q (by omega) 3000 (by omega))).mono fun _ _ h => ⟨h.1, h.2.below⟩
theorem lrises_of (x : List Int) (hx : x.length ≤ 2000) (hp : x.Pairwise (· < ·)) : LRises x x.length := fun W A c h1 h2 => (laws_eRises.calls 3000 A c x true W h2 h1 (eRises_is x (by omega) hp 3000 (by omega))).mono fun _ _ h => ⟨h.1, h.2.below⟩
theorem few_at (e n : Nat) (h1 : 1 ≤ e) (h2 : e ≤ 10) (h3 : n ≤ 1000) (a m : Int) (ha : a = e) (hm : m = n) : LN2 8 a m (few e (n : Int) : Int) true := fun W => by
  subst ha hm
  refine impl_FewestTests.calls (e : Int) (n : Int) _ _ W ?_
  have hh : isH (e : Int) (n : Int) = true := by unfold isH; rw [decide_eq_true (by omega), decide_eq_true (by omega), decide_eq_true (by omega), decide_eq_true (by omega)]; rfl
  rw [few_i, hh, if_pos rfl, Int.toNat_natCast]
theorem mk_LP (e n : Nat) (h1 : 1 ≤ e) (h2 : e ≤ 10) (h3 : n ≤ 1000) : LP e n (fltG (playN e n) (mxN (playN e n) (n + 1)) (n + 1)) (fltG (playN e n) (mxN (playN e n) (n + 1)) (n + 1)).length (goodL e n) (goodL e n).length (few e (n : Int) : Int) (if (n : Int) ≠ 0 then bestF e n else 0) (decide (0 < (n : Int))) (dsP e n) (fun b => (dsP e n b).length) (fun b => (cntE (dsP e n b) : Int)) (mx0 (playN e n)) (fun f => (few e ((n - f : Nat) : Int) : Int)) (fun f => ((if 1 < e then few (e - 1) ((f - 1 : Nat) : Int) else 0 : Nat) : Int)) := by
  have hg0 : ∀ i : Nat, i < n + 1 → 0 ≤ playN e n (i : Int) := fun i _ => by rw [playN_ds]; omega
  have hlg : (goodL e n).length ≤ 2000 := by have := goodP_len (goodB e (few e n) n) n; unfold goodL; omega
  have hlh : (fltG (playN e n) (mxN (playN e n) (n + 1)) (n + 1)).length ≤ 2000 := by have := fltG_len (playN e n) (mxN (playN e n) (n + 1)) (n + 1); omega
  refine { cd := ?_, pd := ?_, be := ?_, lo := ?_, eb := ?_, dlf := ?_, bre := ?_, mx0 := rfl, mxs := ?_, eh := ?_, r1 := ?_, r2 := ?_, nh1 := ?_, ng1 := ?_, fwn := ?_, fw1 := ?_, fa := ?_, fb := ?_, bl0 := ?_, eg := ?_ }
  · intro b hb
    exact fun W => impl_CountDrops.calls e n b _ _ W (cd_i e n b h1 h2 h3 hb)
  · intro b hb
    exact fun W => (impl_PlayDrops.calls e n b _ _ W (pd_i e n b h1 h2 h3 hb)).mono fun _ _ ⟨v0, he, hr, hb⟩ => by
      obtain ⟨A1, c1, rfl, q1, q2⟩ := Kd.R_reads hr
      exact ⟨A1, c1, he, q1, q2, hb⟩
  · intro b hb
    exact fun W => impl_BrokenEggs.calls 3000 e n b _ _ W (be_i e n b h1 h2 h3 hb)
  · intro b hb
    exact fun W A c q1 q2 => impl_LeftOpen.calls 3000 n A c (dsP e n b) _ _ _ W q2 q1 (lo_i e n b h1 h2 h3 hb)
  · intro b hb
    have hl := dsP_len e n b
    exact fun W A c q1 q2 => laws_eBroken.calls 3000 A c (dsP e n b) _ W q2 q1 (eBroken_is _ (by omega) 3000 (by omega))
  · intro b hb
    have hp := play_few n e n b h1 (by omega) (by omega)
    have := playN_plN e n b
    rw [playN_ds] at this
    show ((dsP e n b).length : Int) ≤ _
    omega
  · intro b hb
    have hp := play_brk (b : Int) n e n 0 h1 (by omega) (by omega)
    show (cntE (dsP e n b) : Int) ≤ _
    unfold dsP
    omega
  · intro b hb
    show mx0 (playN e n) (b + 1) = max (mx0 (playN e n) b) ((dsP e n b).length : Int)
    rw [mx0, playN_ds]
  · intro b hb
    refine lhas_of _ _ hlh _ ?_
    have hm := fltG_mem (playN e n) (mxN (playN e n) (n + 1)) (n + 1) b (by omega)
    rw [mx0_is (playN e n) (n + 1) (by omega) hg0, Bool.eq_iff_iff, beq_iff_eq, decide_eq_true_eq, hm, playN_ds]
  · exact lrises_of _ hlh (fltG_rises _ _ _)
  · exact lrises_of _ hlg (goodP_rises _ _)
  · obtain ⟨i, hi, he⟩ := mxN_att (playN e n) (n + 1) (by omega) hg0
    have hm := (fltG_mem (playN e n) (mxN (playN e n) (n + 1)) (n + 1) i hi).2 he
    exact List.length_pos_of_mem hm
  · intro h
    rw [decide_eq_true_eq] at h
    obtain ⟨g1, g2⟩ := goodL_best e n h1 h2 (by omega) h3
    exact ⟨by omega, by rw [g2, if_pos (by omega)]⟩
  · have := few_floors e n h1 h3; omega
  · intro h; have := few_pos e (n : Int) (by omega); omega
  · intro f hf1 hf2
    exact few_at e (n - f) h1 h2 (by omega) _ _ rfl (by omega)
  · intro he f hf1 hf2
    have := few_at (e - 1) (f - 1) (by omega) (by omega) (by omega) ((e : Int) - 1) ((f : Int) - 1) (by omega) (by omega)
    show LN2 _ _ _ ((if 1 < e then few (e - 1) ((f - 1 : Nat) : Int) else 0 : Nat) : Int) true
    rw [if_pos (by omega)]
    exact this
  · intro he f
    show ((if 1 < e then few (e - 1) ((f - 1 : Nat) : Int) else 0 : Nat) : Int) = 0
    rw [if_neg (by omega)]; rfl
  · intro f hf1 hf2
    refine lhas_of _ _ hlg _ ?_
    have hb := goodB_iff e n f h1 hf1 hf2 h3
    have hm := goodP_mem (goodB e (few e n) n) n (f : Int)
    show (decide (1 < e ∨ f = 1) && decide ((few e ((n - f : Nat) : Int) : Int) < (few e (n : Int) : Int)) && decide (((if 1 < e then few (e - 1) ((f - 1 : Nat) : Int) else 0 : Nat) : Int) < (few e (n : Int) : Int))) = _
    have e1 : decide ((few e ((n - f : Nat) : Int) : Int) < (few e (n : Int) : Int)) = decide (few e ((n - f : Nat) : Int) < few e (n : Int)) := by rw [decide_eq_decide]; omega
    have e2 : decide (((if 1 < e then few (e - 1) ((f - 1 : Nat) : Int) else 0 : Nat) : Int) < (few e (n : Int) : Int)) = decide ((if 1 < e then few (e - 1) ((f - 1 : Nat) : Int) else 0) < few e (n : Int)) := by rw [decide_eq_decide]; omega
    rw [e1, e2, ← hb, Bool.eq_iff_iff, decide_eq_true_eq]
    unfold goodL
    rw [hm]
    constructor
    · intro h; exact ⟨by omega, by omega, h⟩
    · intro h; exact h.2.2
theorem mk_LS {more : List Int} {e t f u g h : Int} (d1 : LDraw 22 more more.length e t) (d2 : LDraw 25 more more.length f u) (d3 : LDraw 28 more more.length g h) :
    ∃ reach seven least nine q eleven, LS more more.length e t f u g h reach seven least nine q eleven := by
  obtain ⟨r, b, r1, r2, r3⟩ := reachOf_both e t
  obtain ⟨l, c, l1, l2, l3⟩ := fewestEggs_both f u
  refine ⟨r, b, l, c, if isH g h = true then (few g.toNat h : Int) else 0, isH g h, { d1 := d1, r1 := fun W => impl_ReachOf.calls e t _ _ W r1, r2 := fun W => spec_ReachOf.calls 40000 e t _ _ W r2, d2 := d2, f1 := fun W => impl_FewestEggs.calls f u _ _ W l1, f2 := fun W => spec_FewestEggs.calls 40000 f u _ _ W l2, d3 := d3, t1 := fun W => impl_FewestTests.calls g h _ _ W few_i, t2 := fun W => spec_FewestTests.calls 40000 g h _ _ W few_s, sev := ?_, nin := ?_, elv := ?_ }⟩
  · intro hb
    obtain ⟨en, tn, q1, q2, q3, q4, q5, q6, q7⟩ := r3 hb
    exact ⟨en, tn, q1, q2, q4, q5, q6, q7⟩
  · intro hc
    obtain ⟨q, fn, tn, q1, q2, q3, q4, q5, q6, q7, q8, q9⟩ := l3 hc
    subst q1 q2 q3
    refine ⟨by omega, by omega, ⟨(few q (fn : Int) : Int), few_at q fn q4 q5 q6 _ _ rfl rfl, by omega⟩, fun hq => ?_⟩
    have := q9 (by omega)
    exact ⟨(few (q - 1) (fn : Int) : Int), few_at (q - 1) fn (by omega) (by omega) q6 _ _ (by omega) rfl, by omega⟩
  · intro hh
    obtain ⟨e, m, rfl, rfl, h1, h2, h3⟩ := isH_nat hh
    rw [if_pos hh, Int.toNat_natCast]
    have hle := few_le e (m : Int)
    refine ⟨by omega, by omega, fun p hp hp0 => ?_⟩
    obtain ⟨x, x1, x2⟩ := reach_few e m h1 h2 h3 p.toNat (by omega)
    rw [Int.toNat_of_nonneg hp0] at x1
    refine ⟨x, fun W => impl_ReachOf.calls _ _ _ _ W x1, ?_⟩
    rw [decide_eq_decide] at x2
    rw [x2]
    omega

/-! ### spec_DrawReachOf: function 22, a contract of our own -/
set_option maxHeartbeats 4000000 in
theorem draw_reachOf (code : List Int) (hl : ∀ x ∈ code, 0 ≤ x ∧ x ≤ 255) : ∃ a b : Int, ∀ W A c, code.length ≤ c → Kd.C (Kd.int .u8) W A code.length code → Calls Try.prog 22 #[.slice A code.length c] W fun e w' => e = .returned (.tuple #[.int .i64 a, .int .i64 b]) ∧ Below W.heap.size W w' := by
  have hu := Try.underlying44
  obtain ⟨v1, i1, s1, e1, _, _⟩ := eggs_ok code hl 0 0 (by omega) (by omega)
  obtain ⟨q, hq⟩ : ∃ q : List Int, q = [0, 1, 2, 3, 4, 5, 8, 12, 30, 1000, 1001, (-1)] := ⟨_, rfl⟩
  have NQ := Aside0.mk hq
  obtain ⟨v2, i2, s2, e2, _, _⟩ := among_ok code hl i1 s1 (by omega) (by omega) q (by rw [hq]; decide)
  clear hq
  have HV1 := Aside0.mk e1
  have HV2 := Aside0.mk e2
  clear e1 e2
  refine ⟨v1, v2, fun W A c h1 h2 => ?_⟩
  have HC := Aside0.mk h2
  have HB := Aside0.mk (Below.refl W.heap.size W)
  clear h1 h2
  go_enter Try.func22, Try.ntmps22
  go_wp2_with (first
    | ((with_reducible refine gate_dst (N := 7) rfl ?_); refine box_event ?hg (N := 7) ?hd (cs := #[.slice A code.length c, .int .i64 0, .int .u64 0]) (t := 44) ?hr ?_; (case hd => rfl); (case hg => rfl); (case hr => first | (go_simp; done) | (go_simp; rfl)); intro gb hg w5 hbox hb; have HI : Aside0 (IsS44 W w5 gb code 0 0) := ⟨⟨A, c, hbox, by rw [hg]; exact HB.out.size, HC.out⟩⟩; have n0_ := Aside0.mk (below_step HB.out hb); clear HB hb hbox hg; have HB := n0_; clear n0_)
    | (go_at_call 29; with_reducible refine (spec_l1Cur_eggs.calls gb code 0 0 _ _ _ W _ HI.out HB.out HV1.out).mono ?_; rintro e w1_ ⟨rfl, hI, hb, hk⟩; clear HI HB HV1; have HI := Aside0.mk hI; have HB := Aside0.mk hb; clear hI hb hk)
    | ((with_reducible refine gate_dst (N := 11) rfl ?_); refine Kd.R_lit (Kd.int .i64) _ 3 ?hg (N := 11) ?hd (xs := ([0, 1, 2, 3, 4, 5, 8, 12, 30, 1000, 1001, (-1)] : List Int)) (inner := [.int .i64 0, .int .i64 1, .int .i64 2, .int .i64 3, .int .i64 4, .int .i64 5, .int .i64 8, .int .i64 12, .int .i64 30, .int .i64 1000, .int .i64 1001, .int .i64 (-1)]) (ok := fun _ => True) (okp := fun _ => True) ?hr ?hp (fun _ hk => hk) trivial (Below.refl _ _) (Nat.le_refl _) (by simp) ?_; (case hd => rfl); (case hg => rfl); (case hr => first | (go_simp; done) | (go_simp; rfl)); (case hp => exact (Reps.one (show Kd.M (Kd.int .i64) _ _ _ 0 [.int .i64 0] from rfl) (Reps.one (show Kd.M (Kd.int .i64) _ _ _ 1 [.int .i64 1] from rfl) (Reps.one (show Kd.M (Kd.int .i64) _ _ _ 2 [.int .i64 2] from rfl) (Reps.one (show Kd.M (Kd.int .i64) _ _ _ 3 [.int .i64 3] from rfl) (Reps.one (show Kd.M (Kd.int .i64) _ _ _ 4 [.int .i64 4] from rfl) (Reps.one (show Kd.M (Kd.int .i64) _ _ _ 5 [.int .i64 5] from rfl) (Reps.one (show Kd.M (Kd.int .i64) _ _ _ 8 [.int .i64 8] from rfl) (Reps.one (show Kd.M (Kd.int .i64) _ _ _ 12 [.int .i64 12] from rfl) (Reps.one (show Kd.M (Kd.int .i64) _ _ _ 30 [.int .i64 30] from rfl) (Reps.one (show Kd.M (Kd.int .i64) _ _ _ 1000 [.int .i64 1000] from rfl) (Reps.one (show Kd.M (Kd.int .i64) _ _ _ 1001 [.int .i64 1001] from rfl) (Reps.one (show Kd.M (Kd.int .i64) _ _ _ (-1) [.int .i64 (-1)] from rfl) (Reps.none _ _)))))))))))))); intro vl wl ho hb hg_ hnew_; clear hg_ hnew_; rw [← NQ.out] at ho; have HO := Aside0.mk ho; have n1_ := Aside0.mk (IsS44.below HI.out hb); have n2_ := Aside0.mk (below_step HB.out hb); clear HI HB ho hb; have HI := n1_; have HB := n2_; clear n1_ n2_; obtain ⟨Ao, co, eo⟩ := Kd.R_slice HO.out; subst eo)
    | (go_at_call 31; refine (spec_l1Cur_among.calls gb code i1 s1 Ao co q _ _ _ W _ HI.out HB.out (Kd.R_reads' HO.out).2.2 (Kd.R_reads' HO.out).2.1 (far_slice (IsS44.own_ne HI.out HO.out (by decide))) HV2.out).mono ?_; rintro e w2_ ⟨rfl, hI, hb, hk⟩; clear HI HB; have HI := Aside0.mk hI; have HB := Aside0.mk hb; clear hI hb hk))
  go_ret2
  exact ⟨rfl, HB.out⟩

/-! ### spec_l1Cur_floors: function 54 -/
def spec_l1Cur_floors.f (s0_0 : List Int) (s0_1 : Int) (s0_2 : Int) : Option (Int × Int × Int) := (spec_l1Cur_one.f s0_0 s0_1 s0_2 12).bind fun bt228 => (if bt228.1 = true then ((spec_l1Cur_among.f s0_0 bt228.2.1 bt228.2.2 (([0, (-1), 100, 1001, 4611686018427387904] : List Int))).bind fun bt234 => (some (bt234.1, bt234.2.1, bt234.2.2))) else ((spec_l1Cur_pick.f s0_0 bt228.2.1 bt228.2.2 20).bind fun bt237 => (some (bt237.1, bt237.2.1, bt237.2.2))))
set_option maxHeartbeats 8000000 in
set_option maxRecDepth 100000 in
theorem spec_l1Cur_floors.calls (g : Nat) (s0_0 : List Int) (s0_1 : Int) (s0_2 : Int) (r1 : Int) (r2 : Int) (r3 : Int) (w0 w : World) (hI : IsS44 w0 w g s0_0 s0_1 s0_2) (hB : Below w0.heap.size w0 w) (h : spec_l1Cur_floors.f s0_0 s0_1 s0_2 = some (r1, r2, r3)) :
    Calls Try.prog 54 #[.pointer (some ⟨g, 0, none⟩)] w fun e w' => e = .returned (.int .i64 r1) ∧ IsS44 w0 w' g s0_0 r2 r3 ∧ Below w0.heap.size w0 w' ∧ KeepBut w w' g none := by
  have HI0 := Aside0.mk hI
  have HK := Aside0.mk (KeepBut.refl w g none)
  have HL := Aside0.mk hB.size
  clear hI
  have HW0 := Aside0.mk hB.size
  have HB := Aside0.mk hB
  clear hB
  have H : ((spec_l1Cur_one.f s0_0 s0_1 s0_2 12).bind fun bt228 => (if bt228.1 = true then ((spec_l1Cur_among.f s0_0 bt228.2.1 bt228.2.2 (([0, (-1), 100, 1001, 4611686018427387904] : List Int))).bind fun bt234 => (some (bt234.1, bt234.2.1, bt234.2.2))) else ((spec_l1Cur_pick.f s0_0 bt228.2.1 bt228.2.2 20).bind fun bt237 => (some (bt237.1, bt237.2.1, bt237.2.2))))) = some (r1, r2, r3) := h
  clear h
  replace H := Option.bind_eq_some_iff.mp H
  obtain ⟨⟨t228, t229, t230⟩, A20, H⟩ := H
  replace H : (if t228 = true then ((spec_l1Cur_among.f s0_0 t229 t230 (([0, (-1), 100, 1001, 4611686018427387904] : List Int))).bind fun bt234 => (some (bt234.1, bt234.2.1, bt234.2.2))) else ((spec_l1Cur_pick.f s0_0 t229 t230 20).bind fun bt237 => (some (bt237.1, bt237.2.1, bt237.2.2)))) = some (r1, r2, r3) := H
  have A2 := Aside0.mk A20
  clear A20
  by_cases c3 : t228 = true
  · subst c3
    have H1 : ((spec_l1Cur_among.f s0_0 t229 t230 (([0, (-1), 100, 1001, 4611686018427387904] : List Int))).bind fun bt234 => (some (bt234.1, bt234.2.1, bt234.2.2))) = some (r1, r2, r3) := by rw [if_pos rfl] at H; exact H
    clear H
    have H := H1
    clear H1
    obtain ⟨y231, hy231⟩ : ∃ y_ : List Int, y_ = (([0, (-1), 100, 1001, 4611686018427387904] : List Int)) := ⟨_, rfl⟩
    replace H : ((spec_l1Cur_among.f s0_0 t229 t230 y231).bind fun bt234 => (some (bt234.1, bt234.2.1, bt234.2.2))) = some (r1, r2, r3) := by first | (rw [hy231]; with_reducible exact H) | (have H2_ := (Option.bind_some _ _).symm.trans H; rw [hy231]; with_reducible exact H2_) | (have H2_ := (Option.bind_some _ _).symm.trans H; with_reducible exact H2_) | with_reducible exact H | (rw [hy231]; exact H) | exact H
    have Ny231 := Aside0.mk hy231
    clear hy231
    replace H := Option.bind_eq_some_iff.mp H
    obtain ⟨⟨t234, t235, t236⟩, A40, H⟩ := H
    replace H : (some (t234, t235, t236)) = some (r1, r2, r3) := H
    have A4 := Aside0.mk A40
    clear A40
    simp only [Option.some.injEq, Prod.mk.injEq] at H
    obtain ⟨rfl, rfl, rfl⟩ := H
    go_enter Try.func54, Try.ntmps54
    go_wp2_with (first | ((with_reducible refine gate_callee (f := 30) rfl ?_); refine goesL_ (some 4) rfl rfl Try.func30 (by kernel_rfl) rfl #[.pointer (some ⟨g, 0, none⟩), .int .i64 12] rfl (by (try simp only [List.map_toArray, List.map_cons, List.map_nil]); first | done | rfl | (simp only [List.length_drop, List.length_take]; rfl)) ?_; (with_reducible refine (spec_l1Cur_one.calls g s0_0 s0_1 s0_2 12 true t229 t230 w0 _ ?side1 ?side2 A2.out).mono ?_); (case side1 => repeat (first | (with_reducible first | exact HI0.out | apply IsS44.alloc | apply IsS44.drewN | apply IsS44.drew | apply IsS44.set_1 | apply IsS44.set_2) | exact HI0.out)); (case side2 => repeat (first | (with_reducible first | exact HB.out | apply below_alloc | apply pw_below_drewN | apply below_drew1 | refine below_set ?_ (IsS44.ge HI0.out)) | exact HB.out)); rintro e w5 ⟨rfl, hi, hb, hk⟩; refine ⟨_, rfl, ?_⟩; have n0_ := Aside0.mk (KeepBut.trans (by repeat (first | (with_reducible first | exact HK.out | apply KeepBut.set_ | apply keep_drewN | apply keep_drew | apply keep_alloc) | exact HK.out)) hk (.inl rfl)); have n1_ := Aside0.mk (hb); have n2_ := Aside0.mk (hi); clear HK; clear HB; clear HI0; have HK := n0_; have HB := n1_; have HI0 := n2_; clear n0_ n1_ n2_; (try clear hb); (try clear hb2); (try clear hk); (try clear hi)) | ((with_reducible refine gate_dst (N := 6) rfl ?_); refine Kd.R_lit (Kd.int .i64) _ 3 ?hg (N := 6) ?hd (xs := ([0, (-1), 100, 1001, 4611686018427387904] : List Int)) (inner := [.int .i64 0, .int .i64 (-1), .int .i64 100, .int .i64 1001, .int .i64 4611686018427387904]) (ok := fun _ => True) (okp := fun _ => True) ?hr ?hp (fun _ hk => hk) trivial (Below.refl _ _) (Nat.le_refl _) (by simp) ?_; (case hd => rfl); (case hg => rfl); (case hr => first | (go_simp; done) | (go_simp; rfl)); (case hp => exact (Reps.one (show Kd.M (Kd.int .i64) _ _ _ 0 [.int .i64 0] from rfl) (Reps.one (show Kd.M (Kd.int .i64) _ _ _ (-1) [.int .i64 (-1)] from rfl) (Reps.one (show Kd.M (Kd.int .i64) _ _ _ 100 [.int .i64 100] from rfl) (Reps.one (show Kd.M (Kd.int .i64) _ _ _ 1001 [.int .i64 1001] from rfl) (Reps.one (show Kd.M (Kd.int .i64) _ _ _ 4611686018427387904 [.int .i64 4611686018427387904] from rfl) (Reps.none _ _))))))); intro v232 w6 ho7 hb hg_ hnew_; clear hg_ hnew_; (first | rw [← Ny231.out] at ho7 | (simp only [Int.reduceToNat] at ho7; rw [← Ny231.out] at ho7)); have n0_ := Aside0.mk (Kd.R_lower ho7 (keep_size (w := w) (g := g) (row := none) (by repeat (first | (with_reducible first | exact HK.out | apply KeepBut.set_ | apply keep_drewN | apply keep_drew | apply keep_alloc) | exact HK.out)))); have n1_ := Aside0.mk (IsS44.below (by repeat (first | (with_reducible first | exact HI0.out | apply IsS44.alloc | apply IsS44.drewN | apply IsS44.drew | apply IsS44.set_1 | apply IsS44.set_2) | exact HI0.out)) hb); have n2_ := Aside0.mk (KeepBut.trans (by repeat (first | (with_reducible first | exact HK.out | apply KeepBut.set_ | apply keep_drewN | apply keep_drew | apply keep_alloc) | exact HK.out)) (KeepBut.of_below hb g none) (.inl rfl)); have n3_ := Aside0.mk (below_step (by repeat (first | (with_reducible first | exact HB.out | apply below_alloc | apply pw_below_drewN | apply below_drew1 | refine below_set ?_ (IsS44.ge HI0.out)) | exact HB.out)) hb); clear HI0; clear HK; clear HB; have HO233 := n0_; have HI0 := n1_; have HK := n2_; have HB := n3_; clear n0_ n1_ n2_ n3_; clear hb ho7; obtain ⟨Ao8, co8, eo8⟩ := Kd.R_slice HO233.out; subst eo8) | ((with_reducible refine gate_callee (f := 31) rfl ?_); refine goesL_ (some 7) rfl rfl Try.func31 (by kernel_rfl) rfl #[.pointer (some ⟨g, 0, none⟩), .slice Ao8 y231.length co8] rfl (by (try simp only [List.map_toArray, List.map_cons, List.map_nil]); first | done | rfl | (simp only [List.length_drop, List.length_take]; rfl)) ?_; (with_reducible refine (spec_l1Cur_among.calls g s0_0 t229 t230 _ _ y231 t234 t235 t236 w0 _ ?side1 ?side2 ?side3 ?side4 ?side5 A4.out).mono ?_); (case side1 => repeat (first | (with_reducible first | exact HI0.out | apply IsS44.alloc | apply IsS44.drewN | apply IsS44.drew | apply IsS44.set_1 | apply IsS44.set_2) | exact HI0.out)); (case side2 => repeat (first | (with_reducible first | exact HB.out | apply below_alloc | apply pw_below_drewN | apply below_drew1 | refine below_set ?_ (IsS44.ge HI0.out)) | exact HB.out)); (case side3 => repeat (first | exact (Kd.R_reads' HO233.out).2.2 | (with_reducible refine Kd.C_alloc ?_ _) | (with_reducible refine Kd.C_drewN ?_ _) | (with_reducible refine Kd.C_drew ?_))); (case side4 => exact (Kd.R_reads' HO233.out).2.1); (case side5 => exact far_slice (IsS44.own_ne HI0.out HO233.out (by decide))); rintro e w9 ⟨rfl, hi, hb, hk⟩; refine ⟨_, rfl, ?_⟩; have n0_ := Aside0.mk (Kd.R_mono (Kd.R_keep (IsS44.apart (show IsS44 w0 _ g s0_0 t229 t230 from by repeat (first | (with_reducible first | exact HI0.out | apply IsS44.alloc | apply IsS44.drewN | apply IsS44.drew | apply IsS44.set_1 | apply IsS44.set_2) | exact HI0.out)) (by (with_reducible repeat (first | apply Kd.R_alloc | apply Kd.R_drewN | apply Kd.R_drew)); exact HO233.out) (by decide)) hk (fun _ h => h.2)) (fun _ h => h.1)); have n1_ := Aside0.mk (KeepBut.trans (by repeat (first | (with_reducible first | exact HK.out | apply KeepBut.set_ | apply keep_drewN | apply keep_drew | apply keep_alloc) | exact HK.out)) hk (.inl rfl)); have n2_ := Aside0.mk (hb); have n3_ := Aside0.mk (hi); clear HO233; clear HK; clear HB; clear HI0; have HO233 := n0_; have HK := n1_; have HB := n2_; have HI0 := n3_; clear n0_ n1_ n2_ n3_; (try clear hb); (try clear hb2); (try clear hk); (try clear hi)))
    go_ret
    exact ⟨by first | rfl | (simp [errW_none, errW_some] <;> rfl) | (simp [*, errW_none, errW_some] <;> rfl), by repeat (first | (with_reducible first | exact HI0.out | apply IsS44.alloc | apply IsS44.drewN | apply IsS44.drew | apply IsS44.set_1 | apply IsS44.set_2) | exact HI0.out), by repeat (first | (with_reducible first | exact HB.out | apply below_alloc | apply pw_below_drewN | apply below_drew1 | refine below_set ?_ (IsS44.ge HI0.out)) | exact HB.out), by repeat (first | (with_reducible first | exact HK.out | apply KeepBut.set_ | apply keep_drewN | apply keep_drew | apply keep_alloc) | exact HK.out)⟩
  · replace c3 := Bool.eq_false_iff.mpr c3
    subst c3
    have H1 : ((spec_l1Cur_pick.f s0_0 t229 t230 20).bind fun bt237 => (some (bt237.1, bt237.2.1, bt237.2.2))) = some (r1, r2, r3) := by rw [if_neg (show ¬ (false = true) by decide)] at H; exact H
    clear H
    have H := H1
    clear H1
    replace H := Option.bind_eq_some_iff.mp H
    obtain ⟨⟨t237, t238, t239⟩, A100, H⟩ := H
    replace H : (some (t237, t238, t239)) = some (r1, r2, r3) := H
    have A10 := Aside0.mk A100
    clear A100
    simp only [Option.some.injEq, Prod.mk.injEq] at H
    obtain ⟨rfl, rfl, rfl⟩ := H
    go_enter Try.func54, Try.ntmps54
    go_wp2_with (first | ((with_reducible refine gate_callee (f := 30) rfl ?_); refine goesL_ (some 4) rfl rfl Try.func30 (by kernel_rfl) rfl #[.pointer (some ⟨g, 0, none⟩), .int .i64 12] rfl (by (try simp only [List.map_toArray, List.map_cons, List.map_nil]); first | done | rfl | (simp only [List.length_drop, List.length_take]; rfl)) ?_; (with_reducible refine (spec_l1Cur_one.calls g s0_0 s0_1 s0_2 12 false t229 t230 w0 _ ?side1 ?side2 A2.out).mono ?_); (case side1 => repeat (first | (with_reducible first | exact HI0.out | apply IsS44.alloc | apply IsS44.drewN | apply IsS44.drew | apply IsS44.set_1 | apply IsS44.set_2) | exact HI0.out)); (case side2 => repeat (first | (with_reducible first | exact HB.out | apply below_alloc | apply pw_below_drewN | apply below_drew1 | refine below_set ?_ (IsS44.ge HI0.out)) | exact HB.out)); rintro e w11 ⟨rfl, hi, hb, hk⟩; refine ⟨_, rfl, ?_⟩; have n0_ := Aside0.mk (KeepBut.trans (by repeat (first | (with_reducible first | exact HK.out | apply KeepBut.set_ | apply keep_drewN | apply keep_drew | apply keep_alloc) | exact HK.out)) hk (.inl rfl)); have n1_ := Aside0.mk (hb); have n2_ := Aside0.mk (hi); clear HK; clear HB; clear HI0; have HK := n0_; have HB := n1_; have HI0 := n2_; clear n0_ n1_ n2_; (try clear hb); (try clear hb2); (try clear hk); (try clear hi)) | ((with_reducible refine gate_callee (f := 32) rfl ?_); refine goesL_ (some 9) rfl rfl Try.func32 (by kernel_rfl) rfl #[.pointer (some ⟨g, 0, none⟩), .int .i64 20] rfl (by (try simp only [List.map_toArray, List.map_cons, List.map_nil]); first | done | rfl | (simp only [List.length_drop, List.length_take]; rfl)) ?_; (with_reducible refine (spec_l1Cur_pick.calls g s0_0 t229 t230 20 t237 t238 t239 w0 _ ?side1 ?side2 A10.out).mono ?_); (case side1 => repeat (first | (with_reducible first | exact HI0.out | apply IsS44.alloc | apply IsS44.drewN | apply IsS44.drew | apply IsS44.set_1 | apply IsS44.set_2) | exact HI0.out)); (case side2 => repeat (first | (with_reducible first | exact HB.out | apply below_alloc | apply pw_below_drewN | apply below_drew1 | refine below_set ?_ (IsS44.ge HI0.out)) | exact HB.out)); rintro e w12 ⟨rfl, hi, hb, hk⟩; refine ⟨_, rfl, ?_⟩; have n0_ := Aside0.mk (KeepBut.trans (by repeat (first | (with_reducible first | exact HK.out | apply KeepBut.set_ | apply keep_drewN | apply keep_drew | apply keep_alloc) | exact HK.out)) hk (.inl rfl)); have n1_ := Aside0.mk (hb); have n2_ := Aside0.mk (hi); clear HK; clear HB; clear HI0; have HK := n0_; have HB := n1_; have HI0 := n2_; clear n0_ n1_ n2_; (try clear hb); (try clear hb2); (try clear hk); (try clear hi)))
    go_ret
    exact ⟨by first | rfl | (simp [errW_none, errW_some] <;> rfl) | (simp [*, errW_none, errW_some] <;> rfl), by repeat (first | (with_reducible first | exact HI0.out | apply IsS44.alloc | apply IsS44.drewN | apply IsS44.drew | apply IsS44.set_1 | apply IsS44.set_2) | exact HI0.out), by repeat (first | (with_reducible first | exact HB.out | apply below_alloc | apply pw_below_drewN | apply below_drew1 | refine below_set ?_ (IsS44.ge HI0.out)) | exact HB.out), by repeat (first | (with_reducible first | exact HK.out | apply KeepBut.set_ | apply keep_drewN | apply keep_drew | apply keep_alloc) | exact HK.out)⟩

/-! behind spec_l1Cur_floors -/
theorem floors_ok (l : List Int) (hl : ∀ x ∈ l, 0 ≤ x ∧ x ≤ 255) (i s : Int) (h0 : 0 ≤ i) (h1 : i ≤ 3800000000000000000) : ∃ x i' s', spec_l1Cur_floors.f l i s = some (x, i', s') ∧ i ≤ i' ∧ i' ≤ i + 4 := by
  obtain ⟨b, i1, s1, e1, a1, b1⟩ := one_ok l hl i s 12 h0 (by omega)
  unfold spec_l1Cur_floors.f
  rw [e1, Option.bind_some]
  dsimp only
  by_cases h : b = true
  · rw [if_pos h]
    obtain ⟨x, i2, s2, e2, a2, b2⟩ := among_ok l hl i1 s1 (by omega) (by omega) [0, (-1), 100, 1001, 4611686018427387904] (by decide)
    rw [e2, Option.bind_some]
    exact ⟨x, i2, s2, rfl, by omega, by omega⟩
  · rw [if_neg h]
    obtain ⟨x, i2, s2, e2, _, _, _, a2, b2⟩ := pick_ok l hl i1 s1 20 (by omega) (by omega)
    rw [e2, Option.bind_some]
    exact ⟨x, i2, s2, rfl, by omega, by omega⟩

/-! ### spec_DrawFewestEggs: function 25, a contract of our own -/
set_option maxHeartbeats 4000000 in
theorem draw_fewestEggs (code : List Int) (hl : ∀ x ∈ code, 0 ≤ x ∧ x ≤ 255) : ∃ a b : Int, ∀ W A c, code.length ≤ c → Kd.C (Kd.int .u8) W A code.length code → Calls Try.prog 25 #[.slice A code.length c] W fun e w' => e = .returned (.tuple #[.int .i64 a, .int .i64 b]) ∧ Below W.heap.size W w' := by
  have hu := Try.underlying44
  obtain ⟨v1, i1, s1, e1, _, _⟩ := floors_ok code hl 0 0 (by omega) (by omega)
  obtain ⟨q, hq⟩ : ∃ q : List Int, q = [0, 1, 2, 3, 4, 5, 8, 12, 1000, 1001, (-1)] := ⟨_, rfl⟩
  have NQ := Aside0.mk hq
  obtain ⟨v2, i2, s2, e2, _, _⟩ := among_ok code hl i1 s1 (by omega) (by omega) q (by rw [hq]; decide)
  clear hq
  have HV1 := Aside0.mk e1
  have HV2 := Aside0.mk e2
  clear e1 e2
  refine ⟨v1, v2, fun W A c h1 h2 => ?_⟩
  have HC := Aside0.mk h2
  have HB := Aside0.mk (Below.refl W.heap.size W)
  clear h1 h2
  go_enter Try.func25, Try.ntmps25
  go_wp2_with (first
    | ((with_reducible refine gate_dst (N := 7) rfl ?_); refine box_event ?hg (N := 7) ?hd (cs := #[.slice A code.length c, .int .i64 0, .int .u64 0]) (t := 44) ?hr ?_; (case hd => rfl); (case hg => rfl); (case hr => first | (go_simp; done) | (go_simp; rfl)); intro gb hg w5 hbox hb; have HI : Aside0 (IsS44 W w5 gb code 0 0) := ⟨⟨A, c, hbox, by rw [hg]; exact HB.out.size, HC.out⟩⟩; have n0_ := Aside0.mk (below_step HB.out hb); clear HB hb hbox hg; have HB := n0_; clear n0_)
    | (go_at_call 54; with_reducible refine (spec_l1Cur_floors.calls gb code 0 0 _ _ _ W _ HI.out HB.out HV1.out).mono ?_; rintro e w1_ ⟨rfl, hI, hb, hk⟩; clear HI HB HV1; have HI := Aside0.mk hI; have HB := Aside0.mk hb; clear hI hb hk)
    | ((with_reducible refine gate_dst (N := 11) rfl ?_); refine Kd.R_lit (Kd.int .i64) _ 3 ?hg (N := 11) ?hd (xs := ([0, 1, 2, 3, 4, 5, 8, 12, 1000, 1001, (-1)] : List Int)) (inner := [.int .i64 0, .int .i64 1, .int .i64 2, .int .i64 3, .int .i64 4, .int .i64 5, .int .i64 8, .int .i64 12, .int .i64 1000, .int .i64 1001, .int .i64 (-1)]) (ok := fun _ => True) (okp := fun _ => True) ?hr ?hp (fun _ hk => hk) trivial (Below.refl _ _) (Nat.le_refl _) (by simp) ?_; (case hd => rfl); (case hg => rfl); (case hr => first | (go_simp; done) | (go_simp; rfl)); (case hp => exact (Reps.one (show Kd.M (Kd.int .i64) _ _ _ 0 [.int .i64 0] from rfl) (Reps.one (show Kd.M (Kd.int .i64) _ _ _ 1 [.int .i64 1] from rfl) (Reps.one (show Kd.M (Kd.int .i64) _ _ _ 2 [.int .i64 2] from rfl) (Reps.one (show Kd.M (Kd.int .i64) _ _ _ 3 [.int .i64 3] from rfl) (Reps.one (show Kd.M (Kd.int .i64) _ _ _ 4 [.int .i64 4] from rfl) (Reps.one (show Kd.M (Kd.int .i64) _ _ _ 5 [.int .i64 5] from rfl) (Reps.one (show Kd.M (Kd.int .i64) _ _ _ 8 [.int .i64 8] from rfl) (Reps.one (show Kd.M (Kd.int .i64) _ _ _ 12 [.int .i64 12] from rfl) (Reps.one (show Kd.M (Kd.int .i64) _ _ _ 1000 [.int .i64 1000] from rfl) (Reps.one (show Kd.M (Kd.int .i64) _ _ _ 1001 [.int .i64 1001] from rfl) (Reps.one (show Kd.M (Kd.int .i64) _ _ _ (-1) [.int .i64 (-1)] from rfl) (Reps.none _ _))))))))))))); intro vl wl ho hb hg_ hnew_; clear hg_ hnew_; rw [← NQ.out] at ho; have HO := Aside0.mk ho; have n1_ := Aside0.mk (IsS44.below HI.out hb); have n2_ := Aside0.mk (below_step HB.out hb); clear HI HB ho hb; have HI := n1_; have HB := n2_; clear n1_ n2_; obtain ⟨Ao, co, eo⟩ := Kd.R_slice HO.out; subst eo)
    | (go_at_call 31; refine (spec_l1Cur_among.calls gb code i1 s1 Ao co q _ _ _ W _ HI.out HB.out (Kd.R_reads' HO.out).2.2 (Kd.R_reads' HO.out).2.1 (far_slice (IsS44.own_ne HI.out HO.out (by decide))) HV2.out).mono ?_; rintro e w2_ ⟨rfl, hI, hb, hk⟩; clear HI HB; have HI := Aside0.mk hI; have HB := Aside0.mk hb; clear hI hb hk))
  go_ret2
  exact ⟨rfl, HB.out⟩

/-! ### spec_DrawFewestTests: function 28, a contract of our own -/
set_option maxHeartbeats 4000000 in
theorem draw_fewestTests (code : List Int) (hl : ∀ x ∈ code, 0 ≤ x ∧ x ≤ 255) : ∃ a b : Int, ∀ W A c, code.length ≤ c → Kd.C (Kd.int .u8) W A code.length code → Calls Try.prog 28 #[.slice A code.length c] W fun e w' => e = .returned (.tuple #[.int .i64 a, .int .i64 b]) ∧ Below W.heap.size W w' := by
  have hu := Try.underlying44
  obtain ⟨v1, i1, s1, e1, _, _⟩ := eggs_ok code hl 0 0 (by omega) (by omega)
  obtain ⟨v2, i2, s2, e2, _, _⟩ := floors_ok code hl i1 s1 (by omega) (by omega)
  have HV1 := Aside0.mk e1
  have HV2 := Aside0.mk e2
  clear e1 e2
  refine ⟨v1, v2, fun W A c h1 h2 => ?_⟩
  have HC := Aside0.mk h2
  have HB := Aside0.mk (Below.refl W.heap.size W)
  clear h1 h2
  go_enter Try.func28, Try.ntmps28
  go_wp2_with (first
    | ((with_reducible refine gate_dst (N := 7) rfl ?_); refine box_event ?hg (N := 7) ?hd (cs := #[.slice A code.length c, .int .i64 0, .int .u64 0]) (t := 44) ?hr ?_; (case hd => rfl); (case hg => rfl); (case hr => first | (go_simp; done) | (go_simp; rfl)); intro gb hg w5 hbox hb; have HI : Aside0 (IsS44 W w5 gb code 0 0) := ⟨⟨A, c, hbox, by rw [hg]; exact HB.out.size, HC.out⟩⟩; have n0_ := Aside0.mk (below_step HB.out hb); clear HB hb hbox hg; have HB := n0_; clear n0_)
    | (go_at_call 29; with_reducible refine (spec_l1Cur_eggs.calls gb code 0 0 _ _ _ W _ HI.out HB.out HV1.out).mono ?_; rintro e w1_ ⟨rfl, hI, hb, hk⟩; clear HI HB HV1; have HI := Aside0.mk hI; have HB := Aside0.mk hb; clear hI hb hk)
    | (go_at_call 54; with_reducible refine (spec_l1Cur_floors.calls gb code i1 s1 _ _ _ W _ HI.out HB.out HV2.out).mono ?_; rintro e w2_ ⟨rfl, hI, hb, hk⟩; clear HI HB HV2; have HI := Aside0.mk hI; have HB := Aside0.mk hb; clear hI hb hk))
  go_ret2
  exact ⟨rfl, HB.out⟩

end Go.Proofs.Ytfelkkonjbhkjaa.PrintA
