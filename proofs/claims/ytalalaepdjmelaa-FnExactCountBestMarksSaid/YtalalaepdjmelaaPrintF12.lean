-- written by this session's own driver (wip/gen.py) with the kit's print and contracts of our own
import Derived.Test.YtalalaepdjmelaaPrintF0
import Derived.Test.YtalalaepdjmelaaPrintF1
import Derived.Test.YtalalaepdjmelaaPrintF7
import Derived.Test.YtalalaepdjmelaaPrintF8
import Derived.Test.YtalalaepdjmelaaPrintF9
import Derived.Test.YtalalaepdjmelaaPrintF11
namespace Go.Proofs.Ytalalaepdjmelaa.PrintF
open Go.RowKit Go.Proofs.YtalalaepdjmelaaLib Go.Proofs.YtalalaepdjmelaaW.PrintWords Go.Proofs.YtalalaepdjmelaaW.PrintLast Go.Proofs.YtalalaepdjmelaaW.PrintMore
attribute [local go_sem] max2_int min2_int max_two min_two max_three min_three max_four min_four   -- for this text's walks alone
set_option linter.unusedVariables false
set_option linter.unusedSimpArgs false

/-! ### impl_markings: function 51, a contract of our own -/
theorem slice_full {P : Program} (t e : TypeId) (ht : P.underlying t = some (.slice e)) (hinfo : (P.info? e).map (fun i => (i.zero, i.size, i.bytes)) = some (some (.int .i64 0), 1, 8)) (A : Option Addr) (n cap : Nat) (hc : n ≤ cap) (W : World) :
    (Instr.slice t (.slice A n cap) none (some (.int .i64 n)) (some (.int .i64 n))).run P W = .ok (.slice A n n) W := by
  obtain ⟨i0, hi, hzz⟩ := Option.map_eq_some_iff.1 hinfo
  simp only [Prod.mk.injEq] at hzz
  have hel : P.elem t = e := by simp [Program.elem, ht]
  have hu : P.underlying t = some (.slice (P.elem t)) := by rw [hel]; exact ht
  have ha : (A.map fun x => x.add 0) = A := by cases A <;> simp [Addr.add]
  rw [run_slice_hm W t A n cap hu .i64 .i64 n n (by omega) (by omega) (by omega), hel]
  simp [sizeOf, typeInfo, hi, sliced, Result.andThen, ha]
set_option maxHeartbeats 8000000 in
set_option maxRecDepth 100000 in
theorem markings_calls (gf : Nat) (fb lb : Array Value) (fl g4 b0 : Nat) (p : List Int → Int) (Inv : World → Int → Prop) (hfl : fl ≤ 14) (hp : ∀ l, 0 ≤ p l ∧ p l ≤ 1)
    (eg : ∀ args w, (callFunc gf args).run Try.prog w = .ok (.enter gf args) w)
    (hI : ∀ W W' c, Inv W c → Below W.heap.size W W' → Inv W' c) (hG : ∀ W c, Inv W c → g4 < W.heap.size)
    (hV : ∀ (W : World) (c : Int) (l : List Int) (A : Option Addr) (cap : Nat), Inv W c → 0 ≤ c → c ≤ 1000000 → risL 1 fl 0 l = true → Kd.C (Kd.int .i64) W A l.length l → l.length ≤ cap → Calls Try.prog gf (fb ++ #[.slice A l.length cap] ++ lb) W fun e W' => e = .returned (.tuple #[]) ∧ Inv W' (c + p l) ∧ KeepBut W W' g4 none ∧ Below b0 W W') :
    ∀ (d : Nat) (l : List Int) (last : Nat) (A : Option Addr) (cap : Nat) (W : World) (c : Int), fl - last = d → last ≤ fl → risL 1 fl 0 l = true → (∀ x ∈ l, x ≤ last) → (l = [] → last = 0) → (0 < l.length → rd l ((l.length : Int) - 1) = last) →
      Kd.C (Kd.int .i64) W A l.length l → l.length ≤ cap → (∀ ad, A = some ad → 0 < l.length → ad.block ≠ g4) → Inv W c → 0 ≤ c → c + 2 ^ (d + 1) ≤ 1000000 → b0 ≤ W.heap.size →
      Calls Try.prog 51 #[.int .i64 fl, .slice A l.length cap, .func (.func gf) fb lb] W fun e W' => e = .returned (.tuple #[]) ∧ Inv W' (c + p l + cntM p d ((last : Int) + 1) l) ∧ KeepBut W W' g4 none ∧ Below b0 W W' := by
  intro d
  induction d using Nat.strongRecOn with
  | _ d ih =>
  intro l last A cap W c hd hlast hris hmem hl0 hl1 hC hcap hA hInv hc0 hc1 hb0
  have hlen := risL_length 1 fl l 0 hris (by omega)
  have hlen2 : l.length ≤ 14 := by omega
  have hpow : (1 : Int) ≤ 2 ^ d := by
    have := cntM_range p hp d 0 []
    omega
  have hp1 := hp l
  have hcnt := cntM_range p hp d ((last : Int) + 1) l
  have hsl := fun W : World => slice_full (P := Try.prog) 22 3 Try.underlying22 info3 A l.length cap hcap W
  have HV1 := Aside0.mk (hV W c l A cap hInv hc0 (by rw [Int.pow_succ] at hc1; omega) hris hC hcap)
  have HC0 := Aside0.mk hC
  have HA := Aside0.mk hA
  have HEG := Aside0.mk eg
  have HIG := Aside0.mk hG
  have HII := Aside0.mk hI
  have HB0 := Aside0.mk hb0
  have HCNT := Aside0.mk hcnt
  have HC1 : Aside0 (c + p l + cntM p d ((last : Int) + 1) l ≤ 1000000) := ⟨by rw [Int.pow_succ] at hc1; omega⟩
  have HC2 : Aside0 (0 ≤ c + p l) := ⟨by omega⟩
  have HPW : Aside0 (c + p l + 2 ^ d ≤ 1000000) := ⟨by rw [Int.pow_succ] at hc1; omega⟩
  have HSNOC : Aside0 (∀ m : Nat, last < m → m ≤ fl → risL 1 fl 0 (l ++ [(m : Int)]) = true) := ⟨fun m h1 h2 => risL_snoc 1 fl m l 0 hris (fun x hx => by have := hmem x hx; omega) (by omega) (by omega) (by omega)⟩
  have HMEM := Aside0.mk hmem
  have HPP := Aside0.mk hp
  have HIH := Aside0.mk ih
  clear hV hInv hC hA eg hG hI hb0 hcnt hp hmem ih hris hc0 hc1 hpow hp1 hlen
  generalize hN : l.length = n at hlen2 hl1 hsl hcap ⊢
  have HN := Aside0.mk hN
  clear hN
  have HD := Aside0.mk hd
  clear hd
  go_enter Try.func51, Try.ntmps51
  go_upto_if 13 with ((with_reducible refine gate_dst (N := 10) rfl ?_); refine goesV_ (some 10) rfl rfl HEG.out #[.slice A n cap] rfl rfl (by (try simp only [List.map_toArray, List.map_cons, List.map_nil]); first | done | rfl) ?_; refine (HN.out ▸ HV1.out).mono ?_; rintro e_ w1 ⟨rfl, hi1, hk1, hb1⟩; refine ⟨_, rfl, ?_⟩; have HI1 := Aside0.mk hi1; have HK1 := Aside0.mk hk1; have HB1 := Aside0.mk hb1; clear hi1 hk1 hb1)
  (try simp only [Act.put, List.setIfInBounds_toArray, List.set_cons_zero, List.set_cons_succ])
  go_cut [6] (fun v6 wc => v6 = .int .i64 ((last : Int) + 1) ∧ wc = w1)
  case first =>
    by_cases hz : n = 0
    · have hl : l = [] := List.length_eq_zero_iff.1 (by rw [HN.out]; exact hz)
      have hla := hl0 hl
      subst hz
      subst hla
      clear hsl hl hl0 hl1
      go_wp2
      go_meet
      case rel => exact ⟨rfl, rfl⟩
    · obtain ⟨q, rfl⟩ : ∃ q, n = q + 1 := ⟨n - 1, by omega⟩
      have hC1 := Kd.C_keep (0 : Int) HC0.out HK1.out HA.out
      have hl := hl1 (by omega)
      rw [HN.out] at hC1
      obtain ⟨ad, e1, hx⟩ := Kd.at_int hC1 (((q + 1 : Nat) : Int) - 1) (by omega) (by omega)
      rw [hl, show (((q + 1 : Nat) : Int) - 1).toNat = q by omega] at hx
      subst e1
      have hz1 : (q : Int) < (q : Int) + 1 := by omega
      have hz2 : (0 : Int) < (q : Int) + 1 := by omega
      have hz3 : (last : Int) ≤ 14 := by omega
      have hw1 : IntKind.i64.wrap (q : Int) = (q : Int) := by rw [i64_w]; unfold wrap64; omega
      have hw2 : IntKind.i64.wrap ((last : Int) + 1) = (last : Int) + 1 := by rw [i64_w]; unfold wrap64; omega
      clear hsl hl hl0 hl1 hC1
      go_wp2
      go_meet
      case rel => exact ⟨rfl, rfl⟩
  case rest =>
    obtain ⟨rfl, hwc⟩ := hcut
    subst hwc
    clear hl0 hl1
    go_wp2
    go_loopg [7] d (fun gg v7 wr => ∃ (m : Nat) (c' : Int), v7 = .int .i64 m ∧ last + 1 ≤ m ∧ m ≤ fl + 1 ∧ fl + 1 - m ≤ gg ∧ 0 ≤ c' ∧ Aside0 (c' + cntM p (fl + 1 - m) m l = c + p l + cntM p d ((last : Int) + 1) l) ∧ Aside0 (c' + 2 ^ (fl + 1 - m) ≤ 1000000) ∧ Aside0 (Inv wr c') ∧ Aside0 (KeepBut W wr g4 none) ∧ Aside0 (Below b0 W wr))
    case atStart => exact ⟨last + 1, c + p l, by go_num, Nat.le_refl _, by omega, by have := HD.out; omega, HC2.out, ⟨by rw [show fl + 1 - (last + 1) = d by have := HD.out; omega, show ((last + 1 : Nat) : Int) = (last : Int) + 1 by omega]⟩, ⟨by rw [show fl + 1 - (last + 1) = d by have := HD.out; omega]; exact HPW.out⟩, HI1, HK1, HB1⟩
    case round =>
      clear HI1 HK1 HB1 HV1
      obtain ⟨m, c', rfl, hm1, hm2, hgg, hc0', HE, HP2, HI1, HK1, HB1⟩ := hrel
      by_cases hlt : m ≤ fl
      · have hltz : (m : Int) ≤ (fl : Int) := by omega
        have hflz : (fl : Int) ≤ 14 := by omega
        have hE := HE.out
        have hP2 := HP2.out
        rw [show fl + 1 - m = (fl - m) + 1 by omega] at hE hP2
        rw [cntM_step] at hE
        rw [Int.pow_succ] at hP2
        have hpl := HPP.out (l ++ [(m : Int)])
        have hpc := cntM_range p HPP.out (fl - m) ((m : Int) + 1) (l ++ [(m : Int)])
        have hbsz := Nat.le_trans HB0.out HB1.out.size
        have hg4 := HIG.out _ _ HI1.out
        have HREC : Aside0 (∀ (A2 : Option Addr) (c2 : Nat) (w2 : World), Kd.R (Kd.int .i64) 3 w2 wr.heap.size (fun _ => True) (.slice A2 (l ++ [(m : Int)]).length c2) (l ++ [(m : Int)]) → Below wr.heap.size wr w2 →
            Calls Try.prog 51 #[.int .i64 fl, .slice A2 (l ++ [(m : Int)]).length c2, .func (.func gf) fb lb] w2 fun e W' => e = .returned (.tuple #[]) ∧ Inv W' (c' + p (l ++ [(m : Int)]) + cntM p (fl - m) ((m : Int) + 1) (l ++ [(m : Int)])) ∧ KeepBut w2 W' g4 none ∧ Below b0 w2 W') :=
          ⟨fun A2 c2 w2 hr hb => HIH.out (fl - m) (by have := HD.out; omega) (l ++ [(m : Int)]) m A2 c2 w2 c' rfl hlt (HSNOC.out m (by omega) hlt)
            (fun x hx => by
              rcases List.mem_append.1 hx with hx | hx
              · have := HMEM.out x hx; omega
              · rw [List.mem_singleton] at hx; omega)
            (fun h => by simp at h) (fun _ => by simp [rd, List.getD_eq_getElem?_getD]) (Kd.R_reads' hr).2.2 (Kd.R_reads' hr).2.1
            (fun ad e _ => by
              have := Kd.R_base hr ad.block (by rw [e]; rfl)
              omega)
            (HII.out wr w2 c' HI1.out hb) hc0' (by rw [Int.pow_succ]; omega) (Nat.le_trans hbsz hb.size)⟩
        have HPWN : Aside0 (c' + p (l ++ [(m : Int)]) + cntM p (fl - m) ((m : Int) + 1) (l ++ [(m : Int)]) + 2 ^ (fl - m) ≤ 1000000 ∧ 0 ≤ c' + p (l ++ [(m : Int)]) + cntM p (fl - m) ((m : Int) + 1) (l ++ [(m : Int)])) := ⟨by omega, by omega⟩
        have HEN : Aside0 (c' + p (l ++ [(m : Int)]) + cntM p (fl - m) ((m : Int) + 1) (l ++ [(m : Int)]) + cntM p (fl - m) ((m : Int) + 1) l = c + p l + cntM p d ((last : Int) + 1) l) := ⟨by omega⟩
        have HCR := Aside0.mk (Kd.C_keep (0 : Int) HC0.out HK1.out HA.out)
        have HBS := Aside0.mk hbsz
        clear hE hP2 hpl hpc hbsz hg4
        generalize c' + p (l ++ [(m : Int)]) + cntM p (fl - m) ((m : Int) + 1) (l ++ [(m : Int)]) = c2_ at HREC HPWN HEN
        obtain ⟨l2, hl2⟩ : ∃ l2, l2 = l ++ [(m : Int)] := ⟨_, rfl⟩
        rw [← hl2] at HREC
        have HL2 := Aside0.mk hl2
        clear hl2
        go_wp2_with (first
          | ((with_reducible refine gate_builtin (b := .append) (xs := #[.tmp 33, .tmp 35]) rfl ?_); at_builtin; refine full_append wr rfl (.tmp 33) (.tmp 35) 22 3 rfl Try.underlying22 info3 A l m (by rw [HN.out]; rfl) rfl HCR.out (by rw [HN.out]; omega) ?_; intro v1 w2 hr hb; rw [← HL2.out] at hr; obtain ⟨A2, c2, hv⟩ := Kd.R_slice hr; subst hv; have HR2 := Aside0.mk hr; have HB2 := Aside0.mk hb; clear hr hb)
          | (go_at_call 51; refine (HREC.out A2 c2 _ HR2.out HB2.out).mono ?_; rintro e_ w3 ⟨rfl, hi3, hk3, hb3⟩; have HI3 := Aside0.mk hi3; have HK3 := Aside0.mk ((HK1.out.trans (KeepBut.of_below HB2.out g4 none) (.inl rfl)).trans hk3 (.inl rfl)); have HB3 := Aside0.mk ((HB1.out.trans (HB2.out.mono HBS.out)).trans hb3); clear hi3 hk3 hb3))
        go_roundg (fl + 1 - (m + 1))
        case measure => omega
        case rel => exact ⟨m + 1, c2_, by go_num, by omega, by omega, by omega, HPWN.out.2, ⟨by rw [show fl + 1 - (m + 1) = fl - m by omega, show ((m + 1 : Nat) : Int) = (m : Int) + 1 by omega]; exact HEN.out⟩, ⟨by rw [show fl + 1 - (m + 1) = fl - m by omega]; exact HPWN.out.1⟩, HI3, HK3, HB3⟩
      · have hltz : ¬ (m : Int) ≤ (fl : Int) := by omega
        have hE := HE.out
        rw [show fl + 1 - m = 0 by omega] at hE
        have hE2 : c' = c + p l + cntM p d ((last : Int) + 1) l := by rw [← hE]; simp [cntM]
        have HE2 := Aside0.mk hE2
        clear hE hE2
        go_wp2
        go_end0
        exact ⟨rfl, by rw [← HE2.out]; exact HI1.out, HK1.out, HB1.out⟩

/-! ### impl_CountBestMarks: function 25, a contract of our own -/
/-- Is the worst case of marks the least one? -/
def pB (a : Int) (least : Int) (l : List Int) : Int := if mxF (dropN a l) (a.toNat + 1) = least then 1 else 0
theorem pB_01 (a least : Int) (l : List Int) : 0 ≤ pB a least l ∧ pB a least l ≤ 1 := by unfold pB; split <;> omega
structure CBI (g1 g5 g4 : Nat) (a least : Int) (W : World) (c : Int) : Prop where
  k1 : W.heap[g1]? = some (.cells #[.int .i64 a] 3 (0, 0))
  k5 : W.heap[g5]? = some (.cells #[.int .i64 least] 3 (0, 0))
  k4 : W.heap[g4]? = some (.cells #[.int .i64 c] 3 (0, 0))
theorem impl_isListed_is (a : Int) : impl_isListed.f a = some (decide (0 ≤ a) && decide (a ≤ 14)) := by
  unfold impl_isListed.f
  rw [impl_within_is]
  rfl
set_option maxHeartbeats 4000000 in
set_option maxRecDepth 100000 in
theorem visit_calls (g1 g5 g4 b0 fl : Nat) (least c : Int) (l : List Int) (A : Option Addr) (cap : Nat) (W : World) (hfl : fl ≤ 14) (h41 : g1 ≠ g4) (h45 : g5 ≠ g4) (hb0 : b0 ≤ g4) (h : CBI g1 g5 g4 fl least W c) (hc0 : 0 ≤ c) (hc1 : c ≤ 1000000) (hris : risL 1 fl 0 l = true)
    (hC : Kd.C (Kd.int .i64) W A l.length l) (hcap : l.length ≤ cap) :
    Calls Try.prog 52 #[.slice A l.length cap, .pointer (some ⟨g1, 0, none⟩), .pointer (some ⟨g5, 0, none⟩), .pointer (some ⟨g4, 0, none⟩)] W fun e W' => e = .returned (.tuple #[]) ∧ CBI g1 g5 g4 fl least W' (c + pB fl least l) ∧ KeepBut W W' g4 none ∧ Below b0 W W' := by
  obtain ⟨s, hm⟩ := marked_is fl l (by omega) hris 1000 (by omega)
  have hM := impl_marked.calls 1000 fl A cap l _ s W hC hcap hm
  unfold pB
  rw [Int.toNat_natCast]
  generalize mxF (dropN fl l) (fl + 1) = q at hM ⊢
  generalize l.length = n at hM ⊢
  have HM := Aside0.mk hM
  have HK := Aside0.mk h
  have HB0 : Aside0 (b0 ≤ W.heap.size) := ⟨by have := blk_lt h.k4; omega⟩
  have HB4 := Aside0.mk hb0
  have H41 := Aside0.mk h41
  have H45 := Aside0.mk h45
  have hx1 : W.cell? ⟨g1, 0, none⟩ = some (.int .i64 fl) := (blk_cell h.k1 0).trans rfl
  have hz : c + 1 ≤ 1000001 := by omega
  clear hM hm hC hcap hris hb0 h41 h45
  clear h
  by_cases hq : q = least
  · subst hq
    rw [if_pos rfl]
    go_enter Try.func52, Try.ntmps52
    go_wp2_with (go_at_call 45; refine (HM.out).mono ?_; rintro e_ w1 ⟨rfl, hb⟩; have HB := Aside0.mk hb; have K1 := Aside0.mk (blk_below HK.out.k1 hb); have K5 := Aside0.mk (blk_below HK.out.k5 hb); have K4 := Aside0.mk (blk_below HK.out.k4 hb); clear hb hx1; have hx5 : w1.cell? ⟨g5, 0, none⟩ = some (.int .i64 q) := (blk_cell K5.out 0).trans rfl; have hx4 : w1.cell? ⟨g4, 0, none⟩ = some (.int .i64 c) := (blk_cell K4.out 0).trans rfl; have hf4 : w1.frozen? ⟨g4, 0, none⟩ = false := blk_frozen K4.out 0)
    go_end0
    refine ⟨rfl, ⟨?_, ?_, ?_⟩, KeepBut.set_ (KeepBut.of_below HB.out g4 none) 0 _, (HB.out.mono HB0.out).setCell HB4.out _⟩
    · rw [Below.heap_setCell _ _ _ _ H41.out]; exact K1.out
    · rw [Below.heap_setCell _ _ _ _ H45.out]; exact K5.out
    · rw [blk_set K4.out]; rfl
  · rw [if_neg hq, Int.add_zero]
    have hbeq : (q == least) = false := by rw [beq_eq_false_iff_ne]; exact hq
    go_enter Try.func52, Try.ntmps52
    go_wp2_with (go_at_call 45; refine (HM.out).mono ?_; rintro e_ w1 ⟨rfl, hb⟩; have HB := Aside0.mk hb; have K1 := Aside0.mk (blk_below HK.out.k1 hb); have K5 := Aside0.mk (blk_below HK.out.k5 hb); have K4 := Aside0.mk (blk_below HK.out.k4 hb); clear hb hx1; have hx5 : w1.cell? ⟨g5, 0, none⟩ = some (.int .i64 least) := (blk_cell K5.out 0).trans rfl; have hx4 : w1.cell? ⟨g4, 0, none⟩ = some (.int .i64 c) := (blk_cell K4.out 0).trans rfl; have hf4 : w1.frozen? ⟨g4, 0, none⟩ = false := blk_frozen K4.out 0)
    go_end0
    exact ⟨rfl, ⟨K1.out, K5.out, K4.out⟩, KeepBut.of_below HB.out g4 none, HB.out.mono HB0.out⟩
theorem visits_calls (g1 fl : Nat) (q : Int) (w2 : World) (hfl : fl ≤ 14) (h1 : w2.heap[g1]? = some (.cells #[.int .i64 fl] 3 (0, 0))) :
    Calls Try.prog 51 #[.int .i64 fl, .slice none 0 0, .func (.func 52) #[] #[.pointer (some ⟨g1, 0, none⟩), .pointer (some ⟨w2.heap.size + 1, 0, none⟩), .pointer (some ⟨w2.heap.size, 0, none⟩)]] ((w2.alloc (.cells #[.int .i64 0] 3 (0, 0))).alloc (.cells #[.int .i64 q] 3 (0, 0)))
      fun e W' => e = .returned (.tuple #[]) ∧ W'.heap[w2.heap.size]? = some (.cells #[.int .i64 (pB fl q [] + cntM (pB fl q) fl 1 [])] 3 (0, 0)) ∧ Below w2.heap.size w2 W' := by
  have hg1 := blk_lt h1
  have hb1 := below_alloc (Below.refl w2.heap.size w2) (.cells #[.int .i64 0] 3 (0, 0))
  have hb2 := below_alloc (Below.refl (w2.alloc (.cells #[.int .i64 0] 3 (0, 0))).heap.size (w2.alloc (.cells #[.int .i64 0] 3 (0, 0)))) (.cells #[.int .i64 q] 3 (0, 0))
  have hsz : (w2.alloc (.cells #[.int .i64 0] 3 (0, 0))).heap.size = w2.heap.size + 1 := by simp
  have hI : CBI g1 (w2.heap.size + 1) w2.heap.size fl q ((w2.alloc (.cells #[.int .i64 0] 3 (0, 0))).alloc (.cells #[.int .i64 q] 3 (0, 0))) 0 :=
    ⟨blk_below (blk_below h1 hb1) hb2, by rw [← hsz]; exact blk_new _ _, blk_below (blk_new _ _) hb2⟩
  have h := markings_calls 52 #[] #[.pointer (some ⟨g1, 0, none⟩), .pointer (some ⟨w2.heap.size + 1, 0, none⟩), .pointer (some ⟨w2.heap.size, 0, none⟩)] fl w2.heap.size w2.heap.size (pB fl q) (CBI g1 (w2.heap.size + 1) w2.heap.size fl q) hfl (pB_01 _ _)
    (enters_ Try.func52 (by kernel_rfl) rfl)
    (fun W W' c hi hb => ⟨blk_below hi.k1 hb, blk_below hi.k5 hb, blk_below hi.k4 hb⟩) (fun W c hi => blk_lt hi.k4)
    (fun W c l A cap hi hc0 hc1 hris hC hcap => by
      have := visit_calls g1 (w2.heap.size + 1) w2.heap.size w2.heap.size fl q c l A cap W hfl (by omega) (by omega) (Nat.le_refl _) hi hc0 hc1 hris hC hcap
      simpa using this)
    fl [] 0 none 0 _ 0 (by omega) (by omega) rfl (by simp) (fun _ => rfl) (fun h => absurd h (by simp)) (Kd.C_nil _ _) (by simp) (fun ad e => by cases e) hI (by omega) (by
      have : (2 : Nat) ^ (fl + 1) ≤ 2 ^ 15 := Nat.pow_le_pow_right (by omega) (by omega)
      have h2 : ((2 : Nat) ^ (fl + 1) : Nat) ≤ 32768 := this
      have h3 : ((2 : Int) ^ (fl + 1)) = ((2 ^ (fl + 1) : Nat) : Int) := by push_cast; rfl
      rw [h3]; omega) (by simp; omega)
  refine h.mono (fun e W' hh => ?_)
  obtain ⟨h1, h2, _, h4⟩ := hh
  refine ⟨h1, ?_, ?_⟩
  · have := h2.k4
    rw [Int.zero_add] at this
    exact this
  · exact (hb1.trans (hb2.mono (by simp))).trans h4
def impl_CountBestMarks.f (a0 : Int) : Option (Int × Bool) := (impl_isListed.f a0).bind fun t => if t = true then some (pB a0 (few 2 a0 : Nat) [] + cntM (pB a0 (few 2 a0 : Nat)) a0.toNat 1 [], true) else some (0, false)
set_option maxHeartbeats 4000000 in
set_option maxRecDepth 100000 in
theorem impl_CountBestMarks.calls (a0 : Int) (r1 : Int) (r2 : Bool) (w : World) (h : impl_CountBestMarks.f a0 = some (r1, r2)) :
    Calls Try.prog 25 #[.int .i64 a0] w fun e w' => e = .returned (.tuple #[.int .i64 r1, .bool r2]) ∧ Below w.heap.size w w' := by
  unfold impl_CountBestMarks.f at h
  rw [impl_isListed_is, Option.bind_some] at h
  have HW := fun b (W : World) (hb : impl_isListed.f a0 = some b) => impl_isListed.calls0 a0 b W hb
  rw [impl_isListed_is] at HW
  have HB := Aside0.mk (Below.refl w.heap.size w)
  by_cases hp : 0 ≤ a0 ∧ a0 ≤ 14
  · have hpd : (decide (0 ≤ a0) && decide (a0 ≤ 14)) = true := by simp [hp]
    rw [hpd] at h HW
    rw [if_pos rfl] at h
    have HW := Aside0.mk (fun W => HW true W rfl)
    obtain ⟨hq1, rfl⟩ := Prod.mk.inj (Option.some.inj h)
    obtain ⟨fl, rfl⟩ : ∃ m : Nat, a0 = m := ⟨a0.toNat, by omega⟩
    rw [Int.toNat_natCast] at hq1
    have HL := Aside0.mk (fun (W : World) => impl_leastWorst.calls fl (few 2 fl : Nat) W (by unfold impl_leastWorst.f; rw [if_pos (by omega)]))
    have hfl : fl ≤ 14 := by omega
    have HV : Aside0 (∀ (g1 : Nat) (w2 : World), w2.heap[g1]? = some (.cells #[.int .i64 fl] 3 (0, 0)) →
        Calls Try.prog 51 #[.int .i64 fl, .slice none 0 0, .func (.func 52) #[] #[.pointer (some ⟨g1, 0, none⟩), .pointer (some ⟨w2.heap.size + 1, 0, none⟩), .pointer (some ⟨w2.heap.size, 0, none⟩)]] ((w2.alloc (.cells #[.int .i64 0] 3 (0, 0))).alloc (.cells #[.int .i64 (few 2 fl : Nat)] 3 (0, 0)))
          fun e W' => e = .returned (.tuple #[]) ∧ W'.heap[w2.heap.size]? = some (.cells #[.int .i64 r1] 3 (0, 0)) ∧ Below w2.heap.size w2 W') := ⟨fun g1 w2 h1 => by
      have := visits_calls g1 fl (few 2 fl : Nat) w2 hfl h1
      rw [hq1] at this
      exact this⟩
    generalize ((few 2 fl : Nat) : Int) = q at HL HV
    clear hpd h hq1 hp hfl
    go_enter Try.func25, Try.ntmps25
    go_wp2_with (first
      | ((with_reducible refine gate_dst (N := 1) rfl ?_); refine box_event ?hg (N := 1) ?hd (cs := #[.int .i64 fl]) (t := 3) ?hr ?_; (case hd => rfl); (case hg => rfl); (case hr => first | (go_simp; done) | (go_simp; rfl)); intro g1 hg w1 hbox hb; have HB := Aside0.mk (below_step HB.out hb); have K1 := Aside0.mk hbox; have hx1 : w1.cell? ⟨g1, 0, none⟩ = some (.int .i64 fl) := (blk_cell K1.out 0).trans rfl; clear hg hbox hb)
      | (go_at_call 49; refine (HW.out _).mono ?_; rintro e_ w_ ⟨rfl, rfl⟩)
      | (go_at_call 50; refine (HL.out _).mono ?_; rintro e_ w2 ⟨rfl, hb⟩; have HB := Aside0.mk (below_step HB.out hb); have K1 := Aside0.mk (blk_below K1.out hb); clear hx1; have hx1 : ((w2.alloc (.cells #[.int .i64 0] 3 (0, 0))).alloc (.cells #[.int .i64 q] 3 (0, 0))).cell? ⟨g1, 0, none⟩ = some (.int .i64 fl) := (blk_cell (blk_below (blk_below K1.out (below_alloc (Below.refl _ _) _)) (below_alloc (Below.refl _ _) _)) 0).trans rfl; clear hb)
      | (go_at_call 51; refine (HV.out g1 w2 K1.out).mono ?_; rintro e_ w3 ⟨rfl, h4, hb⟩; have HB := Aside0.mk (below_step HB.out hb); clear hx1; have hx4 : w3.cell? ⟨w2.heap.size, 0, none⟩ = some (.int .i64 r1) := (blk_cell h4 0).trans rfl; clear hb h4))
    go_ret2
    exact ⟨rfl, HB.out⟩
  · have hpd : (decide (0 ≤ a0) && decide (a0 ≤ 14)) = false := by
      simp only [Bool.and_eq_false_iff, decide_eq_false_iff_not]; omega
    rw [hpd] at h HW
    rw [if_neg (by decide)] at h
    have HW := Aside0.mk (fun W => HW false W rfl)
    obtain ⟨rfl, rfl⟩ := Prod.mk.inj (Option.some.inj h)
    clear hpd h hp
    go_enter Try.func25, Try.ntmps25
    go_wp2_with (first
      | ((with_reducible refine gate_dst (N := 1) rfl ?_); refine box_event ?hg (N := 1) ?hd (cs := #[.int .i64 a0]) (t := 3) ?hr ?_; (case hd => rfl); (case hg => rfl); (case hr => first | (go_simp; done) | (go_simp; rfl)); intro g1 hg w1 hbox hb; have HB := Aside0.mk (below_step HB.out hb); have K1 := Aside0.mk hbox; have hx1 : w1.cell? ⟨g1, 0, none⟩ = some (.int .i64 a0) := (blk_cell K1.out 0).trans rfl; clear hg hbox hb)
      | (go_at_call 49; refine (HW.out _).mono ?_; rintro e_ w_ ⟨rfl, rfl⟩))
    go_ret2
    exact ⟨rfl, HB.out⟩


/-! ### laws_FnExactCountBestMarks: function 7, a law -/
/-- THE ONE PURE STATEMENT of laws_FnExactCountBestMarks. -/
def laws_FnExactCountBestMarks.Pure : Prop := ∀ (a0 : Int), (Lit.int .i64 a0).wf = true → ∃ (k1 : Nat) (r1 : Int) (r2 : Bool), spec_CountBestMarks.f k1 a0 = some (r1, r2) ∧ impl_CountBestMarks.f a0 = some (r1, r2)
set_option maxHeartbeats 8000000 in
set_option maxRecDepth 100000 in
theorem laws_FnExactCountBestMarks.alike (k1 : Nat) (a0 : Int) (r1 : Int) (r2 : Bool) (w : World)  (hs : spec_CountBestMarks.f k1 a0 = some (r1, r2)) (hi : impl_CountBestMarks.f a0 = some (r1, r2)) :
    Calls Try.prog 7 #[.int .i64 a0] w fun e w' => e = .returned (.bool true) ∧ Below w.heap.size w w' := by
  have HS := Aside0.mk hs
  have HI := Aside0.mk hi
  clear hs hi
  have HB := Aside0.mk (Below.refl w.heap.size w)
  go_enter Try.func7, Try.ntmps7
  go_wp2_with fail
  refine (spec_CountBestMarks.calls k1 a0 r1 r2 _  HS.out).mono ?_
  rintro e w1_ ⟨rfl, hb⟩
  have HB0 : Aside0 (w.heap.size ≤ w.heap.size) := ⟨HB.out.size⟩
  have HZ1 : Aside0 (w.heap.size ≤ w1_.heap.size) := ⟨hb.size⟩
  have HB_ := Aside0.mk (below_step HB.out hb)
  clear HB hb
  have HB := HB_
  clear HB_
  clear HB0
  go_wp2_with fail
  refine (impl_CountBestMarks.calls a0 r1 r2 _  HI.out).mono ?_
  rintro e w2_ ⟨rfl, hb⟩
  have HB0 : Aside0 (w.heap.size ≤ w1_.heap.size) := ⟨HB.out.size⟩
  have HZ2 : Aside0 (w1_.heap.size ≤ w2_.heap.size) := ⟨hb.size⟩
  have HB_ := Aside0.mk (below_step HB.out hb)
  clear HB hb
  have HB := HB_
  clear HB_
  clear HB0
  go_wp2
  go_ret
  exact ⟨rfl, HB.out⟩
set_option maxHeartbeats 4000000 in
set_option maxRecDepth 100000 in
theorem laws_FnExactCountBestMarks.walk (P : laws_FnExactCountBestMarks.Pure) (a0 : Int) (w : World) (w0 : (Lit.int .i64 a0).wf = true) :
    Calls Try.prog 7 #[.int .i64 a0] w fun e w' => e = .returned (.bool true) ∧ Below w.heap.size w w' := by
  obtain ⟨k1, r1, r2, hs, hi⟩ := P a0 w0
  exact laws_FnExactCountBestMarks.alike k1  a0 r1 r2 w  hs hi


end Go.Proofs.Ytalalaepdjmelaa.PrintF
