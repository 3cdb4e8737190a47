/- The law FnExactParseMarks holds: for every input the program's ParseMarks returns what the reference's returns, in every field, leaves its arguments as they were, and shares no memory. Conditions: none but those of the given statement. -/
import Derived.Test.YtaniojfokildiaaDoorPrintA3
import Derived.Test.YtaniojfokildiaaDoorPrintA4
import Derived.Test.YtaniojfokildiaaDoorPrintA6
import Derived.Test.YtaniojfokildiaaDoorPrintA7
import Derived.Test.YtaniojfokildiaaDoorPrintA15
import Derived.Test.YtaniojfokildiaaDoorPrintA16
import Derived.Test.YtaniojfokildiaaDoorPrintA17
import Derived.Test.YtaniojfokildiaaDoorPrintA19
namespace Go.Proofs.YtaniojfokildiaaDoor.Pure
open Go.RowKit Go.Proofs.YtaniojfokildiaaDoor.PrintA Go.Proofs.YtaniojfokildiaaDoorW.PrintWords Go.Proofs.YtaniojfokildiaaDoorW.PrintLast Go.Proofs.YtaniojfokildiaaDoorLib
set_option linter.unusedVariables false
set_option linter.unusedSimpArgs false

theorem FnExactParseMarks : laws_FnExactParseMarks.Pure := by
  intro a0 _ hsz
  obtain ⟨s, rfl⟩ : ∃ s, a0 = baOf s := ⟨a0.data.toList, (ba_self a0).symm⟩
  rw [baOf_size] at hsz
  by_cases h0 : (baOf s).toList = ([] : List UInt8)
  · refine ⟨1, 1, [], true, ?_, ?_, by simp⟩
    · unfold spec_ParseMarks.f spec_stParse.f
      rw [if_pos h0]; rfl
    · unfold impl_ParseMarks.f
      rw [if_pos h0]
  · have hlen := spl_len 45 s
    have hi : impl_readNumbers.f (baOf s) (⟨#[45]⟩ : ByteArray) = some (parN (rdN (spl 45 s))) := by
      unfold impl_readNumbers.f
      rw [if_pos ⟨rfl, by rw [baOf_size]; exact hsz⟩, baOf_list]
    have hsplit := l1Split_is s hsz 3000000 (by omega)
    have hst := stParse_l0 (spl 45 s) (by omega) (spl 45 s).length 3000000 0 (by omega) (by omega) (by omega)
    rw [List.take_zero] at hst
    have hspec : spec_ParseMarks.f 3000000 (baOf s) = some (if s.length ≤ 300 ∧ risL 1 100 0 ((spl 45 s).map rd1) = true then ((spl 45 s).map rd1, true) else ([], false)) := by
      unfold spec_ParseMarks.f spec_stParse.f
      rw [if_neg h0, baOf_size]
      by_cases h3 : s.length ≤ 300
      · rw [if_neg (by omega), hsplit, Option.bind_some, List.length_map]
        erw [hst]
        rw [Option.bind_some]
        by_cases hr : risL 1 100 0 ((spl 45 s).map rd1) = true
        · rw [if_pos hr, if_pos ⟨h3, hr⟩]
        · rw [if_neg hr, if_neg (fun h => hr h.2)]
      · rw [if_pos (by omega), if_neg (fun h => h3 h.1)]; rfl
    have hfull : (decide (0 ≤ (100 : Int)) && decide ((100 : Int) ≤ 100)) = true := rfl
    have himpl : impl_ParseMarks.f 3000000 (baOf s) = some (if s.length ≤ 300 ∧ risL 1 100 0 ((spl 45 s).map rd1) = true then ((spl 45 s).map rd1, true) else ([], false)) := by
      unfold impl_ParseMarks.f
      rw [if_neg h0, hi, Option.bind_some]
      by_cases hr : risL 1 100 0 ((spl 45 s).map rd1) = true
      · have hb := risL_mem 1 100 _ 0 hr
        have hN := rdN_of (spl 45 s) hb
        have hback := rdN_back (spl 45 s) _ hN hb
        have h3 := parse_len s _ hback.2 hr
        have hA := impl_AreMarks_is 100 ((spl 45 s).map rd1) (by rw [List.length_map]; omega) 3000000 (by rw [List.length_map]; omega)
        have hR : (if s.length ≤ 300 ∧ risL 1 100 0 ((spl 45 s).map rd1) = true then ((spl 45 s).map rd1, true) else ([], false)) = ((spl 45 s).map rd1, true) := if_pos ⟨by omega, hr⟩
        rw [hN, hR]
        show (if true = true then (impl_AreMarks.f 3000000 100 ((spl 45 s).map rd1)).bind _ else _) = _
        rw [if_pos rfl, hA, Option.bind_some, hfull, Bool.true_and, if_pos hr]; rfl
      · have hR : (if s.length ≤ 300 ∧ risL 1 100 0 ((spl 45 s).map rd1) = true then ((spl 45 s).map rd1, true) else (([] : List Int), false)) = ([], false) := if_neg (fun h => hr h.2)
        rw [hR]
        cases hN : rdN (spl 45 s) with
        | none => rfl
        | some l =>
          have hll := rdN_length _ _ hN
          have hA := impl_AreMarks_is 100 l (by omega) 3000000 (by omega)
          show (if true = true then (impl_AreMarks.f 3000000 100 l).bind _ else _) = _
          rw [if_pos rfl, hA, Option.bind_some, hfull, Bool.true_and]
          by_cases hl : risL 1 100 0 l = true
          · have hb := risL_mem 1 100 _ 0 hl
            have := (rdN_back _ _ hN hb).1
            rw [this] at hr
            exact absurd hl hr
          · rw [if_neg hl]
    by_cases hc : s.length ≤ 300 ∧ risL 1 100 0 ((spl 45 s).map rd1) = true
    · rw [if_pos hc] at hspec himpl
      exact ⟨3000000, 3000000, _, _, hspec, himpl, by rw [List.length_map]; omega⟩
    · rw [if_neg hc] at hspec himpl
      exact ⟨3000000, 3000000, _, _, hspec, himpl, by simp⟩

end Go.Proofs.YtaniojfokildiaaDoor.Pure
