-- written by this session's own driver (wip/gen.py) with the kit's print and contracts of our own
import Derived.Test.YtoldjcmokcgaiaaPrintA0
import Derived.Test.YtoldjcmokcgaiaaPrintA10
import Derived.Test.YtoldjcmokcgaiaaPrintA12
import Derived.Test.YtoldjcmokcgaiaaPrintA19
namespace Go.Proofs.Ytoldjcmokcgaiaa.PrintA
open Go.RowKit Go.Proofs.YtoldjcmokcgaiaaLib Go.Proofs.YtoldjcmokcgaiaaW.PrintWords Go.Proofs.YtoldjcmokcgaiaaW.PrintLast Go.Proofs.YtoldjcmokcgaiaaW.PrintMore
attribute [local go_sem] max2_int min2_int max_two min_two max_three min_three max_four min_four   -- for this text's walks alone
set_option linter.unusedVariables false
set_option linter.unusedSimpArgs false

/-! ### laws_intactIntS: function 9, a contract of our own -/
theorem cut_cap {P : Program} (t e : TypeId) (kh : IntKind) {i : TypeInfo} (ht : P.underlying t = some (.slice e)) (hi : P.info? e = some i) (A : Option Addr) (n c : Nat) (j : Int) (h0 : 0 ≤ j) (hm : j ≤ c) :
    ∀ W : World, (Instr.slice t (.slice A n c) none (some (.int kh j)) none).run P W = .ok (.slice A j.toNat c) W := by
  intro W
  have hel : P.elem t = e := by simp [Program.elem, ht]
  have hu : P.underlying t = some (.slice (P.elem t)) := by rw [hel]; exact ht
  have ha : (A.map fun x => x.add 0) = A := by cases A <;> simp [Addr.add]
  rw [run_slice_h W t A n c hu kh j h0 (by omega), hel]
  simp [sizeOf, typeInfo, hi, sliced, Result.andThen, ha]
set_option maxHeartbeats 4000000 in
set_option maxRecDepth 100000 in
theorem intactIntS_full (w : World) (b1 b2 : Nat) (o1 o2 : Nat → Prop) (g1 c1 g2 c2 : Nat) (l : List Int) (hr1 : FullG w b1 o1 g1 c1 l) (hr2 : FullG w b2 o2 g2 c2 l) (hl : l.length ≤ 1000000) :
    Calls Try.prog 9 #[.slice (some ⟨g1, 0, none⟩) l.length c1, .slice (some ⟨g2, 0, none⟩) l.length c2] w fun e w' => e = .returned (.bool true) ∧ Drawn0 w w' := by
  obtain ⟨_, hc1, hC1⟩ := Kd.R_reads' hr1
  obtain ⟨_, hc2, hC2⟩ := Kd.R_reads' hr2
  clear hr1 hr2
  have hfl := fullI_length l
  have hro := roomN_le l.length
  have HQ := Aside0.mk (fun W hW1 hW2 => laws_eqIntS.calls ((fullI l).length + 1) (some ⟨g1, 0, none⟩) c1 (fullI l) (some ⟨g2, 0, none⟩) c2 (fullI l) true W hW1 hc1 hW2 hc2 (eqIntS_same _ (by omega)))
  have HRB := Aside0.mk (fun W => laws_roomBehind.calls (l.length : Int) (roomN l.length : Int) W (roomBehind_is _ hl))
  have H1 := Aside0.mk hC1
  have H2 := Aside0.mk hC2
  clear hC1 hC2
  rw [hfl] at HQ H1 H2 hc1 hc2
  clear hfl
  generalize roomN l.length = rn at HQ HRB hro H1 H2 hc1 hc2
  generalize l.length = n at HQ HRB hro H1 H2 hl hc1 hc2 ⊢
  obtain ⟨i0, hi, hzz⟩ := Option.map_eq_some_iff.1 info3
  have hcut1 := cut_cap (P := Try.prog) 22 3 .i64 Try.underlying22 hi (some ⟨g1, 0, none⟩) n c1 ((n : Int) + (rn : Int)) (by omega) (by omega)
  have hcut2 := cut_cap (P := Try.prog) 22 3 .i64 Try.underlying22 hi (some ⟨g2, 0, none⟩) n c2 ((n : Int) + (rn : Int)) (by omega) (by omega)
  have e0 : ((n : Int) + (rn : Int)).toNat = n + rn := by omega
  rw [e0] at hcut1 hcut2
  clear hzz hi e0 hc1 hc2
  go_enter Try.func9, Try.ntmps9
  go_wp2_with fail
  refine (HRB.out _).mono ?_
  rintro e w1 ⟨rfl, ⟨nd, rfl⟩⟩
  go_wp2_with fail
  go_quiet ((go_at_call 12; refine (HQ.out _ ?side1 ?side2).mono ?_; (case side1 => repeat (first | exact H1.out | (with_reducible refine Kd.C_drewN ?_ _) | (with_reducible refine Kd.C_drew ?_))); (case side2 => repeat (first | exact H2.out | (with_reducible refine Kd.C_drewN ?_ _) | (with_reducible refine Kd.C_drew ?_))); rintro e w' ⟨rfl, ⟨nd, rfl⟩⟩; (try first | exact ⟨rfl, _, World.drewN_drewN _ _ _⟩ | exact ⟨rfl, _, Eq.trans (World.drewN_drewN _ _ _) (congrArg (World.drewN _) (Nat.add_assoc _ _ _))⟩)))
  go_wp2
  go_ret
  exact ⟨rfl, by repeat (first | exact Drawn0.refl _ | apply Drawn0.step)⟩


end Go.Proofs.Ytoldjcmokcgaiaa.PrintA
