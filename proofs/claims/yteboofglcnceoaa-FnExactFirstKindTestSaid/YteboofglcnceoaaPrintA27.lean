-- written by this session's own driver (wip/gen.py) with the kit's print and contracts of our own
import Derived.Test.YteboofglcnceoaaPrintA0
import Derived.Test.YteboofglcnceoaaPrintA1
namespace Go.Proofs.Yteboofglcnceoaa.PrintA
open Go.RowKit Go.Proofs.YteboofglcnceoaaLib Go.Proofs.YteboofglcnceoaaW.PrintWords Go.Proofs.YteboofglcnceoaaW.PrintLast Go.Proofs.YteboofglcnceoaaW.PrintMore
attribute [local go_sem] max2_int min2_int max_two min_two max_three min_three max_four min_four   -- for this text's walks alone
set_option linter.unusedVariables false
set_option linter.unusedSimpArgs false

/-! ### impl_KindTest: function 32, a contract of our own -/
set_option maxHeartbeats 8000000 in
set_option maxRecDepth 100000 in
theorem kIndex_calls (gf : Nat) (lb : Array Value) (tt : Nat → Bool × Int) (p : Bool × Int → Bool) (A : Option Addr) (n c j : Nat) (w : World) (J : Nat → World → Prop) (hj : j < n) (hn : n ≤ 12)
    (eg : ∀ args w, (callFunc gf args).run Try.prog w = .ok (.enter gf args) w)
    (hrow : ∀ i W, J i W → i < n → ∃ g, A = some ⟨g, 0, none⟩ ∧ W.cell? ⟨g, i * 3, none⟩ = some (.bool (tt i).1) ∧ W.cell? ⟨g, i * 3 + 1, none⟩ = some (.int .i64 (tt i).2) ∧ W.cell? ⟨g, i * 3 + 2, none⟩ = some (.bool false))
    (hcall : ∀ i W, J i W → i < n → Calls Try.prog gf (#[.agg #[.bool (tt i).1, .int .i64 (tt i).2, .bool false]] ++ lb) W fun e w' => e = .returned (.bool (p (tt i))) ∧ J (i + 1) w')
    (hp : p (tt j) = true) (hb : ∀ i, i < j → p (tt i) = false) (hJ : J 0 w) :
    Calls Try.prog 32 #[.slice A n c, .func (.func gf) #[] lb] w fun e w' => e = .returned (.int .i64 j) ∧ J (j + 1) w' := by
  have HR := Aside0.mk hrow
  have HC := Aside0.mk hcall
  have HP := Aside0.mk hp
  have HBF := Aside0.mk hb
  have HJ := Aside0.mk hJ
  have EG := Aside0.mk eg
  clear hrow hcall hp hb hJ eg
  go_enter Try.func32, Try.ntmps32
  go_wp2
  go_loopg [5, 8] n (fun gg _ s8 wr => ∃ kk : Nat, kk ≤ j ∧ n - kk ≤ gg ∧ s8 = .int .i64 kk ∧ Aside0 (J kk wr))
  case atStart => exact ⟨0, Nat.zero_le _, by omega, rfl, HJ⟩
  case round =>
    clear HJ
    obtain ⟨kk, hkk, hg, rfl, HJ⟩ := hrel
    have hltz : (kk : Int) < (n : Int) := by omega
    obtain ⟨ga, eA, hc0, hc1, hc2⟩ := HR.out kk _ HJ.out (by omega)
    have hcall := HC.out kk _ HJ.out (by omega)
    by_cases hq : kk = j
    · subst hq
      rw [HP.out] at hcall
      have HCALL := Aside0.mk hcall
      clear hcall
      generalize (tt kk).1 = st at hc0 HCALL
      generalize (tt kk).2 = f at hc1 HCALL
      subst eA
      go_wp2_with ((with_reducible refine gate_dst (N := 16) rfl ?_); refine goesV_ (some 16) rfl rfl EG.out #[.agg #[.bool st, .int .i64 f, .bool false]] rfl rfl (by (try simp only [List.map_toArray, List.map_cons, List.map_nil]); first | done | rfl) ?_; refine HCALL.out.mono ?_; rintro e w' ⟨rfl, hb'⟩; refine ⟨_, rfl, ?_⟩)
      go_ret
      exact ⟨rfl, hb'⟩
    · rw [HBF.out kk (by omega)] at hcall
      have HCALL := Aside0.mk hcall
      clear hcall
      generalize (tt kk).1 = st at hc0 HCALL
      generalize (tt kk).2 = f at hc1 HCALL
      have hw1 : IntKind.i64.wrap ((kk : Int) + 1) = (kk : Int) + 1 := by rw [i64_w]; unfold wrap64; omega
      subst eA
      go_wp2_with ((with_reducible refine gate_dst (N := 16) rfl ?_); refine goesV_ (some 16) rfl rfl EG.out #[.agg #[.bool st, .int .i64 f, .bool false]] rfl rfl (by (try simp only [List.map_toArray, List.map_cons, List.map_nil]); first | done | rfl) ?_; refine HCALL.out.mono ?_; rintro e w' ⟨rfl, hb'⟩; refine ⟨_, rfl, ?_⟩)
      go_roundg (n - (kk + 1))
      case measure => omega
      case rel => exact ⟨kk + 1, by omega, by omega, by go_num, ⟨hb'⟩⟩

end Go.Proofs.Yteboofglcnceoaa.PrintA
