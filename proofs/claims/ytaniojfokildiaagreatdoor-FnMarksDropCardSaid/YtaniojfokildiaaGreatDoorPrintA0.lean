-- written by this session's own driver (wip/gen.py) with the kit's print and contracts of our own
import Derived.Test.YtaniojfokildiaaGreatDoorLibMarks
import Derived.Test.YtaniojfokildiaaGreatDoorLibPlay
import Derived.Test.YtaniojfokildiaaGreatDoorLibChoose
import Derived.Test.YtaniojfokildiaaGreatDoorLibTree
import Derived.Test.YtaniojfokildiaaGreatDoorLibShelf
import Derived.Test.YtaniojfokildiaaGreatDoorProg
import Derived.Below
import Derived.Deep.Draws
import Derived.Deep.AppendLies
import Derived.Maps.AppendAt
import Derived.OwnWalk
import Derived.Laws.BytesArg
import Derived.Laws.MakeOwn
import Derived.Laws.OwnMore
import Derived.Deep.OwnRows
import Derived.Tactics
import Derived.Lib.ConvBytes
import Derived.Laws.Slices
import Derived.WalkKit
import Derived.KernelRfl
import Derived.RowKit3
import Derived.Deep.LoopGhost
import Derived.Deep.QuietTactic
import Derived.BigQuiet
import Derived.WideLaws
import Derived.Deep.DeepCutAuto
import Derived.Deep.CutBlock
import Derived.Deep.RegionHeld3
import Derived.Laws.Rows
import Derived.Lib.AppendStr
import Derived.ArgAppend
import Derived.Laws.IdiomCopy
import Derived.OrdersHeld
import Derived.Laws.BitsLemmas
import Derived.RowKit
import Derived.WalkSpells
import Derived.StillTailTactics
import Derived.Test.YtaniojfokildiaaGreatDoorWWords
import Derived.Test.YtaniojfokildiaaGreatDoorWLast
import Derived.Test.YtaniojfokildiaaGreatDoorWTab
import Derived.Test.YtaniojfokildiaaGreatDoorWFour
import Derived.Test.YtaniojfokildiaaGreatDoorWQPut
import Derived.Test.YtaniojfokildiaaGreatDoorWApart
import Derived.Test.YtaniojfokildiaaGreatDoorWArr
import Derived.Test.YtaniojfokildiaaGreatDoorWZeros
import Derived.Test.YtaniojfokildiaaGreatDoorWFoot
import Derived.Test.YtaniojfokildiaaGreatDoorWKept
import Derived.Test.YtaniojfokildiaaGreatDoorWShare
import Derived.Test.YtaniojfokildiaaGreatDoorWN
import Derived.Test.YtaniojfokildiaaGreatDoorWFootNe
import Derived.Test.YtaniojfokildiaaGreatDoorWAt
import Derived.Test.YtaniojfokildiaaGreatDoorWEqStruct
import Derived.Test.YtaniojfokildiaaGreatDoorWRepsOne
import Derived.Test.YtaniojfokildiaaGreatDoorWInv
import Derived.Test.YtaniojfokildiaaGreatDoorWInvWords
import Derived.Test.YtaniojfokildiaaGreatDoorWGuard
import Derived.Test.YtaniojfokildiaaGreatDoorWNEv
import Derived.Test.YtaniojfokildiaaGreatDoorWMore
namespace Go.Proofs.YtaniojfokildiaaGreatDoor.PrintA
open Go.RowKit Go.Proofs.YtaniojfokildiaaGreatDoorLib Go.Proofs.YtaniojfokildiaaGreatDoorW.PrintWords Go.Proofs.YtaniojfokildiaaGreatDoorW.PrintLast Go.Proofs.YtaniojfokildiaaGreatDoorW.PrintMore
attribute [local go_sem] max2_int min2_int max_two min_two max_three min_three max_four min_four   -- for this text's walks alone
set_option linter.unusedVariables false
set_option linter.unusedSimpArgs false



def errW : Option Int → Value
  | none => .nilIface
  | some c => .iface 134 (.int .i64 c)
theorem errW_none : errW none = .nilIface := rfl
theorem errW_some (c : Int) : errW (some c) = .iface 134 (.int .i64 c) := rfl

theorem info3 : (Tryz.prog.info? 3).map (fun i => (i.zero, i.size, i.bytes)) = some (some (.int .i64 0), 1, 8) := by kernel_rfl
theorem info9 : (Tryz.prog.info? 9).map (fun i => (i.zero, i.size, i.bytes)) = some (some (.string ⟨#[]⟩), 1, 16) := by kernel_rfl
theorem info65 : (Tryz.prog.info? 65).map (fun i => (i.zero, i.size, i.bytes)) = some (some (.agg #[(.int .i64 0), (.bool false)]), 2, 16) := by kernel_rfl
-- the values' own types
/-! #### struct type 65 -/
structure S65 where
  f0 : Int
  f1 : Bool
def z65 : S65 := ⟨(0 : Int), false⟩
def k65 : Kd S65 := Kd.iso (Kd.pair (Kd.int .i64) Kd.bool) (fun x : S65 => (x.f0, x.f1))
theorem k65_open {w : World} {x : S65} {cs : List Value} (h : k65.K w x cs) : cs = [.int .i64 x.f0, .bool x.f1] := by
  obtain ⟨_, _, rfl, rfl, rfl⟩ := h
  exact rfl
theorem k65_mkM (w : World) (base : Nat) (ok : Nat → Prop) (x : S65)  : k65.M w base ok x [.int .i64 x.f0, .bool x.f1] := ⟨[.int .i64 x.f0], [.bool x.f1], rfl, rfl, rfl⟩
def rd_T65 (xs : List S65) (i : Int) : S65 := xs.getD i.toNat z65
theorem at_T65 {w : World} {A : Option Addr} {n : Nat} {xs : List S65} (h : Kd.C k65 w A n xs) (i : Int) (h0 : 0 ≤ i) (h1 : i < n) : ∃ ad , A = some ad ∧ w.cell? (ad.add (i.toNat * 2)) = some (.int .i64 (rd_T65 xs i).f0) ∧ w.cell? ⟨(ad.add (i.toNat * 2)).block, (ad.add (i.toNat * 2)).off + 1, none⟩ = some (.bool (rd_T65 xs i).f1) := by
  obtain ⟨ad, c, e, _, hK, hc0⟩ := Kd.C_get h z65 i h0 h1
  have hc : ∀ j u, c[j]? = some u → w.cell? (ad.add (i.toNat * 2 + j)) = some u := hc0
  obtain rfl := k65_open hK
  exact ⟨ad, e, hc 0 _ rfl, by rw [← add_field _ _ 1 (by omega)]; exact hc 1 _ rfl⟩

end Go.Proofs.YtaniojfokildiaaGreatDoor.PrintA
