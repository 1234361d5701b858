-- printed by wip/drv.py, this work's own driver, out of the translation; Lean checks it
import Derived.Test.YtfbhipcfjkkmmaaDoorProg
import Derived.Below
import Derived.Deep.Draws
import Derived.Deep.AppendLies
import Derived.Maps.AppendAt
import Derived.OwnWalk
import Derived.Laws.BytesArg
import Derived.Laws.MakeOwn
import Derived.Laws.OwnMore
import Derived.Deep.OwnRows
import Derived.Tactics
import Derived.Lib.ConvBytes
import Derived.Laws.Slices
import Derived.WalkKit
import Derived.KernelRfl
import Derived.RowKit3
import Derived.Deep.LoopGhost
import Derived.Deep.QuietTactic
import Derived.BigQuiet
import Derived.WideLaws
import Derived.Deep.DeepCutAuto
import Derived.Deep.CutBlock
import Derived.Deep.RegionHeld3
import Derived.Laws.Rows
import Derived.Lib.AppendStr
import Derived.ArgAppend
import Derived.Laws.IdiomCopy
import Derived.OrdersHeld
import Derived.Laws.BitsLemmas
import Derived.RowKit
import Derived.Test.YtfbhipcfjkkmmaaDoorWWords
import Derived.Test.YtfbhipcfjkkmmaaDoorWLast
import Derived.Test.YtfbhipcfjkkmmaaDoorWTab
import Derived.Test.YtfbhipcfjkkmmaaDoorWFour
import Derived.Test.YtfbhipcfjkkmmaaDoorWQPut
import Derived.Test.YtfbhipcfjkkmmaaDoorWApart
import Derived.Test.YtfbhipcfjkkmmaaDoorWArr
import Derived.Test.YtfbhipcfjkkmmaaDoorWZeros
import Derived.Test.YtfbhipcfjkkmmaaDoorWFoot
import Derived.Test.YtfbhipcfjkkmmaaDoorWKept
import Derived.Test.YtfbhipcfjkkmmaaDoorWShare
import Derived.Test.YtfbhipcfjkkmmaaDoorWN
import Derived.Test.YtfbhipcfjkkmmaaDoorWFootNe
import Derived.Test.YtfbhipcfjkkmmaaDoorWAt
import Derived.Test.YtfbhipcfjkkmmaaDoorWEqStruct
import Derived.Test.YtfbhipcfjkkmmaaDoorWRepsOne
import Derived.Test.YtfbhipcfjkkmmaaDoorWInv
import Derived.Test.YtfbhipcfjkkmmaaDoorWInvWords
import Derived.Test.YtfbhipcfjkkmmaaDoorWGuard
import Derived.Test.YtfbhipcfjkkmmaaDoorWNEv
import Derived.Test.YtfbhipcfjkkmmaaDoorWMore
namespace Go.Proofs.YtfbhipcfjkkmmaaDoor.P
open Go.RowKit Go.Proofs.YtfbhipcfjkkmmaaDoorW.PrintWords Go.Proofs.YtfbhipcfjkkmmaaDoorW.PrintLast Go.Proofs.YtfbhipcfjkkmmaaDoorW.PrintMore
attribute [local go_sem] max2_int min2_int max_two min_two max_three min_three max_four min_four   -- for this text's walks alone
set_option linter.unusedVariables false
set_option linter.unusedSimpArgs false



def errW : Option Int → Value
  | none => .nilIface
  | some c => .iface 0 (.int .i64 c)
theorem errW_none : errW none = .nilIface := rfl
theorem errW_some (c : Int) : errW (some c) = .iface 0 (.int .i64 c) := rfl

-- the values' own types
/-! #### struct type 41 -/
structure S41 where
  f0 : Int
  f1 : ByteArray
def z41 : S41 := ⟨(0 : Int), (⟨#[]⟩ : ByteArray)⟩
def k41 : Kd S41 := Kd.iso (Kd.pair (Kd.int .i64) Kd.string) (fun x : S41 => (x.f0, x.f1))
theorem k41_open {w : World} {x : S41} {cs : List Value} (h : k41.K w x cs) : cs = [.int .i64 x.f0, .string x.f1] := by
  obtain ⟨_, _, rfl, rfl, rfl⟩ := h
  exact rfl
theorem k41_openM {w : World} {base : Nat} {ok : Nat → Prop} {x : S41} {cs : List Value} (h : k41.M w base ok x cs) : cs = [.int .i64 x.f0, .string x.f1] := by
  obtain ⟨_, _, rfl, rfl, rfl⟩ := h
  exact rfl
theorem k41_mk (w : World) (x : S41)  : k41.K w x [.int .i64 x.f0, .string x.f1] := ⟨[.int .i64 x.f0], [.string x.f1], rfl, rfl, rfl⟩
theorem k41_mkM (w : World) (base : Nat) (ok : Nat → Prop) (x : S41)  : k41.M w base ok x [.int .i64 x.f0, .string x.f1] := ⟨[.int .i64 x.f0], [.string x.f1], rfl, rfl, rfl⟩
def rd_T41 (xs : List S41) (i : Int) : S41 := xs.getD i.toNat z41
theorem at_T41 {w : World} {A : Option Addr} {n : Nat} {xs : List S41} (h : Kd.C k41 w A n xs) (i : Int) (h0 : 0 ≤ i) (h1 : i < n) : ∃ ad , A = some ad ∧ w.cell? (ad.add (i.toNat * 2)) = some (.int .i64 (rd_T41 xs i).f0) ∧ w.cell? ⟨(ad.add (i.toNat * 2)).block, (ad.add (i.toNat * 2)).off + 1, none⟩ = some (.string (rd_T41 xs i).f1) := by
  obtain ⟨ad, c, e, _, hK, hc0⟩ := Kd.C_get h z41 i h0 h1
  have hc : ∀ j u, c[j]? = some u → w.cell? (ad.add (i.toNat * 2 + j)) = some u := hc0
  obtain rfl := k41_open hK
  exact ⟨ad, e, hc 0 _ rfl, by rw [← add_field _ _ 1 (by omega)]; exact hc 1 _ rfl⟩

end Go.Proofs.YtfbhipcfjkkmmaaDoor.P
