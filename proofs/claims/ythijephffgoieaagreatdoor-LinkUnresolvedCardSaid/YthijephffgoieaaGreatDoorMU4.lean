/- lazyclaw46.LinkUnresolved returns true for every list of objects: no condition beside the statement's own. Part 4. -/
import Derived.Test.YthijephffgoieaaGreatDoorMU3
import Derived.ChangeArms
import Derived.ChangeSlices
import Derived.WideShapes
import Derived.Deep.Slices
import Derived.SizedLaws
import Derived.ProofKit
import Derived.OpenShut
import Derived.ShutString
import Derived.ChangeOld
import Derived.HandedShaped
import Derived.Carry
import Derived.Below
set_option linter.unusedVariables false
set_option linter.unusedSimpArgs false
set_option maxHeartbeats 2000000
section
namespace Go.AM
set_option linter.unusedVariables false
theorem A.cells_nl : A.cells .nl = [.nl] := rfl
theorem A.cells_ptr (b o : Nat) : A.cells (.ptr b o) = [.ptr b o] := rfl
theorem A.cells_ep (b i o : Nat) : A.cells (.ep b i o) = [.ep b i o] := rfl
theorem A.cells_sl (b o n : Nat) : A.cells (.sl b o n) = [.sl b o n] := rfl
theorem A.cells_mp (b : Nat) : A.cells (.mp b) = [.mp b] := rfl
theorem A.cells_fn (f : Go.Fn) (x y : List A) : A.cells (.fn f x y) = [.fn f x y] := rfl
theorem A.cells_agg (cs : List A) : A.cells (.agg cs) = cs := rfl
theorem A.cells_ro (cs : List D) : A.cells (.ro cs) = [.ro cs] := rfl
theorem am0 : (type_of% @G.eq_1) ∧
  (type_of% @G.eq_2) ∧
  (type_of% @G.eq_3) ∧
  (type_of% @G.eq_4) ∧
  (type_of% @G.eq_5) ∧
  (type_of% @G.eq_6) ∧
  (type_of% @G.eq_7) ∧
  (type_of% @G.eq_8) ∧
  (type_of% @G.eq_9) ∧
  (type_of% @G.eq_10) ∧
  (type_of% @G.eq_11) ∧
  (type_of% @G.eq_12) ∧
  (type_of% @G.eq_13) ∧
  (type_of% @G.eq_14) ∧
  (type_of% @G.eq_15) ∧
  (type_of% @G.eq_16) ∧
  (type_of% @G.eq_17) ∧
  (type_of% @G.eq_18) ∧
  (type_of% @G.eq_19) ∧
  (type_of% @G.eq_20) ∧
  (type_of% @G.eq_21) ∧
  (type_of% @guardOf.eq_1) ∧
  (type_of% @guardOf.eq_2) ∧
  (type_of% @opEval.eq_1) ∧
  (type_of% @opEval.eq_2) ∧
  (type_of% @opEval.eq_3) ∧
  (type_of% @opEval.eq_4) ∧
  (type_of% @opEval.eq_5) ∧
  (type_of% @opEval.eq_6) ∧
  (type_of% @opEval.eq_7) ∧
  (type_of% @opEval.eq_8) ∧
  (type_of% @opEval.eq_9) ∧
  (type_of% @opEval.eq_10) ∧
  (type_of% @opEval.eq_11) ∧
  (type_of% @opEval.eq_12) ∧
  (type_of% @opEval.eq_13) ∧
  (type_of% @opEval.eq_14) ∧
  (type_of% @opEval.eq_15) ∧
  (type_of% @opEval.eq_16) ∧
  (type_of% @opEval.eq_17) :=
  ⟨@G.eq_1, @G.eq_2, @G.eq_3, @G.eq_4, @G.eq_5, @G.eq_6, @G.eq_7, @G.eq_8, @G.eq_9, @G.eq_10, @G.eq_11, @G.eq_12, @G.eq_13, @G.eq_14, @G.eq_15, @G.eq_16, @G.eq_17, @G.eq_18, @G.eq_19, @G.eq_20, @G.eq_21, @guardOf.eq_1, @guardOf.eq_2, @opEval.eq_1, @opEval.eq_2, @opEval.eq_3, @opEval.eq_4, @opEval.eq_5, @opEval.eq_6, @opEval.eq_7, @opEval.eq_8, @opEval.eq_9, @opEval.eq_10, @opEval.eq_11, @opEval.eq_12, @opEval.eq_13, @opEval.eq_14, @opEval.eq_15, @opEval.eq_16, @opEval.eq_17⟩
theorem am1 : (type_of% @opEval.eq_18) ∧
  (type_of% @opEval.eq_19) ∧
  (type_of% @opEval.eq_20) ∧
  (type_of% @opEval.eq_21) ∧
  (type_of% @opEval.eq_22) ∧
  (type_of% @opEval.eq_23) ∧
  (type_of% @opEval.eq_24) ∧
  (type_of% @opEval.eq_25) ∧
  (type_of% @opEval.eq_26) ∧
  (type_of% @opEval.eq_27) ∧
  (type_of% @opEval.eq_28) ∧
  (type_of% @opEval.eq_29) ∧
  (type_of% @on1.eq_1) ∧
  (type_of% @on1.eq_2) ∧
  (type_of% @on2.eq_1) ∧
  (type_of% @on2.eq_2) ∧
  (type_of% @ev.eq_1) ∧
  (type_of% @ev.eq_2) ∧
  (type_of% @ev.eq_3) ∧
  (type_of% @ev.eq_4) ∧
  (type_of% @evL.eq_1) ∧
  (type_of% @evL.eq_2) ∧
  (type_of% @evP.eq_1) ∧
  (type_of% @evP.eq_2) ∧
  (type_of% @oPick.eq_1) ∧
  (type_of% @oPick.eq_2) ∧
  (type_of% @oNil.eq_1) ∧
  (type_of% @oNil.eq_2) ∧
  (type_of% @oNil.eq_3) ∧
  (type_of% @oNil.eq_4) ∧
  (type_of% @oNil.eq_5) ∧
  (type_of% @partA.eq_1) ∧
  (type_of% @partD.eq_1) ∧
  (type_of% @mkAgg.eq_1) ∧
  (type_of% @allD.eq_1) ∧
  (type_of% @allD.eq_2) ∧
  (type_of% @allD.eq_3) ∧
  (type_of% @putAt.eq_1) ∧
  (type_of% @A.isTup.eq_1) ∧
  (type_of% @A.isTup.eq_2) :=
  ⟨@opEval.eq_18, @opEval.eq_19, @opEval.eq_20, @opEval.eq_21, @opEval.eq_22, @opEval.eq_23, @opEval.eq_24, @opEval.eq_25, @opEval.eq_26, @opEval.eq_27, @opEval.eq_28, @opEval.eq_29, @on1.eq_1, @on1.eq_2, @on2.eq_1, @on2.eq_2, @ev.eq_1, @ev.eq_2, @ev.eq_3, @ev.eq_4, @evL.eq_1, @evL.eq_2, @evP.eq_1, @evP.eq_2, @oPick.eq_1, @oPick.eq_2, @oNil.eq_1, @oNil.eq_2, @oNil.eq_3, @oNil.eq_4, @oNil.eq_5, @partA.eq_1, @partD.eq_1, @mkAgg.eq_1, @allD.eq_1, @allD.eq_2, @allD.eq_3, @putAt.eq_1, @A.isTup.eq_1, @A.isTup.eq_2⟩
theorem am2 : (type_of% @look.eq_1) ∧
  (type_of% @A.toD.eq_1) ∧
  (type_of% @A.toD.eq_2) ∧
  (type_of% @A.toD.eq_3) ∧
  (type_of% @A.toD.eq_4) ∧
  (type_of% @A.toD.eq_5) ∧
  (type_of% @A.toDL.eq_1) ∧
  (type_of% @A.toDL.eq_2) ∧
  (type_of% @A.kills.eq_1) ∧
  (type_of% @A.kills.eq_2) ∧
  (type_of% @A.kills.eq_3) ∧
  (type_of% @A.killsL.eq_1) ∧
  (type_of% @A.killsL.eq_2) ∧
  (type_of% @killsP.eq_1) ∧
  (type_of% @killsP.eq_2) ∧
  (type_of% @killsU.eq_1) ∧
  (type_of% @killsU.eq_2) ∧
  (type_of% @listD.eq_1) ∧
  (type_of% @listD.eq_2) ∧
  (type_of% @fillA.eq_1) ∧
  (type_of% @fillA.eq_2) ∧
  (type_of% @Plc.at.eq_1) ∧
  (type_of% @Plc.at.eq_2) ∧
  (type_of% @bnd.eq_1) ∧
  (type_of% @bnd.eq_2) ∧
  (type_of% @intOf?.eq_1) ∧
  (type_of% @intOf?.eq_2) ∧
  (type_of% @val.eq_1) ∧
  (type_of% @valP.eq_1) ∧
  (type_of% @newB.eq_1) ∧
  (type_of% @updσ.eq_1) ∧
  (type_of% @updσ.eq_2) ∧
  (type_of% @St.app.eq_1) ∧
  (type_of% @St.put.eq_1) ∧
  (type_of% @putT.eq_1) ∧
  (type_of% @putT.eq_2) ∧
  (type_of% @getT.eq_1) ∧
  (type_of% @getT.eq_2) ∧
  (type_of% @callOf.eq_1) ∧
  (type_of% @callOf.eq_2) :=
  ⟨@look.eq_1, @A.toD.eq_1, @A.toD.eq_2, @A.toD.eq_3, @A.toD.eq_4, @A.toD.eq_5, @A.toDL.eq_1, @A.toDL.eq_2, @A.kills.eq_1, @A.kills.eq_2, @A.kills.eq_3, @A.killsL.eq_1, @A.killsL.eq_2, @killsP.eq_1, @killsP.eq_2, @killsU.eq_1, @killsU.eq_2, @listD.eq_1, @listD.eq_2, @fillA.eq_1, @fillA.eq_2, @Plc.at.eq_1, @Plc.at.eq_2, @bnd.eq_1, @bnd.eq_2, @intOf?.eq_1, @intOf?.eq_2, @val.eq_1, @valP.eq_1, @newB.eq_1, @updσ.eq_1, @updσ.eq_2, @St.app.eq_1, @St.put.eq_1, @putT.eq_1, @putT.eq_2, @getT.eq_1, @getT.eq_2, @callOf.eq_1, @callOf.eq_2⟩
theorem am3 : (type_of% @isCall.eq_1) ∧
  (type_of% @isCall.eq_2) ∧
  (type_of% @argA.eq_1) ∧
  (type_of% @argA.eq_2) ∧
  (type_of% @argA.eq_3) ∧
  (type_of% @argA.eq_4) ∧
  (type_of% @argA.eq_5) ∧
  (type_of% @pureA.eq_1) ∧
  (type_of% @pureA.eq_2) ∧
  (type_of% @pureA.eq_3) ∧
  (type_of% @pureL.eq_1) ∧
  (type_of% @pureL.eq_2) ∧
  (type_of% @outOf.eq_1) ∧
  (type_of% @outOf.eq_2) ∧
  (type_of% @outOf.eq_3) ∧
  (type_of% @constA.eq_1) ∧
  (type_of% @constA.eq_2) ∧
  (type_of% @constA.eq_3) ∧
  (type_of% @cellA.eq_1) ∧
  (type_of% @cellA.eq_2) ∧
  (type_of% @resA.eq_1) ∧
  (type_of% @resA.eq_2) ∧
  (type_of% @resA.eq_3) ∧
  (type_of% @toR.eq_1) ∧
  (type_of% @toR.eq_2) ∧
  (type_of% @Post.eq_1) ∧
  (type_of% @Post.eq_2) ∧
  (type_of% @Post.eq_3) ∧
  (type_of% @argT.eq_1) ∧
  (type_of% @argT.eq_2) ∧
  (type_of% @subT.eq_1) ∧
  (type_of% @subT.eq_2) ∧
  (type_of% @subS.eq_1) ∧
  (type_of% @subS.eq_2) ∧
  (type_of% @subS.eq_3) ∧
  (type_of% @A.ren.eq_1) ∧
  (type_of% @A.ren.eq_2) ∧
  (type_of% @A.ren.eq_3) ∧
  (type_of% @A.ren.eq_4) ∧
  (type_of% @A.ren.eq_5) :=
  ⟨@isCall.eq_1, @isCall.eq_2, @argA.eq_1, @argA.eq_2, @argA.eq_3, @argA.eq_4, @argA.eq_5, @pureA.eq_1, @pureA.eq_2, @pureA.eq_3, @pureL.eq_1, @pureL.eq_2, @outOf.eq_1, @outOf.eq_2, @outOf.eq_3, @constA.eq_1, @constA.eq_2, @constA.eq_3, @cellA.eq_1, @cellA.eq_2, @resA.eq_1, @resA.eq_2, @resA.eq_3, @toR.eq_1, @toR.eq_2, @Post.eq_1, @Post.eq_2, @Post.eq_3, @argT.eq_1, @argT.eq_2, @subT.eq_1, @subT.eq_2, @subS.eq_1, @subS.eq_2, @subS.eq_3, @A.ren.eq_1, @A.ren.eq_2, @A.ren.eq_3, @A.ren.eq_4, @A.ren.eq_5⟩
theorem am4 : (type_of% @A.ren.eq_6) ∧
  (type_of% @A.ren.eq_7) ∧
  (type_of% @A.ren.eq_8) ∧
  (type_of% @A.ren.eq_9) ∧
  (type_of% @A.ren.eq_10) ∧
  (type_of% @A.ren.eq_11) ∧
  (type_of% @A.ren.eq_12) ∧
  (type_of% @A.renL.eq_1) ∧
  (type_of% @A.renL.eq_2) ∧
  (type_of% @A.bnd.eq_1) ∧
  (type_of% @A.bnd.eq_2) ∧
  (type_of% @A.bnd.eq_3) ∧
  (type_of% @A.bnd.eq_4) ∧
  (type_of% @A.bnd.eq_5) ∧
  (type_of% @A.bnd.eq_6) ∧
  (type_of% @A.bnd.eq_7) ∧
  (type_of% @A.bnd.eq_8) ∧
  (type_of% @A.bnd.eq_9) ∧
  (type_of% @A.bnd.eq_10) ∧
  (type_of% @A.bnd.eq_11) ∧
  (type_of% @A.bnd.eq_12) ∧
  (type_of% @A.bndL.eq_1) ∧
  (type_of% @A.bndL.eq_2) ∧
  (type_of% @Blk.ren.eq_1) ∧
  (type_of% @Blk.ren.eq_2) ∧
  (type_of% @Blk.ren.eq_3) ∧
  (type_of% @Blk.ren.eq_4) ∧
  (type_of% @Blk.ren.eq_5) ∧
  (type_of% @Blk.bnd.eq_1) ∧
  (type_of% @Blk.bnd.eq_2) ∧
  (type_of% @Blk.bnd.eq_3) ∧
  (type_of% @Blk.bnd.eq_4) ∧
  (type_of% @Blk.bnd.eq_5) ∧
  (type_of% @D.cells.eq_1) ∧
  (type_of% @D.cells.eq_2) ∧
  (type_of% @D.cells.eq_3) ∧
  (type_of% @binV.eq_1) ∧
  (type_of% @binV.eq_2) ∧
  (type_of% @binV.eq_3) ∧
  (type_of% @binV.eq_4) :=
  ⟨@A.ren.eq_6, @A.ren.eq_7, @A.ren.eq_8, @A.ren.eq_9, @A.ren.eq_10, @A.ren.eq_11, @A.ren.eq_12, @A.renL.eq_1, @A.renL.eq_2, @A.bnd.eq_1, @A.bnd.eq_2, @A.bnd.eq_3, @A.bnd.eq_4, @A.bnd.eq_5, @A.bnd.eq_6, @A.bnd.eq_7, @A.bnd.eq_8, @A.bnd.eq_9, @A.bnd.eq_10, @A.bnd.eq_11, @A.bnd.eq_12, @A.bndL.eq_1, @A.bndL.eq_2, @Blk.ren.eq_1, @Blk.ren.eq_2, @Blk.ren.eq_3, @Blk.ren.eq_4, @Blk.ren.eq_5, @Blk.bnd.eq_1, @Blk.bnd.eq_2, @Blk.bnd.eq_3, @Blk.bnd.eq_4, @Blk.bnd.eq_5, @D.cells.eq_1, @D.cells.eq_2, @D.cells.eq_3, @binV.eq_1, @binV.eq_2, @binV.eq_3, @binV.eq_4⟩
theorem am5 : (type_of% @binV.eq_5) ∧
  (type_of% @binV.eq_6) ∧
  (type_of% @binV.eq_7) ∧
  (type_of% @binV.eq_8) ∧
  (type_of% @binV.eq_9) ∧
  (type_of% @binV.eq_10) ∧
  (type_of% @binV.eq_11) ∧
  (type_of% @binV.eq_12) ∧
  (type_of% @binV.eq_13) ∧
  (type_of% @binV.eq_14) ∧
  (type_of% @binV.eq_15) ∧
  (type_of% @binV.eq_16) ∧
  (type_of% @binV.eq_17) ∧
  (type_of% @binV.eq_18) ∧
  (type_of% @binV.eq_19) ∧
  (type_of% @binV.eq_20) ∧
  (type_of% @binV.eq_21) ∧
  (type_of% @binV.eq_22) ∧
  (type_of% @binV.eq_23) ∧
  (type_of% @eqCells.eq_1) ∧
  (type_of% @eqCells.eq_2) ∧
  (type_of% @eqCells.eq_3) ∧
  (type_of% @memB.eq_1) ∧
  (type_of% @memB.eq_2) ∧
  (type_of% @hitT.eq_1) ∧
  (type_of% @hitT.eq_2) ∧
  (type_of% @hitW.eq_1) ∧
  (type_of% @hitW.eq_2) ∧
  (type_of% @dstL.eq_1) ∧
  (type_of% @dstL.eq_2) ∧
  (type_of% @wsL.eq_1) ∧
  (type_of% @wsL.eq_2) ∧
  (type_of% @Ent.apart.eq_1) ∧
  (type_of% @bitN.eq_1) ∧
  (type_of% @checkPre.eq_1) ∧
  (type_of% @checkPre.eq_2) ∧
  (type_of% @onsOf.eq_1) ∧
  (type_of% @onsOf.eq_2) ∧
  (type_of% @nthL.eq_1) ∧
  (type_of% @nthL.eq_2) :=
  ⟨@binV.eq_5, @binV.eq_6, @binV.eq_7, @binV.eq_8, @binV.eq_9, @binV.eq_10, @binV.eq_11, @binV.eq_12, @binV.eq_13, @binV.eq_14, @binV.eq_15, @binV.eq_16, @binV.eq_17, @binV.eq_18, @binV.eq_19, @binV.eq_20, @binV.eq_21, @binV.eq_22, @binV.eq_23, @eqCells.eq_1, @eqCells.eq_2, @eqCells.eq_3, @memB.eq_1, @memB.eq_2, @hitT.eq_1, @hitT.eq_2, @hitW.eq_1, @hitW.eq_2, @dstL.eq_1, @dstL.eq_2, @wsL.eq_1, @wsL.eq_2, @Ent.apart.eq_1, @bitN.eq_1, @checkPre.eq_1, @checkPre.eq_2, @onsOf.eq_1, @onsOf.eq_2, @nthL.eq_1, @nthL.eq_2⟩
theorem am6 : (type_of% @nthL.eq_3) ∧
  (type_of% @ancUp.eq_1) ∧
  (type_of% @ancUp.eq_2) ∧
  (type_of% @backOk.eq_1) ∧
  (type_of% @backOk.eq_2) ∧
  (type_of% @inB.eq_1) ∧
  (type_of% @inB.eq_2) ∧
  (type_of% @skipE.eq_1) ∧
  (type_of% @opE.eq_1) ∧
  (type_of% @callE.eq_1) ∧
  (type_of% @tmpOf.eq_1) ∧
  (type_of% @tmpOf.eq_2) ∧
  (type_of% @tmpsOf.eq_1) ∧
  (type_of% @opTmps.eq_1) ∧
  (type_of% @opTmps.eq_2) ∧
  (type_of% @opTmps.eq_3) ∧
  (type_of% @opTmps.eq_4) ∧
  (type_of% @opTmps.eq_5) ∧
  (type_of% @opTmps.eq_6) ∧
  (type_of% @opTmps.eq_7) ∧
  (type_of% @opTmps.eq_8) ∧
  (type_of% @opTmps.eq_9) ∧
  (type_of% @opTmps.eq_10) ∧
  (type_of% @opTmps.eq_11) ∧
  (type_of% @opTmps.eq_12) ∧
  (type_of% @opTmps.eq_13) ∧
  (type_of% @opTmps.eq_14) ∧
  (type_of% @opTmps.eq_15) ∧
  (type_of% @opTmps.eq_16) ∧
  (type_of% @opTmps.eq_17) ∧
  (type_of% @opTmps.eq_18) ∧
  (type_of% @opTmps.eq_19) ∧
  (type_of% @opTmps.eq_20) ∧
  (type_of% @opTmps.eq_21) ∧
  (type_of% @opTmps.eq_22) ∧
  (type_of% @opTmps.eq_23) ∧
  (type_of% @opTmps.eq_24) ∧
  (type_of% @opTmps.eq_25) ∧
  (type_of% @opTmps.eq_26) ∧
  (type_of% @opTmps.eq_27) :=
  ⟨@nthL.eq_3, @ancUp.eq_1, @ancUp.eq_2, @backOk.eq_1, @backOk.eq_2, @inB.eq_1, @inB.eq_2, @skipE.eq_1, @opE.eq_1, @callE.eq_1, @tmpOf.eq_1, @tmpOf.eq_2, @tmpsOf.eq_1, @opTmps.eq_1, @opTmps.eq_2, @opTmps.eq_3, @opTmps.eq_4, @opTmps.eq_5, @opTmps.eq_6, @opTmps.eq_7, @opTmps.eq_8, @opTmps.eq_9, @opTmps.eq_10, @opTmps.eq_11, @opTmps.eq_12, @opTmps.eq_13, @opTmps.eq_14, @opTmps.eq_15, @opTmps.eq_16, @opTmps.eq_17, @opTmps.eq_18, @opTmps.eq_19, @opTmps.eq_20, @opTmps.eq_21, @opTmps.eq_22, @opTmps.eq_23, @opTmps.eq_24, @opTmps.eq_25, @opTmps.eq_26, @opTmps.eq_27⟩
theorem am7 : (type_of% @opTmps.eq_28) ∧
  (type_of% @gdTmps.eq_1) ∧
  (type_of% @gdTmps.eq_2) ∧
  (type_of% @opReads.eq_1) ∧
  (type_of% @opReads.eq_2) ∧
  (type_of% @opReads.eq_3) ∧
  (type_of% @opReads.eq_4) ∧
  (type_of% @opReads.eq_5) ∧
  (type_of% @opReads.eq_6) ∧
  (type_of% @opReads.eq_7) ∧
  (type_of% @opReads.eq_8) ∧
  (type_of% @opReads.eq_9) ∧
  (type_of% @opReads.eq_10) ∧
  (type_of% @opReads.eq_11) ∧
  (type_of% @rd.eq_1) ∧
  (type_of% @rd.eq_2) ∧
  (type_of% @rd.eq_3) ∧
  (type_of% @rd.eq_4) ∧
  (type_of% @rd.eq_5) ∧
  (type_of% @rd.eq_6) ∧
  (type_of% @rd1.eq_1) ∧
  (type_of% @rd1.eq_2) ∧
  (type_of% @rdL.eq_1) ∧
  (type_of% @rdL.eq_2) ∧
  (type_of% @zipN.eq_1) ∧
  (type_of% @zipN.eq_2) ∧
  (type_of% @fitK.eq_1) ∧
  (type_of% @fitK.eq_2) ∧
  (type_of% @fitP.eq_1) ∧
  (type_of% @fitP.eq_2) ∧
  (type_of% @fitsK.eq_1) ∧
  (type_of% @fitsK.eq_2) ∧
  (type_of% @fitsP.eq_1) ∧
  (type_of% @fitsP.eq_2) ∧
  (type_of% @fitsP.eq_3) ∧
  (type_of% @rho2.eq_1) ∧
  (type_of% @upF.eq_1) ∧
  (type_of% @upF.eq_2) ∧
  (type_of% @zipU.eq_1) ∧
  (type_of% @zipU.eq_2) :=
  ⟨@opTmps.eq_28, @gdTmps.eq_1, @gdTmps.eq_2, @opReads.eq_1, @opReads.eq_2, @opReads.eq_3, @opReads.eq_4, @opReads.eq_5, @opReads.eq_6, @opReads.eq_7, @opReads.eq_8, @opReads.eq_9, @opReads.eq_10, @opReads.eq_11, @rd.eq_1, @rd.eq_2, @rd.eq_3, @rd.eq_4, @rd.eq_5, @rd.eq_6, @rd1.eq_1, @rd1.eq_2, @rdL.eq_1, @rdL.eq_2, @zipN.eq_1, @zipN.eq_2, @fitK.eq_1, @fitK.eq_2, @fitP.eq_1, @fitP.eq_2, @fitsK.eq_1, @fitsK.eq_2, @fitsP.eq_1, @fitsP.eq_2, @fitsP.eq_3, @rho2.eq_1, @upF.eq_1, @upF.eq_2, @zipU.eq_1, @zipU.eq_2⟩
theorem am8 : (type_of% @callOut.eq_1) ∧
  (type_of% @callSE.eq_1) ∧
  (type_of% @bndS.eq_1) ∧
  (type_of% @bndS.eq_2) ∧
  (type_of% @resT.eq_1) ∧
  (type_of% @resT.eq_2) ∧
  (type_of% @PostR.eq_1) ∧
  (type_of% @PostS.eq_1) ∧
  (type_of% @PostS.eq_2) ∧
  (type_of% @PostS.eq_3) ∧
  (type_of% @mfind.eq_1) ∧
  (type_of% @mfind.eq_2) ∧
  (type_of% @keyOk.eq_1) ∧
  (type_of% @keyOk.eq_2) ∧
  (type_of% @keyOk.eq_3) ∧
  (type_of% @keyOk.eq_4) ∧
  (type_of% @keyEq.eq_1) ∧
  (type_of% @keyEq.eq_2) ∧
  (type_of% @keyEq.eq_3) ∧
  (type_of% @keyEq.eq_4) ∧
  (type_of% @keysOk.eq_1) ∧
  (type_of% @keysOk.eq_2) ∧
  (type_of% @keysOk.eq_3) ∧
  (type_of% @keyOkD.eq_1) ∧
  (type_of% @keyOkD.eq_2) ∧
  (type_of% @keyOkD.eq_3) ∧
  (type_of% @keyEqD.eq_1) ∧
  (type_of% @keyEqD.eq_2) ∧
  (type_of% @keyEqD.eq_3) ∧
  (type_of% @withOk.eq_1) ∧
  (type_of% @withOk.eq_2) ∧
  (type_of% @on3.eq_1) ∧
  (type_of% @on3.eq_2) ∧
  (type_of% @zD.eq_1) ∧
  (type_of% @rdV.eq_1) ∧
  (type_of% @rdV.eq_2) ∧
  (type_of% @rdM.eq_1) ∧
  (type_of% @rdM.eq_2) ∧
  (type_of% @rdM.eq_3) ∧
  (type_of% @rdB.eq_1) :=
  ⟨@callOut.eq_1, @callSE.eq_1, @bndS.eq_1, @bndS.eq_2, @resT.eq_1, @resT.eq_2, @PostR.eq_1, @PostS.eq_1, @PostS.eq_2, @PostS.eq_3, @mfind.eq_1, @mfind.eq_2, @keyOk.eq_1, @keyOk.eq_2, @keyOk.eq_3, @keyOk.eq_4, @keyEq.eq_1, @keyEq.eq_2, @keyEq.eq_3, @keyEq.eq_4, @keysOk.eq_1, @keysOk.eq_2, @keysOk.eq_3, @keyOkD.eq_1, @keyOkD.eq_2, @keyOkD.eq_3, @keyEqD.eq_1, @keyEqD.eq_2, @keyEqD.eq_3, @withOk.eq_1, @withOk.eq_2, @on3.eq_1, @on3.eq_2, @zD.eq_1, @rdV.eq_1, @rdV.eq_2, @rdM.eq_1, @rdM.eq_2, @rdM.eq_3, @rdB.eq_1⟩
theorem am9 : (type_of% @rdB.eq_2) ∧
  (type_of% @oErrCmp.eqB.eq_1) ∧
  (type_of% @oErrCmp.eqB.eq_2) ∧
  (type_of% @oErrCmp.eqB.eq_3) ∧
  (type_of% @oNilCmp.oNo.eq_1) ∧
  (type_of% @oNilCmp.oNo.eq_2) ∧
  (type_of% @oNilCmp.oNo.eq_3) ∧
  (type_of% @oLookup.eq_def) ∧
  (type_of% @oMapUpdate.eq_def) ∧
  (type_of% @zA.eq_def) ∧
  (type_of% @oAlloc.eq_def) ∧
  (type_of% @oBuild.eq_def) ∧
  (type_of% @oBuildSlice.eq_def) ∧
  (type_of% @oLoad.eq_def) ∧
  (type_of% @oStore.eq_def) ∧
  (type_of% @oMake.eq_def) ∧
  (type_of% @oSlice.eq_def) ∧
  (type_of% @oFieldAddr.eq_def) ∧
  (type_of% @oField.eq_def) ∧
  (type_of% @oIndexAddr.eq_def) ∧
  (type_of% @oIndex.eq_def) ∧
  (type_of% @oExtract.eq_def) ∧
  (type_of% @oLen.eq_def) ∧
  (type_of% @oAppend.eq_def) ∧
  (type_of% @oBuiltin.eq_def) ∧
  (type_of% @oConv.eq_def) ∧
  (type_of% @oBin.eq_def) ∧
  (type_of% @oUn.eq_def) ∧
  (type_of% @oClear.eq_def) ∧
  (type_of% @oRange.eq_def) ∧
  (type_of% @oNext.eq_def) ∧
  (type_of% @nilK.eq_def) ∧
  (type_of% @oErrCmp.eq_def) ∧
  (type_of% @oNilCmp.eq_def) ∧
  (type_of% @A.cells_d) ∧
  (type_of% @A.cells_nl) ∧
  (type_of% @A.cells_ptr) ∧
  (type_of% @A.cells_ep) ∧
  (type_of% @A.cells_sl) ∧
  (type_of% @A.cells_mp) :=
  ⟨@rdB.eq_2, @oErrCmp.eqB.eq_1, @oErrCmp.eqB.eq_2, @oErrCmp.eqB.eq_3, @oNilCmp.oNo.eq_1, @oNilCmp.oNo.eq_2, @oNilCmp.oNo.eq_3, @oLookup.eq_def, @oMapUpdate.eq_def, @zA.eq_def, @oAlloc.eq_def, @oBuild.eq_def, @oBuildSlice.eq_def, @oLoad.eq_def, @oStore.eq_def, @oMake.eq_def, @oSlice.eq_def, @oFieldAddr.eq_def, @oField.eq_def, @oIndexAddr.eq_def, @oIndex.eq_def, @oExtract.eq_def, @oLen.eq_def, @oAppend.eq_def, @oBuiltin.eq_def, @oConv.eq_def, @oBin.eq_def, @oUn.eq_def, @oClear.eq_def, @oRange.eq_def, @oNext.eq_def, @nilK.eq_def, @oErrCmp.eq_def, @oNilCmp.eq_def, @A.cells_d, @A.cells_nl, @A.cells_ptr, @A.cells_ep, @A.cells_sl, @A.cells_mp⟩
theorem am10 : (type_of% @A.cells_fn) ∧
  (type_of% @A.cells_agg) ∧
  (type_of% @A.cells_ro) ∧
  (type_of% @List.map_cons.{0, 0}) ∧
  (type_of% @List.map_nil.{0, 0}) ∧
  (type_of% @List.length_cons.{0}) ∧
  (type_of% @List.length_nil.{0}) ∧
  (type_of% @List.nil_append.{0}) ∧
  (type_of% @List.append_nil.{0}) ∧
  (type_of% @List.cons_append.{0}) ∧
  (type_of% @List.drop_zero.{0}) ∧
  (type_of% @List.drop_succ_cons.{0}) ∧
  (type_of% @List.take_zero.{0}) ∧
  (type_of% @List.take_succ_cons.{0}) ∧
  (type_of% @List.getElem?_cons_zero.{0}) ∧
  (type_of% @List.getElem?_cons_succ.{0}) ∧
  (type_of% @List.set_cons_zero.{0}) ∧
  (type_of% @List.set_cons_succ.{0}) ∧
  (type_of% @List.length_map.{0, 0}) ∧
  (type_of% @List.length_append.{0}) ∧
  (type_of% @List.all_cons.{0}) ∧
  (type_of% @List.all_nil.{0}) ∧
  (type_of% @List.getElem?_nil.{0}) ∧
  (type_of% @List.flatMap_cons.{0, 0}) ∧
  (type_of% @List.flatMap_nil.{0, 0}) ∧
  (type_of% @List.replicate_zero.{0}) ∧
  (type_of% @List.replicate_succ.{0}) ∧
  (type_of% @List.singleton_append.{0}) ∧
  (type_of% @List.getElem?_toArray.{0}) ∧
  (type_of% @Option.map_some.{0, 0}) ∧
  (type_of% @Option.map_none.{0, 0}) ∧
  (type_of% @Option.bind_some.{0, 0}) ∧
  (type_of% @Option.bind_none.{0, 0}) :=
  ⟨@A.cells_fn, @A.cells_agg, @A.cells_ro, @List.map_cons.{0, 0}, @List.map_nil.{0, 0}, @List.length_cons.{0}, @List.length_nil.{0}, @List.nil_append.{0}, @List.append_nil.{0}, @List.cons_append.{0}, @List.drop_zero.{0}, @List.drop_succ_cons.{0}, @List.take_zero.{0}, @List.take_succ_cons.{0}, @List.getElem?_cons_zero.{0}, @List.getElem?_cons_succ.{0}, @List.set_cons_zero.{0}, @List.set_cons_succ.{0}, @List.length_map.{0, 0}, @List.length_append.{0}, @List.all_cons.{0}, @List.all_nil.{0}, @List.getElem?_nil.{0}, @List.flatMap_cons.{0, 0}, @List.flatMap_nil.{0, 0}, @List.replicate_zero.{0}, @List.replicate_succ.{0}, @List.singleton_append.{0}, @List.getElem?_toArray.{0}, @Option.map_some.{0, 0}, @Option.map_none.{0, 0}, @Option.bind_some.{0, 0}, @Option.bind_none.{0, 0}⟩
end Go.AM
end
section
namespace Go.AM
set_option linter.unusedVariables false
abbrev Str := List UInt8
abbrev int (n : Int) : D := .v (.int .i64 n)
abbrev str (s : Str) : D := .v (.string ⟨s.toArray⟩)
abbrev bool (b : Bool) : D := .v (.bool b)
inductive Kind where
  | mk (args : List Kind)
inductive Ty where
  | mk (op : Int) (name : Str) (bound : Kind) (kids : List Ty)
inductive VarD where
  | mk (name : Str) (ty : Ty)
mutual
inductive Core where
  | mk (op : Int) (name : Str) (n : Int) (ty : Ty) (bound : Kind) (result : Ty) (kids : List Core) (rc : Bool) (binds : List Bind) (alts : List Alt)
inductive Bind where
  | mk (name : Str) (ty : Ty) (body : Core)
inductive Alt where
  | mk (op : Int) (name : Str) (n : Int) (vars : List VarD) (body : Core)
end
def Kind.args : Kind → List Kind | .mk a => a
def Ty.op : Ty → Int | .mk a _ _ _ => a
def Ty.name : Ty → Str | .mk _ a _ _ => a
def Ty.bound : Ty → Kind | .mk _ _ a _ => a
def Ty.kids : Ty → List Ty | .mk _ _ _ a => a
def VarD.name : VarD → Str | .mk a _ => a
def VarD.ty : VarD → Ty | .mk _ a => a
def Core.op : Core → Int | .mk a _ _ _ _ _ _ _ _ _ => a
def Core.name : Core → Str | .mk _ a _ _ _ _ _ _ _ _ => a
def Core.n : Core → Int | .mk _ _ a _ _ _ _ _ _ _ => a
def Core.ty : Core → Ty | .mk _ _ _ a _ _ _ _ _ _ => a
def Core.bound : Core → Kind | .mk _ _ _ _ a _ _ _ _ _ => a
def Core.result : Core → Ty | .mk _ _ _ _ _ a _ _ _ _ => a
def Core.kids : Core → List Core | .mk _ _ _ _ _ _ a _ _ _ => a
def Core.rc : Core → Bool | .mk _ _ _ _ _ _ _ a _ _ => a
def Core.binds : Core → List Bind | .mk _ _ _ _ _ _ _ _ a _ => a
def Core.alts : Core → List Alt | .mk _ _ _ _ _ _ _ _ _ a => a
def Bind.name : Bind → Str | .mk a _ _ => a
def Bind.ty : Bind → Ty | .mk _ a _ => a
def Bind.body : Bind → Core | .mk _ _ a => a
def Alt.op : Alt → Int | .mk a _ _ _ _ => a
def Alt.name : Alt → Str | .mk _ a _ _ _ => a
def Alt.n : Alt → Int | .mk _ _ a _ _ => a
def Alt.vars : Alt → List VarD | .mk _ _ _ a _ => a
def Alt.body : Alt → Core | .mk _ _ _ _ a => a

/-! The cells. -/
mutual
def kC : Kind → List D
  | .mk a => [.lst (kL a)]
def kL : List Kind → List D
  | [] => []
  | x :: r => .agg (kC x) :: kL r
end
mutual
def tC : Ty → List D
  | .mk op nm bd ks => [int op, str nm, .lst (kL bd.args), .lst (tL ks)]
def tL : List Ty → List D
  | [] => []
  | x :: r => .agg (tC x) :: tL r
end
def vC (v : VarD) : List D := [str v.name, int v.ty.op, str v.ty.name, .lst (kL v.ty.bound.args), .lst (tL v.ty.kids)]
def vL (l : List VarD) : List D := l.map fun v => .agg (vC v)
mutual
def cC : Core → List D
  | .mk op nm n ty bd rs ks rc bs as_ => [int op, str nm, int n, int ty.op, str ty.name, .lst (kL ty.bound.args), .lst (tL ty.kids), .lst (kL bd.args), int rs.op, str rs.name, .lst (kL rs.bound.args), .lst (tL rs.kids), .lst (cL ks), bool rc, .lst (bL bs), .lst (aL as_)]
def cL : List Core → List D
  | [] => []
  | x :: r => .agg (cC x) :: cL r
def bC : Bind → List D
  | .mk nm ty e => str nm :: int ty.op :: str ty.name :: .lst (kL ty.bound.args) :: .lst (tL ty.kids) :: cC e
def bL : List Bind → List D
  | [] => []
  | x :: r => .agg (bC x) :: bL r
def aC : Alt → List D
  | .mk op nm n vs e => int op :: str nm :: int n :: .lst (vL vs) :: cC e
def aL : List Alt → List D
  | [] => []
  | x :: r => .agg (aC x) :: aL r
end
def eK (k : Kind) : D := .agg (kC k)
def eT (t : Ty) : D := .agg (tC t)
def eV (v : VarD) : D := .agg (vC v)
def eC (e : Core) : D := .agg (cC e)
def eB (b : Bind) : D := .agg (bC b)
def eA (a : Alt) : D := .agg (aC a)
theorem kL_map : ∀ l, kL l = l.map eK | [] => rfl | x :: r => by rw [kL, kL_map r]; rfl
theorem tL_map : ∀ l, tL l = l.map eT | [] => rfl | x :: r => by rw [tL, tL_map r]; rfl
theorem vL_map (l) : vL l = l.map eV := rfl
theorem cL_map : ∀ l, cL l = l.map eC | [] => by rw [cL]; rfl | x :: r => by rw [cL, cL_map r]; rfl
theorem bL_map : ∀ l, bL l = l.map eB | [] => by rw [bL]; rfl | x :: r => by rw [bL, bL_map r]; rfl
theorem aL_map : ∀ l, aL l = l.map eA | [] => by rw [aL]; rfl | x :: r => by rw [aL, aL_map r]; rfl
/-- The cells of a type. -/
abbrev tyC (t : Ty) : List D := [int t.op, str t.name, .lst (t.bound.args.map eK), .lst (t.kids.map eT)]
abbrev coreC (e : Core) : List D := [int e.op, str e.name, int e.n, int e.ty.op, str e.ty.name, .lst (e.ty.bound.args.map eK), .lst (e.ty.kids.map eT), .lst (e.bound.args.map eK), int e.result.op, str e.result.name, .lst (e.result.bound.args.map eK), .lst (e.result.kids.map eT), .lst (e.kids.map eC), bool e.rc, .lst (e.binds.map eB), .lst (e.alts.map eA)]
theorem eK_cells (k : Kind) : (eK k).cells = [.lst (k.args.map eK)] := by cases k; rw [← kL_map]; rfl
theorem eT_cells (t : Ty) : (eT t).cells = [int t.op, str t.name, .lst (t.bound.args.map eK), .lst (t.kids.map eT)] := by cases t; rw [← kL_map, ← tL_map]; rfl
theorem eV_cells (v : VarD) : (eV v).cells = [str v.name, int v.ty.op, str v.ty.name, .lst (v.ty.bound.args.map eK), .lst (v.ty.kids.map eT)] := by rw [← kL_map, ← tL_map]; rfl
theorem cC_eq (e : Core) : cC e = [int e.op, str e.name, int e.n, int e.ty.op, str e.ty.name, .lst (e.ty.bound.args.map eK), .lst (e.ty.kids.map eT), .lst (e.bound.args.map eK), int e.result.op, str e.result.name, .lst (e.result.bound.args.map eK), .lst (e.result.kids.map eT), .lst (e.kids.map eC), bool e.rc, .lst (e.binds.map eB), .lst (e.alts.map eA)] := by
  cases e
  rw [cC]
  simp only [kL_map, tL_map, cL_map, bL_map, aL_map, Core.op, Core.name, Core.n, Core.ty, Core.bound, Core.result, Core.kids, Core.rc, Core.binds, Core.alts]
theorem eC_cells (e : Core) : (eC e).cells = [int e.op, str e.name, int e.n, int e.ty.op, str e.ty.name, .lst (e.ty.bound.args.map eK), .lst (e.ty.kids.map eT), .lst (e.bound.args.map eK), int e.result.op, str e.result.name, .lst (e.result.bound.args.map eK), .lst (e.result.kids.map eT), .lst (e.kids.map eC), bool e.rc, .lst (e.binds.map eB), .lst (e.alts.map eA)] := cC_eq e
theorem eB_cells (b : Bind) : (eB b).cells = [str b.name, int b.ty.op, str b.ty.name, .lst (b.ty.bound.args.map eK), .lst (b.ty.kids.map eT), int b.body.op, str b.body.name, int b.body.n, int b.body.ty.op, str b.body.ty.name, .lst (b.body.ty.bound.args.map eK), .lst (b.body.ty.kids.map eT), .lst (b.body.bound.args.map eK), int b.body.result.op, str b.body.result.name, .lst (b.body.result.bound.args.map eK), .lst (b.body.result.kids.map eT), .lst (b.body.kids.map eC), bool b.body.rc, .lst (b.body.binds.map eB), .lst (b.body.alts.map eA)] := by
  cases b
  show bC _ = _
  rw [bC, cC_eq]
  simp only [kL_map, tL_map, Bind.name, Bind.ty, Bind.body]
theorem eA_cells (a : Alt) : (eA a).cells = [int a.op, str a.name, int a.n, .lst (a.vars.map eV), int a.body.op, str a.body.name, int a.body.n, int a.body.ty.op, str a.body.ty.name, .lst (a.body.ty.bound.args.map eK), .lst (a.body.ty.kids.map eT), .lst (a.body.bound.args.map eK), int a.body.result.op, str a.body.result.name, .lst (a.body.result.bound.args.map eK), .lst (a.body.result.kids.map eT), .lst (a.body.kids.map eC), bool a.body.rc, .lst (a.body.binds.map eB), .lst (a.body.alts.map eA)] := by
  cases a
  show aC _ = _
  rw [aC, cC_eq]
  simp only [vL_map, Alt.op, Alt.name, Alt.n, Alt.vars, Alt.body]
/-- The same back. -/
theorem eK_fold (k : Kind) : D.agg [.lst (k.args.map eK)] = eK k := by rw [← eK_cells]; rfl
theorem eT_fold (t : Ty) : D.agg [int t.op, str t.name, .lst (t.bound.args.map eK), .lst (t.kids.map eT)] = eT t := by rw [← eT_cells]; rfl
theorem eV_fold (v : VarD) : D.agg [str v.name, int v.ty.op, str v.ty.name, .lst (v.ty.bound.args.map eK), .lst (v.ty.kids.map eT)] = eV v := by rw [← eV_cells]; rfl
theorem eC_fold (e : Core) : D.agg [int e.op, str e.name, int e.n, int e.ty.op, str e.ty.name, .lst (e.ty.bound.args.map eK), .lst (e.ty.kids.map eT), .lst (e.bound.args.map eK), int e.result.op, str e.result.name, .lst (e.result.bound.args.map eK), .lst (e.result.kids.map eT), .lst (e.kids.map eC), bool e.rc, .lst (e.binds.map eB), .lst (e.alts.map eA)] = eC e := by rw [← eC_cells]; rfl
theorem eB_fold (b : Bind) : D.agg [str b.name, int b.ty.op, str b.ty.name, .lst (b.ty.bound.args.map eK), .lst (b.ty.kids.map eT), int b.body.op, str b.body.name, int b.body.n, int b.body.ty.op, str b.body.ty.name, .lst (b.body.ty.bound.args.map eK), .lst (b.body.ty.kids.map eT), .lst (b.body.bound.args.map eK), int b.body.result.op, str b.body.result.name, .lst (b.body.result.bound.args.map eK), .lst (b.body.result.kids.map eT), .lst (b.body.kids.map eC), bool b.body.rc, .lst (b.body.binds.map eB), .lst (b.body.alts.map eA)] = eB b := by rw [← eB_cells]; rfl
theorem eA_fold (a : Alt) : D.agg [int a.op, str a.name, int a.n, .lst (a.vars.map eV), int a.body.op, str a.body.name, int a.body.n, int a.body.ty.op, str a.body.ty.name, .lst (a.body.ty.bound.args.map eK), .lst (a.body.ty.kids.map eT), .lst (a.body.bound.args.map eK), int a.body.result.op, str a.body.result.name, .lst (a.body.result.bound.args.map eK), .lst (a.body.result.kids.map eT), .lst (a.body.kids.map eC), bool a.body.rc, .lst (a.body.binds.map eB), .lst (a.body.alts.map eA)] = eA a := by rw [← eA_cells]; rfl
theorem enc : (type_of% @eK_cells) ∧ (type_of% @eT_cells) ∧ (type_of% @eV_cells) ∧ (type_of% @eC_cells) ∧ (type_of% @eB_cells) ∧ (type_of% @eA_cells) ∧ (type_of% @eK_fold) ∧ (type_of% @eT_fold) ∧ (type_of% @eV_fold) ∧ (type_of% @eC_fold) ∧ (type_of% @eB_fold) ∧ (type_of% @eA_fold) :=
  ⟨@eK_cells, @eT_cells, @eV_cells, @eC_cells, @eB_cells, @eA_cells, @eK_fold, @eT_fold, @eV_fold, @eC_fold, @eB_fold, @eA_fold⟩
end Go.AM
end
section
namespace Go.AM
open Go.RowKit
open Go.ChangeShapes Go.WideShapes Go.Deep
set_option linter.unusedVariables false
set_option linter.unusedSimpArgs false

mutual
/-- Plain data of a type. -/
inductive TyD (P : Program) : TypeId → D → Prop
  | int {t : TypeId} {k : IntKind} {z : Int} (ht : P.underlying t = some (.int k)) (hw : (Lit.int k z).wf = true) : TyD P t (.v (.int k z))
  | bool {t : TypeId} {b : Bool} (ht : P.underlying t = some .bool) : TyD P t (.v (.bool b))
  | str {t : TypeId} {s : ByteArray} (ht : P.underlying t = some .string) (hs : s.size ≤ maxLen) : TyD P t (.v (.string s))
  | slice {t e : TypeId} {l : List D} (ht : P.underlying t = some (.slice e)) (h : TyL P e l) : TyD P t (.lst l)
  | struct {t : TypeId} {fs : Array Field} {ds : List D} (ht : P.underlying t = some (.struct fs)) (h : TyF P fs.toList ds) : TyD P t (.agg ds)
inductive TyL (P : Program) : TypeId → List D → Prop
  | nil {e : TypeId} : TyL P e []
  | cons {e : TypeId} {x : D} {l : List D} (h : TyD P e x) (hl : TyL P e l) : TyL P e (x :: l)
inductive TyF (P : Program) : List Field → List D → Prop
  | nil : TyF P [] []
  | cons {f : Field} {fs : List Field} {p : D} {ds : List D} (h : TyD P f.type p) (hl : TyF P fs ds) : TyF P (f :: fs) (p.cells ++ ds)
end
theorem TyL.of {P : Program} {e : TypeId} : ∀ {l : List D}, (∀ x ∈ l, TyD P e x) → TyL P e l
  | [], _ => .nil
  | x :: r, h => .cons (h x List.mem_cons_self) (TyL.of fun y hy => h y (List.mem_cons_of_mem _ hy))

theorem choose_lt {α : Type} {n : Nat} {p : Nat → α → Prop} (a0 : α) (h : ∀ i, i < n → ∃ a, p i a) : ∃ f : Nat → α, ∀ i, i < n → p i (f i) := by
  classical
  exact ⟨fun i => if hi : i < n then (h i hi).choose else a0, fun i hi => by
    have := (h i hi).choose_spec
    simpa [hi] using this⟩
mutual
/-- How much plain data there is: letters, values. -/
def dwt : D → Nat
  | .v (.string s) => s.size + 1
  | .v _ => 1
  | .lst l => lwt l + 1
  | .agg l => lwt l
def lwt : List D → Nat
  | [] => 0
  | x :: r => dwt x + lwt r
end
theorem lwt_append : ∀ (l r : List D), lwt (l ++ r) = lwt l + lwt r
  | [], r => by simp [lwt]
  | x :: l, r => by rw [List.cons_append, lwt, lwt, lwt_append l r]; omega
theorem lwt_cells (d : D) : lwt d.cells = dwt d := by
  cases d with
  | agg l => rw [dwt]; rfl
  | v x => show lwt [.v x] = _; rw [lwt, lwt, Nat.add_zero]
  | lst l => show lwt [.lst l] = _; rw [lwt, lwt, Nat.add_zero]
mutual
/-- Every list and every string is at most so long. -/
def dle (B : Nat) : D → Prop
  | .v (.string s) => s.size ≤ B
  | .v _ => True
  | .lst l => l.length ≤ B ∧ lle B l
  | .agg l => lle B l
def lle (B : Nat) : List D → Prop
  | [] => True
  | x :: r => dle B x ∧ lle B r
end
theorem lle_mem {B : Nat} : ∀ {l : List D}, lle B l ↔ ∀ x ∈ l, dle B x
  | [] => by simp [lle]
  | x :: r => by simp [lle, lle_mem (l := r)]
theorem lle_append {B : Nat} {l r : List D} (h : lle B l) (h' : lle B r) : lle B (l ++ r) := by
  rw [lle_mem] at *
  intro x hx
  rcases List.mem_append.1 hx with hx | hx
  · exact h x hx
  · exact h' x hx
theorem dle_cells {B : Nat} {d : D} (h : dle B d) : lle B d.cells := by
  cases d with
  | agg l => simpa [dle, D.cells] using h
  | v x => exact ⟨h, trivial⟩
  | lst l => exact ⟨h, trivial⟩
theorem dle_lst {B : Nat} {l : List D} (h : l.length ≤ B) (h' : ∀ x ∈ l, dle B x) : dle B (.lst l) := by
  rw [dle]; exact ⟨h, lle_mem.2 h'⟩
/-- A measure of what is read, as_ the rows' bound measures it. -/
structure Bulk (H : Type) where
  B : DataW H → Nat
  BA : List (DataW H) → Nat
  nil : BA [] = 0
  cons : ∀ d r, BA (d :: r) = B d + BA r
  str : ∀ bytes, B (.lit (.string bytes)) = bytes.length + 1
  int : ∀ k z, B (.lit (.int k z)) = 1
  bool : ∀ b, B (.lit (.bool b)) = 1
  none : B .nil = 1
  slice : ∀ e r, B (.slice e r) = BA e + BA r + 1
  agg : ∀ l, B (.agg l) = BA l + 1
theorem Bulk.sum {H : Type} (M : Bulk H) : ∀ {l : List D} {es : List (DataW H)}, l.length = es.length → (∀ (i : Nat) (d : D) (e : DataW H), l[i]? = some d → es[i]? = some e → dwt d ≤ M.B e) → lwt l ≤ M.BA es
  | [], [], _, _ => by simp [lwt]
  | [], _ :: _, h, _ => by simp at h
  | _ :: _, [], h, _ => by simp at h
  | d :: l, e :: es, h, hp => by
    rw [lwt, M.cons]
    have h1 := hp 0 d e rfl rfl
    have h2 := M.sum (l := l) (es := es) (by simpa using h) (fun i d e h1 h2 => hp (i + 1) d e (by simpa using h1) (by simpa using h2))
    omega
/-- Fields side by side. -/
def layB (P : Program) (S : List Nat) : Nat → List Field → Bool
  | _, [] => true
  | o, f :: r => decide (f.offset = o) && (S.contains f.type && layB P S (o + P.cellsOf f.type) r)
def sumB (P : Program) : List Field → Nat
  | [] => 0
  | f :: r => P.cellsOf f.type + sumB P r
def plainB (P : Program) (S : List Nat) (t : TypeId) : Bool := match P.underlying t with
  | some (.int _) => true
  | some .bool => true
  | some .string => true
  | some (.slice e) => S.contains e && decide (0 < P.cellsOf e)
  | some (.struct fs) => layB P S 0 fs.toList && decide (sumB P fs.toList = P.cellsOf t)
  | _ => false
section
variable {H : Type} {enc : TypeId × Value → H} {P : Program} {w : World} {base : Nat} {spare : Nat → Bool} {held : Bool}
def CellsOk (w : World) (ds : List D) (cs : List Value) : Prop := ds.length = cs.length ∧ ∀ (i : Nat) (c : D) (u : Value), ds[i]? = some c → cs[i]? = some u → u.oneCell' = true ∧ DRep w (fun r => r < w.heap.size) c u
theorem CellsOk.one {d : D} {u : Value} (hd : d.cells = [d]) (h1 : u.oneCell' = true) (h2 : DRep w (fun r => r < w.heap.size) d u) : CellsOk w d.cells [u] := by
  rw [hd]
  refine ⟨rfl, fun i c v hc hv => ?_⟩
  cases i with
  | zero => simp at hc hv; subst hc; subst hv; exact ⟨h1, h2⟩
  | succ i => simp at hc
theorem CellsOk.append {ds ds' : List D} {cs cs' : List Value} (h : CellsOk w ds cs) (h' : CellsOk w ds' cs') : CellsOk w (ds ++ ds') (cs ++ cs') := by
  refine ⟨by simp [h.1, h'.1], fun i c u hc hu => ?_⟩
  rw [List.getElem?_append] at hc hu
  rw [h.1] at hc
  split at hc
  · rename_i hlt
    rw [if_pos hlt] at hu
    exact h.2 i c u hc hu
  · rename_i hlt
    rw [if_neg hlt] at hu
    exact h'.2 _ c u hc hu
theorem all_app {B : Nat} {l r : List Nat} (h : (l ++ r).all (· ≤ B) = true) : l.all (· ≤ B) = true ∧ r.all (· ≤ B) = true := by
  rw [List.all_append, Bool.and_eq_true] at h; exact h
theorem weightsAll_get {e : TypeId} {B : Nat} : ∀ {l : List (DataW H)}, (DataW.weightsAll P e l).all (· ≤ B) = true → ∀ (i : Nat) (x : DataW H), l[i]? = some x → (x.weights P e).all (· ≤ B) = true
  | [], _, i, x, hx => by simp at hx
  | y :: r, h, i, x, hx => by
    rw [DataW.weightsAll] at h
    obtain ⟨h1, h2⟩ := all_app h
    cases i with
    | zero => simp at hx; subst hx; exact h1
    | succ i => exact weightsAll_get h2 i x (by simpa using hx)
theorem open_fields (M : Bulk H) {S : List Nat} {k : Nat} {cs : List Value} (ih : ∀ t ∈ S, ∀ (cs : List Value) (x : DataW H × List MemPlace), DataW.trod enc P w base spare held k t cs = some x → ∃ d, TyD P t d ∧ CellsOk w d.cells cs ∧ cs.length = P.cellsOf t ∧ dwt d ≤ M.B x.1 ∧ ∀ B, (x.1.weights P t).all (· ≤ B) = true → dle B d) :
    ∀ (fs : List Field) (o : Nat) (xs : List (DataW H × List MemPlace)), layB P S o fs = true → o + sumB P fs = cs.length → xs.length = fs.length → (∀ (i : Nat) (f : Field) (x : DataW H × List MemPlace), fs[i]? = some f → xs[i]? = some x → DataW.trod enc P w base spare held k f.type ((cs.drop f.offset).take (P.cellsOf f.type)) = some x) → ∃ ds, TyF P fs ds ∧ CellsOk w ds (cs.drop o) ∧ lwt ds ≤ M.BA (xs.map (·.1)) ∧ ∀ B, (DataW.weightsEach P (fs.map (·.type)) (xs.map (·.1))).all (· ≤ B) = true → lle B ds
  | [], o, xs, _, hs, _, _ => ⟨[], .nil, by
    have : cs.drop o = [] := List.drop_eq_nil_of_le (by simp [sumB] at hs; omega)
    rw [this]
    exact ⟨rfl, fun i c u hc => by simp at hc⟩, by simp [lwt], fun _ _ => trivial⟩
  | f :: r, o, [], hl, hs, hlen, h => by simp at hlen
  | f :: r, o, x :: xs, hl, hs, hlen, h => by
    rw [layB, Bool.and_eq_true, Bool.and_eq_true, decide_eq_true_iff] at hl
    obtain ⟨ho, hm, hl⟩ := hl
    rw [sumB] at hs
    obtain ⟨p, hp1, hp2, hp3, hp4, hp5⟩ := ih f.type (by simpa using hm) _ _ (h 0 f x rfl rfl)
    obtain ⟨ds, hd1, hd2, hd3, hd5⟩ := open_fields M ih r (o + P.cellsOf f.type) xs hl (by omega) (by simpa using hlen) (fun i g x h1 h2 => h (i + 1) g x (by simpa using h1) (by simpa using h2))
    refine ⟨p.cells ++ ds, .cons hp1 hd1, ?_, by rw [lwt_append, lwt_cells, List.map_cons, M.cons]; omega, fun B hB => by
      rw [List.map_cons, List.map_cons, DataW.weightsEach] at hB
      obtain ⟨h1, h2⟩ := all_app hB
      exact lle_append (dle_cells (hp5 B h1)) (hd5 B h2)⟩
    have : cs.drop o = (cs.drop f.offset).take (P.cellsOf f.type) ++ cs.drop (o + P.cellsOf f.type) := by
      rw [ho, ← List.drop_drop, List.take_append_drop]
    rw [this]
    exact hp2.append hd2
theorem open_data (M : Bulk H) {S : List Nat} (hS : S.all (plainB P S) = true) (hc1 : S.all (fun t => match P.underlying t with
    | some (.struct _) => true
    | _ => P.cellsOf t == 1) = true) (hby : S.all (fun t => match P.underlying t with
    | some (.slice e) => decide (0 < P.bytesOf e)
    | _ => true) = true) : ∀ (fuel : Nat) (t : TypeId), t ∈ S → ∀ (cs : List Value) (x : DataW H × List MemPlace), DataW.trod enc P w base spare held fuel t cs = some x → ∃ d, TyD P t d ∧ CellsOk w d.cells cs ∧ cs.length = P.cellsOf t ∧ dwt d ≤ M.B x.1 ∧ ∀ B, (x.1.weights P t).all (· ≤ B) = true → dle B d := by
  intro fuel
  induction fuel with
  | zero => intro t _ cs x h; simp [DataW.trod] at h
  | succ fuel ih =>
    intro t htS cs x h
    have hp := List.all_eq_true.1 hS t htS
    have h1 := List.all_eq_true.1 hc1 t htS
    unfold plainB at hp
    split at hp
    · rename_i k hu
      rw [hu] at h1
      obtain ⟨z, rfl, rfl, hw⟩ := DataW.trod_int hu h
      exact ⟨_, .int hu hw, .one rfl rfl (.v rfl), by simpa using (eq_of_beq h1).symm, by rw [M.int]; simp [dwt], fun _ _ => by simp [dle]⟩
    · rename_i hu
      rw [hu] at h1
      obtain ⟨z, rfl, rfl⟩ := DataW.trod_bool hu h
      exact ⟨_, .bool hu, .one rfl rfl (.v rfl), by simpa using (eq_of_beq h1).symm, by rw [M.bool]; simp [dwt], fun _ _ => by simp [dle]⟩
    · rename_i hu
      rw [hu] at h1
      obtain ⟨z, rfl, rfl, hw⟩ := DataW.trod_string hu h
      exact ⟨_, .str hu hw, .one rfl rfl (.v rfl), by simpa using (eq_of_beq h1).symm, by rw [M.str, dwt]; exact Nat.le_of_eq (by rw [Array.length_toList]; rfl), fun B hB => by
        rw [DataW.weights, List.all_cons, Bool.and_eq_true, decide_eq_true_iff, Array.length_toList] at hB
        rw [dle]; exact hB.1⟩
    · rename_i e hu
      rw [hu] at h1
      rw [Bool.and_eq_true, decide_eq_true_iff] at hp
      obtain ⟨heS, hpos⟩ := hp
      rcases DataW.trod_slice hu h with ⟨rfl, rfl⟩ | ⟨a, len, cap, elems, rest, n', he1, rfl, rfl, _, hl, hm, hlen, hel, _⟩
      · exact ⟨.lst [], .slice hu .nil, .one rfl rfl .nil, by simpa using (eq_of_beq h1).symm, by rw [M.none]; simp [dwt, lwt], fun _ _ => by simp [dle, lle]⟩
      · obtain rfl : fuel = n' := by omega
        have each : ∀ i, i < len → ∃ p : D × List Value, TyD P e p.1 ∧ CellsOk w p.1.cells p.2 ∧ p.2.length = P.cellsOf e ∧ (∀ x, elems[i]? = some x → dwt p.1 ≤ M.B x.1 ∧ ∀ B, (x.1.weights P e).all (· ≤ B) = true → dle B p.1) ∧ ∀ j u, p.2[j]? = some u → w.cell? ((a.add (i * P.cellsOf e)).add j) = some u := by
          intro i hi
          have h1 := hel i hi
          rw [List.getElem?_eq_getElem (by omega), Option.bind_eq_some_iff] at h1
          obtain ⟨cs', h1, h2⟩ := h1
          obtain ⟨_, hlen2, hcell⟩ := World.cells?_some h1
          obtain ⟨d, hd1, hd2, hd3, hd4, hd5⟩ := ih e (by simpa using heS) _ _ h2
          refine ⟨(d, cs'), hd1, hd2, hlen2, fun x hx => by rw [List.getElem?_eq_getElem (by omega)] at hx; cases hx; exact ⟨hd4, hd5⟩, fun j u hu => ?_⟩
          have hj : j < P.cellsOf e := by have := (List.getElem?_eq_some_iff.1 hu).1; simp only [hlen2] at this; exact this
          rw [hcell j hj]; exact hu
        obtain ⟨f, hf⟩ := choose_lt (n := len) (D.lst [], ([] : List Value)) each
        rcases Nat.eq_zero_or_pos len with h0 | h0
        · subst h0
          exact ⟨.lst [], .slice hu .nil, .one rfl rfl .nil, by simpa using (eq_of_beq h1).symm, by rw [M.slice]; simp [dwt, lwt], fun _ _ => by simp [dle, lle]⟩
        · have hc0 : ∃ u, w.cell? a = some u := by
            obtain ⟨_, _, q1, _, q2⟩ := hf 0 h0
            refine ⟨(f 0).2[0]'(by omega), ?_⟩
            have := q2 0 _ (List.getElem?_eq_getElem (by omega))
            simpa [Addr.add] using this
          obtain ⟨u0, hu0⟩ := hc0
          have hspot : a.spot = none := by
            unfold World.cell? at hu0
            split at hu0
            · split at hu0
              · cases hu0
              · rename_i hs; simpa using hs
            · cases hu0
          have hblk : a.block < w.heap.size := World.block_lt_of_cell? w a hu0
          have hadd : ∀ n j, (a.add n).add j = a.add (n + j) := by
            obtain ⟨b, o, s⟩ := a
            simp only at hspot
            subst hspot
            intro n j
            rw [Addr.add_lit, Addr.add_lit, Addr.add_lit, Nat.add_assoc]
          have hget : ∀ (j : Nat) (d : D), ((List.range len).map fun i => (f i).1)[j]? = some d → j < len ∧ d = (f j).1 := by
            intro j d hd
            obtain ⟨hj, he⟩ := List.getElem?_eq_some_iff.1 hd
            have hjl : j < len := by simpa using hj
            exact ⟨hjl, by rw [← he]; simp⟩
          refine ⟨.lst ((List.range len).map fun i => (f i).1), .slice hu (TyL.of fun d hd => ?_), .one rfl rfl ?_, by simpa using (eq_of_beq h1).symm, ?_, ?_⟩
          · obtain ⟨i, hi, rfl⟩ := List.mem_map.1 hd
            exact (hf i (List.mem_range.1 hi)).1
          · have key := DRep.lst (w := w) (I := fun r => r < w.heap.size) (xs := (List.range len).map fun i => (f i).1) (ad := a) (cap := cap) (P.cellsOf e) (fun j i => (f j).2.getD i undef) hblk hspot (by simpa using hl) (by
                have : maxLen ≤ 9223372036854775807 := by decide
                simp; omega) (fun j d hd => by
                obtain ⟨hj, rfl⟩ := hget j d hd
                obtain ⟨_, q1, q2, _⟩ := hf j hj
                rw [q1.1, q2]) (fun j d i c hd hc => by
                obtain ⟨hj, rfl⟩ := hget j d hd
                obtain ⟨_, q1, q2, _, q3⟩ := hf j hj
                have hi : i < (f j).2.length := by rw [← q1.1]; exact (List.getElem?_eq_some_iff.1 hc).1
                have hu := List.getElem?_eq_getElem hi
                rw [List.getD_eq_getElem?_getD, hu, ← hadd]
                exact ⟨q3 i _ hu, (q1.2 i c _ hc hu).1⟩) (fun j d i c hd hc => by
                obtain ⟨hj, rfl⟩ := hget j d hd
                obtain ⟨_, q1, q2, _, q3⟩ := hf j hj
                have hi : i < (f j).2.length := by rw [← q1.1]; exact (List.getElem?_eq_some_iff.1 hc).1
                have hu := List.getElem?_eq_getElem hi
                rw [List.getD_eq_getElem?_getD, hu]
                exact (q1.2 i c _ hc hu).2)
            simpa using key
          · rw [M.slice, dwt]
            have := M.sum (l := (List.range len).map fun i => (f i).1) (es := elems.map (·.1)) (by simp [hlen]) (fun i d x hd hx => by
              obtain ⟨hi, rfl⟩ := hget i d hd
              rw [List.getElem?_map, Option.map_eq_some_iff] at hx
              obtain ⟨y, hy, rfl⟩ := hx
              exact ((hf i hi).2.2.2.1 y hy).1)
            omega
          · intro B hB
            rw [DataW.weights, hu] at hB
            dsimp only at hB
            rw [List.all_cons, Bool.and_eq_true, decide_eq_true_iff] at hB
            obtain ⟨hB1, hB2⟩ := hB
            have hbp := List.all_eq_true.1 hby t htS
            rw [hu] at hbp
            rw [decide_eq_true_iff] at hbp
            refine dle_lst (by
              rw [List.length_map, List.length_range]
              rw [List.length_map, List.length_map] at hB1
              have := Nat.le_mul_of_pos_right (elems.length + rest.length) hbp
              omega) fun d hd => ?_
            obtain ⟨i, hi, rfl⟩ := List.mem_map.1 hd
            have hi' := List.mem_range.1 hi
            have hei : elems[i]? = some elems[i] := List.getElem?_eq_getElem (by omega)
            exact ((hf i hi').2.2.2.1 _ hei).2 B (weightsAll_get (all_app hB2).1 i _ (by rw [List.getElem?_map, hei]; rfl))
    · rename_i fs hu
      rw [Bool.and_eq_true, decide_eq_true_iff] at hp
      obtain ⟨xs, k, hk, rfl, hcl, hxl, hall⟩ := DataW.trod_struct hu h
      obtain rfl : fuel = k := by omega
      obtain ⟨ds, hd1, hd2, hd3, hd5⟩ := open_fields M ih fs.toList 0 xs hp.1 (by rw [hcl, hp.2]; omega) (by simpa using hxl) (fun i f x hf hx => by
        have hi' : fs[i]? = some f := by simpa using hf
        rw [hall i f hi', hx])
      exact ⟨.agg ds, .struct hu hd1, by simpa [D.cells] using hd2, hcl, by rw [M.agg, dwt]; omega, fun B hB => by
        rw [DataW.weights, hu] at hB
        rw [dle]; exact hd5 B hB⟩
    · cases hp
end
end Go.AM
end
section
namespace Go.AM
open Go.ChangeShapes Go.WideShapes Go.ChangeAt Go.RowKit
set_option linter.unusedVariables false
set_option linter.unusedSimpArgs false
theorem wrap_row {H : Type} {enc : TypeId × Value → H} {a : Assume} {C : Checked} {os : Os} {f : FuncId} {fn : Func} {s : ChangeSpec} {conds : List PathCond} {apart fresh handsOn again : Bool} {X : World → Array Value → Prop} {Y : List (DataW H) → Prop}
    (hX : ∀ (w w' : World) (args : Array Value), w.heap = w'.heap → X w args → X w' args)
    (own : ownKnob C.prog.godebug = none) (started : os.Started) (noInit : C.prog.inits.idxOf? f = none) (hfn : C.prog.funcs[f]? = some fn)
    (witness : ∃ (w : World) (tape : Tape) (i : Input), w.os = os ∧ (w.forCall tape i).Shaped C.prog ∧ i.vars = [] ∧ Input.okWide C.prog (w.forCall tape i) .any w.heap.size f i ∧
      ((s.pre enc C.prog fn conds apart (w.forCall tape i).memory i.args ∧ X (w.forCall tape i).memory i.args) ∧ sizedMet enc C.prog fn (OpenSpec.ofChange s) apart (w.forCall tape i).memory i.args) ∧ a.holds C.prog (lone (Frame.enter C.prog f i.args .normal) [] (w.forCall tape i)))
    (contract : ∀ (W : World) (base : Nat) (args : Array Value) (ds gs : List (DataW H)) (before : List MemPlace),
      (∀ (j : Nat) t v, fn.params[j]? = some t → args[j]? = some v → Value.okWide C.prog W .any base t v) →
      DataW.Whole enc C.prog fn.params.toList s.vars apart W args.toList ds gs before →
      (DataW.weightsEach C.prog (fn.params.toList ++ s.plain.varTypes C.prog) (ds ++ gs)).all (· ≤ reachBytes) = true → X W args → W.ShapedOpen C.prog →
      Calls C.prog f args W fun e W' => ∃ v, e = .returned v ∧ s.post enc C.prog fn apart fresh handsOn again W args v W') :
    ReturnsInHanded a C os f .any (fun w args => (s.pre enc C.prog fn conds apart w args ∧ X w args) ∧ sizedMet enc C.prog fn (OpenSpec.ofChange s) apart w args) (s.post enc C.prog fn apart fresh handsOn again) := by
  refine returnsInHanded_of_calls own started noInit witness ?_
  intro w tape i _ hsh _ hok hpre hholds
  obtain ⟨_, _, _, fn', hfn', _, _, _, _, hval⟩ := hok
  obtain rfl : fn' = fn := Option.some.inj (hfn'.symm.trans hfn)
  obtain ⟨⟨⟨ds, gs, before, hw, _⟩, hx⟩, hz⟩ := hpre
  exact (contract (w.forCall tape i) w.heap.size i.args ds gs before hval (DataW.Whole.of_heap (w' := w.forCall tape i) (by rfl) hw) (hz.weights hw) (hX _ _ _ (by rfl) hx) hsh).mono fun e W' ⟨v, he, hp⟩ => by
    subst he
    exact ChangeSpec.post_blind hp
section
variable {H : Type} {enc : TypeId × Value → H} {P : Program} {w : World} {base : Nat} {spare : Nat → Bool} {held : Bool}
theorem CellsOk.rep {d : D} {v : Value} (hd : ∀ ds, d ≠ .agg ds) (h : CellsOk w d.cells [v]) : DRep w (fun r => r < w.heap.size) d v := by
  have e : d.cells = [d] := by
    cases d with
    | agg ds => exact absurd rfl (hd ds)
    | v x => rfl
    | lst l => rfl
  rw [e] at h
  exact (h.2 0 d v rfl rfl).2
theorem open_arg (M : Bulk H) {S : List Nat} (hS : S.all (plainB P S) = true) (hc1 : S.all (fun t => match P.underlying t with
    | some (.struct _) => true
    | _ => P.cellsOf t == 1) = true) (hby : S.all (fun t => match P.underlying t with
    | some (.slice e) => decide (0 < P.bytesOf e)
    | _ => true) = true) {t : TypeId} (ht : t ∈ S) {v : Value} {x : DataW H} {p : List MemPlace} {r : Reach} {b0 : Nat} (hv : Value.okWide P w r b0 t v) (hx : DataW.Trod enc P w base spare held t v x p) :
    ∃ d, TyD P t d ∧ DRep w (fun r => r < w.heap.size) d v ∧ dwt d ≤ M.B x ∧ ∀ B, (x.weights P t).all (· ≤ B) = true → dle B d := by
  obtain ⟨fuel, hf⟩ := hx
  obtain ⟨d, h1, h2, h3, h4, h5⟩ := open_data M hS hc1 hby fuel t ht _ _ hf
  refine ⟨d, h1, ?_, h4, h5⟩
  cases h1 with
  | int hu hw =>
    obtain ⟨n, rfl⟩ := okWide_int hu hv
    exact CellsOk.rep (fun ds h => by cases h) h2
  | bool hu =>
    obtain ⟨n, rfl⟩ := okWide_bool hu hv
    exact CellsOk.rep (fun ds h => by cases h) h2
  | str hu hs =>
    obtain ⟨n, rfl⟩ := okWide_string hu hv
    exact CellsOk.rep (fun ds h => by cases h) h2
  | slice hu hl =>
    obtain ⟨a, len, cap, rfl⟩ := okWide_slice hu hv
    exact CellsOk.rep (fun ds h => by cases h) h2
  | struct hu hl =>
    obtain ⟨cs, rfl, hcs⟩ := okWide_struct hu hv
    obtain ⟨g1, g2⟩ := h2
    have e : (Value.agg cs).cells = cs := rfl
    rw [e] at g1 g2
    refine .agg (by simpa [D.cells] using g1) (fun i c u hc hu => (g2 i c u hc (by simpa using hu)).1) (fun i c u hc hu => (g2 i c u hc (by simpa using hu)).2)
inductive TyA (P : Program) : List TypeId → List D → Prop
  | nil : TyA P [] []
  | cons {t : TypeId} {ts : List TypeId} {d : D} {ds : List D} (h : TyD P t d) (hl : TyA P ts ds) : TyA P (t :: ts) (d :: ds)
theorem open_args (M : Bulk H) {S : List Nat} (hS : S.all (plainB P S) = true) (hc1 : S.all (fun t => match P.underlying t with
    | some (.struct _) => true
    | _ => P.cellsOf t == 1) = true) (hby : S.all (fun t => match P.underlying t with
    | some (.slice e) => decide (0 < P.bytesOf e)
    | _ => true) = true) {r : Reach} {b0 : Nat} : ∀ {ts : List TypeId} {vs : List Value} {xs : List (DataW H)} {ps : List MemPlace}, (∀ t ∈ ts, t ∈ S) → (∀ (j : Nat) t v, ts[j]? = some t → vs[j]? = some v → Value.okWide P w r b0 t v) → DataW.TrodAll enc P w base spare held ts vs xs ps →
    ∃ ds, TyA P ts ds ∧ ds.length = vs.length ∧ (∀ (i : Nat) (d : D) (v : Value), ds[i]? = some d → vs[i]? = some v → DRep w (fun r => r < w.heap.size) d v) ∧ lwt ds ≤ M.BA xs ∧ ∀ B, (DataW.weightsEach P ts xs).all (· ≤ B) = true → lle B ds
  | [], vs, xs, ps, _, _, h => by
    obtain ⟨rfl, rfl, rfl⟩ := trodAll_nil h
    exact ⟨[], .nil, rfl, fun i d v h => by simp at h, by simp [lwt], fun _ _ => trivial⟩
  | t :: ts, vs, xs, ps, hm, hv, h => by
    obtain ⟨v, vs', x, xs', p, q, rfl, rfl, rfl, h0, r0⟩ := trodAll_cons h
    obtain ⟨d, d1, d2, d3, d4⟩ := open_arg M hS hc1 hby (hm t List.mem_cons_self) (hv 0 t v rfl rfl) h0
    obtain ⟨ds, e1, e2, e3, e4, e5⟩ := open_args M hS hc1 hby (fun u hu => hm u (List.mem_cons_of_mem _ hu)) (fun j t v h1 h2 => hv (j + 1) t v (by simpa using h1) (by simpa using h2)) r0
    refine ⟨d :: ds, .cons d1 e1, by simp [e2], fun i c u hc hu => ?_, by rw [lwt, M.cons]; omega, fun B hB => ?_⟩
    · cases i with
      | zero => simp at hc hu; subst hc; subst hu; exact d2
      | succ i => exact e3 i c u (by simpa using hc) (by simpa using hu)
    · rw [DataW.weightsEach] at hB
      obtain ⟨h1, h2⟩ := all_app hB
      exact ⟨d4 B h1, e5 B h2⟩
theorem trod_lts {ps : List MemPlace} : ∀ {ts : List TypeId} {vs : List Value} {xs : List (DataW H)} {ps : List MemPlace}, DataW.TrodAll enc P w base spare held ts vs xs ps → ∀ x ∈ ps, x.block < w.heap.size
  | [], vs, xs, ps, h => by
    obtain ⟨rfl, rfl, rfl⟩ := trodAll_nil h
    intro x hx; cases hx
  | t :: ts, vs, xs, ps, h => by
    obtain ⟨v, vs', x, xs', p, q, rfl, rfl, rfl, h0, r0⟩ := trodAll_cons h
    intro y hy
    rcases List.mem_append.1 hy with hy | hy
    · obtain ⟨m, hm⟩ := h0
      exact DataW.trod_lt m _ _ _ hm y hy
    · exact trod_lts (ps := q) r0 y hy
theorem shut_args (hl : laidOutB P = true) {W' : World} (hb : Below w.heap.size w W') : ∀ {ts : List TypeId} {vs : List Value} {xs : List (DataW H)} {ps : List MemPlace}, (ts.all fun t => P.readableRec t && decide (t < P.types.size)) = true → DataW.TrodAll enc P w 0 (fun _ => true) true ts vs xs ps →
    DataW.TrodAll enc P W' 0 (fun b => decide (b < w.heap.size)) true ts vs xs ps
  | [], vs, xs, ps, _, h => by
    obtain ⟨rfl, rfl, rfl⟩ := trodAll_nil h
    exact trodAll_mk0
  | t :: ts, vs, xs, ps, ht, h => by
    obtain ⟨v, vs', x, xs', p, q, rfl, rfl, rfl, h0, r0⟩ := trodAll_cons h
    rw [List.all_cons, Bool.and_eq_true, Bool.and_eq_true, decide_eq_true_iff] at ht
    have lt0 : ∀ x ∈ p, x.block < w.heap.size := by obtain ⟨m, hm⟩ := h0; exact DataW.trod_lt m _ _ _ hm
    exact trodAll_cons_mk (Below.trod hl ht.1.1 ht.1.2 h0 hb lt0) (shut_args hl hb ht.2 r0)
/-- A law's call. -/
theorem calls_true {C : Ctx} {f : FuncId} {ds : List D} {vs : Array Value} (h : Fn C 0 f (ds.map .d) [] (.d (bool true)) []) (hE : C.Env w) (hN : C.N ≤ w.heap.size) (hlen : ds.length = vs.toList.length)
    (hr : ∀ (i : Nat) (d : D) (v : Value), ds[i]? = some d → vs.toList[i]? = some v → DRep w (fun r => r < w.heap.size) d v) : Calls C.P f vs w fun e w' => e = .returned (.bool true) ∧ Below w.heap.size w w' := by
  have hh : HRel C w (fun r => r < w.heap.size) [] [] := ⟨rfl, fun b l k h => by simp at h, fun b l k h => by simp at h, fun b k h => by simp at h, fun b b' l l' k k' h => by simp at h, fun r hr => hr, hE, hN⟩
  refine (h.2 w _ [] vs hh (by simpa using hlen) (fun i x v hx hv => ?_)).mono ?_
  · rw [List.getElem?_map, Option.map_eq_some_iff] at hx
    obtain ⟨d, hd, rfl⟩ := hx
    exact .d (hr i d v hd (by simpa using hv))
  · rintro e w' ⟨v, I', β', rfl, h1, h2, h3⟩
    refine ⟨?_, ⟨h3.os, h3.tape, h3.output, h3.size, fun k hk => h3.keep k hk (by rintro ⟨b, l, k, hb, _⟩; simp at hb)⟩⟩
    cases h1 with
    | d h => cases h; rfl
end
end Go.AM
end
section
namespace Go.AM
set_option linter.unusedVariables false
set_option linter.unusedSimpArgs false

mutual
def dsz : D → Nat
  | .v _ => 1
  | .lst l => 1 + lsz l
  | .agg l => 1 + lsz l
def lsz : List D → Nat
  | [] => 0
  | x :: r => dsz x + lsz r
end
theorem lsz_append : ∀ (l r : List D), lsz (l ++ r) = lsz l + lsz r
  | [], r => by simp [lsz]
  | x :: l, r => by rw [List.cons_append, lsz, lsz, lsz_append l r]; omega
theorem dsz_mem {x : D} : ∀ {l : List D}, x ∈ l → dsz x ≤ lsz l
  | y :: l, h => by
    rw [lsz]
    rcases List.mem_cons.1 h with rfl | h
    · omega
    · have := dsz_mem h; omega
theorem list_map {α : Type} {e : α → D} : ∀ {l : List D}, (∀ x ∈ l, ∃ a, x = e a) → ∃ as_ : List α, l = as_.map e
  | [], _ => ⟨[], rfl⟩
  | x :: r, h => by
    obtain ⟨a, rfl⟩ := h x List.mem_cons_self
    obtain ⟨as_, rfl⟩ := list_map (l := r) fun y hy => h y (List.mem_cons_of_mem _ hy)
    exact ⟨a :: as_, rfl⟩
def TyT (P : Program) : List TypeId → List D → Prop
  | [], ds => ds = []
  | t :: ts, ds => ∃ p r, TyD P t p ∧ TyT P ts r ∧ ds = p.cells ++ r
section
variable {P : Program}
theorem TyF.tyT : ∀ {fs : List Field} {ds : List D}, TyF P fs ds → TyT P (fs.map (·.type)) ds
  | _, _, .nil => rfl
  | _, _, .cons (p := p) (ds := ds) h hl => ⟨p, ds, h, hl.tyT, rfl⟩
theorem TyL.mem {e : TypeId} : ∀ {l : List D}, TyL P e l → ∀ x ∈ l, TyD P e x
  | _, .nil, x, hx => by cases hx
  | _, .cons h hl, x, hx => by
    rcases List.mem_cons.1 hx with rfl | hx
    · exact h
    · exact hl.mem x hx
theorem TyD.int_inv {t : TypeId} {d : D} (hu : P.underlying t = some (.int .i64)) (h : TyD P t d) : ∃ z, d = Go.AM.int z ∧ (Lit.int .i64 z).wf = true := by
  cases h with
  | int ht hw => rw [hu] at ht; cases ht; exact ⟨_, rfl, hw⟩
  | bool ht => rw [hu] at ht; cases ht
  | str ht => rw [hu] at ht; cases ht
  | slice ht => rw [hu] at ht; cases ht
  | struct ht => rw [hu] at ht; cases ht
theorem TyD.bool_inv {t : TypeId} {d : D} (hu : P.underlying t = some .bool) (h : TyD P t d) : ∃ z, d = Go.AM.bool z := by
  cases h with
  | int ht hw => rw [hu] at ht; cases ht
  | bool ht => exact ⟨_, rfl⟩
  | str ht => rw [hu] at ht; cases ht
  | slice ht => rw [hu] at ht; cases ht
  | struct ht => rw [hu] at ht; cases ht
theorem TyD.str_inv {t : TypeId} {d : D} (hu : P.underlying t = some .string) (h : TyD P t d) : ∃ s, d = Go.AM.str s := by
  cases h with
  | int ht hw => rw [hu] at ht; cases ht
  | bool ht => rw [hu] at ht; cases ht
  | str ht hs =>
    rename_i s
    obtain ⟨⟨l⟩⟩ := s
    exact ⟨l, rfl⟩
  | slice ht => rw [hu] at ht; cases ht
  | struct ht => rw [hu] at ht; cases ht
theorem TyD.slice_inv {t e : TypeId} {d : D} (hu : P.underlying t = some (.slice e)) (h : TyD P t d) : ∃ l, d = .lst l ∧ ∀ x ∈ l, TyD P e x := by
  cases h with
  | int ht hw => rw [hu] at ht; cases ht
  | bool ht => rw [hu] at ht; cases ht
  | str ht => rw [hu] at ht; cases ht
  | slice ht hl => rw [hu] at ht; cases ht; exact ⟨_, rfl, hl.mem⟩
  | struct ht => rw [hu] at ht; cases ht
theorem TyD.struct_inv {t : TypeId} {fs : Array Field} {ts : List TypeId} {d : D} (hu : P.underlying t = some (.struct fs)) (hts : fs.toList.map (·.type) = ts) (h : TyD P t d) : ∃ ds, d = .agg ds ∧ TyT P ts ds := by
  cases h with
  | int ht hw => rw [hu] at ht; cases ht
  | bool ht => rw [hu] at ht; cases ht
  | str ht => rw [hu] at ht; cases ht
  | slice ht => rw [hu] at ht; cases ht
  | struct ht hl => rw [hu] at ht; cases ht; exact ⟨_, rfl, hts ▸ hl.tyT⟩
end

/-- The trees' types by number. -/
structure TT (P : Program) where
  (kind kinds ty tys vard vards core cores bnd bnds alt alts tstr tint tbool opT opC opA : Nat)
  (fK fT fV fC fB fA : Array Field)
  hK : P.underlying kind = some (.struct fK)
  gK : fK.toList.map (·.type) = [kinds]
  hKs : P.underlying kinds = some (.slice kind)
  hT : P.underlying ty = some (.struct fT)
  gT : fT.toList.map (·.type) = [opT, tstr, kind, tys]
  hTs : P.underlying tys = some (.slice ty)
  hV : P.underlying vard = some (.struct fV)
  gV : fV.toList.map (·.type) = [tstr, ty]
  hVs : P.underlying vards = some (.slice vard)
  hC : P.underlying core = some (.struct fC)
  gC : fC.toList.map (·.type) = [opC, tstr, tint, ty, kind, ty, cores, tbool, bnds, alts]
  hCs : P.underlying cores = some (.slice core)
  hB : P.underlying bnd = some (.struct fB)
  gB : fB.toList.map (·.type) = [tstr, ty, core]
  hBs : P.underlying bnds = some (.slice bnd)
  hA : P.underlying alt = some (.struct fA)
  gA : fA.toList.map (·.type) = [opA, tstr, tint, vards, core]
  hAs : P.underlying alts = some (.slice alt)
  hstr : P.underlying tstr = some .string
  hint : P.underlying tint = some (.int .i64)
  hbool : P.underlying tbool = some .bool
  hopT : P.underlying opT = some (.int .i64)
  hopC : P.underlying opC = some (.int .i64)
  hopA : P.underlying opA = some (.int .i64)

section
variable {P : Program} (T : TT P)
theorem dec_kind : ∀ (n : Nat) (d : D), dsz d ≤ n → TyD P T.kind d → ∃ k, d = eK k := by
  intro n
  induction n with
  | zero => intro d hd; cases d <;> simp [dsz] at hd
  | succ n ih =>
    intro d hd h
    obtain ⟨ds, rfl, p, r, hp, hr, rfl⟩ := h.struct_inv T.hK T.gK
    obtain rfl : r = [] := hr
    obtain ⟨l, rfl, hl⟩ := hp.slice_inv T.hKs
    simp only [D.cells, List.append_nil, dsz, lsz] at hd ⊢
    obtain ⟨ks, rfl⟩ := list_map (e := eK) fun x hx => ih x (by have := dsz_mem hx; omega) (hl x hx)
    exact ⟨.mk ks, eK_fold (.mk ks)⟩
theorem dec_ty : ∀ (n : Nat) (d : D), dsz d ≤ n → TyD P T.ty d → ∃ t, d = eT t := by
  intro n
  induction n with
  | zero => intro d hd; cases d <;> simp [dsz] at hd
  | succ n ih =>
    intro d hd h
    obtain ⟨ds, rfl, p1, r1, h1, ⟨p2, r2, h2, ⟨p3, r3, h3, ⟨p4, r4, h4, h5, rfl⟩, rfl⟩, rfl⟩, rfl⟩ := h.struct_inv T.hT T.gT
    obtain rfl : r4 = [] := h5
    obtain ⟨op, rfl, _⟩ := h1.int_inv T.hopT
    obtain ⟨nm, rfl⟩ := h2.str_inv T.hstr
    obtain ⟨k, rfl⟩ := dec_kind T _ p3 (Nat.le_refl _) h3
    obtain ⟨l, rfl, hl⟩ := h4.slice_inv T.hTs
    rw [eK_cells] at hd ⊢
    simp only [D.cells, List.append_nil, List.cons_append, List.nil_append, dsz, lsz] at hd ⊢
    obtain ⟨ts, rfl⟩ := list_map (e := eT) fun x hx => ih x (by have := dsz_mem hx; omega) (hl x hx)
    exact ⟨.mk op nm k ts, eT_fold (.mk op nm k ts)⟩
theorem dec_var {d : D} (h : TyD P T.vard d) : ∃ v, d = eV v := by
  obtain ⟨ds, rfl, p1, r1, h1, ⟨p2, r2, h2, h5, rfl⟩, rfl⟩ := h.struct_inv T.hV T.gV
  obtain rfl : r2 = [] := h5
  obtain ⟨nm, rfl⟩ := h1.str_inv T.hstr
  obtain ⟨t, rfl⟩ := dec_ty T _ p2 (Nat.le_refl _) h2
  refine ⟨.mk nm t, ?_⟩
  rw [eT_cells]
  exact eV_fold (.mk nm t)
theorem dec_core : ∀ (n : Nat) (d : D), dsz d ≤ n → TyD P T.core d → ∃ e, d = eC e := by
  intro n
  induction n with
  | zero => intro d hd; cases d <;> simp [dsz] at hd
  | succ n ih =>
    intro d hd h
    obtain ⟨ds, rfl, p1, r1, h1, ⟨p2, r2, h2, ⟨p3, r3, h3, ⟨p4, r4, h4, ⟨p5, r5, h5, ⟨p6, r6, h6, ⟨p7, r7, h7, ⟨p8, r8, h8, ⟨p9, r9, h9, ⟨p10, r10, h10, h11, rfl⟩, rfl⟩, rfl⟩, rfl⟩, rfl⟩, rfl⟩, rfl⟩, rfl⟩, rfl⟩, rfl⟩ := h.struct_inv T.hC T.gC
    obtain rfl : r10 = [] := h11
    obtain ⟨op, rfl, _⟩ := h1.int_inv T.hopC
    obtain ⟨nm, rfl⟩ := h2.str_inv T.hstr
    obtain ⟨z, rfl, _⟩ := h3.int_inv T.hint
    obtain ⟨t, rfl⟩ := dec_ty T _ p4 (Nat.le_refl _) h4
    obtain ⟨k, rfl⟩ := dec_kind T _ p5 (Nat.le_refl _) h5
    obtain ⟨t', rfl⟩ := dec_ty T _ p6 (Nat.le_refl _) h6
    obtain ⟨l7, rfl, hl7⟩ := h7.slice_inv T.hCs
    obtain ⟨rc, rfl⟩ := h8.bool_inv T.hbool
    obtain ⟨l9, rfl, hl9⟩ := h9.slice_inv T.hBs
    obtain ⟨l10, rfl, hl10⟩ := h10.slice_inv T.hAs
    rw [eT_cells, eT_cells, eK_cells] at hd ⊢
    simp only [D.cells, List.append_nil, List.cons_append, List.nil_append, dsz, lsz] at hd ⊢
    obtain ⟨b7, b9, b10⟩ : lsz l7 ≤ n ∧ lsz l9 ≤ n ∧ lsz l10 ≤ n := by omega
    clear hd h
    obtain ⟨ks, rfl⟩ := list_map (e := eC) fun x hx => ih x (Nat.le_trans (dsz_mem hx) b7) (hl7 x hx)
    obtain ⟨bs, rfl⟩ := list_map (l := l9) (e := eB) fun x hx => by
      have hxs := dsz_mem hx
      obtain ⟨ds, rfl, q1, s1, g1, ⟨q2, s2, g2, ⟨q3, s3, g3, g4, rfl⟩, rfl⟩, rfl⟩ := (hl9 x hx).struct_inv T.hB T.gB
      obtain rfl : s3 = [] := g4
      obtain ⟨nm, rfl⟩ := g1.str_inv T.hstr
      obtain ⟨t, rfl⟩ := dec_ty T _ q2 (Nat.le_refl _) g2
      have hq : dsz q3 ≤ 1 + lsz q3.cells := by cases q3 <;> simp [dsz, lsz, D.cells]
      simp only [dsz, lsz_append, lsz, Nat.add_zero] at hxs
      obtain ⟨e, rfl⟩ := ih q3 (by omega) g3
      refine ⟨.mk nm t e, ?_⟩
      rw [eT_cells, eC_cells]
      exact eB_fold (.mk nm t e)
    obtain ⟨as_, rfl⟩ := list_map (l := l10) (e := eA) fun x hx => by
      have hxs := dsz_mem hx
      obtain ⟨ds, rfl, q1, s1, g1, ⟨q2, s2, g2, ⟨q3, s3, g3, ⟨q4, s4, g4, ⟨q5, s5, g5, g6, rfl⟩, rfl⟩, rfl⟩, rfl⟩, rfl⟩ := (hl10 x hx).struct_inv T.hA T.gA
      obtain rfl : s5 = [] := g6
      obtain ⟨op, rfl, _⟩ := g1.int_inv T.hopA
      obtain ⟨nm, rfl⟩ := g2.str_inv T.hstr
      obtain ⟨z, rfl, _⟩ := g3.int_inv T.hint
      obtain ⟨lv, rfl, hlv⟩ := g4.slice_inv T.hVs
      obtain ⟨vs, rfl⟩ := list_map (e := eV) fun x hx => dec_var T (hlv x hx)
      have hq : dsz q5 ≤ 1 + lsz q5.cells := by cases q5 <;> simp [dsz, lsz, D.cells]
      have hx2 : dsz q5 ≤ n := by
        simp only [dsz, lsz_append, lsz, Nat.add_zero] at hxs
        omega
      obtain ⟨e, rfl⟩ := ih q5 hx2 g5
      refine ⟨.mk op nm z vs e, ?_⟩
      rw [eC_cells]
      exact eA_fold (.mk op nm z vs e)
    exact ⟨.mk op nm z t k t' ks rc bs as_, eC_fold (.mk op nm z t k t' ks rc bs as_)⟩
end
end Go.AM
end
section
namespace Go.AM
set_option linter.unusedVariables false
set_option linter.unusedSimpArgs false
section
variable {C : Ctx} {K : Nat} {Q : Exit → St → Prop} {s : St} {w : World} {I : Nat → Prop} {β : List (Option Loc)} {a : Act}
theorem HRel.empty1 {σ : List Blk} (h : HRel C w I β σ) (sz K : Nat) : HRel C w I (β ++ [none]) (σ ++ [.arr sz []]) ∧ Ext K w I (Own β σ) β w I (Own (β ++ [none]) (σ ++ [.arr sz []])) (β ++ [none]) := by
  obtain ⟨h1, e1⟩ := h.slot K
  have hl := h.len
  obtain ⟨h2, e2⟩ := h1.setEmpty (nb := σ.length) (k := sz) (σ' := σ ++ [.arr sz []]) (by rw [← hl]; simp) (by simp) (fun b k hb hk => by
    rw [List.getElem?_append] at hk
    rw [List.getElem?_append]
    split at hk
    · rename_i hlt
      rw [if_pos hlt]; exact .inl hk
    · rename_i hlt
      have : b - σ.length = (b - σ.length - 1) + 1 := by omega
      rw [this] at hk
      simp at hk) (by simp) K
  exact ⟨h2, e1.trans e2⟩
/-- In a slot. -/
theorem Rel.nilSl {k : Nat} (sz K : Nat) (r : Rel C s a w I β) (hk : getT s.t k = some .nl) : Rel C ⟨(k, .sl s.σ.length 0 0) :: s.t, s.σ ++ [.arr sz []], s.n⟩ a w I (β ++ [none]) ∧ Ext K w I (Own β s.σ) β w I (Own (β ++ [none]) (s.σ ++ [.arr sz []])) (β ++ [none]) := by
  obtain ⟨h1, e1⟩ := r.heap.empty1 sz K
  obtain ⟨_, e2⟩ := r.heap.empty1 sz s.σ.length
  refine ⟨⟨r.size, r.defers, fun j x hx => ?_, h1⟩, e1⟩
  rw [getT] at hx
  split at hx
  · rename_i e
    subst e
    cases hx
    obtain ⟨u, g1, g2⟩ := r.tmps k _ hk
    cases g2
    exact ⟨_, g1, .sl0⟩
  · exact (r.tmps.ext r.heap e2 (Nat.le_refl _)) j x hx
theorem AK.nilSl {c : Code} {k : List It} (slot sz : Nat) (hk : getT s.t slot = some .nl) (h : AK C K Q (.code c :: k) ⟨(slot, .sl s.σ.length 0 0) :: s.t, s.σ ++ [.arr sz []], s.n⟩) : AK C K Q (.code c :: k) s := by
  intro a w I β r
  obtain ⟨r', e⟩ := r.nilSl (k := slot) sz K hk
  exact wp_mono (h a w I _ r') fun e' a' w' ⟨s'', I', β'', q, r'', e''⟩ => ⟨s'', I', β'', q, r'', e.trans e''⟩
end
end Go.AM
end
section
namespace Go.AM
set_option linter.unusedVariables false
set_option linter.unusedSimpArgs false
section
variable {C : Ctx} {K : Nat} {Q : Exit → St → Prop} {s : St} {w : World} {I : Nat → Prop} {β : List (Option Loc)} {a : Act}
theorem getB_set {σ : List Blk} {b c : Nat} {k' q : Blk} (h : (σ.set b k')[c]? = some q) : (c = b ∧ q = k') ∨ (c ≠ b ∧ σ[c]? = some q) := by
  rw [List.getElem?_set] at h
  split at h
  · rename_i e
    subst e
    split at h
    · exact .inl ⟨rfl, (Option.some.inj h).symm⟩
    · cases h
  · rename_i e; exact .inr ⟨fun h => e h.symm, h⟩
theorem HRel.setB {σ : List Blk} {b : Nat} {k k' : Blk} (h : HRel C w I β σ) (hb : σ[b]? = some k) (hl : k.live = true) (hl' : k'.live = true) (hk : ∀ l, β[b]? = some (some l) → BRel w I β k l → BRel w I β k' l) (hn : β[b]? ≠ some none) :
    HRel C w I β (σ.set b k') ∧ Ext K w I (Own β σ) β w I (Own β (σ.set b k')) β := by
  have hO : ∀ r, Own β (σ.set b k') r → Own β σ r := by
    rintro r ⟨c, l, q, h1, h2, h3, rfl⟩
    rcases getB_set h2 with ⟨rfl, rfl⟩ | ⟨_, h4⟩
    · exact ⟨c, l, k, h1, hb, hl, rfl⟩
    · exact ⟨c, l, q, h1, h4, h3, rfl⟩
  refine ⟨⟨by rw [List.length_set]; exact h.len, fun c l q hc hq => ?_, fun c l q hc hq hv => ?_, fun c q hc hq => ?_, fun c c' l l' q q' hc hq hv hc' hq' hv' e => ?_, h.imm, h.env, h.size⟩, { Ext.refl K w I (Own β σ) β with own := fun r hr => .inl (hO r hr) }⟩
  · rcases getB_set hq with ⟨rfl, rfl⟩ | ⟨_, h4⟩
    · exact hk l hc (h.blk c l k hc hb)
    · exact h.blk c l q hc h4
  · rcases getB_set hq with ⟨rfl, rfl⟩ | ⟨_, h4⟩
    · exact h.own c l k hc hb hl
    · exact h.own c l q hc h4 hv
  · rcases getB_set hq with ⟨rfl, rfl⟩ | ⟨_, h4⟩
    · exact absurd hc hn
    · exact h.nowh c q hc h4
  · rcases getB_set hq with ⟨e1, rfl⟩ | ⟨_, h4⟩
    · subst e1
      rcases getB_set hq' with ⟨e2, rfl⟩ | ⟨_, h5⟩
      · exact e2.symm
      · exact h.dist c c' l l' k q' hc hb hl hc' h5 hv' e
    · rcases getB_set hq' with ⟨e2, rfl⟩ | ⟨_, h5⟩
      · subst e2
        exact h.dist c c' l l' q k hc h4 hv hc' hb hl e
      · exact h.dist c c' l l' q q' hc h4 hv hc' h5 hv' e
theorem Rel.nilCell {b i : Nat} {cs : List A} (sz K : Nat) (r : Rel C s a w I β) (hb : s.σ[b]? = some (.cells cs)) (hi : cs[i]? = some .nl) :
    Rel C ⟨s.t, List.set (s.σ ++ [Blk.arr sz []]) b (.cells (cs.set i (.sl s.σ.length 0 0))), s.n⟩ a w I (β ++ [none]) ∧ Ext K w I (Own β s.σ) β w I (Own (β ++ [none]) (List.set (s.σ ++ [Blk.arr sz []]) b (.cells (cs.set i (.sl s.σ.length 0 0))))) (β ++ [none]) := by
  obtain ⟨h1, e1⟩ := r.heap.empty1 sz K
  obtain ⟨_, e2⟩ := r.heap.empty1 sz s.σ.length
  have hlen := r.heap.len
  have hlt : b < s.σ.length := (List.getElem?_eq_some_iff.1 hb).1
  have hb' : (s.σ ++ [.arr sz []])[b]? = some (.cells cs) := by rw [List.getElem?_append_left hlt]; exact hb
  have hne : (β ++ [none])[b]? ≠ some none := by
    intro hq
    rw [List.getElem?_append_left (by omega)] at hq
    rcases r.heap.nowh b _ hq hb with h | h | ⟨n, h⟩
    · cases h
    · cases h; simp at hi
    · cases h
  obtain ⟨h3, e3⟩ := h1.setB (K := K) (k' := .cells (cs.set i (.sl s.σ.length 0 0))) hb' rfl rfl (fun l hl hk => by
    obtain ⟨f, hf⟩ := hk
    refine ⟨f, fun j x hj => ?_⟩
    rw [List.getElem?_set] at hj
    split at hj
    · rename_i e
      subst e
      split at hj
      · cases hj
        obtain ⟨p1, p2, p3⟩ := hf i _ hi
        refine ⟨p1, p2, ?_⟩
        generalize f i = v at p3
        cases p3
        exact .sl0
      · cases hj
    · exact hf j x hj) hne
  exact ⟨⟨r.size, r.defers, r.tmps.ext r.heap e2 (Nat.le_refl _), h3⟩, e1.trans e3⟩
theorem AK.nilCell {c : Code} {k : List It} (b i sz : Nat) {cs : List A} (hb : s.σ[b]? = some (.cells cs)) (hi : cs[i]? = some .nl) (h : AK C K Q (.code c :: k) ⟨s.t, List.set (s.σ ++ [Blk.arr sz []]) b (.cells (cs.set i (.sl s.σ.length 0 0))), s.n⟩) : AK C K Q (.code c :: k) s := by
  intro a w I β r
  obtain ⟨r', e⟩ := r.nilCell (b := b) (i := i) sz K hb hi
  exact wp_mono (h a w I _ r') fun e' a' w' ⟨s'', I', β'', q, r'', e''⟩ => ⟨s'', I', β'', q, r'', e.trans e''⟩
end
end Go.AM
end
section
namespace Go.AM
set_option linter.unusedVariables false
structure CI where
  name : Str
  tag : Int
  arity : Int
structure Rf where
  op : Int
  n : Int
structure Fm where
  op : Int
  block : Int
  arity : Int
  free : List Rf
structure Ar where
  op : Int
  n : Int
  slot : Int
  block : Int
structure Ins where
  op : Int
  n : Int
  slot : Int
  args : List Rf
  forms : List Fm
  arms : List Ar
structure Bl where
  body : List Ins
structure Gl where
  name : Str
  form : Fm
structure Ob where
  cons : List CI
  exts : List Str
  globs : List Gl
  blocks : List Bl
def eCI (x : CI) : D := .agg [str x.name, int x.tag, int x.arity]
def eRf (x : Rf) : D := .agg [int x.op, int x.n]
def eFm (x : Fm) : D := .agg [int x.op, int x.block, int x.arity, .lst (x.free.map eRf)]
def eAr (x : Ar) : D := .agg [int x.op, int x.n, int x.slot, int x.block]
def eIns (x : Ins) : D := .agg [int x.op, int x.n, int x.slot, .lst (x.args.map eRf), .lst (x.forms.map eFm), .lst (x.arms.map eAr)]
def eBl (x : Bl) : D := .agg [.lst (x.body.map eIns)]
def eGl (x : Gl) : D := .agg [str x.name, int x.form.op, int x.form.block, int x.form.arity, .lst (x.form.free.map eRf)]
def eStr (s : Str) : D := str s
def eOb (x : Ob) : D := .agg [.lst (x.cons.map eCI), .lst (x.exts.map eStr), .lst (x.globs.map eGl), .lst (x.blocks.map eBl)]
theorem eCI_cells (x : CI) : (eCI x).cells = [str x.name, int x.tag, int x.arity] := rfl
theorem eRf_cells (x : Rf) : (eRf x).cells = [int x.op, int x.n] := rfl
theorem eFm_cells (x : Fm) : (eFm x).cells = [int x.op, int x.block, int x.arity, .lst (x.free.map eRf)] := rfl
theorem eAr_cells (x : Ar) : (eAr x).cells = [int x.op, int x.n, int x.slot, int x.block] := rfl
theorem eIns_cells (x : Ins) : (eIns x).cells = [int x.op, int x.n, int x.slot, .lst (x.args.map eRf), .lst (x.forms.map eFm), .lst (x.arms.map eAr)] := rfl
theorem eBl_cells (x : Bl) : (eBl x).cells = [.lst (x.body.map eIns)] := rfl
theorem eGl_cells (x : Gl) : (eGl x).cells = [str x.name, int x.form.op, int x.form.block, int x.form.arity, .lst (x.form.free.map eRf)] := rfl
theorem eStr_cells (s : Str) : (eStr s).cells = [str s] := rfl
theorem eOb_cells (x : Ob) : (eOb x).cells = [.lst (x.cons.map eCI), .lst (x.exts.map eStr), .lst (x.globs.map eGl), .lst (x.blocks.map eBl)] := rfl
theorem eStr_eq (s : Str) : eStr s = str s := rfl
theorem encO : (type_of% @eCI_cells) ∧ (type_of% @eRf_cells) ∧ (type_of% @eFm_cells) ∧ (type_of% @eAr_cells) ∧ (type_of% @eIns_cells) ∧ (type_of% @eBl_cells) ∧ (type_of% @eGl_cells) ∧ (type_of% @eOb_cells) ∧ (type_of% @eStr_cells) :=
  ⟨eCI_cells, eRf_cells, eFm_cells, eAr_cells, eIns_cells, eBl_cells, eGl_cells, eOb_cells, eStr_cells⟩
end Go.AM
end
section
namespace Go.AM
set_option linter.unusedVariables false
set_option linter.unusedSimpArgs false
def wI (z : Int) : Prop := -9223372036854775808 ≤ z ∧ z ≤ 9223372036854775807
theorem wI_of {z : Int} (h : (Lit.int .i64 z).wf = true) : wI z := by
  unfold Lit.wf at h
  simp only [Bool.and_eq_true, decide_eq_true_iff] at h
  exact h
theorem list_mapP {α : Type} {e : α → D} {p : α → Prop} : ∀ {l : List D}, (∀ x ∈ l, ∃ a, x = e a ∧ p a) → ∃ as_ : List α, l = as_.map e ∧ ∀ a ∈ as_, p a
  | [], _ => ⟨[], rfl, fun a h => by cases h⟩
  | x :: r, h => by
    obtain ⟨a, rfl, ha⟩ := h x List.mem_cons_self
    obtain ⟨as_, rfl, has⟩ := list_mapP (l := r) fun y hy => h y (List.mem_cons_of_mem _ hy)
    refine ⟨a :: as_, rfl, fun b hb => ?_⟩
    rcases List.mem_cons.1 hb with rfl | hb
    · exact ha
    · exact has b hb
def CI.ok (x : CI) : Prop := wI x.tag ∧ wI x.arity
def Rf.ok (x : Rf) : Prop := wI x.op ∧ wI x.n
def Fm.ok (x : Fm) : Prop := wI x.op ∧ wI x.block ∧ wI x.arity ∧ ∀ r ∈ x.free, Rf.ok r
def Ar.ok (x : Ar) : Prop := wI x.op ∧ wI x.n ∧ wI x.slot ∧ wI x.block
def Ins.ok (x : Ins) : Prop := wI x.op ∧ wI x.n ∧ wI x.slot ∧ (∀ r ∈ x.args, Rf.ok r) ∧ (∀ f ∈ x.forms, Fm.ok f) ∧ ∀ a ∈ x.arms, Ar.ok a
def Bl.ok (x : Bl) : Prop := ∀ i ∈ x.body, Ins.ok i
def Gl.ok (x : Gl) : Prop := Fm.ok x.form
def Ob.ok (x : Ob) : Prop := (∀ c ∈ x.cons, CI.ok c) ∧ (∀ g ∈ x.globs, Gl.ok g) ∧ ∀ b ∈ x.blocks, Bl.ok b
/-- The types of machine code by number. -/
structure OT (P : Program) where
  (tint tstr tstrs ci cis rfo rf rfs fmo fm fms aro ar ars ino ins inss bl bls gl gls ob obs : Nat)
  (fCI fRf fFm fAr fIns fBl fGl fOb : Array Field)
  hint : P.underlying tint = some (.int .i64)
  hstr : P.underlying tstr = some .string
  hstrs : P.underlying tstrs = some (.slice tstr)
  hrfo : P.underlying rfo = some (.int .i64)
  hfmo : P.underlying fmo = some (.int .i64)
  haro : P.underlying aro = some (.int .i64)
  hino : P.underlying ino = some (.int .i64)
  hCI : P.underlying ci = some (.struct fCI)
  gCI : fCI.toList.map (·.type) = [tstr, tint, tint]
  hCIs : P.underlying cis = some (.slice ci)
  hRf : P.underlying rf = some (.struct fRf)
  gRf : fRf.toList.map (·.type) = [rfo, tint]
  hRfs : P.underlying rfs = some (.slice rf)
  hFm : P.underlying fm = some (.struct fFm)
  gFm : fFm.toList.map (·.type) = [fmo, tint, tint, rfs]
  hFms : P.underlying fms = some (.slice fm)
  hAr : P.underlying ar = some (.struct fAr)
  gAr : fAr.toList.map (·.type) = [aro, tint, tint, tint]
  hArs : P.underlying ars = some (.slice ar)
  hIns : P.underlying ins = some (.struct fIns)
  gIns : fIns.toList.map (·.type) = [ino, tint, tint, rfs, fms, ars]
  hInss : P.underlying inss = some (.slice ins)
  hBl : P.underlying bl = some (.struct fBl)
  gBl : fBl.toList.map (·.type) = [inss]
  hBls : P.underlying bls = some (.slice bl)
  hGl : P.underlying gl = some (.struct fGl)
  gGl : fGl.toList.map (·.type) = [tstr, fm]
  hGls : P.underlying gls = some (.slice gl)
  hOb : P.underlying ob = some (.struct fOb)
  gOb : fOb.toList.map (·.type) = [cis, tstrs, gls, bls]
  hObs : P.underlying obs = some (.slice ob)
section
variable {P : Program} (T : OT P)
theorem dec_ci {d : D} (h : TyD P T.ci d) : ∃ x, d = eCI x ∧ x.ok := by
  obtain ⟨ds, rfl, p1, r1, h1, ⟨p2, r2, h2, ⟨p3, r3, h3, h5, rfl⟩, rfl⟩, rfl⟩ := h.struct_inv T.hCI T.gCI
  obtain rfl : r3 = [] := h5
  obtain ⟨nm, rfl⟩ := h1.str_inv T.hstr
  obtain ⟨a, rfl, ha⟩ := h2.int_inv T.hint
  obtain ⟨b, rfl, hb⟩ := h3.int_inv T.hint
  exact ⟨⟨nm, a, b⟩, rfl, wI_of ha, wI_of hb⟩
theorem dec_rf {d : D} (h : TyD P T.rf d) : ∃ x, d = eRf x ∧ x.ok := by
  obtain ⟨ds, rfl, p1, r1, h1, ⟨p2, r2, h2, h5, rfl⟩, rfl⟩ := h.struct_inv T.hRf T.gRf
  obtain rfl : r2 = [] := h5
  obtain ⟨a, rfl, ha⟩ := h1.int_inv T.hrfo
  obtain ⟨b, rfl, hb⟩ := h2.int_inv T.hint
  exact ⟨⟨a, b⟩, rfl, wI_of ha, wI_of hb⟩
theorem dec_rfs {d : D} (h : TyD P T.rfs d) : ∃ l : List Rf, d = .lst (l.map eRf) ∧ ∀ r ∈ l, Rf.ok r := by
  obtain ⟨l, rfl, hl⟩ := h.slice_inv T.hRfs
  obtain ⟨rs, rfl, hr⟩ := list_mapP fun x hx => dec_rf T (hl x hx)
  exact ⟨rs, rfl, hr⟩
theorem dec_fm {d : D} (h : TyD P T.fm d) : ∃ x, d = eFm x ∧ x.ok := by
  obtain ⟨ds, rfl, p1, r1, h1, ⟨p2, r2, h2, ⟨p3, r3, h3, ⟨p4, r4, h4, h5, rfl⟩, rfl⟩, rfl⟩, rfl⟩ := h.struct_inv T.hFm T.gFm
  obtain rfl : r4 = [] := h5
  obtain ⟨a, rfl, ha⟩ := h1.int_inv T.hfmo
  obtain ⟨b, rfl, hb⟩ := h2.int_inv T.hint
  obtain ⟨c, rfl, hc⟩ := h3.int_inv T.hint
  obtain ⟨rs, rfl, hr⟩ := dec_rfs T h4
  exact ⟨⟨a, b, c, rs⟩, rfl, wI_of ha, wI_of hb, wI_of hc, hr⟩
theorem dec_ar {d : D} (h : TyD P T.ar d) : ∃ x, d = eAr x ∧ x.ok := by
  obtain ⟨ds, rfl, p1, r1, h1, ⟨p2, r2, h2, ⟨p3, r3, h3, ⟨p4, r4, h4, h5, rfl⟩, rfl⟩, rfl⟩, rfl⟩ := h.struct_inv T.hAr T.gAr
  obtain rfl : r4 = [] := h5
  obtain ⟨a, rfl, ha⟩ := h1.int_inv T.haro
  obtain ⟨b, rfl, hb⟩ := h2.int_inv T.hint
  obtain ⟨c, rfl, hc⟩ := h3.int_inv T.hint
  obtain ⟨e, rfl, he⟩ := h4.int_inv T.hint
  exact ⟨⟨a, b, c, e⟩, rfl, wI_of ha, wI_of hb, wI_of hc, wI_of he⟩
theorem dec_ins {d : D} (h : TyD P T.ins d) : ∃ x, d = eIns x ∧ x.ok := by
  obtain ⟨ds, rfl, p1, r1, h1, ⟨p2, r2, h2, ⟨p3, r3, h3, ⟨p4, r4, h4, ⟨p5, r5, h5, ⟨p6, r6, h6, h7, rfl⟩, rfl⟩, rfl⟩, rfl⟩, rfl⟩, rfl⟩ := h.struct_inv T.hIns T.gIns
  obtain rfl : r6 = [] := h7
  obtain ⟨a, rfl, ha⟩ := h1.int_inv T.hino
  obtain ⟨b, rfl, hb⟩ := h2.int_inv T.hint
  obtain ⟨c, rfl, hc⟩ := h3.int_inv T.hint
  obtain ⟨rs, rfl, hr⟩ := dec_rfs T h4
  obtain ⟨l5, rfl, hl5⟩ := h5.slice_inv T.hFms
  obtain ⟨fs, rfl, hf⟩ := list_mapP fun x hx => dec_fm T (hl5 x hx)
  obtain ⟨l6, rfl, hl6⟩ := h6.slice_inv T.hArs
  obtain ⟨as_, rfl, has⟩ := list_mapP fun x hx => dec_ar T (hl6 x hx)
  exact ⟨⟨a, b, c, rs, fs, as_⟩, rfl, wI_of ha, wI_of hb, wI_of hc, hr, hf, has⟩
theorem dec_bl {d : D} (h : TyD P T.bl d) : ∃ x, d = eBl x ∧ x.ok := by
  obtain ⟨ds, rfl, p1, r1, h1, h2, rfl⟩ := h.struct_inv T.hBl T.gBl
  obtain rfl : r1 = [] := h2
  obtain ⟨l, rfl, hl⟩ := h1.slice_inv T.hInss
  obtain ⟨is, rfl, hi⟩ := list_mapP fun x hx => dec_ins T (hl x hx)
  exact ⟨⟨is⟩, rfl, hi⟩
theorem dec_gl {d : D} (h : TyD P T.gl d) : ∃ x, d = eGl x ∧ x.ok := by
  obtain ⟨ds, rfl, p1, r1, h1, ⟨p2, r2, h2, h5, rfl⟩, rfl⟩ := h.struct_inv T.hGl T.gGl
  obtain rfl : r2 = [] := h5
  obtain ⟨nm, rfl⟩ := h1.str_inv T.hstr
  obtain ⟨f, rfl, hf⟩ := dec_fm T h2
  exact ⟨⟨nm, f⟩, rfl, hf⟩
theorem dec_strs {d : D} (h : TyD P T.tstrs d) : ∃ l : List Str, d = .lst (l.map eStr) := by
  obtain ⟨l, rfl, hl⟩ := h.slice_inv T.hstrs
  obtain ⟨rs, rfl⟩ := list_map (e := eStr) fun x hx => (hl x hx).str_inv T.hstr
  exact ⟨rs, rfl⟩
theorem dec_ob {d : D} (h : TyD P T.ob d) : ∃ x, d = eOb x ∧ x.ok := by
  obtain ⟨ds, rfl, p1, r1, h1, ⟨p2, r2, h2, ⟨p3, r3, h3, ⟨p4, r4, h4, h5, rfl⟩, rfl⟩, rfl⟩, rfl⟩ := h.struct_inv T.hOb T.gOb
  obtain rfl : r4 = [] := h5
  obtain ⟨l1, rfl, hl1⟩ := h1.slice_inv T.hCIs
  obtain ⟨cs, rfl, hc⟩ := list_mapP fun x hx => dec_ci T (hl1 x hx)
  obtain ⟨xs, rfl⟩ := dec_strs T h2
  obtain ⟨l3, rfl, hl3⟩ := h3.slice_inv T.hGls
  obtain ⟨gs, rfl, hg⟩ := list_mapP fun x hx => dec_gl T (hl3 x hx)
  obtain ⟨l4, rfl, hl4⟩ := h4.slice_inv T.hBls
  obtain ⟨bs, rfl, hb⟩ := list_mapP fun x hx => dec_bl T (hl4 x hx)
  exact ⟨⟨cs, xs, gs, bs⟩, rfl, hc, hg, hb⟩
theorem dec_obs {d : D} (h : TyD P T.obs d) : ∃ l : List Ob, d = .lst (l.map eOb) ∧ ∀ x ∈ l, x.ok := by
  obtain ⟨l, rfl, hl⟩ := h.slice_inv T.hObs
  obtain ⟨rs, rfl, hr⟩ := list_mapP fun x hx => dec_ob T (hl x hx)
  exact ⟨rs, rfl, hr⟩
end
theorem lwt_len {l : List D} (h : ∀ x ∈ l, 1 ≤ dwt x) : l.length ≤ lwt l := by
  induction l with
  | nil => simp
  | cons x r ih =>
    have h1 := h x List.mem_cons_self
    have h2 := ih fun y hy => h y (List.mem_cons_of_mem _ hy)
    rw [List.length_cons, lwt]; omega
theorem lwt_mem {x : D} : ∀ {l : List D}, x ∈ l → dwt x ≤ lwt l
  | y :: l, h => by
    rw [lwt]
    rcases List.mem_cons.1 h with rfl | h
    · omega
    · have := lwt_mem h; omega
theorem dwt_eOb (x : Ob) : x.blocks.length + x.globs.length + x.exts.length + x.cons.length + 4 ≤ dwt (eOb x) := by
  have e : dwt (eOb x) = lwt [.lst (x.cons.map eCI), .lst (x.exts.map eStr), .lst (x.globs.map eGl), .lst (x.blocks.map eBl)] := by unfold eOb; rw [dwt]
  rw [e]
  simp only [lwt, dwt]
  have h1 : (x.cons.map eCI).length ≤ lwt (x.cons.map eCI) := lwt_len fun y hy => by
    obtain ⟨z, _, rfl⟩ := List.mem_map.1 hy
    unfold eCI; simp only [dwt, lwt, str, int]; omega
  have h2 : (x.exts.map eStr).length ≤ lwt (x.exts.map eStr) := lwt_len fun y hy => by
    obtain ⟨z, _, rfl⟩ := List.mem_map.1 hy
    simp [eStr, dwt, str]
  have h3 : (x.globs.map eGl).length ≤ lwt (x.globs.map eGl) := lwt_len fun y hy => by
    obtain ⟨z, _, rfl⟩ := List.mem_map.1 hy
    unfold eGl; simp only [dwt, lwt, str, int]; omega
  have h4 : (x.blocks.map eBl).length ≤ lwt (x.blocks.map eBl) := lwt_len fun y hy => by
    obtain ⟨z, _, rfl⟩ := List.mem_map.1 hy
    unfold eBl; simp only [dwt, lwt]; omega
  rw [List.length_map] at h1 h2 h3 h4
  omega
end Go.AM
end
section
namespace Go.AM
open Go.RowKit
set_option linter.unusedVariables false
set_option linter.unusedSimpArgs false

theorem scal_eq {w : World} {I : Nat → Prop} {β : List (Option Loc)} : ∀ {us : List Value} {vs : Array Value}, us.length = vs.size → (∀ (i : Nat) (x : A) (v : Value), (us.map fun u => A.d (.v u))[i]? = some x → vs[i]? = some v → ARep w I β x v) → vs = us.toArray := by
  intro us vs hl h
  apply Array.ext
  · simp [hl]
  · intro i h1 h2
    have h2' : i < us.length := by simpa using h2
    have := h i _ vs[i] (by rw [List.getElem?_map, List.getElem?_eq_getElem h2']; rfl) (Array.getElem?_eq_getElem h1)
    obtain ⟨e, _⟩ := rep_v this
    rw [e]; simp
theorem Fn.lib {C : Ctx} {f : FuncId} {us : List Value} {r : A} (hc : callable C.P f = true) (h : ∀ w, C.Env w → Calls C.P f us.toArray w fun e w' => ∃ rv, e = .returned rv ∧ (∀ I, ARep w' I [] r rv) ∧ Below w.heap.size w w') :
    Fn C 0 f (us.map fun u => .d (.v u)) [] r [] := by
  refine ⟨hc, fun w I β vs hh hlen hr => ?_⟩
  have hβ : β = [] := by have := hh.len; exact List.eq_nil_of_length_eq_zero this
  subst hβ
  obtain rfl := scal_eq (by simpa using hlen) hr
  refine (h w hh.env).mono ?_
  rintro e w' ⟨rv, rfl, hv, hb⟩
  obtain ⟨g1, g2⟩ := hh.grow (I' := I) 0 hb.os hb.tape hb.output hb.size hb.block (fun _ h => h) (fun _ h => .inl h)
  exact ⟨rv, I, [], rfl, hv I, g1, g2⟩
theorem rep_s {w : World} {I : Nat → Prop} {β : List (Option Loc)} {u : Value} (h : u.oneCell' = true) : ARep w I β (.d (.v u)) u := .d (.v h)
theorem rep_t2 {w : World} {I : Nat → Prop} {β : List (Option Loc)} {a b : A} {u v : Value} (h1 : ARep w I β a u) (h2 : ARep w I β b v) : ARep w I β (.tup [a, b]) (.tuple #[u, v]) := by
  refine .tup rfl (fun i c x hc hx => ?_)
  match i with
  | 0 => simp at hc hx; subst hc; subst hx; exact h1
  | 1 => simp at hc hx; subst hc; subst hx; exact h2
  | i + 2 => simp at hc
theorem rep_t3 {w : World} {I : Nat → Prop} {β : List (Option Loc)} {a b c : A} {u v x : Value} (h1 : ARep w I β a u) (h2 : ARep w I β b v) (h3 : ARep w I β c x) : ARep w I β (.tup [a, b, c]) (.tuple #[u, v, x]) := by
  refine .tup rfl (fun i q y hc hx => ?_)
  match i with
  | 0 => simp at hc hx; subst hc; subst hx; exact h1
  | 1 => simp at hc hx; subst hc; subst hx; exact h2
  | 2 => simp at hc hx; subst hc; subst hx; exact h3
  | i + 3 => simp at hc
end Go.AM
end
