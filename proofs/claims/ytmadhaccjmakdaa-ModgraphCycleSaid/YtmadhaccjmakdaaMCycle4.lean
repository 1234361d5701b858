/- Part 4 of 6 of one proof: graph.Levels in the form in which printed texts call it -/
import Derived.ChangeAlike
import Derived.Laws.EntriesVeiled
import Derived.Maps.OwnOps
import Derived.Maps.OwnSet
import Derived.Maps.Views
import Derived.Orders
import Derived.RegionTactic
import Derived.Tactics
import Derived.Test.YtmadhaccjmakdaaMCycle1
import Derived.Test.YtmadhaccjmakdaaMCycle2
import Derived.Test.YtmadhaccjmakdaaMCycle3
set_option linter.unusedVariables false
set_option linter.unusedSimpArgs false
/- ordered's inner function: a component enters the waiting ones at its place. -/
namespace Go.Proofs.Ytmadhaccjmakdaa
open Go.RowKit Go.Proofs.YtmadhaccjmakdaaW.PrintWords Go.Proofs.YtmadhaccjmakdaaW.PrintLast Go.Proofs.YtmadhaccjmakdaaW.PrintMore Go.Proofs.Ytmadhaccjmakdaa.P
namespace Od
open Tj Rw
def enterF (ms : List (List Int)) (c : Int) (ready : List Int) : Option (List Int) :=
 if Fine ms c ∧ (∀ d ∈ ready, Fine ms d) ∧ ready.Pairwise (fun a b => first ms a ≤ first ms b) ∧ ready.length < 17592186044415 then some (ins ready (pos ms (first ms c) ready) c) else none
def Entered (W1 : World) (base br : Nat) (vr : Value) (ready' : List Int) (w : World) (e : Ending) (w' : World) : Prop :=
 e = .returned (.tuple #[]) ∧ Below W1.heap.size W1 w' ∧ w.heap.size ≤ w'.heap.size ∧ (∃ vr', w'.heap[br]? = some (.cells #[vr'] 55 (0, 0)) ∧ RowAt w' base vr' ready') ∧
  ∀ k, k < w.heap.size → k ≠ br → vr.ownBlock ≠ some k → w'.heap[k]? = w.heap[k]?
set_option maxRecDepth 100000 in
set_option maxHeartbeats 4000000 in
theorem enter_calls (W1 w : World) (bm br : Nat) (ms : List (List Int)) (c : Int) (base : Nat) (vr : Value) (ready ready' : List Int) (M : MsAt W1 bm ms) (hb : Below W1.heap.size W1 w) (hbr : W1.heap.size ≤ br) (hbase : W1.heap.size ≤ base) (hbw : base ≤ w.heap.size)
 (hv : w.heap[br]? = some (.cells #[vr] 55 (0, 0))) (hR : RowAt w base vr ready) (h : enterF ms c ready = some ready') :
 Calls Try.prog 51 #[.int .i64 c, P1 br, P1 bm] w (Entered W1 base br vr ready' w) := by
 unfold enterF at h
 by_cases hc : Fine ms c ∧ (∀ d ∈ ready, Fine ms d) ∧ ready.Pairwise (fun a b => first ms a ≤ first ms b) ∧ ready.length < 17592186044415
 case neg => rw [if_neg hc] at h; cases h
 rw [if_pos hc] at h
 obtain rfl := Option.some.inj h
 clear h
 obtain ⟨⟨h0, h1, h2, h3, h4⟩, hF, hS, hL⟩ := hc
 obtain ⟨A, cc, k1, k2⟩ := M.cell
 have BS := Aside0.mk (fun n => bsf_calls W1 (w.drewN n) bm ms (first ms c) base vr ready M (pw_below_drewN hb n) (hR.kept (fun _ _ => rfl)) hF h3 h4 hS (by omega))
 have HR := Aside0.mk hR
 have HB := Aside0.mk hb
 have HV := Aside0.mk hv
 clear hR hF hS M
 obtain ⟨A2, c2, rfl, hlc, hcm⟩ := HR.out.slice
 have c0 := cell_of_one hv
 have c1 := cell_of_one (blk_below k1 hb)
 obtain ⟨ad, A0, c0, rfl, hx, hl0, hi0⟩ := at_L11 k2 c h0 h1
 have hx1 := (hb.cell (World.block_lt_of_cell? _ _ hx)).trans hx
 have el : rd_L11 ms c = row ms c := rfl
 rw [el] at hx1 hi0
 obtain ⟨ad2, rfl, hy⟩ := Kd.at_int hi0 0 (by omega) (by omega)
 have hy1 := (hb.cell (World.block_lt_of_cell? _ _ hy)).trans hy
 rw [show ((0 : Int)).toNat = 0 from rfl] at hy1
 have hz : (0 < (row ms c).length) = True := eq_true h2
 have q1 := eq_true h0
 have q2 := eq_true h1
 clear k1 k2 hx hy hl0 hi0 el hb hv
 have ef : rd (row ms c) 0 = first ms c := rfl
 rw [ef, Addr.add_zero'] at hy1
 clear ef h0 h1
 go_enter Try.func51, Try.ntmps51
 go_wp2_with fail
 go_quiet ((go_at_call 52; exact Calls.quiet_of_same (BS.out _)))
 clear hx1 hy1 c1 BS
 go_wp2_with fail
 have W0 := HB.out
 have hs5 : ((w.drewN nq).alloc (.cells #[.int .i64 c] 3)).heap.size = w.heap.size + 1 := by simp
 have hlt := blk_lt HV.out
 have R1 : RowAt ((w.drewN nq).alloc (.cells #[.int .i64 c] 3)) base (.slice A2 ready.length c2) ready := HR.out.kept (fun k hk => by
  have := (HR.out.lt k hk).2.1
  exact Below.heap_alloc (w.drewN nq) _ k this)
 have hpos : pos ms (first ms c) ready ≤ ready.length := List.countP_le_length
 have hown : ∀ k, (Value.slice A2 ready.length c2).ownBlock = some k → k ≠ br ∧ k < w.heap.size := by
  intro k hk
  obtain ⟨a1, a2, cur, a3⟩ := HR.out.lt k hk
  exact ⟨by rintro rfl; rw [HV.out] at a3; injection a3 with a3; injection a3 with _ a3; exact absurd a3 (by decide), a2⟩
 refine (insert_calls ((w.drewN nq).alloc (.cells #[.int .i64 c] 3)) base _ ready _ c w.heap.size R1 hpos (by omega) (blk_new (w.drewN nq) _) (fun e => by have := (hown _ e).2; omega) (by rw [hs5]; omega)).mono ?_
 rintro e w2 ⟨v', rfl, hr', hg, hat⟩
 have G1 : ∀ k, k < w.heap.size → (Value.slice A2 ready.length c2).ownBlock ≠ some k → w2.heap[k]? = w.heap[k]? := by
  intro k hk hne
  rw [hg.block k (by simp; omega) (fun e => hne e.symm)]
  exact Below.heap_alloc (w.drewN nq) _ k hk
 have hbr2 : w2.heap[br]? = some (.cells #[.slice A2 ready.length c2] 55 (0, 0)) := (G1 br hlt (fun e => (hown _ e).1 rfl)).trans HV.out
 have hsz : w.heap.size + 1 ≤ w2.heap.size := by have := hg.size; simpa using this
 have HB2 : Below W1.heap.size W1 w2 := by
  have b1 : Below W1.heap.size W1 ((w.drewN nq).alloc (.cells #[.int .i64 c] 3)) := below_alloc (pw_below_drewN W0 nq) _
  refine b1.grown hg (by rw [hs5]; omega) (fun k hk => ?_)
  have := (HR.out.lt k hk).1
  omega
 obtain ⟨A3, c3, rfl, -, -⟩ := hr'.slice
 have hr2 := Aside0.mk hr'
 have G2 := Aside0.mk G1
 have B2 := Aside0.mk HB2
 have V2 := Aside0.mk hbr2
 have O2 := Aside0.mk hown
 have T2 := Aside0.mk hat
 have S2 := Aside0.mk hsz
 have c4 := cell_of_one hbr2
 have f4 := free_of_one hbr2
 clear hr' G1 HB2 hbr2 hown hat hsz hg R1 W0 hpos hs5
 go_wp2_with fail
 go_end0
 have hne2 : ∀ k, (Value.slice A3 (ins ready (pos ms (first ms c) ready) c).length c3).ownBlock = some k → k ≠ br := by
  intro k hk
  obtain ⟨_, _, cur, a3⟩ := hr2.out.lt k hk
  rintro rfl
  rw [V2.out] at a3
  injection a3 with a3
  injection a3 with _ a3
  exact absurd a3 (by decide)
 refine ⟨rfl, B2.out.setCell hbr _, ?_, ⟨_, one_setCell V2.out, hr2.out.kept (fun k hk => Below.heap_setCell _ _ _ _ (hne2 k hk))⟩, fun k hk hkb hko => ?_⟩
 · have := S2.out
   simp
   omega
 · rw [Below.heap_setCell _ _ _ _ (show k ≠ br from hkb)]
   exact G2.out k hk hko
end Od
end Go.Proofs.Ytmadhaccjmakdaa
/- A map[int]bool of the call's own, in which nothing but true is stored: a set of numbers. -/
namespace Go.Proofs.Ytmadhaccjmakdaa
open Go.RowKit Go.Proofs.YtmadhaccjmakdaaW.PrintWords Go.Proofs.YtmadhaccjmakdaaW.PrintLast Go.Proofs.YtmadhaccjmakdaaW.PrintMore Go.Proofs.Ytmadhaccjmakdaa.P
namespace Od
open Tj Rw
def SeenAt (w : World) (b : Nat) (S : List Int) : Prop := ∃ (n : Nat) (D : DataW Unit), w.ownsMap Try.prog 3 (plainElem Try.prog 4) b n D ∧ n ≤ S.length ∧ Maps.IsMap D ∧
 ∀ x : Int, (Lit.int .i64 x).wf = true → D.atKey (.int .i64 x) (.lit (.bool false)) = .lit (.bool (S.contains x))
set_option maxRecDepth 100000 in
theorem keys3 : Maps.Keyed Try.prog 3 := Maps.int_keyed Try.underlying3
set_option maxRecDepth 100000 in
theorem zero4 (w : World) : (zeroValue 4).run Try.prog w = .ok (.bool false) w := by kernel_rfl
set_option maxRecDepth 100000 in
theorem SeenAt.made (w : World) : SeenAt (w.alloc (.map #[] 0)) w.heap.size [] :=
 ⟨0, .map [], World.ownsMap_made _ _ _ _, Nat.le_refl _, Maps.isMap_empty, fun x _ => by simp [DataW.atKey]⟩
set_option maxRecDepth 100000 in
theorem SeenAt.kept {w w' : World} {b : Nat} {S : List Int} {row : Option Nat} (h : SeenAt w b S) (hg : w.grownBy w' row) (hne : some b ≠ row) : SeenAt w' b S := by
 obtain ⟨n, D, h1, h2⟩ := h
 exact ⟨n, D, h1.kept hg hne, h2⟩
set_option maxRecDepth 100000 in
theorem SeenAt.lt {w : World} {b : Nat} {S : List Int} (h : SeenAt w b S) : b < w.heap.size := by
 obtain ⟨n, D, h1, h2⟩ := h
 exact h1.lt
set_option maxRecDepth 100000 in
theorem SeenAt.obj {w : World} {b : Nat} {S : List Int} (h : SeenAt w b S) : ∃ es c, w.heap[b]? = some (.map es c) := by
 obtain ⟨n, D, ⟨es, c, h1, _⟩, _⟩ := h
 exact ⟨es, c, h1⟩
set_option maxRecDepth 100000 in
theorem SeenAt.look {w : World} {b : Nat} {S : List Int} (h : SeenAt w b S) (x : Int) (hx : (Lit.int .i64 x).wf = true) : (Instr.lookup 84 (.map (some b)) (.int .i64 x) false).run Try.prog w = .ok (.bool (S.contains x)) w := by
 obtain ⟨n, D, h1, h2, _, h3⟩ := h
 obtain ⟨v, ps, hrun, hv⟩ := h1.lookup keys3 Try.underlying84 (zero4 w) (plainElem_bool Try.underlying4 false) (Maps.keyOf_int_mk Try.underlying3 hx)
 rw [h3 x hx] at hv
 rw [hrun]
 unfold plainElem at hv
 rw [Try.underlying4] at hv
 cases v <;> simp at hv
 obtain ⟨rfl, _⟩ := hv
 simp
set_option maxRecDepth 100000 in
theorem SeenAt.put {w : World} {b : Nat} {S : List Int} (h : SeenAt w b S) (hn : S.length < maxLen) (x : Int) (hx : (Lit.int .i64 x).wf = true) :
 ∃ w', (Instr.mapUpdate 84 (.map (some b)) (.int .i64 x) (.bool true)).run Try.prog w = .ok () w' ∧ SeenAt w' b (S ++ [x]) ∧ w.grownBy w' (some b) := by
 obtain ⟨n, D, h1, h2, hm, h3⟩ := h
 obtain ⟨w', hrun, h4, hg⟩ := h1.update keys3 Try.underlying84 (by omega) (Maps.keyOf_int_mk Try.underlying3 hx) (plainElem_bool Try.underlying4 true)
 refine ⟨w', hrun, ⟨n + 1, _, h4, by simp; omega, hm.put _ _, fun y hy => ?_⟩, hg⟩
 by_cases hyx : y = x
 · subst hyx
   rw [Maps.atKey_put_same hm (by simp [WideAt.IsKeyLit])]
   simp
 · rw [Maps.atKey_put_other (by intro e; injection e with _ e; exact hyx e), h3 y hy]
   simp [hyx]
end Od
end Go.Proofs.Ytmadhaccjmakdaa
/- graph.ordered as a Lean function on lists. -/
namespace Go.Proofs.Ytmadhaccjmakdaa
open Go.RowKit Go.Proofs.YtmadhaccjmakdaaW.PrintWords Go.Proofs.YtmadhaccjmakdaaW.PrintLast Go.Proofs.YtmadhaccjmakdaaW.PrintMore Go.Proofs.Ytmadhaccjmakdaa.P
namespace Od
open Tj Rw
def app (ms : List (List Int)) (c x : Int) : List (List Int) := ms.set c.toNat (row ms c ++ [x])
def grp : Nat → List Int → Int → List (List Int) → Option (List (List Int))
 | 0, _, _, _ => none
 | k + 1, comp, v, ms =>
  if v < comp.length then
   if 0 ≤ rd comp v ∧ rd comp v < ms.length ∧ (row ms (rd comp v)).length < 17592186044415 then grp k comp (v + 1) (app ms (rd comp v) v) else none
  else some ms
structure US where
 opn : List Int
 users : List (List Int)
 seen : List Int
def link (c d : Int) (u : US) : US := { opn := u.opn.set c.toNat (wrap64 (rd u.opn c + 1)), users := app u.users d c, seen := u.seen ++ [d] }
def ed3 : Nat → List Int → Int → List Int → Int → US → Option US
 | 0, _, _, _, _, _ => none
 | k + 1, comp, c, l, i, u =>
  if i < l.length then
   if 0 ≤ rd l i ∧ rd l i < comp.length ∧ (Lit.int .i64 (rd comp (rd l i))).wf = true then
    if u.seen.contains (rd comp (rd l i)) = true then ed3 k comp c l (i + 1) u
    else if 0 ≤ c ∧ c < u.opn.length ∧ 0 ≤ rd comp (rd l i) ∧ rd comp (rd l i) < u.users.length ∧ (row u.users (rd comp (rd l i))).length < 17592186044415 ∧ u.seen.length < 17592186044415 then
     ed3 k comp c l (i + 1) (link c (rd comp (rd l i)) u)
    else none
   else none
  else some u
def ed2 : Nat → List (List Int) → List Int → Int → List Int → Int → US → Option US
 | 0, _, _, _, _, _, _ => none
 | k + 1, es, comp, c, l, i, u =>
  if i < l.length then
   if 0 ≤ rd l i ∧ rd l i < es.length then (ed3 k comp c (row es (rd l i)) 0 u).bind fun u1 => ed2 k es comp c l (i + 1) u1 else none
  else some u
def ed1 : Nat → List (List Int) → List Int → List (List Int) → Int → US → Option US
 | 0, _, _, _, _, _ => none
 | k + 1, es, comp, ms, c, u =>
  if c < ms.length then
   if (Lit.int .i64 c).wf = true then (ed2 k es comp c (row ms c) 0 { u with seen := [c] }).bind fun u1 => ed1 k es comp ms (c + 1) u1 else none
  else some u
def starts : Nat → List (List Int) → Int → Int → List Int → List Int → Option (List Int)
 | 0, _, _, _, _, _ => none
 | k + 1, ms, n, c, opn, ready =>
  if c < n then
   if 0 ≤ c ∧ c < opn.length then
    if rd opn c = 0 then (enterF ms c ready).bind fun r => starts k ms n (c + 1) opn r else starts k ms n (c + 1) opn ready
   else none
  else some ready
def dec : Nat → List (List Int) → List Int → Int → List Int → List Int → Option (List Int × List Int)
 | 0, _, _, _, _, _ => none
 | k + 1, ms, l, i, opn, ready =>
  if i < l.length then
   if 0 ≤ rd l i ∧ rd l i < opn.length then
    if rd (opn.set (rd l i).toNat (wrap64 (rd opn (rd l i) - 1))) (rd l i) = 0 then
     (enterF ms (rd l i) ready).bind fun r => dec k ms l (i + 1) (opn.set (rd l i).toNat (wrap64 (rd opn (rd l i) - 1))) r
    else dec k ms l (i + 1) (opn.set (rd l i).toNat (wrap64 (rd opn (rd l i) - 1))) ready
   else none
  else some (opn, ready)
def drain : Nat → List (List Int) → List (List Int) → List Int → List Int → List (List Int) → Option (List (List Int))
 | 0, _, _, _, _, _ => none
 | k + 1, ms, users, opn, ready, out =>
  if 0 < ready.length then
   if 0 ≤ rd ready 0 ∧ rd ready 0 < ms.length ∧ rd ready 0 < users.length ∧ out.length < 5864062014805 then
    (dec k ms (row users (rd ready 0)) 0 opn (ready.drop 1)).bind fun p => drain k ms users p.1 p.2 (out ++ [row ms (rd ready 0)])
   else none
  else some out
def orderedF (k : Nat) (es : List (List Int)) : Option (List (List Int)) :=
 (strongF k es).bind fun p =>
  if 0 ≤ p.2 ∧ p.2 < 5864062014805 then
   (grp k p.1 0 (List.replicate p.2.toNat [])).bind fun ms =>
    (ed1 k es p.1 ms 0 { opn := List.replicate p.2.toNat 0, users := List.replicate p.2.toNat [], seen := [] }).bind fun u =>
     (starts k ms p.2 0 u.opn []).bind fun ready => drain k ms u.users u.opn ready []
  else none
end Od
end Go.Proofs.Ytmadhaccjmakdaa
namespace Go.Proofs.Ytmadhaccjmakdaa
open Go.RowKit Go.Proofs.YtmadhaccjmakdaaW.PrintWords Go.Proofs.YtmadhaccjmakdaaW.PrintLast Go.Proofs.YtmadhaccjmakdaaW.PrintMore Go.Proofs.Ytmadhaccjmakdaa.P
namespace Tj
attribute [local go_sem] max2_int min2_int max_two min_two max_three min_three max_four min_four
set_option maxRecDepth 100000 in
set_option maxHeartbeats 4000000 in
theorem visit_step (X : Cx) (o : X.Ok) (k : Nat) (ih : Aside0 (∀ k1, k1 < k → ∀ (v : Int) (st st' : TS), visit k1 X.es v st = some st' → ∀ w, Inv X st w → Calls Try.prog 61 #[.int .i64 v, P1 X.bc, P1 X.bi, P1 X.bl, P1 X.bs, P1 X.be, P1 X.bv, P1 X.bp, P1 X.bm] w fun e w' => e = .returned (.tuple #[]) ∧ Inv X st' w')) (v : Int) (st st' : TS) (w : World) (I : Inv X st w) (h : visit (k + 1) X.es v st = some st') :
 Calls Try.prog 61 #[.int .i64 v, P1 X.bc, P1 X.bi, P1 X.bl, P1 X.bs, P1 X.be, P1 X.bv, P1 X.bp, P1 X.bm] w fun e w' => e = .returned (.tuple #[]) ∧ Inv X st' w' := by
 have H : (if 0 ≤ v ∧ v < X.es.length ∧ st.stack.length < 17592186044415 then each k X.es v (row X.es v) 0 (enter v st) else none) = some st' := by rw [← h, visit]
 clear h
 by_cases hv : 0 ≤ v ∧ v < X.es.length ∧ st.stack.length < 17592186044415
 case neg => rw [if_neg hv] at H; cases H
 rw [if_pos hv] at H
 obtain ⟨hv0, hv1, hv2⟩ := hv
 have H' := Aside0.mk H
 clear H
 have J := Aside0.mk I
 have O := Aside0.mk o
 clear o
 have c1 := cell_of_one I.kc
 have f1 := free_of_one I.kc
 clear I
 go_enter Try.func61, Try.ntmps61
 go_wp2_with fail
 have J1 := Aside0.mk (J.out.setCount O.out (wrap64 (st.count + 1)))
 clear J c1 f1
 generalize w.setCell ⟨X.bc, 0, none⟩ (.int .i64 (wrap64 (st.count + 1))) = w1 at J1 ⊢
 generalize hst1 : ({ st with count := wrap64 (st.count + 1) } : TS) = st1 at J1
 have N1 := Aside0.mk hst1
 clear hst1
 have c1 := cell_of_one J1.out.kc
 have c2 := cell_of_one J1.out.ki
 have c3 := cell_of_one J1.out.kl
 have c4 := arr_cell J1.out.ai v hv0 (by rw [J1.out.li]; exact hv1)
 have c5 := arr_cell J1.out.al v hv0 (by rw [J1.out.ll]; exact hv1)
 have f4 := arr_free J1.out.ai v.toNat
 have f5 := arr_free J1.out.al v.toNat
 have n1 : X.bc ≠ X.ai := O.out.t1.2.1
 have n2 : X.bl ≠ X.ai := blk_ne J1.out.kl J1.out.ai (by decide)
 have n3 : X.bc ≠ X.al := O.out.t1.2.2.1
 have n4 : X.bi ≠ X.al := blk_ne J1.out.ki J1.out.al (by decide)
 have n5 : X.al ≠ X.ai := O.out.t1.2.2.2.2.2.2.2.1.symm
 go_region
 go_upto_region 2 with fail
 have J2 := Aside0.mk ((J1.out.setIndex O.out v.toNat st1.count).setLow O.out v.toNat st1.count).drew
 clear J1 c1 c2 c3 c4 c5 f4 f5 n1 n2 n3 n4 n5
 generalize ((w1.setCell ⟨X.ai, v.toNat, none⟩ (.int .i64 st1.count)).setCell ⟨X.al, v.toNat, none⟩ (.int .i64 st1.count)).drew = w2 at J2 ⊢
 generalize hst2 : ({ st1 with index := st1.index.set v.toNat st1.count, low := st1.low.set v.toNat st1.count } : TS) = st2 at J2
 have N2 := Aside0.mk hst2
 clear hst2
 obtain ⟨vs, k1, k2⟩ := J2.out.ks
 have c1 := cell_of_one k1
 have f1 := free_of_one k1
 have K2 := Aside0.mk k2
 have S2 := Aside0.mk k1
 clear k1 k2
 go_wp2_with (first | ((with_reducible refine gate_builtin (b := .append) (xs := #[.tmp 23, .tmp 25]) rfl ?_); at_builtin; refine Kd.R_append (Kd.int .i64) (w0 := X.w0) X.w0.heap.size rfl (.tmp 23) (.tmp 25) 55 3 (.int .i64 0) 8 rfl Try.underlying55 info3 rfl (by decide) (by omega) vs st2.stack v [.int .i64 v] X.ok (fun _ => False) rfl rfl ?aP (fun _ hk => hk.elim) ?aF K2.out J2.out.hB ?aS ?aL ?_) | fail)
 (case aP => exact rfl)
 (case aF => intro g hg; exact ⟨by have := blk_lt J2.out.kc; omega, by have := blk_lt J2.out.km; omega, by have := blk_lt J2.out.ai; omega, by have := blk_lt J2.out.al; omega, by have := blk_lt J2.out.ap; omega⟩)
 (case aS => exact J2.out.hB.size)
 (case aL => have e1 : st2.stack = st.stack := by rw [← N2.out, ← N1.out]
  rw [e1]; omega)
 intro v1 w3 ho hb hg hat
 obtain ⟨A1, q1, rfl⟩ := Kd.R_slice ho
 have f3 := free_of_one (blk_grown S2.out hg (Kd.R_ne K2.out S2.out (by decide)))
 have c3 := cell_of_one (blk_grown S2.out hg (Kd.R_ne K2.out S2.out (by decide)))
 clear c1 f1 S2
 have Ho := Aside0.mk ho
 have Hb := Aside0.mk hb
 have Hg := Aside0.mk hg
 clear ho hb hg hat
 go_upto_region 3 with fail
 have J3 := Aside0.mk (J2.out.setStack O.out Hg.out Hb.out (fun g hh => ⟨K2.out.1 g hh, (by obtain ⟨inner, hi⟩ := Kd.R_own K2.out; exact own_typed hi g hh)⟩) Ho.out)
 clear f3 c3 J2 K2 Ho Hb Hg
 have e3 : ({ st2 with stack := st2.stack ++ [v] } : TS) = enter v st := by rw [← N2.out, ← N1.out]; rfl
 have e4 : (st2.stack ++ [v]).length = st2.stack.length + 1 := by simp
 rw [e3, e4] at J3
 (try rw [e4])
 clear e3 e4 N1 N2
 generalize w3.setCell ⟨X.bs, 0, none⟩ (.slice A1 (st2.stack.length + 1) q1) = w4 at J3 ⊢
 generalize hst3 : enter v st = st3 at J3 H'
 clear hst3
 have c1 := cell_of_one J3.out.ke
 obtain ⟨ad, A0, c0, eA, hx, hl0, hi0⟩ := at_L11 J3.out.hE v hv0 hv1
 have hx1 := (J3.out.hB.cell (World.block_lt_of_cell? _ _ hx)).trans hx
 rw [eA] at c1
 have hI0 := Aside0.mk hi0
 clear hx hl0 hi0 eA
 have q1 := eq_true hv0
 have q2 := eq_true hv1
 go_wp2_with fail
 have el : rd_L11 X.es v = row X.es v := rfl
 rw [el] at hI0 ⊢
 have hm : (row X.es v).length ≤ 9223372036854775807 := hI0.out.2.1
 go_loopg [32] k (fun kq v32 w' => ∃ (i : Int) (s : TS), v32 = .int .i64 i ∧ Aside0 (0 ≤ i) ∧ Aside0 (each kq X.es v (row X.es v) i s = some st') ∧ Aside0 (kq ≤ k) ∧ Aside0 (Inv X s w'))
 case atStart => exact ⟨0, st3, rfl, ⟨by omega⟩, H', ⟨Nat.le_refl _⟩, J3⟩
 case round => as_aux_lemma =>
  clear H' J3 c1 hx1
  obtain ⟨i, s, rfl, HI, HA, HK1, J⟩ := hrel
  cases gk with
  | zero => exact absurd HA.out (by simp [each])
  | succ k1 =>
   have H := HA.out
   clear HA
   rw [each] at H
   by_cases ci : i < (row X.es v).length
   · rw [if_pos ci] at H
     have cb : decide (i < ((row X.es v).length : Int)) = true := decide_eq_true ci
     by_cases cr : 0 ≤ rd (row X.es v) i ∧ rd (row X.es v) i < X.es.length
     case neg => rw [if_neg cr] at H; cases H
     rw [if_pos cr] at H
     obtain ⟨cr0, cr1⟩ := cr
     obtain ⟨ad2, e2, hx2⟩ := Kd.at_int hI0.out i HI.out ci
     cases e2
     have hx3 := (J.out.hB.cell (World.block_lt_of_cell? _ _ hx2)).trans hx2
     clear hx2
     have c2 := cell_of_one J.out.ki
     have hi0 := HI.out
     generalize rd (row X.es v) i = x at H cr0 cr1 hx3
     have c3 := arr_cell J.out.ai x cr0 (by rw [J.out.li]; exact cr1)
     have q3 := eq_true cr0
     have q4 := eq_true cr1
     have q5 := eq_true hi0
     have q6 := eq_true ci
     by_cases cz : rd s.index x = 0
     · as_aux_lemma =>
       rw [if_pos cz] at H
       obtain ⟨s1, hs1, H⟩ := Option.bind_eq_some_iff.1 H
       have Hs1 := Aside0.mk hs1
       have H' := Aside0.mk H
       clear hs1 H
       have cz1 : (rd s.index x == 0) = true := beq_iff_eq.2 cz
       clear cz
       have c5 := cell_of_one J.out.kv
       go_wp2_with (go_at_call 61; refine (ih.out k1 (by have := HK1.out; omega) x s s1 Hs1.out _ J.out).mono ?_; clear c2 c3 c5 hx3; rintro e w5 ⟨rfl, hI⟩; have J5 := Aside0.mk hI; clear hI)
       have c6 := cell_of_one J5.out.kl
       have c7 := arr_cell J5.out.al v hv0 (by rw [J5.out.ll]; exact hv1)
       have c8 := arr_cell J5.out.al x cr0 (by rw [J5.out.ll]; exact cr1)
       have f6 := arr_free J5.out.al v.toNat
       have key : ∀ y : Int, y = mn (rd s1.low v) (rd s1.low x) → Aside0 (Inv X (lower v (rd s1.low x) s1) ((w5.setCell ⟨X.al, v.toNat, none⟩ (.int .i64 y)).drew)) := by
        rintro y rfl
        exact ⟨(J5.out.setLow O.out v.toNat _).drew⟩
       have KEY := Aside0.mk key
       clear key
       go_region
       all_goals (try go_wp2_with fail)
       all_goals as_aux_lemma =>
        first
        | (have J6 := KEY.out (rd s1.low v) (by unfold mn; rw [if_neg (by omega)])
         generalize (w5.setCell ⟨X.al, v.toNat, none⟩ (.int .i64 (rd s1.low v))).drew = w6 at J6 ⊢
         clear KEY
         go_roundg k1
         case measure => have := HK1.out; omega
         case rel => exact ⟨i + 1, _, rfl, ⟨by omega⟩, H', ⟨by have := HK1.out; omega⟩, J6⟩)
        | (have J6 := KEY.out (rd s1.low x) (by unfold mn; rw [if_pos (by omega)])
         generalize (w5.setCell ⟨X.al, v.toNat, none⟩ (.int .i64 (rd s1.low x))).drew = w6 at J6 ⊢
         clear KEY
         go_roundg k1
         case measure => have := HK1.out; omega
         case rel => exact ⟨i + 1, _, rfl, ⟨by omega⟩, H', ⟨by have := HK1.out; omega⟩, J6⟩)
     · as_aux_lemma =>
       rw [if_neg cz] at H
       have cz1 : (rd s.index x == 0) = false := beq_eq_false_iff_ne.2 cz
       clear cz
       have c9 := cell_of_one J.out.kp
       have c10 := arr_cell J.out.ap x cr0 (by rw [J.out.lp]; exact cr1)
       by_cases cn : rd s.comp x < 0
       · as_aux_lemma =>
         rw [if_pos cn] at H
         have H' := Aside0.mk H
         clear H
         have cn1 : decide (rd s.comp x < 0) = true := decide_eq_true cn
         clear cn
         go_wp2_with fail
         have c6 := cell_of_one J.out.kl
         have c7 := arr_cell J.out.al v hv0 (by rw [J.out.ll]; exact hv1)
         have f6 := arr_free J.out.al v.toNat
         have key : ∀ y : Int, y = mn (rd s.low v) (rd s.index x) → Aside0 (Inv X (lower v (rd s.index x) s) ((wr.setCell ⟨X.al, v.toNat, none⟩ (.int .i64 y)).drew)) := by
          rintro y rfl
          exact ⟨(J.out.setLow O.out v.toNat _).drew⟩
         have KEY := Aside0.mk key
         clear key
         go_region
         all_goals (try go_wp2_with fail)
         all_goals as_aux_lemma =>
          first
          | (have J6 := KEY.out (rd s.low v) (by unfold mn; rw [if_neg (by omega)])
           generalize (wr.setCell ⟨X.al, v.toNat, none⟩ (.int .i64 (rd s.low v))).drew = w6 at J6 ⊢
           clear KEY
           go_roundg k1
           case measure => have := HK1.out; omega
           case rel => exact ⟨i + 1, _, rfl, ⟨by omega⟩, H', ⟨by have := HK1.out; omega⟩, J6⟩)
          | (have J6 := KEY.out (rd s.index x) (by unfold mn; rw [if_pos (by omega)])
           generalize (wr.setCell ⟨X.al, v.toNat, none⟩ (.int .i64 (rd s.index x))).drew = w6 at J6 ⊢
           clear KEY
           go_roundg k1
           case measure => have := HK1.out; omega
           case rel => exact ⟨i + 1, _, rfl, ⟨by omega⟩, H', ⟨by have := HK1.out; omega⟩, J6⟩)
       · as_aux_lemma =>
         rw [if_neg cn] at H
         have H' := Aside0.mk H
         clear H
         have cn1 : decide (rd s.comp x < 0) = false := decide_eq_false cn
         clear cn
         go_wp2_with fail
         go_roundg k1
         case measure => have := HK1.out; omega
         case rel => exact ⟨i + 1, _, rfl, ⟨by omega⟩, H', ⟨by have := HK1.out; omega⟩, J⟩
   · as_aux_lemma =>
     rw [if_neg ci] at H
     have cb : decide (i < ((row X.es v).length : Int)) = false := decide_eq_false ci
     have c2 := cell_of_one J.out.ki
     have c3 := cell_of_one J.out.kl
     have c4 := arr_cell J.out.ai v hv0 (by rw [J.out.li]; exact hv1)
     have c5 := arr_cell J.out.al v hv0 (by rw [J.out.ll]; exact hv1)
     by_cases ce : rd s.low v = rd s.index v
     case neg =>
      rw [if_neg ce] at H
      have H' := Aside0.mk H
      clear H
      have ce1 : (rd s.low v != rd s.index v) = true := bne_iff_ne.2 ce
      clear ce
      go_wp2_with fail
      go_region
      go_wp2_with fail
      refine bodyPost_ret (v := .tuple #[]) (by simp [results, Try.results61, go_sem]) rfl ⟨rfl, ?_⟩
      cases H'.out
      exact J.out.drew
     rw [if_pos ce] at H
     have H' := Aside0.mk H
     clear H
     have ce1 : (rd s.low v != rd s.index v) = false := bne_eq_false_iff_eq.2 ce
     clear ce
     go_wp2_with fail
     go_region
     go_wp2_with fail
     have J7 := Aside0.mk J.out.drew
     clear J c2 c3 c4 c5
     go_loopg [12] k1 (fun kq v12 w' => ∃ s : TS, Aside0 (pop kq v s = some st') ∧ Aside0 (Inv X s w'))
     case atStart => exact ⟨s, H', J7⟩
     case round => as_aux_lemma =>
      clear H' J7
      obtain ⟨s2, HA, J⟩ := hrel
      cases gk with
      | zero => exact absurd HA.out (by simp [pop])
      | succ k2 =>
       have H := HA.out
       clear HA
       rw [pop] at H
       by_cases cl : 0 < s2.stack.length
       case neg => rw [if_neg cl] at H; cases H
       rw [if_pos cl] at H
       obtain ⟨vs2, g1, g2⟩ := J.out.ks
       obtain ⟨A2, q2c, rfl, hle, hC⟩ := Kd.R_reads g2
       obtain ⟨ad3, e3, hx4⟩ := Kd.at_int hC ((s2.stack.length : Int) - 1) (by omega) (by omega)
       subst e3
       have e6 : ((s2.stack.length : Int) - 1).toNat = s2.stack.length - 1 := by omega
       rw [e6] at hx4
       generalize hgx : rd s2.stack ((s2.stack.length : Int) - 1) = x at H hx4
       clear hgx e6
       by_cases cx : 0 ≤ x ∧ x < s2.comp.length
       case neg => rw [if_neg cx] at H; cases H
       rw [if_pos cx] at H
       obtain ⟨cx0, cx1⟩ := cx
       have H2 := Aside0.mk H
       clear H
       have c6 := cell_of_one g1
       have f6 := free_of_one g1
       have hm2 : s2.stack.length ≤ 9223372036854775807 := hC.2.1
       have qa : (0 ≤ (s2.stack.length : Int) - 1) = True := eq_true (by omega)
       have qb : ((s2.stack.length : Int) - 1 < (s2.stack.length : Int)) = True := eq_true (by omega)
       go_upto_region 14 with fail
       obtain ⟨i0, hi0, _, hsz, _⟩ := info_parts info3
       have hcut := cut_to (P := Try.prog) 55 3 .i64 Try.underlying55 hi0 (some ad3) s2.stack.length q2c ((s2.stack.length : Int) - 1) (by omega) (by omega) hle
       have e6 : ((s2.stack.length : Int) - 1).toNat = s2.stack.length - 1 := by omega
       rw [e6] at hcut
       have G2 := Aside0.mk (Kd.R_take (m := s2.stack.length - 1) g2 (by omega))
       clear hi0 hsz e6 g2 hx4
       have hl3 : (s2.stack.take (s2.stack.length - 1)).length = s2.stack.length - 1 := by rw [List.length_take]; omega
       go_upto_region 15 with fail
       have J8 := Aside0.mk (J.out.setStack O.out (World.grownBy.refl _ none) J.out.hB (fun g hh => by cases hh) G2.out)
       generalize wr.setCell ⟨X.bs, 0, none⟩ (.slice (some ad3) (s2.stack.length - 1) q2c) = w8 at J8 ⊢
       clear c6 f6 hcut G2 g1
       have c7 := cell_of_one J8.out.kp
       have c8 := cell_of_one J8.out.km
       have c9 := arr_cell J8.out.ap x cx0 (by exact cx1)
       have f9 := arr_free J8.out.ap x.toNat
       have e9 : s2.comp.length = X.es.length := J.out.lp
       have qc : (0 ≤ x) = True := eq_true cx0
       have qd : (x < (X.es.length : Int)) = True := eq_true (by omega)
       clear e9
       go_upto_region 16 with fail
       have J9 := Aside0.mk (J8.out.setComp O.out x.toNat s2.comps)
       clear c7 c8 c9 f9 J8
       generalize w8.setCell ⟨X.ap, x.toNat, none⟩ (.int .i64 s2.comps) = w9 at J9 ⊢
       by_cases cv : x = v
       · have cv1 : (x == v) = true := beq_iff_eq.2 cv
         have H3 := H2.out
         rw [if_pos cv] at H3
         have H4 := Aside0.mk H3
         clear H3 H2 cv
         have c8 := cell_of_one J9.out.km
         have f8 := free_of_one J9.out.km
         go_wp2_with fail
         have J10 := Aside0.mk (J9.out.setComps O.out (wrap64 (s2.comps + 1)))
         go_end0
         refine ⟨rfl, ?_⟩
         cases H4.out
         exact J10.out
       · have cv1 : (x == v) = false := beq_eq_false_iff_ne.2 cv
         have H3 := H2.out
         rw [if_neg cv] at H3
         have H4 := Aside0.mk H3
         clear H3 H2 cv
         go_wp2_with fail
         go_roundg k2
         case measure => omega
         case rel => exact ⟨_, H4, J9⟩
set_option maxRecDepth 100000 in
theorem visit_calls (X : Cx) (o : X.Ok) (k : Nat) : ∀ (v : Int) (st st' : TS), visit k X.es v st = some st' → ∀ w, Inv X st w → Calls Try.prog 61 #[.int .i64 v, P1 X.bc, P1 X.bi, P1 X.bl, P1 X.bs, P1 X.be, P1 X.bv, P1 X.bp, P1 X.bm] w fun e w' => e = .returned (.tuple #[]) ∧ Inv X st' w' := by
 induction k using Nat.strongRecOn with
 | _ k ih =>
  intro v st st' h w I
  cases k with
  | zero => exact absurd h (by simp [visit])
  | succ k => exact visit_step X o k ⟨fun k1 h1 => ih k1 (by omega)⟩ v st st' w I h
end Tj
end Go.Proofs.Ytmadhaccjmakdaa
/- A region that draws its order, walked by a fact that every order keeps: what has come up is a set, and the fact speaks of the set alone. -/
namespace Go.Proofs.Ytmadhaccjmakdaa
namespace Rg
variable {P : Program} {ops : Array Oper} {Q : Exit → Act → World → Prop} {md : Region.Mode}
set_option maxRecDepth 100000 in
theorem getD_size {l : Array Bool} {i : Nat} (h : l.getD i true = false) : ∃ hi : i < l.size, l[i] = false := by
 rcases Nat.lt_or_ge i l.size with h1 | h1
 · exact ⟨h1, by simpa [h1] using h⟩
 · simp [Array.getElem?_eq_none h1] at h
set_option maxRecDepth 100000 in
theorem count_set {l : Array Bool} {i : Nat} (h : l.getD i true = false) : (l.setIfInBounds i true).toList.count false + 1 = l.toList.count false := by
 obtain ⟨hi, he⟩ := getD_size h
 rw [Array.toList_setIfInBounds, List.count_set (by simpa using hi)]
 have h1 : l.toList[i]'(by simpa using hi) = false := by simpa using he
 have h2 : 0 < l.toList.count false := List.count_pos_iff.2 (by rw [← h1]; exact List.getElem_mem _)
 rw [h1, if_pos (by decide), if_neg (by decide)]
 omega
set_option maxRecDepth 100000 in
theorem any_inv (J : Array Bool → Act → World → Prop)
 (hs : ∀ l a w i, l.size = ops.size → i ∈ Region.ready md ops l → J l a w → wpOp P ops Q i (fun a' w' => J (l.setIfInBounds i true) a' w') a w)
 (he : ∀ l a w, l.size = ops.size → Region.ready md ops l = [] → J l a w → Q .normal a w) :
 ∀ (fuel : Nat) (l : Array Bool) (a : Act) (w : World), l.size = ops.size → l.toList.count false ≤ fuel → J l a w → wpAny P md ops Q fuel l a w := by
 intro fuel
 induction fuel with
 | zero =>
  intro l a w hsz hc hJ
  have hr : Region.ready md ops l = [] := by
   refine List.eq_nil_iff_forall_not_mem.2 fun j hj => ?_
   obtain ⟨h1, _⟩ := mem_ready.1 hj
   obtain ⟨hi, h2⟩ := getD_size h1
   have h3 : 0 < l.toList.count false := List.count_pos_iff.2 (by rw [← h2]; exact Array.getElem_mem_toList hi)
   omega
  exact ⟨hr, he l a w hsz hr hJ⟩
 | succ fuel ih =>
  intro l a w hsz hc hJ
  refine ⟨fun hr => he l a w hsz hr hJ, fun i hi => ?_⟩
  refine wpOp_mono (fun a' w' h => ih _ a' w' (by simpa using hsz) ?_ h) (hs l a w i hsz hi hJ)
  have := count_set (mem_ready.1 hi).1
  omega
set_option maxRecDepth 100000 in
theorem region_inv {id : Nat} {a : Act} {w : World} (hm : P.follows .mixedOrders = true) (J : Array Bool → Act → World → Prop)
 (h0 : J (Array.replicate ops.size false) a w.drew)
 (hs : ∀ l a w i, l.size = ops.size → i ∈ Region.ready .any ops l → J l a w → wpOp P ops Q i (fun a' w' => J (l.setIfInBounds i true) a' w') a w)
 (he : ∀ l a w, l.size = ops.size → Region.ready .any ops l = [] → J l a w → Q .normal a w) : (Code.region id ops true).wp P Q a w :=
 wp_region_any hm (any_inv J hs he ops.size _ a _ (by simp) (Nat.le_trans List.count_le_length (by simp)) h0)
def backB (ops : Array Oper) : Bool := (List.range ops.size).all fun j => match ops[j]? with
 | some o => o.after.all fun e => decide (e.on < j)
 | none => true
set_option maxRecDepth 100000 in
theorem all_listed (hb : backB ops = true) {l : Array Bool} (hsz : l.size = ops.size) (hr : Region.ready md ops l = []) : ∀ i, i < ops.size → l.getD i true = true := by
 intro i
 induction i using Nat.strongRecOn with
 | _ i ih =>
  intro hi
  cases hl : l.getD i true with
  | true => rfl
  | false =>
   have h1 := List.all_eq_true.1 hb i (List.mem_range.2 hi)
   rw [Array.getElem?_eq_getElem hi] at h1
   have h2 : i ∈ Region.ready md ops l := by
    refine mem_ready.2 ⟨hl, _, Array.getElem?_eq_getElem hi, fun e he _ => ?_⟩
    have h3 := of_decide_eq_true (Array.all_eq_true_iff_forall_mem.1 h1 e he)
    have h4 := ih e.on h3 (by omega)
    have h5 : e.on < l.size := by omega
    simpa [h5] using h4
   rw [hr] at h2
   cases h2
set_option maxRecDepth 100000 in
set_option maxRecDepth 100000 in
theorem up_of {l : Array Bool} {i : Nat} (h : l.getD i true = false) : l.getD i false = false := by
 obtain ⟨hi, he⟩ := getD_size h
 simpa [hi] using he
set_option maxRecDepth 100000 in
theorem up_ne {l : Array Bool} {i j : Nat} (h : i ≠ j) : (l.setIfInBounds i true).getD j false = l.getD j false := getD_set_ne false h
set_option maxRecDepth 100000 in
theorem up_eq {l : Array Bool} {i : Nat} (h : i < l.size) : (l.setIfInBounds i true).getD i false = true := by simp [h]
set_option maxRecDepth 100000 in
theorem none_up {m i : Nat} (h : (Array.replicate m false).getD i false = true) : False := by
 rw [Array.getD_eq_getD_getElem?, Array.getElem?_replicate] at h
 split at h <;> cases h
set_option maxRecDepth 100000 in
theorem op_of {i : Nat} {o : Oper} {K : Act → World → Prop} {a : Act} {w : World} (ho : ops[i]? = some o) (h : if Region.wanted o (yielded ops a.tmps) = true then Oper.wp P o a w K Q else K (a.put o.dst undef) w) : wpOp P ops Q i K a w := by
 unfold wpOp
 rw [ho]
 split at h
 · rename_i hw
   simp only [hw, if_true]
   exact .inl h
 · rename_i hw
   simp only [hw]
   exact h
set_option maxRecDepth 100000 in
theorem op_val {i : Nat} {o : Oper} {K : Act → World → Prop} {a : Act} {w w1 : World} {v : Value} (ho : ops[i]? = some o) (hg : o.guard = none) (hrun : (execOp a.eval o).run P w = .ok (.value v) w1) (h : K (a.put o.dst v) w1) : wpOp P ops Q i K a w := by
 refine op_of ho ?_
 have hw : Region.wanted o (yielded ops a.tmps) = true := by simp [Region.wanted, hg]
 rw [if_pos hw]
 unfold Oper.wp
 rw [hrun]
 exact h
set_option maxRecDepth 100000 in
theorem op_skip {i : Nat} {o : Oper} {K : Act → World → Prop} {a : Act} {w w1 : World} (ho : ops[i]? = some o) (hg : o.guard = none) (hd : o.dst = none) (hrun : (execOp a.eval o).run P w = .ok .skip w1) (h : K a w1) : wpOp P ops Q i K a w := by
 refine op_of ho ?_
 have hw : Region.wanted o (yielded ops a.tmps) = true := by simp [Region.wanted, hg]
 rw [if_pos hw]
 unfold Oper.wp
 rw [hrun]
 show K (a.put o.dst undef) w1
 rw [hd]
 exact h
end Rg
end Go.Proofs.Ytmadhaccjmakdaa
/- The statement of graph.strong that makes three arrays and three variables, in whatever order they come up. -/
namespace Go.Proofs.Ytmadhaccjmakdaa
open Go.RowKit Go.Proofs.YtmadhaccjmakdaaW.PrintWords Go.Proofs.YtmadhaccjmakdaaW.PrintLast Go.Proofs.YtmadhaccjmakdaaW.PrintMore Go.Proofs.Ytmadhaccjmakdaa.P
namespace Tj
abbrev sl (n g : Nat) : Value := .slice (some ⟨g, 0, none⟩) n n
def up (l : Array Bool) (i : Nat) (v : Value) : Value := if l.getD i false = true then v else undef
def Fr (A : Option Addr) (c n be : Nat) (M : Nat → Nat) (l : Array Bool) : Act :=
 { tmps := #[.slice A n c, P1 be, .slice none 0 0, .int .i64 0, .int .i64 n, up l 6 (P1 (M 6)), up l 7 (P1 (M 7)), up l 8 (P1 (M 8)), undef, undef, undef, undef, undef, undef, .slice A n c, .int .i64 n,
  up l 0 (.int .i64 n), up l 1 (sl n (M 1)), up l 2 (.int .i64 n), up l 3 (sl n (M 3)), up l 4 (.int .i64 n), up l 5 (sl n (M 5)),
  undef, undef, undef, undef, undef, undef, undef, undef, undef, undef, undef, undef, undef, undef, undef, undef, undef, undef, undef, undef, undef, undef, undef, undef, undef], defers := [] }
def held (l : Array Bool) (n i : Nat) (g : Nat) : Value := if l.getD i false = true then sl n g else .slice none 0 0
def cont (n : Nat) (M : Nat → Nat) (l : Array Bool) : Nat → Obj
 | 6 => .cells #[held l n 9 (M 1)] 55 (0, 0)
 | 7 => .cells #[held l n 10 (M 3)] 55 (0, 0)
 | 8 => .cells #[held l n 11 (M 5)] 55 (0, 0)
 | _ => arr (List.replicate n 0)
def mk6 : List Nat := [1, 3, 5, 6, 7, 8]
def J2 (A : Option Addr) (c n be : Nat) (wb : World) (l : Array Bool) (a : Act) (w : World) : Prop :=
 ∃ M : Nat → Nat, a = Fr A c n be M l ∧ Below wb.heap.size wb w ∧
  (∀ i, i ∈ mk6 → l.getD i false = true → wb.heap.size ≤ M i ∧ w.heap[M i]? = some (cont n M l i)) ∧
  (∀ i j, i ∈ mk6 → j ∈ mk6 → i ≠ j → l.getD i false = true → l.getD j false = true → M i ≠ M j) ∧
  (l.getD 9 false = true → l.getD 6 false = true ∧ l.getD 1 false = true) ∧ (l.getD 10 false = true → l.getD 7 false = true ∧ l.getD 3 false = true) ∧ (l.getD 11 false = true → l.getD 8 false = true ∧ l.getD 5 false = true)
set_option maxRecDepth 100000 in
theorem J2.move {A : Option Addr} {c n be : Nat} {wb w : World} {l : Array Bool} {a : Act} (h : J2 A c n be wb l a w) (hsz : l.size = 12) (i d : Nat) (hi : i = 0 ∧ d = 16 ∨ i = 2 ∧ d = 18 ∨ i = 4 ∧ d = 20) :
 J2 A c n be wb (l.setIfInBounds i true) (a.put (some d) (.int .i64 n)) w := by
 obtain ⟨M, rfl, hb, hm, hd, h9, h10, h11⟩ := h
 have hne : ∀ j, j ≠ 0 → j ≠ 2 → j ≠ 4 → (l.setIfInBounds i true).getD j false = l.getD j false := fun j a0 a2 a4 => Rg.up_ne (by omega)
 have hc : ∀ j, j ∈ mk6 → cont n M (l.setIfInBounds i true) j = cont n M l j := by
  intro j hj
  simp only [mk6, List.mem_cons, List.not_mem_nil, or_false] at hj
  rcases hj with rfl | rfl | rfl | rfl | rfl | rfl <;> simp only [cont, held] <;> rw [hne _ (by decide) (by decide) (by decide)]
 have hk : ∀ j, j ∈ mk6 → (l.setIfInBounds i true).getD j false = l.getD j false := by
  intro j hj
  simp only [mk6, List.mem_cons, List.not_mem_nil, or_false] at hj
  exact hne j (by omega) (by omega) (by omega)
 refine ⟨M, ?_, hb, fun j hj hl => ?_, fun j j' hj hj' hne' hl hl' => hd j j' hj hj' hne' (by rw [← hk j hj]; exact hl) (by rw [← hk j' hj']; exact hl'), ?_, ?_, ?_⟩
 · have h1 := hne 1 (by decide) (by decide) (by decide)
   have h3 := hne 3 (by decide) (by decide) (by decide)
   have h5 := hne 5 (by decide) (by decide) (by decide)
   have h6 := hne 6 (by decide) (by decide) (by decide)
   have h7 := hne 7 (by decide) (by decide) (by decide)
   have h8 := hne 8 (by decide) (by decide) (by decide)
   rcases hi with ⟨rfl, rfl⟩ | ⟨rfl, rfl⟩ | ⟨rfl, rfl⟩
   · have e0 := Rg.up_eq (l := l) (i := 0) (by omega)
     have e2 : (l.setIfInBounds 0 true).getD 2 false = _ := Rg.up_ne (by decide)
     have e4 : (l.setIfInBounds 0 true).getD 4 false = _ := Rg.up_ne (by decide)
     simp only [Fr, up, Act.put, h1, h3, h5, h6, h7, h8, e0, e2, e4, if_true]
     rfl
   · have e0 := Rg.up_eq (l := l) (i := 2) (by omega)
     have e2 : (l.setIfInBounds 2 true).getD 0 false = _ := Rg.up_ne (by decide)
     have e4 : (l.setIfInBounds 2 true).getD 4 false = _ := Rg.up_ne (by decide)
     simp only [Fr, up, Act.put, h1, h3, h5, h6, h7, h8, e0, e2, e4, if_true]
     rfl
   · have e0 := Rg.up_eq (l := l) (i := 4) (by omega)
     have e2 : (l.setIfInBounds 4 true).getD 0 false = _ := Rg.up_ne (by decide)
     have e4 : (l.setIfInBounds 4 true).getD 2 false = _ := Rg.up_ne (by decide)
     simp only [Fr, up, Act.put, h1, h3, h5, h6, h7, h8, e0, e2, e4, if_true]
     rfl
 · rw [hc j hj]
   exact hm j hj (by rw [← hk j hj]; exact hl)
 · rw [hne 9 (by decide) (by decide) (by decide), hne 6 (by decide) (by decide) (by decide), hne 1 (by decide) (by decide) (by decide)]; exact h9
 · rw [hne 10 (by decide) (by decide) (by decide), hne 7 (by decide) (by decide) (by decide), hne 3 (by decide) (by decide) (by decide)]; exact h10
 · rw [hne 11 (by decide) (by decide) (by decide), hne 8 (by decide) (by decide) (by decide), hne 5 (by decide) (by decide) (by decide)]; exact h11
set_option maxRecDepth 100000 in
theorem J2.make {A : Option Addr} {c n be : Nat} {wb w : World} {l : Array Bool} {a : Act} (h : J2 A c n be wb l a w) (hsz : l.size = 12) (i d : Nat) (v : Value) (hl0 : l.getD i false = false)
 (hi : (i = 1 ∧ d = 17 ∧ v = sl n w.heap.size) ∨ (i = 3 ∧ d = 19 ∧ v = sl n w.heap.size) ∨ (i = 5 ∧ d = 21 ∧ v = sl n w.heap.size) ∨ (i = 6 ∧ d = 5 ∧ v = P1 w.heap.size) ∨ (i = 7 ∧ d = 6 ∧ v = P1 w.heap.size) ∨ (i = 8 ∧ d = 7 ∧ v = P1 w.heap.size))
 {o : Obj} (ho : o = if i < 6 then arr (List.replicate n 0) else .cells #[.slice none 0 0] 55 (0, 0)) :
 J2 A c n be wb (l.setIfInBounds i true) (a.put (some d) v) (w.alloc o) := by
 obtain ⟨M, rfl, hb, hm, hd, h9, h10, h11⟩ := h
 have hne : ∀ j, j ≠ i → (l.setIfInBounds i true).getD j false = l.getD j false := fun j a0 => Rg.up_ne (by omega)
 have he : (l.setIfInBounds i true).getD i false = true := Rg.up_eq (by omega)
 have hmi : i ∈ mk6 := by simp only [mk6, List.mem_cons, List.not_mem_nil, or_false]; omega
 have n9 : l.getD i false = true → False := by rw [hl0]; exact fun h => by cases h
 refine ⟨fun j => if j = i then w.heap.size else M j, ?_, hb.alloc hb.size _, fun j hj hl => ?_, fun j j' hj hj' hn hl hl' => ?_, ?_, ?_, ?_⟩
 · have z : ∀ j, j ≠ i → (if j = i then w.heap.size else M j) = M j := fun j hj => if_neg hj
   have hw : ∀ (j : Nat) (x : Nat → Value), j ≠ i → up (l.setIfInBounds i true) j (x (if j = i then w.heap.size else M j)) = up l j (x (M j)) := fun j x hj => by rw [z j hj]; unfold up; rw [hne j hj]
   rcases hi with ⟨rfl, rfl, rfl⟩ | ⟨rfl, rfl, rfl⟩ | ⟨rfl, rfl, rfl⟩ | ⟨rfl, rfl, rfl⟩ | ⟨rfl, rfl, rfl⟩ | ⟨rfl, rfl, rfl⟩ <;>
    simp (config := { decide := true }) only [Fr, up, Act.put, he, hne, ne_eq, if_true, if_false] <;> rfl
 · have hcont : ∀ j, j ∈ mk6 → j ≠ i → l.getD j false = true → cont n (fun j => if j = i then w.heap.size else M j) (l.setIfInBounds i true) j = cont n M l j := by
    intro j hj hji hlj
    simp only [mk6, List.mem_cons, List.not_mem_nil, or_false] at hj
    have key : ∀ (s m : Nat), s ≠ i → (l.getD s false = true → l.getD m false = true) → held (l.setIfInBounds i true) n s (if m = i then w.heap.size else M m) = held l n s (M m) := by
     intro s m hs hsm
     unfold held
     rw [hne s hs]
     cases hq : l.getD s false with
     | false => rfl
     | true =>
      have : m ≠ i := by rintro rfl; exact n9 (hsm hq)
      rw [if_neg this]
    have b9 : 9 ≠ i := by omega
    have b10 : 10 ≠ i := by omega
    have b11 : 11 ≠ i := by omega
    rcases hj with rfl | rfl | rfl | rfl | rfl | rfl
    · rfl
    · rfl
    · rfl
    · simp only [cont]; rw [key 9 1 b9 (fun h => (h9 h).2)]
    · simp only [cont]; rw [key 10 3 b10 (fun h => (h10 h).2)]
    · simp only [cont]; rw [key 11 5 b11 (fun h => (h11 h).2)]
   dsimp only
   by_cases hji : j = i
   · subst hji
     rw [if_pos rfl]
     refine ⟨hb.size, ?_⟩
     rw [blk_new, ho]
     congr 1
     have e9 : ∀ s, s ≠ j → (l.getD s false = true → l.getD j false = true) → (l.setIfInBounds j true).getD s false = false := fun s hs hsj => by
      rw [hne s hs]
      cases hq : l.getD s false with
      | false => rfl
      | true => exact (n9 (hsj hq)).elim
     rcases hi with ⟨rfl, rfl, rfl⟩ | ⟨rfl, rfl, rfl⟩ | ⟨rfl, rfl, rfl⟩ | ⟨rfl, rfl, rfl⟩ | ⟨rfl, rfl, rfl⟩ | ⟨rfl, rfl, rfl⟩
     · rfl
     · rfl
     · rfl
     · rw [if_neg (by decide)]; simp only [cont, held]; rw [e9 9 (by decide) (fun h => (h9 h).1)]; rfl
     · rw [if_neg (by decide)]; simp only [cont, held]; rw [e9 10 (by decide) (fun h => (h10 h).1)]; rfl
     · rw [if_neg (by decide)]; simp only [cont, held]; rw [e9 11 (by decide) (fun h => (h11 h).1)]; rfl
   · rw [hne j hji] at hl
     obtain ⟨h1, h2⟩ := hm j hj hl
     rw [if_neg hji, hcont j hj hji hl]
     exact ⟨h1, blk_alloc h2 _⟩
 · have lt : ∀ j, j ∈ mk6 → l.getD j false = true → M j < w.heap.size := fun j hj hl => blk_lt (hm j hj hl).2
   dsimp only
   by_cases h1 : j = i
   · have h2 : j' ≠ i := by omega
     rw [hne j' h2] at hl'
     rw [if_pos h1, if_neg h2]
     have := lt j' hj' hl'
     omega
   · rw [hne j h1] at hl
     by_cases h2 : j' = i
     · rw [if_neg h1, if_pos h2]
       have := lt j hj hl
       omega
     · rw [hne j' h2] at hl'
       rw [if_neg h1, if_neg h2]
       exact hd j j' hj hj' hn hl hl'
 · intro h
   rw [hne 9 (by omega)] at h
   obtain ⟨a1, a2⟩ := h9 h
   exact ⟨by rw [hne 6 (by rintro rfl; exact n9 a1)]; exact a1, by rw [hne 1 (by rintro rfl; exact n9 a2)]; exact a2⟩
 · intro h
   rw [hne 10 (by omega)] at h
   obtain ⟨a1, a2⟩ := h10 h
   exact ⟨by rw [hne 7 (by rintro rfl; exact n9 a1)]; exact a1, by rw [hne 3 (by rintro rfl; exact n9 a2)]; exact a2⟩
 · intro h
   rw [hne 11 (by omega)] at h
   obtain ⟨a1, a2⟩ := h11 h
   exact ⟨by rw [hne 8 (by rintro rfl; exact n9 a1)]; exact a1, by rw [hne 5 (by rintro rfl; exact n9 a2)]; exact a2⟩
set_option maxRecDepth 100000 in
theorem J2.store {A : Option Addr} {c n be : Nat} {wb w : World} {l : Array Bool} {a : Act} (h : J2 A c n be wb l a w) (hsz : l.size = 12) (i p m : Nat)
 (hi : i = 9 ∧ p = 6 ∧ m = 1 ∨ i = 10 ∧ p = 7 ∧ m = 3 ∨ i = 11 ∧ p = 8 ∧ m = 5) (hp : l.getD p false = true) (hm1 : l.getD m false = true) :
 ∃ M : Nat → Nat, a = Fr A c n be M l ∧ w.heap[M p]? = some (cont n M l p) ∧ J2 A c n be wb (l.setIfInBounds i true) a (w.setCell ⟨M p, 0, none⟩ (sl n (M m))) := by
 obtain ⟨M, rfl, hb, hm, hd, h9, h10, h11⟩ := h
 have hne : ∀ j, j ≠ i → (l.setIfInBounds i true).getD j false = l.getD j false := fun j a0 => Rg.up_ne (by omega)
 have he : (l.setIfInBounds i true).getD i false = true := Rg.up_eq (by omega)
 have hpm : p ∈ mk6 := by simp only [mk6, List.mem_cons, List.not_mem_nil, or_false]; omega
 obtain ⟨b1, b2⟩ := hm p hpm hp
 refine ⟨M, rfl, b2, M, ?_, hb.setCell b1 _, fun j hj hl => ?_, fun j j' hj hj' hn hl hl' => ?_, ?_, ?_, ?_⟩
 · have q0 := hne 0 (by omega)
   have q1 := hne 1 (by omega)
   have q2 := hne 2 (by omega)
   have q3 := hne 3 (by omega)
   have q4 := hne 4 (by omega)
   have q5 := hne 5 (by omega)
   have q6 := hne 6 (by omega)
   have q7 := hne 7 (by omega)
   have q8 := hne 8 (by omega)
   simp only [Fr, up, q0, q1, q2, q3, q4, q5, q6, q7, q8]
 · have hji : j ≠ i := by simp only [mk6, List.mem_cons, List.not_mem_nil, or_false] at hj; omega
   rw [hne j hji] at hl
   obtain ⟨a1, a2⟩ := hm j hj hl
   refine ⟨a1, ?_⟩
   by_cases hjp : j = p
   · subst hjp
     rcases hi with ⟨rfl, rfl, rfl⟩ | ⟨rfl, rfl, rfl⟩ | ⟨rfl, rfl, rfl⟩ <;>
      (simp only [cont] at a2 ⊢; rw [one_setCell a2]; unfold held; rw [he]; rfl)
   · have hh : (w.setCell ⟨M p, 0, none⟩ (sl n (M m))).heap[M j]? = w.heap[M j]? := Below.heap_setCell _ _ _ _ (hd j p hj hpm hjp hl hp)
     rw [hh, a2]
     have hq : ∀ s x, s ≠ i → held (l.setIfInBounds i true) n s x = held l n s x := fun s x hs => by unfold held; rw [hne s hs]
     simp only [mk6, List.mem_cons, List.not_mem_nil, or_false] at hj
     rcases hj with rfl | rfl | rfl | rfl | rfl | rfl
     · rfl
     · rfl
     · rfl
     · simp only [cont]; rw [hq 9 _ (by omega)]
     · simp only [cont]; rw [hq 10 _ (by omega)]
     · simp only [cont]; rw [hq 11 _ (by omega)]
 · have z : ∀ j, j ∈ mk6 → j ≠ i := fun j hj => by simp only [mk6, List.mem_cons, List.not_mem_nil, or_false] at hj; omega
   rw [hne j (z j hj)] at hl
   rw [hne j' (z j' hj')] at hl'
   exact hd j j' hj hj' hn hl hl'
 all_goals
  intro h
  rw [hne _ (by omega), hne _ (by omega)]
  first
  | (by_cases hq : i = 9
   · obtain ⟨rfl, rfl⟩ : p = 6 ∧ m = 1 := by omega
     first | exact ⟨hp, hm1⟩ | (rw [hne _ (by omega)] at h; first | exact h10 h | exact h11 h)
   · by_cases hq2 : i = 10
     · obtain ⟨rfl, rfl⟩ : p = 7 ∧ m = 3 := by omega
       first | exact ⟨hp, hm1⟩ | (rw [hne _ (by omega)] at h; first | exact h9 h | exact h11 h)
     · obtain ⟨rfl, rfl⟩ : p = 8 ∧ m = 5 := by omega
       first | exact ⟨hp, hm1⟩ | (rw [hne _ (by omega)] at h; first | exact h9 h | exact h10 h))
end Tj
end Go.Proofs.Ytmadhaccjmakdaa
/- graph.strong: what the call does, by its Lean function. -/
namespace Go.Proofs.Ytmadhaccjmakdaa
open Go.RowKit Go.Proofs.YtmadhaccjmakdaaW.PrintWords Go.Proofs.YtmadhaccjmakdaaW.PrintLast Go.Proofs.YtmadhaccjmakdaaW.PrintMore Go.Proofs.Ytmadhaccjmakdaa.P
namespace Tj
structure Pre (w0 : World) (A : Option Addr) (c n be bi bl bp ai al ap : Nat) (comp : List Int) (w : World) : Prop where
 hB : Below w0.heap.size w0 w
 ke : w.heap[be]? = some (.cells #[.slice A n c] 47 (0, 0))
 ki : w.heap[bi]? = some (.cells #[sl n ai] 55 (0, 0))
 kl : w.heap[bl]? = some (.cells #[sl n al] 55 (0, 0))
 kp : w.heap[bp]? = some (.cells #[sl n ap] 55 (0, 0))
 fi : w.heap[ai]? = some (arr (List.replicate n 0))
 fl : w.heap[al]? = some (arr (List.replicate n 0))
 fp : w.heap[ap]? = some (arr comp)
 lp : comp.length = n
 d : ai ≠ al ∧ ai ≠ ap ∧ al ≠ ap ∧ bi ≠ bl ∧ bi ≠ bp ∧ bl ≠ bp
 b : w0.heap.size ≤ ai ∧ w0.heap.size ≤ al ∧ w0.heap.size ≤ ap
set_option maxRecDepth 100000 in
theorem Pre.setComp {w0 : World} {A : Option Addr} {c n be bi bl bp ai al ap : Nat} {comp : List Int} {w : World} (h : Pre w0 A c n be bi bl bp ai al ap comp w) (j : Nat) (x : Int) :
 Pre w0 A c n be bi bl bp ai al ap (comp.set j x) (w.setCell ⟨ap, j, none⟩ (.int .i64 x)) where
 hB := h.hB.setCell h.b.2.2 _
 ke := blk_far h.ke (blk_ne h.ke h.fp (by decide)) _
 ki := blk_far h.ki (blk_ne h.ki h.fp (by decide)) _
 kl := blk_far h.kl (blk_ne h.kl h.fp (by decide)) _
 kp := blk_far h.kp (blk_ne h.kp h.fp (by decide)) _
 fi := blk_far h.fi h.d.2.1 _
 fl := blk_far h.fl h.d.2.2.1 _
 fp := by unfold arr; rw [← nums_set]; exact blk_set h.fp j _
 lp := by simpa using h.lp
 d := h.d
 b := h.b
set_option maxRecDepth 100000 in
theorem made_zeros (n : Nat) : Obj.cells (madeCells (Value.int IntKind.i64 0).cells ((n : Int).toNat * 1)) 3 (0, 0) = arr (List.replicate n 0) := by
 unfold arr madeCells nums
 congr 1
 rw [Int.toNat_natCast, Nat.mul_one]
 apply Array.ext
 · simp
 · intro i h1 h2
   simp [Value.cells, Nat.mod_one]
set_option maxRecDepth 100000 in
theorem arr_R {w : World} {base g : Nat} {xs : List Int} (h : w.heap[g]? = some (arr xs)) (hb : base ≤ g) (hm : xs.length ≤ maxLen) : Kd.R (Kd.int .i64) 3 w base (fun _ => True) (sl xs.length g) xs :=
 Kd.R_of_own ⟨by simp [encs], .inr ⟨g, xs.length, _, rfl, hb, h, Nat.le_refl _, hm, by simp [nums], by simp only [nums, encs, Nat.mul_one]; exact List.take_of_length_le (by simp)⟩⟩ (fun _ _ => trivial)
set_option maxRecDepth 100000 in
set_option maxHeartbeats 4000000 in
theorem strong_calls (k : Nat) (A : Option Addr) (c : Nat) (es : List (List Int)) (r1 : List Int) (r2 : Int) (w : World) (hr : Kd.C (Kd.slice 3 (Kd.int .i64)) w A es.length es) (hc : es.length ≤ c) (h : strongF k es = some (r1, r2)) :
 Calls Try.prog 50 #[.slice A es.length c] w fun e w' => ∃ v, e = .returned (.tuple #[v, .int .i64 r2]) ∧ Kd.R (Kd.int .i64) 3 w' w.heap.size (fun _ => True) v r1 ∧ Below w.heap.size w w' := by
 unfold strongF at h
 by_cases hn : es.length < 17592186044416
 case neg => rw [if_neg hn] at h; cases h
 rw [if_pos hn] at h
 obtain ⟨stf, hst, hrr⟩ := Option.map_eq_some_iff.1 h
 have HST := Aside0.mk hst
 have HRR := Aside0.mk hrr
 have HR := Aside0.mk hr
 clear h hst hrr hr
 generalize hN : es.length = n at *
 have HN := Aside0.mk hN
 clear hN
 go_enter Try.func50, Try.ntmps50
 go_wp2_with fail
 refine Rg.region_inv (by kernel_rfl) (J2 A c n w.heap.size (w.alloc (.cells #[.slice A n c] 47))) ?h0 ?hs ?he
 case h0 =>
  refine ⟨fun _ => 0, rfl, below_drew (Below.refl _ _), ?_, ?_, ?_, ?_, ?_⟩
  · intro i hi hl; exact (Rg.none_up hl).elim
  · intro i j hi hj hn hl; exact (Rg.none_up hl).elim
  all_goals (intro hl; exact (Rg.none_up hl).elim)
 case hs => as_aux_lemma =>
  generalize hw0 : w = w0
  clear hw0
  intro l a w i hsz hi hJ
  obtain ⟨hl, o, ho, hall⟩ := mem_ready.1 hi
  have hl0 := Rg.up_of hl
  match i, ho with
  | 0, ho =>
   simp at ho
   subst ho
   refine Rg.op_val (v := .int .i64 n) (w1 := w) rfl rfl ?_ (hJ.move hsz 0 16 (by omega))
   obtain ⟨M, rfl, -⟩ := hJ
   go_simp
   first | done | rfl
  | 1, ho =>
   simp at ho
   subst ho
   have hm := hall ⟨0, .data⟩ (by simp) (by rfl)
   refine Rg.op_val (v := sl n w.heap.size) (w1 := w.alloc (arr (List.replicate n 0))) rfl rfl ?_ (hJ.make hsz 1 17 _ hl0 (by simp) (by simp))
   obtain ⟨M, rfl, -⟩ := hJ
   have hm2 : (Fr A c n w0.heap.size M l).tmps[16]?.getD undef = .int .i64 n := by
    show up l 0 (.int .i64 n) = _
    unfold up
    rw [hm]
    rfl
   obtain ⟨i0, e0, e1, e2, e3⟩ := info_parts info3
   have hrun := run_make w 55 3 i0 _ Try.underlying55 e0 e1 .i64 .i64 n n (by omega) (by omega) (by rw [e3]; omega) (by omega)
   have hz : Obj.cells (madeCells (Value.int IntKind.i64 0).cells ((n : Int).toNat * i0.size)) 3 (0, 0) = arr (List.replicate n 0) := by rw [e2]; exact made_zeros n
   rw [hz] at hrun
   rw [Int.toNat_natCast] at hrun
   clear e0 e1 e2 e3 HST HRR HR hall hl hl0 hi
   go_simp
   first | done | rfl
  | 2, ho =>
   simp at ho
   subst ho
   refine Rg.op_val (v := .int .i64 n) (w1 := w) rfl rfl ?_ (hJ.move hsz 2 18 (by omega))
   obtain ⟨M, rfl, -⟩ := hJ
   go_simp
   first | done | rfl
  | 3, ho =>
   simp at ho
   subst ho
   have hm := hall ⟨2, .data⟩ (by simp) (by rfl)
   refine Rg.op_val (v := sl n w.heap.size) (w1 := w.alloc (arr (List.replicate n 0))) rfl rfl ?_ (hJ.make hsz 3 19 _ hl0 (by simp) (by simp))
   obtain ⟨M, rfl, -⟩ := hJ
   have hm2 : (Fr A c n w0.heap.size M l).tmps[18]?.getD undef = .int .i64 n := by
    show up l 2 (.int .i64 n) = _
    unfold up
    rw [hm]
    rfl
   obtain ⟨i0, e0, e1, e2, e3⟩ := info_parts info3
   have hrun := run_make w 55 3 i0 _ Try.underlying55 e0 e1 .i64 .i64 n n (by omega) (by omega) (by rw [e3]; omega) (by omega)
   have hz : Obj.cells (madeCells (Value.int IntKind.i64 0).cells ((n : Int).toNat * i0.size)) 3 (0, 0) = arr (List.replicate n 0) := by rw [e2]; exact made_zeros n
   rw [hz] at hrun
   rw [Int.toNat_natCast] at hrun
   clear e0 e1 e2 e3 HST HRR HR hall hl hl0 hi
   go_simp
   first | done | rfl
  | 4, ho =>
   simp at ho
   subst ho
   refine Rg.op_val (v := .int .i64 n) (w1 := w) rfl rfl ?_ (hJ.move hsz 4 20 (by omega))
   obtain ⟨M, rfl, -⟩ := hJ
   go_simp
   first | done | rfl
  | 5, ho =>
   simp at ho
   subst ho
   have hm := hall ⟨4, .data⟩ (by simp) (by rfl)
   refine Rg.op_val (v := sl n w.heap.size) (w1 := w.alloc (arr (List.replicate n 0))) rfl rfl ?_ (hJ.make hsz 5 21 _ hl0 (by simp) (by simp))
   obtain ⟨M, rfl, -⟩ := hJ
   have hm2 : (Fr A c n w0.heap.size M l).tmps[20]?.getD undef = .int .i64 n := by
    show up l 4 (.int .i64 n) = _
    unfold up
    rw [hm]
    rfl
   obtain ⟨i0, e0, e1, e2, e3⟩ := info_parts info3
   have hrun := run_make w 55 3 i0 _ Try.underlying55 e0 e1 .i64 .i64 n n (by omega) (by omega) (by rw [e3]; omega) (by omega)
   have hz : Obj.cells (madeCells (Value.int IntKind.i64 0).cells ((n : Int).toNat * i0.size)) 3 (0, 0) = arr (List.replicate n 0) := by rw [e2]; exact made_zeros n
   rw [hz] at hrun
   rw [Int.toNat_natCast] at hrun
   clear e0 e1 e2 e3 HST HRR HR hall hl hl0 hi
   go_simp
   first | done | rfl
  | 6, ho =>
   simp at ho
   subst ho
   refine Rg.op_val (v := P1 w.heap.size) (w1 := w.alloc (.cells #[.slice none 0 0] 55)) rfl rfl ?_ (hJ.make hsz 6 5 _ hl0 (by simp) (by simp))
   go_simp
   first | done | rfl
  | 7, ho =>
   simp at ho
   subst ho
   refine Rg.op_val (v := P1 w.heap.size) (w1 := w.alloc (.cells #[.slice none 0 0] 55)) rfl rfl ?_ (hJ.make hsz 7 6 _ hl0 (by simp) (by simp))
   go_simp
   first | done | rfl
  | 8, ho =>
   simp at ho
   subst ho
   refine Rg.op_val (v := P1 w.heap.size) (w1 := w.alloc (.cells #[.slice none 0 0] 55)) rfl rfl ?_ (hJ.make hsz 8 7 _ hl0 (by simp) (by simp))
   go_simp
   first | done | rfl
  | 9, ho =>
   simp at ho
   subst ho
   have hp := hall ⟨6, .data⟩ (by simp) (by rfl)
   have hm := hall ⟨1, .data⟩ (by simp) (by rfl)
   obtain ⟨M, rfl, hb, hK⟩ := hJ.store hsz 9 6 1 (by omega) hp hm
   refine Rg.op_skip (w1 := w.setCell ⟨M 6, 0, none⟩ (sl n (M 1))) rfl rfl rfl ?_ hK
   have e1 : (Fr A c n w0.heap.size M l).tmps[5]?.getD undef = P1 (M 6) := by
    show up l 6 (P1 (M 6)) = _
    unfold up
    rw [hp]
    rfl
   have e2 : (Fr A c n w0.heap.size M l).tmps[17]?.getD undef = sl n (M 1) := by
    show up l 1 (sl n (M 1)) = _
    unfold up
    rw [hm]
    rfl
   have c1 := cell_of_one hb
   have f1 := free_of_one hb
   clear hK hJ hb HST HRR HR hall hl hl0 hi
   go_simp
   first | done | rfl
  | 10, ho =>
   simp at ho
   subst ho
   have hp := hall ⟨7, .data⟩ (by simp) (by rfl)
   have hm := hall ⟨3, .data⟩ (by simp) (by rfl)
   obtain ⟨M, rfl, hb, hK⟩ := hJ.store hsz 10 7 3 (by omega) hp hm
   refine Rg.op_skip (w1 := w.setCell ⟨M 7, 0, none⟩ (sl n (M 3))) rfl rfl rfl ?_ hK
   have e1 : (Fr A c n w0.heap.size M l).tmps[6]?.getD undef = P1 (M 7) := by
    show up l 7 (P1 (M 7)) = _
    unfold up
    rw [hp]
    rfl
   have e2 : (Fr A c n w0.heap.size M l).tmps[19]?.getD undef = sl n (M 3) := by
    show up l 3 (sl n (M 3)) = _
    unfold up
    rw [hm]
    rfl
   have c1 := cell_of_one hb
   have f1 := free_of_one hb
   clear hK hJ hb HST HRR HR hall hl hl0 hi
   go_simp
   first | done | rfl
  | 11, ho =>
   simp at ho
   subst ho
   have hp := hall ⟨8, .data⟩ (by simp) (by rfl)
   have hm := hall ⟨5, .data⟩ (by simp) (by rfl)
   obtain ⟨M, rfl, hb, hK⟩ := hJ.store hsz 11 8 5 (by omega) hp hm
   refine Rg.op_skip (w1 := w.setCell ⟨M 8, 0, none⟩ (sl n (M 5))) rfl rfl rfl ?_ hK
   have e1 : (Fr A c n w0.heap.size M l).tmps[7]?.getD undef = P1 (M 8) := by
    show up l 8 (P1 (M 8)) = _
    unfold up
    rw [hp]
    rfl
   have e2 : (Fr A c n w0.heap.size M l).tmps[21]?.getD undef = sl n (M 5) := by
    show up l 5 (sl n (M 5)) = _
    unfold up
    rw [hm]
    rfl
   have c1 := cell_of_one hb
   have f1 := free_of_one hb
   clear hK hJ hb HST HRR HR hall hl hl0 hi
   go_simp
   first | done | rfl
  | i + 12, ho => simp at ho
 case he => as_aux_lemma =>
  intro l a w2 hsz hrd hJ
  have hall := Rg.all_listed (by kernel_rfl) hsz hrd
  have hal : ∀ i, i < 12 → l.getD i false = true := by
   intro i hi
   have h1 := hall i hi
   have h2 : i < l.size := by rw [hsz]; exact hi
   simpa [h2] using h1
  obtain ⟨M, rfl, hb, hm, hd, -, -, -⟩ := hJ
  have P0 : Pre w A c n w.heap.size (M 6) (M 7) (M 8) (M 1) (M 3) (M 5) (List.replicate n 0) w2 := by
   have k1 := hm 1 (by decide) (hal 1 (by decide))
   have k3 := hm 3 (by decide) (hal 3 (by decide))
   have k5 := hm 5 (by decide) (hal 5 (by decide))
   have k6 := hm 6 (by decide) (hal 6 (by decide))
   have k7 := hm 7 (by decide) (hal 7 (by decide))
   have k8 := hm 8 (by decide) (hal 8 (by decide))
   have hsz2 : (w.alloc (.cells #[.slice A n c] 47)).heap.size = w.heap.size + 1 := by simp
   rw [hsz2] at k1 k3 k5
   simp only [cont, held, hal 9 (by decide), hal 10 (by decide), hal 11 (by decide), if_true] at k1 k3 k5 k6 k7 k8
   have dd : ∀ i j, i ∈ mk6 → j ∈ mk6 → i < 12 → j < 12 → i ≠ j → M i ≠ M j := fun i j hi hj h1 h2 hne => hd i j hi hj hne (hal i h1) (hal j h2)
   exact {
    hB := (below_alloc (Below.refl _ _) _).trans (hb.mono (by rw [hsz2]; omega))
    ke := blk_below (blk_new w _) hb
    ki := k6.2
    kl := k7.2
    kp := k8.2
    fi := k1.2
    fl := k3.2
    fp := k5.2
    lp := by simp
    d := ⟨dd 1 3 (by decide) (by decide) (by decide) (by decide) (by decide), dd 1 5 (by decide) (by decide) (by decide) (by decide) (by decide), dd 3 5 (by decide) (by decide) (by decide) (by decide) (by decide), dd 6 7 (by decide) (by decide) (by decide) (by decide) (by decide), dd 6 8 (by decide) (by decide) (by decide) (by decide) (by decide), dd 7 8 (by decide) (by decide) (by decide) (by decide) (by decide)⟩
    b := ⟨by omega, by omega, by omega⟩ }
  have hF : Fr A c n w.heap.size M l = Fr A c n w.heap.size M (Array.replicate 12 true) := by
   unfold Fr up
   simp only [hal 0 (by decide), hal 1 (by decide), hal 2 (by decide), hal 3 (by decide), hal 4 (by decide), hal 5 (by decide), hal 6 (by decide), hal 7 (by decide), hal 8 (by decide)]
   rfl
  rw [hF]
  clear hF hm hd hal hall hrd hsz hb
  unfold Fr
  have u0 : ∀ i v, i < 12 → up (Array.replicate 12 true) i v = v := by
   intro i v hi
   unfold up
   simp [hi]
  rw [u0 6 _ (by decide), u0 7 _ (by decide), u0 8 _ (by decide), u0 0 _ (by decide), u0 1 _ (by decide), u0 2 _ (by decide), u0 3 _ (by decide), u0 4 _ (by decide), u0 5 _ (by decide)]
  generalize M 1 = ai at P0 ⊢
  generalize M 3 = al at P0 ⊢
  generalize M 5 = ap at P0 ⊢
  generalize M 6 = bi at P0 ⊢
  generalize M 7 = bl at P0 ⊢
  generalize M 8 = bp at P0 ⊢
  clear u0
  have P1_ := Aside0.mk P0
  have c1 := cell_of_one P0.kp
  clear P0
  go_wp2_with fail
  go_loopg [24] n (fun kq v24 w' => ∃ (i : Nat) (comp : List Int), v24 = .int .i64 i ∧ Aside0 (kq + i = n) ∧ Aside0 (Pre w A c n w.heap.size bi bl bp ai al ap comp w') ∧ Aside0 (∀ j, j < i → comp.getD j 0 = -1))
  case atStart => exact ⟨0, _, rfl, ⟨by omega⟩, P1_, ⟨fun j hj => by omega⟩⟩
  case round => as_aux_lemma =>
   clear P1_ c1
   obtain ⟨i, comp, rfl, HK, HP, HJ⟩ := hrel
   by_cases hi : i < n
   · as_aux_lemma =>
     have hk := HK.out
     obtain ⟨k1, rfl⟩ : ∃ m, gk = m + 1 := ⟨gk - 1, by omega⟩
     have c2 := cell_of_one HP.out.kp
     have e1 := HP.out.lp
     have c3 := arr_cell HP.out.fp i (by omega) (by omega)
     have f3 := arr_free HP.out.fp i
     rw [Int.toNat_natCast] at c3
     clear e1 hk
     go_upto_region 7 with fail
     have HP2 := Aside0.mk (HP.out.setComp i (-1))
     clear c2 c3 f3
     generalize wr.setCell ⟨ap, i, none⟩ (.int .i64 (-1)) = w3 at HP2 ⊢
     go_wp2_with fail
     go_roundg k1
     case measure => omega
     case rel =>
      refine ⟨i + 1, _, by go_num, ⟨by have := HK.out; omega⟩, HP2, ⟨fun j hj => ?_⟩⟩
      have hlen : i < comp.length := by rw [HP.out.lp]; exact hi
      rw [List.getD_eq_getElem?_getD, List.getElem?_set]
      by_cases hji : i = j
      · subst hji
        rw [if_pos rfl, if_pos hlen]
        rfl
      · rw [if_neg hji, ← List.getD_eq_getElem?_getD]
        exact HJ.out j (by omega)
   · have hin : i = n := by have := HK.out; omega
     subst hin
     have ec : comp = List.replicate i (-1) := by
      apply List.ext_getElem
      · rw [HP.out.lp]; simp
      · intro j h1 h2
        have := HJ.out j (by simpa using h2)
        rw [List.getD_eq_getElem?_getD, List.getElem?_eq_getElem h1] at this
        simpa using this
     rw [ec] at HP
     clear ec HJ HK comp hi
     go_upto_region 11 with fail
     have n1 := blk_new wr (.cells #[.slice none 0 0] 55)
     have n2 := blk_new (wr.alloc (.cells #[.slice none 0 0] 55)) (.cells #[.int .i64 0] 3)
     have n3 := blk_new ((wr.alloc (.cells #[.slice none 0 0] 55)).alloc (.cells #[.int .i64 0] 3)) (.cells #[.int .i64 0] 3)
     have n4 := blk_new (((wr.alloc (.cells #[.slice none 0 0] 55)).alloc (.cells #[.int .i64 0] 3)).alloc (.cells #[.int .i64 0] 3)) (.cells #[.nilFunc] 88)
     have n1' := blk_alloc (blk_alloc (blk_alloc n1 (.cells #[.int .i64 0] 3)) (.cells #[.int .i64 0] 3)) (.cells #[.nilFunc] 88)
     have n2' := blk_alloc (blk_alloc n2 (.cells #[.int .i64 0] 3)) (.cells #[.nilFunc] 88)
     have n3' := blk_alloc n3 (.cells #[.nilFunc] 88)
     have hb := below_alloc (below_alloc (below_alloc (below_alloc (Below.refl wr.heap.size wr) (.cells #[.slice none 0 0] 55)) (.cells #[.int .i64 0] 3)) (.cells #[.int .i64 0] 3)) (.cells #[.nilFunc] 88)
     have s2 : (wr.alloc (.cells #[.slice none 0 0] 55)).heap.size = wr.heap.size + 1 := by simp
     have s3 : ((wr.alloc (.cells #[.slice none 0 0] 55)).alloc (.cells #[.int .i64 0] 3)).heap.size = wr.heap.size + 1 + 1 := by simp
     have s4 : (((wr.alloc (.cells #[.slice none 0 0] 55)).alloc (.cells #[.int .i64 0] 3)).alloc (.cells #[.int .i64 0] 3)).heap.size = wr.heap.size + 1 + 1 + 1 := by simp
     rw [s2] at n2'
     rw [s3] at n3'
     rw [s4] at n4
     clear n1 n2 n3 s2 s3 s4
     have M1 := Aside0.mk n1'
     have M2 := Aside0.mk n2'
     have M3 := Aside0.mk n3'
     have M4 := Aside0.mk n4
     have HB := Aside0.mk hb
     have c4 := cell_of_one n4
     have f4 := free_of_one n4
     clear n1' n2' n3' n4 hb
     generalize ((((wr.alloc (.cells #[.slice none 0 0] 55)).alloc (.cells #[.int .i64 0] 3)).alloc (.cells #[.int .i64 0] 3)).alloc (.cells #[.nilFunc] 88)) = w5 at M1 M2 M3 M4 HB c4 f4 ⊢
     go_wp2_with fail
     have hN := HN.out
     subst hN
     have hlt1 := blk_lt HP.out.ke
     have hlt2 := blk_lt HP.out.ki
     have hlt3 := blk_lt HP.out.kl
     have hlt4 := blk_lt HP.out.kp
     have hlt5 := blk_lt HP.out.fi
     have hlt6 := blk_lt HP.out.fl
     have hlt7 := blk_lt HP.out.fp
     have hw := HP.out.hB.size
     obtain ⟨d1, d2, d3, d4, d5, d6⟩ := HP.out.d
     obtain ⟨b1, b2, b3⟩ := HP.out.b
     have OK : Cx.Ok { bc := wr.heap.size + 1, bi := bi, bl := bl, bs := wr.heap.size, be := w.heap.size, bv := wr.heap.size + 1 + 1 + 1, bp := bp, bm := wr.heap.size + 1 + 1, ai := ai, al := al, ap := ap, A := A, c := c, w0 := w, es := es } := by
      constructor
      · refine ⟨?_, ?_, ?_, ?_, ?_, ?_, ?_, d1, d2, d3⟩ <;> (dsimp only; omega)
      · refine ⟨?_, ?_, ?_⟩ <;> (dsimp only; omega)
      · refine ⟨?_, ?_, ?_, b1, b2, b3⟩ <;> (dsimp only; omega)
     have I0 : Inv { bc := wr.heap.size + 1, bi := bi, bl := bl, bs := wr.heap.size, be := w.heap.size, bv := wr.heap.size + 1 + 1 + 1, bp := bp, bm := wr.heap.size + 1 + 1, ai := ai, al := al, ap := ap, A := A, c := c, w0 := w, es := es } (init es.length)
      (w5.setCell ⟨wr.heap.size + 1 + 1 + 1, 0, none⟩ (.func (.func 61) #[] #[P1 (wr.heap.size + 1), P1 bi, P1 bl, P1 wr.heap.size, P1 w.heap.size, P1 (wr.heap.size + 1 + 1 + 1), P1 bp, P1 (wr.heap.size + 1 + 1)])) := {
      hB := (HP.out.hB.trans (HB.out.mono hw)).setCell (by dsimp only; omega) _
      hE := HR.out
      kc := blk_far M2.out (by dsimp only; omega) _
      ki := blk_far (blk_below HP.out.ki HB.out) (by dsimp only; omega) _
      kl := blk_far (blk_below HP.out.kl HB.out) (by dsimp only; omega) _
      ks := ⟨.slice none 0 0, blk_far M1.out (by dsimp only; omega) _, Kd.R_nil _ _ _ _ _⟩
      ke := blk_far (blk_below HP.out.ke HB.out) (by dsimp only; omega) _
      kv := one_setCell M4.out
      kp := blk_far (blk_below HP.out.kp HB.out) (by dsimp only; omega) _
      km := blk_far M3.out (by dsimp only; omega) _
      ai := blk_far (blk_below HP.out.fi HB.out) (by dsimp only; omega) _
      al := blk_far (blk_below HP.out.fl HB.out) (by dsimp only; omega) _
      ap := blk_far (blk_below HP.out.fp HB.out) (by dsimp only; omega) _
      li := by simp [init]
      ll := by simp [init]
      lp := by simp [init] }
     have VC := Aside0.mk (visit_calls _ OK)
     have HBP := Aside0.mk b3
     have J0 := Aside0.mk I0
     clear I0 OK d1 d2 d3 d4 d5 d6 b1 b2 b3 hw hlt1 hlt2 hlt3 hlt4 hlt5 hlt6 hlt7 c4 f4 M1 M2 M3 M4 HB HP
     generalize (w5.setCell ⟨wr.heap.size + 1 + 1 + 1, 0, none⟩ (.func (.func 61) #[] #[P1 (wr.heap.size + 1), P1 bi, P1 bl, P1 wr.heap.size, P1 w.heap.size, P1 (wr.heap.size + 1 + 1 + 1), P1 bp, P1 (wr.heap.size + 1 + 1)])) = w6 at J0 ⊢
     generalize wr.heap.size = s at J0 VC ⊢
     go_loopg [33] k (fun kq v33 w' => ∃ (v : Int) (st : TS), v33 = .int .i64 v ∧ Aside0 (0 ≤ v) ∧ Aside0 (outer kq es v st = some stf) ∧ Aside0 (kq ≤ k) ∧ Aside0 (Inv { bc := s + 1, bi := bi, bl := bl, bs := s, be := w.heap.size, bv := s + 1 + 1 + 1, bp := bp, bm := s + 1 + 1, ai := ai, al := al, ap := ap, A := A, c := c, w0 := w, es := es } st w'))
     case atStart => exact ⟨0, _, rfl, ⟨by omega⟩, HST, ⟨Nat.le_refl _⟩, J0⟩
     case round => as_aux_lemma =>
      clear J0 HST
      obtain ⟨v, st, rfl, HV, HA, HK1, J⟩ := hrel
      cases gk with
      | zero => exact absurd HA.out (by simp [outer])
      | succ k1 =>
       have H := HA.out
       clear HA
       rw [outer] at H
       have hm : es.length ≤ 9223372036854775807 := HR.out.2.1
       by_cases ci : v < es.length
       · as_aux_lemma =>
         rw [if_pos ci] at H
         have hv0 := HV.out
         have cb : decide (v < (es.length : Int)) = true := decide_eq_true ci
         have c2 := cell_of_one J.out.ki
         have c3 := arr_cell J.out.ai v hv0 (by rw [J.out.li]; exact ci)
         have q1 := eq_true hv0
         have q2 := eq_true ci
         by_cases cz : rd st.index v = 0
         · as_aux_lemma =>
           rw [if_pos cz] at H
           obtain ⟨s1, hs1, H⟩ := Option.bind_eq_some_iff.1 H
           have Hs1 := Aside0.mk hs1
           have H' := Aside0.mk H
           clear hs1 H
           have cz1 : (rd st.index v == 0) = true := beq_iff_eq.2 cz
           clear cz
           have c5 := cell_of_one J.out.kv
           go_wp2_with (go_at_call 61; refine (VC.out k1 v st s1 Hs1.out _ J.out).mono ?_; clear c2 c3 c5; rintro e w7 ⟨rfl, hI⟩; have J5 := Aside0.mk hI; clear hI)
           go_roundg k1
           case measure => omega
           case rel => exact ⟨v + 1, _, rfl, ⟨by have := HV.out; omega⟩, H', ⟨by have := HK1.out; omega⟩, J5⟩
         · as_aux_lemma =>
           rw [if_neg cz] at H
           have H' := Aside0.mk H
           clear H
           have cz1 : (rd st.index v == 0) = false := beq_eq_false_iff_ne.2 cz
           clear cz
           go_wp2_with fail
           go_roundg k1
           case measure => omega
           case rel => exact ⟨v + 1, _, rfl, ⟨by have := HV.out; omega⟩, H', ⟨by have := HK1.out; omega⟩, J⟩
       · as_aux_lemma =>
         rw [if_neg ci] at H
         have cb : decide (v < (es.length : Int)) = false := decide_eq_false ci
         have c2 := cell_of_one J.out.kp
         have c3 := cell_of_one J.out.km
         obtain rfl : st = stf := Option.some.inj H
         go_wp2_with fail
         go_region
         go_wp2_with fail
         go_ret2
         obtain ⟨rfl, rfl⟩ := Prod.mk.inj HRR.out
         refine ⟨sl es.length ap, rfl, ?_, below_drew J.out.hB⟩
         have hl := J.out.lp
         have h1 := arr_R (w := wr) (base := w.heap.size) J.out.ap (by have := HBP.out; omega) (by rw [hl]; unfold maxLen; omega)
         rw [hl] at h1
         exact Kd.R_drew h1
end Tj
end Go.Proofs.Ytmadhaccjmakdaa
/- A row of rows of the call's own: row i is appended to, and put back. -/
namespace Go.Proofs.Ytmadhaccjmakdaa
open Go.RowKit Go.Proofs.YtmadhaccjmakdaaW.PrintWords Go.Proofs.YtmadhaccjmakdaaW.PrintLast Go.Proofs.YtmadhaccjmakdaaW.PrintMore Go.Proofs.Ytmadhaccjmakdaa.P
namespace Od
open Tj Rw
abbrev KS : Kd (List Int) := Kd.slice 3 (Kd.int .i64)
set_option maxRecDepth 100000 in
theorem S_upd {g n cap base : Nat} {W : World} {ok : Nat → Prop} {xs : List (List Int)} (h : Kd.S KS 55 W base ok (.slice (some ⟨g, 0, none⟩) n cap) xs) (hfresh : ∀ k, W.heap.size ≤ k → ok k) (i : Int) (h0 : 0 ≤ i) (h1 : i < n) :
 ∃ (v0 : Value) (oki : Nat → Prop), W.cell? ⟨g, i.toNat, none⟩ = some v0 ∧ W.frozen? ⟨g, i.toNat, none⟩ = false ∧ Kd.R (Kd.int .i64) 3 W base oki v0 (row xs i) ∧ (∀ k, oki k → ok k ∧ k ≠ g) ∧
  ∀ (w1 : World) (v1 : Value) (ys : List Int), W.grownBy w1 v0.ownBlock → Kd.R (Kd.int .i64) 3 w1 base (fun k => oki k ∨ W.heap.size ≤ k) v1 ys →
   Kd.S KS 55 (w1.setCell ⟨g, i.toNat, none⟩ v1) base ok (.slice (some ⟨g, 0, none⟩) n cap) (xs.set i.toNat ys) ∧ w1.grownBy (w1.setCell ⟨g, i.toNat, none⟩ v1) (some g) := by
 obtain ⟨oki, c, hcl, hM, hcc, hfr, hoki, hH⟩ := Kd.S_elem h [] i h0 h1
 obtain ⟨v0, rfl, hR⟩ := hM
 have hsz : KS.sz = 1 := rfl
 have hg : g < W.heap.size := Kd.S_lt h g (by simp [Value.ownBlock])
 refine ⟨v0, oki, ?_, ?_, hR, hoki, ?_⟩
 · have := hcc 0 v0 rfl
   rwa [hsz, Nat.mul_one, Nat.add_zero] at this
 · have := hfr 0
   rwa [hsz, Nat.mul_one, Nat.add_zero] at this
 · intro w1 v1 ys hg1 hR1
   have hw : Kd.H KS 55 W base ok (.slice (some ⟨g, 0, none⟩) n cap) xs i (fun k => oki k ∨ W.heap.size ≤ k) [v0] := by
    have := Kd.H_widen hH
    have e : (fun k => oki k ∨ ok k ∧ W.heap.size ≤ k) = (fun k => oki k ∨ W.heap.size ≤ k) := by
     funext k
     exact propext ⟨fun hk => hk.elim .inl (fun h2 => .inr h2.2), fun hk => hk.elim .inl (fun h2 => .inr ⟨hfresh k h2, h2⟩)⟩
    rwa [e] at this
   have h2 := Kd.H_grown hw hg1 (fun k hk => .inl (hR.1 k hk))
   obtain ⟨h3, h4⟩ := Kd.H_seg h2 h0 h1 (seg := [v1]) (j := 0) (by rw [hsz]; simp) (by
    intro q hq
    rw [List.mem_singleton.1 hq]
    exact (Kd.R_val hR1).2)
   have e1 : w1.setCells g (i.toNat * KS.sz + 0) [v1] = w1.setCell ⟨g, i.toNat, none⟩ v1 := by rw [hsz, Nat.mul_one, Nat.add_zero]; rfl
   rw [e1] at h3 h4
   refine ⟨Kd.H_back h3 (okp := fun k => oki k ∨ W.heap.size ≤ k) ⟨v1, rfl, ?_⟩ (fun _ hk => hk), h4⟩
   refine Kd.R_far (p := ⟨g, i.toNat, none⟩) hR1 (fun k hk => ?_) _
   rcases hk with hk | hk
   · exact (hoki k hk).2
   · show k ≠ g
     omega
set_option maxRecDepth 100000 in
theorem S_made {W : World} {g n base : Nat} {ok : Nat → Prop} (hh : W.heap[g]? = some (.cells (madeCells #[.slice none 0 0] n) 55 (0, 0))) (hb : base ≤ g) (hm : n ≤ maxLen) (hok : ok g) :
 Kd.S KS 55 W base ok (.slice (some ⟨g, 0, none⟩) n n) (List.replicate n []) := by
 refine Kd.S_bare ⟨fun k hk => by obtain rfl : g = k := by simpa [Value.ownBlock] using hk
  exact hok, List.replicate n (.slice none 0 0), ?_, ?_, fun j p hj => ?_⟩
 · refine ⟨by simp [Kd.bare, KS, Kd.slice], .inr ⟨g, n, _, by rw [List.length_replicate], hb, hh, by rw [List.length_replicate]; exact Nat.le_refl _, hm, by rw [size_madeCells]; simp [Kd.bare, KS, Kd.slice], ?_⟩⟩
   have e : (madeCells #[.slice none 0 0] n).toList = List.replicate n (.slice none 0 0) := by
    apply List.ext_getElem
    · simp [madeCells]
    · intro i h1 h2
      simp [madeCells, Nat.mod_one]
   rw [e, List.length_replicate]
   simp [Kd.bare, KS, Kd.slice]
 · simp [Kd.bare, KS, Kd.slice]
 · have hjl := (List.getElem?_eq_some_iff.1 hj).1
   rw [List.length_replicate] at hjl
   have hp : p = [] := by
    rw [List.getElem?_replicate_of_lt hjl] at hj
    exact (Option.some.inj hj).symm
   subst hp
   show ∃ v, _ = [v] ∧ _
   refine ⟨.slice none 0 0, ?_, Kd.R_nil _ _ _ _ _⟩
   have e1 : (Kd.bare KS).sz = 1 := rfl
   rw [e1, Nat.mul_one, List.drop_replicate, List.take_replicate]
   rw [show min 1 (n - j) = 1 by omega]
   rfl
section
variable {P : Program} {ops : Array Oper} {o : Oper} {a : Act} {Q : Exit → Act → World → Prop} {Kc : Act → World → Prop}
set_option maxRecDepth 100000 in
theorem skip_step {W w1 : World} (hw : Region.wanted o (yielded ops a.tmps) = true) (hd : o.dst = none) (hrun : (execOp a.eval o).run P W = .ok .skip w1) (h : Kc a w1) :
 if Region.wanted o (yielded ops a.tmps) = true then Oper.wp P o a W Kc Q else Kc (a.put none undef) W := by
 rw [if_pos hw]
 unfold Oper.wp
 rw [hrun]
 show Kc (a.put o.dst undef) w1
 rw [hd]
 exact h
end
set_option maxRecDepth 100000 in
theorem S_mapstep {w w1 : World} {e base gs c : Nat} {ok : Nat → Prop} {v : Value} {xs : List (List Int)} {es : Array MapEntry} (h : Kd.S KS e w base ok v xs) (hm : w.heap[gs]? = some (.map es c)) (hg : w.grownBy w1 (some gs)) : Kd.S KS e w1 base ok v xs :=
 Kd.S_mono (Kd.S_grown (Kd.S_bound h) hg (fun k hk he => by
  obtain ⟨_, _, _, q, _, cells, hc⟩ := hk
  injection he with he
  subst he
  rw [hm] at hc
  cases hc)) (fun k hk => hk.1)
set_option maxRecDepth 100000 in
theorem arr_made {W : World} {g n : Nat} (hh : W.heap[g]? = some (.cells (madeCells #[.int .i64 0] n) 3 (0, 0))) : W.heap[g]? = some (arr (List.replicate n 0)) := by
 rw [hh, ← made_zeros n]
 simp [Value.cells]
end Od
end Go.Proofs.Ytmadhaccjmakdaa
/- The list that ordered hands back: its rows are read where the members stood; what 'enter' leaves alone. -/
namespace Go.Proofs.Ytmadhaccjmakdaa
open Go.RowKit Go.Proofs.YtmadhaccjmakdaaW.PrintWords Go.Proofs.YtmadhaccjmakdaaW.PrintLast Go.Proofs.YtmadhaccjmakdaaW.PrintMore Go.Proofs.Ytmadhaccjmakdaa.P
namespace Od
open Tj Rw
def outK (W1 : World) (okm : Nat → Prop) : Kd (List Int) where
 sz := 1
 E := []
 K := fun _ x cs => Kd.FK KS W1 okm x cs
 M := fun _ _ _ x cs => Kd.FK KS W1 okm x cs
 K_len := fun h => KS.K_len (Kd.FK_now h)
 K_one := fun h => KS.K_one (Kd.FK_now h)
 K_below := fun _ h => h
 K_of_M := fun h => h
 M_mono := fun _ h => h
 M_bound := fun h => h
 M_move := fun _ h => h
 M_lower := fun _ h => h
set_option maxRecDepth 100000 in
theorem outK_V {W1 w : World} {gm base b0 : Nat} {ok : Nat → Prop} {v : Value} {xs : List (List Int)} (h : (outK W1 (fun k => gm ≤ k)).R 55 w base ok v xs) (hb : Below W1.heap.size W1 w) (hg : gm ≤ base) {g0 : Nat} (hg0 : g0 ≤ gm) :
 Kd.V KS 55 w b0 (fun k => g0 ≤ k) v xs := by
 obtain ⟨A, c, rfl⟩ := Kd.R_slice h
 have hl := (Kd.R_reads' h).2.1
 refine ⟨A, c, rfl, hl, fun W' hW => ?_⟩
 have hbase := Kd.R_base h
 have hR := Kd.R_step (w1 := W') (Kd.R_tight rfl h) (fun k hk hlt => hW k (by have := hbase k hk.symm; omega) hlt)
 have h2 := (Kd.R_reads' hR).2.2
 refine ReadsRow.imp_ h2 (Below.refl _ _) (fun x cs hx => hx W' (fun k hk hlt => ?_))
 rw [hW k (by omega) (by have := hb.size; omega)]
 exact hb.block k hlt
def ReadyAt (w : World) (br : Nat) (ready : List Int) : Prop := ∃ vr, w.heap[br]? = some (.cells #[vr] 55 (0, 0)) ∧ RowAt w (br + 1) vr ready
set_option maxRecDepth 100000 in
theorem Entered.keeps {W1 w w' : World} {br : Nat} {vr : Value} {ready ready' : List Int} {e : Ending} (h : Entered W1 (br + 1) br vr ready' w e w') (hR : RowAt w (br + 1) vr ready) :
 e = .returned (.tuple #[]) ∧ Below W1.heap.size W1 w' ∧ w.heap.size ≤ w'.heap.size ∧ ReadyAt w' br ready' ∧ (∀ k, k < br → k < w.heap.size → w'.heap[k]? = w.heap[k]?) ∧
  ∀ (k : Nat) (t : TypeId) (cs : Array Value), k ≠ br → w.heap[k]? = some (.cells cs t (0, 0)) → t ≠ 3 → w'.heap[k]? = w.heap[k]? := by
 obtain ⟨h1, h2, h3, h4, h5⟩ := h
 refine ⟨h1, h2, h3, h4, fun k hk hlt => h5 k hlt (by omega) (fun e => ?_), fun k t cs hk hc ht => h5 k (blk_lt hc) hk (fun e => ?_)⟩
 · have := (hR.lt k e).1
   omega
 · obtain ⟨_, _, cur, a3⟩ := hR.lt k e
   rw [hc] at a3
   injection a3 with a3
   injection a3 with _ a3
   exact ht a3
set_option maxRecDepth 100000 in
theorem ReadyAt.kept {w w1 : World} {br : Nat} {ready : List Int} (h : ReadyAt w br ready) (hk : ∀ k, br ≤ k → k < w.heap.size → w1.heap[k]? = w.heap[k]?) : ReadyAt w1 br ready := by
 obtain ⟨vr, h1, h2⟩ := h
 exact ⟨vr, by rw [hk br (Nat.le_refl _) (blk_lt h1)]; exact h1, h2.kept (fun k hkk => by
  obtain ⟨a1, a2, _⟩ := h2.lt k hkk
  exact hk k (by omega) a2)⟩
end Od
end Go.Proofs.Ytmadhaccjmakdaa
/- Words for the last loop of ordered: a row cut from the front; the list that is handed back is kept. -/
namespace Go.Proofs.Ytmadhaccjmakdaa
open Go.RowKit Go.Proofs.YtmadhaccjmakdaaW.PrintWords Go.Proofs.YtmadhaccjmakdaaW.PrintLast Go.Proofs.YtmadhaccjmakdaaW.PrintMore Go.Proofs.Ytmadhaccjmakdaa.P
namespace Rw
open Tj
set_option maxRecDepth 100000 in
theorem RowAt.cut {w : World} {base : Nat} {v : Value} {xs : List Int} (h : RowAt w base v xs) (hne : 0 < xs.length) :
 ∃ g off cap A, v = .slice (some ⟨g, off, none⟩) xs.length cap ∧ base ≤ g ∧ g < w.heap.size ∧ xs.length ≤ cap ∧ w.cell? ⟨g, off, none⟩ = some (.int .i64 (rd xs 0)) ∧
  (if cap = 1 then some ⟨g, off, none⟩ else some ⟨g, off + 1, none⟩) = A ∧ RowAt w base (.slice A (xs.length - 1) (cap - 1)) (xs.drop 1) := by
 rcases h with ⟨rfl, rfl⟩ | ⟨g, off, cap, cur, rfl, hb, hh, hl, hs, hm, hc⟩
 · cases hne
 · refine ⟨g, off, cap, _, rfl, hb, blk_lt hh, hl, ?_, rfl, ?_⟩
   · rw [blk_cell hh]
     have := hc 0 (rd xs 0) (by
      show xs[0]? = some (xs.getD 0 0)
      rw [List.getD_eq_getElem?_getD, List.getElem?_eq_getElem hne]
      rfl)
     rwa [Nat.add_zero] at this
   · have hdl : (xs.drop 1).length = xs.length - 1 := by simp
     rw [← hdl]
     by_cases h1 : cap = 1
     · rw [if_pos h1]
       refine .inr ⟨g, off, cap - 1, cur, rfl, hb, hh, by omega, by omega, by omega, fun j x hj => ?_⟩
       have := (List.getElem?_eq_some_iff.1 hj).1
       omega
     · rw [if_neg h1]
       refine .inr ⟨g, off + 1, cap - 1, cur, rfl, hb, hh, by omega, by omega, by omega, fun j x hj => ?_⟩
       rw [List.getElem?_drop] at hj
       have := hc (1 + j) x hj
       rwa [show off + (1 + j) = off + 1 + j by omega] at this
end Rw
namespace Od
open Tj Rw
abbrev OutR (W1 : World) (gm : Nat) (w : World) (base : Nat) (v : Value) (xs : List (List Int)) : Prop := (outK W1 (fun k => gm ≤ k)).R 55 w base (fun _ => True) v xs
set_option maxRecDepth 100000 in
theorem OutR.kept {W1 w w1 : World} {gm base : Nat} {v : Value} {xs : List (List Int)} (h : OutR W1 gm w base v xs) (hk : ∀ k, v.ownBlock = some k → w1.heap[k]? = w.heap[k]?) : OutR W1 gm w1 base v xs :=
 Kd.R_mono (Kd.R_step (Kd.R_tight rfl h) (fun k e _ => hk k e.symm)) (fun _ _ => trivial)
set_option maxRecDepth 100000 in
theorem OutR.typed {W1 w : World} {gm base : Nat} {v : Value} {xs : List (List Int)} (h : OutR W1 gm w base v xs) : ∀ k, v.ownBlock = some k → base ≤ k ∧ k < w.heap.size ∧ ∃ cells, w.heap[k]? = some (.cells cells 55 (0, 0)) := by
 intro k hk
 obtain ⟨inner, hi⟩ := Kd.R_own h
 obtain ⟨cells, hc⟩ := own_typed hi k hk
 exact ⟨Kd.R_base h k hk, blk_lt hc, cells, hc⟩
set_option maxRecDepth 100000 in
theorem row_out_ne {W1 w : World} {gm base base' : Nat} {v u : Value} {xs : List (List Int)} {ys : List Int} (h : OutR W1 gm w base v xs) (hR : RowAt w base' u ys) : ∀ k, u.ownBlock = some k → some k ≠ v.ownBlock := by
 intro k hk e
 obtain ⟨_, _, cells, hc⟩ := h.typed k e.symm
 obtain ⟨_, _, cur, hc2⟩ := hR.lt k hk
 rw [hc] at hc2
 injection hc2 with hc2
 injection hc2 with _ hc2
 exact absurd hc2 (by decide)
end Od
end Go.Proofs.Ytmadhaccjmakdaa
/- graph.ordered: what the call does, by its Lean function. -/
namespace Go.Proofs.Ytmadhaccjmakdaa
open Go.RowKit Go.Proofs.YtmadhaccjmakdaaW.PrintWords Go.Proofs.YtmadhaccjmakdaaW.PrintLast Go.Proofs.YtmadhaccjmakdaaW.PrintMore Go.Proofs.Ytmadhaccjmakdaa.P
namespace Od
open Tj Rw
set_option maxRecDepth 100000 in
set_option maxHeartbeats 4000000 in
theorem ordered_calls (k : Nat) (A : Option Addr) (c : Nat) (es : List (List Int)) (r : List (List Int)) (w : World) (hr : Kd.C KS w A es.length es) (hc : es.length ≤ c) (h : orderedF k es = some r) :
 Calls Try.prog 40 #[.slice A es.length c] w fun e w' => ∃ v, e = .returned v ∧ Kd.V KS 55 w' w.heap.size (fun k_ => w.heap.size ≤ k_) v r ∧ Below w.heap.size w w' := by
 unfold orderedF at h
 obtain ⟨⟨comp, n⟩, hs, h⟩ := Option.bind_eq_some_iff.1 h
 dsimp only at h
 by_cases hn : 0 ≤ n ∧ n < 5864062014805
 case neg => rw [if_neg hn] at h; cases h
 rw [if_pos hn] at h
 obtain ⟨n0, n1⟩ := hn
 obtain ⟨n, rfl⟩ := Int.eq_ofNat_of_zero_le n0
 rw [Int.toNat_natCast] at h
 obtain ⟨ms, hms, h⟩ := Option.bind_eq_some_iff.1 h
 obtain ⟨u, hu, h⟩ := Option.bind_eq_some_iff.1 h
 obtain ⟨rd0, hrd, h⟩ := Option.bind_eq_some_iff.1 h
 have HS := Aside0.mk (strong_calls k A c es comp n w hr hc hs)
 have HMS := Aside0.mk hms
 have HU := Aside0.mk hu
 have HRD := Aside0.mk hrd
 have HDR := Aside0.mk h
 have HR := Aside0.mk hr
 clear hs hms hu hrd h hr
 generalize hL : es.length = L at *
 have HL := Aside0.mk hL
 clear hL
 go_enter Try.func40, Try.ntmps40
 go_upto_region 2 with (go_at_call 50; refine HS.out.mono ?_; rintro e w1 ⟨vc, rfl, hcm, hb1⟩; obtain ⟨Ac, cc, rfl, hlc, hCC⟩ := Kd.R_reads hcm; have HCC := Aside0.mk hCC; have HB1 := Aside0.mk hb1; clear hcm hCC hb1 HS)
 obtain ⟨i0, e0, e1, e2, e3⟩ := info_parts info55
 have hmk := run_make w1 47 55 i0 _ Try.underlying47 e0 e1 .i64 .i64 n n (by omega) (by omega) (by rw [e3]; omega) (by omega)
 rw [Int.toNat_natCast, e2, Nat.mul_one] at hmk
 clear e0 e1 e2 e3
 go_upto_region 3 with fail
 have hb2 := below_alloc (below_alloc (Below.refl w1.heap.size w1) (.cells (madeCells #[.slice none 0 0] n) 55)) (.cells #[.slice (some ⟨w1.heap.size, 0, none⟩) n n] 47)
 have hgm := blk_alloc (blk_new w1 (.cells (madeCells #[.slice none 0 0] n) 55)) (.cells #[.slice (some ⟨w1.heap.size, 0, none⟩) n n] 47)
 have hbm := blk_new (w1.alloc (.cells (madeCells #[.slice none 0 0] n) 55)) (.cells #[.slice (some ⟨w1.heap.size, 0, none⟩) n n] 47)
 have hs1 : (w1.alloc (.cells (madeCells #[.slice none 0 0] n) 55)).heap.size = w1.heap.size + 1 := by simp
 rw [hs1] at hbm
 have B2 := Aside0.mk hb2
 have S2 := Aside0.mk (S_made (base := w1.heap.size) (ok := fun _ => True) hgm (Nat.le_refl _) (by unfold maxLen; omega) trivial)
 have V2 := Aside0.mk hbm
 clear hb2 hgm hbm hs1 hmk
 generalize ((w1.alloc (.cells (madeCells #[.slice none 0 0] n) 55)).alloc (.cells #[.slice (some ⟨w1.heap.size, 0, none⟩) n n] 47)) = w2 at B2 S2 V2 ⊢
 generalize hgm : w1.heap.size = gm at B2 S2 V2 ⊢
 have HG := Aside0.mk hgm
 clear hgm
 go_wp2_with fail
 have hml : comp.length ≤ 9223372036854775807 := HCC.out.2.1
 go_loopg [34] k (fun kq v34 w' => ∃ (v : Int) (m : List (List Int)), v34 = .int .i64 v ∧ Aside0 (0 ≤ v) ∧ Aside0 (m.length = n) ∧ Aside0 (grp kq comp v m = some ms) ∧ Aside0 (kq ≤ k) ∧ Aside0 (Kd.S KS 55 w' gm (fun _ => True) (.slice (some ⟨gm, 0, none⟩) n n) m) ∧ Aside0 (w'.heap[gm + 1]? = some (.cells #[.slice (some ⟨gm, 0, none⟩) n n] 47 (0, 0))) ∧ Aside0 (Below gm w1 w'))
 case atStart => exact ⟨0, _, rfl, ⟨by omega⟩, ⟨by simp⟩, HMS, ⟨Nat.le_refl _⟩, S2, V2, B2⟩
 case round => as_aux_lemma =>
  clear HMS S2 V2 B2
  obtain ⟨v, m, rfl, HV, HML, HA, HK1, S, V, B⟩ := hrel
  cases gk with
  | zero => exact absurd HA.out (by simp [grp])
  | succ k1 =>
   have H := HA.out
   clear HA
   rw [grp] at H
   by_cases ci : v < comp.length
   · as_aux_lemma =>
     rw [if_pos ci] at H
     by_cases cx : 0 ≤ rd comp v ∧ rd comp v < m.length ∧ (row m (rd comp v)).length < 17592186044415
     case neg => rw [if_neg cx] at H; cases H
     rw [if_pos cx] at H
     obtain ⟨cx0, cx1, cx2⟩ := cx
     have cb : decide (v < (comp.length : Int)) = true := decide_eq_true ci
     have hv0 := HV.out
     have q1 := eq_true hv0
     have q2 := eq_true ci
     obtain ⟨ad, rfl, hx⟩ := Kd.at_int HCC.out v hv0 ci
     have hB := B.out
     rw [← HG.out] at hB
     have hx1 := (hB.cell (World.block_lt_of_cell? _ _ hx)).trans hx
     clear hx hB
     generalize rd comp v = x at H cx0 cx1 cx2 hx1
     have H' := Aside0.mk H
     clear H
     go_upto_region 6 with fail
     rw [HML.out] at cx1
     obtain ⟨v0, oki, u1, u2, u3, u4, u5⟩ := S_upd S.out (fun _ _ => trivial) x cx0 cx1
     have U2 := Aside0.mk u2
     have U3 := Aside0.mk u3
     have U4 := Aside0.mk u4
     have U5 := Aside0.mk (@u5)
     have q3 := eq_true cx0
     have q4 := eq_true cx1
     have c1 := cell_of_one V.out
     clear u2 u3 u4 u5 hx1
     have hH0 := True.intro
     refine start_ (n := 11) (S := fun w' => w'.cell? ⟨gm + 1, 0, none⟩ = some (.slice (some ⟨gm, 0, none⟩) n n) ∧ w'.cell? ⟨gm, x.toNat, none⟩ = some v0) (ds := [10]) #[false, false, false, false, false, false, false, false, false, false, false] (by kernel_rfl) rfl rfl ⟨c1, u1⟩ (fun hHeld => ?_)
     generalize hwd : wr.drew = wd at hHeld ⊢
     refine pure_ (i := 1) (N := some 40) (v := ?_) (a' := ?_) #[false, true, false, false, false, false, false, false, false, false, false] rfl rfl (by kernel_rfl) (fun _ _ _ h => h) (Or.inl ⟨by rfl, ?_⟩) ?_ ?_
     rotate_left
     · intro w'
       go_simp
       with_reducible rfl
     rotate_left
     · simp only [Act.put, List.setIfInBounds_toArray, List.set_cons_zero, List.set_cons_succ, i64_w, i32_w]
       rfl
     refine pure_ (i := 3) (N := some 42) (v := ?_) (a' := ?_) #[false, true, false, true, false, false, false, false, false, false, false] rfl rfl (by kernel_rfl) (fun _ _ _ h => h) (Or.inl ⟨by rfl, ?_⟩) ?_ ?_
     rotate_left
     · intro w'
       go_simp
       with_reducible rfl
     rotate_left
     · simp only [Act.put, List.setIfInBounds_toArray, List.set_cons_zero, List.set_cons_succ, i64_w, i32_w]
       rfl
     refine pure_ (i := 6) (N := some 45) (v := ?_) (a' := ?_) #[false, true, false, true, false, false, true, false, false, false, false] rfl rfl (by kernel_rfl) (fun _ _ _ h => h) (Or.inl ⟨by rfl, ?_⟩) ?_ ?_
     rotate_left
     · intro w'
       go_simp
       with_reducible rfl
     rotate_left
     · simp only [Act.put, List.setIfInBounds_toArray, List.set_cons_zero, List.set_cons_succ, i64_w, i32_w]
       rfl
     refine take_ (i := 0) (N := some 39) (v := ?_) (a' := ?_) #[true, true, false, true, false, false, true, false, false, false, false] rfl rfl (by kernel_rfl) (fun _ _ _ h => h) (Or.inl ⟨by rfl, ?_⟩) hHeld ?_ ?_
     rotate_left
     · rintro w' ⟨s0, s1⟩
       go_simp
       with_reducible rfl
     rotate_left
     · simp only [Act.put, List.setIfInBounds_toArray, List.set_cons_zero, List.set_cons_succ, i64_w, i32_w]
       rfl
     refine take_ (i := 2) (N := some 41) (v := ?_) (a' := ?_) #[true, true, true, true, false, false, true, false, false, false, false] rfl rfl (by kernel_rfl) (fun _ _ _ h => h) (Or.inl ⟨by rfl, ?_⟩) hHeld ?_ ?_
     rotate_left
     · rintro w' ⟨s0, s1⟩
       go_simp
       with_reducible rfl
     rotate_left
     · simp only [Act.put, List.setIfInBounds_toArray, List.set_cons_zero, List.set_cons_succ, i64_w, i32_w]
       rfl
     refine pure_ (i := 4) (N := some 43) (v := ?_) (a' := ?_) #[true, true, true, true, true, false, true, false, false, false, false] rfl rfl (by kernel_rfl) (fun _ _ _ h => h) (Or.inl ⟨by rfl, ?_⟩) ?_ ?_
     rotate_left
     · intro w'
       go_simp
       with_reducible rfl
     rotate_left
     · simp only [Act.put, List.setIfInBounds_toArray, List.set_cons_zero, List.set_cons_succ, i64_w, i32_w]
       rfl
     refine take_ (i := 5) (N := some 44) (v := ?_) (a' := ?_) #[true, true, true, true, true, true, true, false, false, false, false] rfl rfl (by kernel_rfl) (fun _ _ _ h => h) (Or.inl ⟨by rfl, ?_⟩) hHeld ?_ ?_
     rotate_left
     · rintro w' ⟨s0, s1⟩
       go_simp
       with_reducible rfl
     rotate_left
     · simp only [Act.put, List.setIfInBounds_toArray, List.set_cons_zero, List.set_cons_succ, i64_w, i32_w]
       rfl
     refine one_ (i := 7) (N := some 46) #[true, true, true, true, true, true, true, true, false, false, false] rfl rfl (by kernel_rfl) (by decide) (fun K hK => ?_)
     refine event_step (w1 := wd.alloc (.cells #[.int .i64 v] 3)) (v := .slice (some ⟨wd.heap.size, 0, none⟩) 1 1) rfl (by go_simp; first | done | rfl) (hK.out _ _ ?_ (fun hHeld => ?_))
     · exact ⟨((below_alloc (Below.refl _ _) _).cell (World.block_lt_of_cell? _ _ hHeld.1)).trans hHeld.1, ((below_alloc (Below.refl _ _) _).cell (World.block_lt_of_cell? _ _ hHeld.2)).trans hHeld.2⟩
     refine norm_ (a' := ?_) ?_ ?_
     rotate_left
     · show Act.put _ (some 46) _ = _
       simp only [Act.put, List.setIfInBounds_toArray, List.set_cons_zero, List.set_cons_succ, i64_w, i32_w]
       rfl
     have hsd : wd.heap.size = wr.heap.size := by rw [← hwd]; rfl
     have hRd : Kd.R (Kd.int .i64) 3 wd gm (fun k => oki k ∨ wr.heap.size ≤ k) v0 (row m x) := by rw [← hwd]; exact Kd.R_mono (Kd.R_drew U3.out) (fun k hk => .inl hk)
     have hBd : Below gm w1 wd := by rw [← hwd]; exact below_drew B.out
     have hVd : wd.heap[gm + 1]? = some (.cells #[.slice (some ⟨gm, 0, none⟩) n n] 47 (0, 0)) := by rw [← hwd]; exact V.out
     have hgmb : gm ≤ wd.heap.size := by have := blk_lt hVd; omega
     refine one_ (i := 8) (N := some 47) #[true, true, true, true, true, true, true, true, true, false, false] rfl rfl (by kernel_rfl) (by decide) (fun K hK => ?_)
     refine Kd.R_append_step (Kd.int .i64) (w0 := w1) gm rfl (.tmp 44) (.tmp 46) 55 3 (.int .i64 0) 8 rfl Try.underlying55 info3 rfl (by decide) (by omega) v0 (row m x) v [.int .i64 v] (fun k => oki k ∨ wr.heap.size ≤ k) (fun _ => False) rfl rfl rfl (fun _ hk => hk.elim) (fun k hk => .inr (by omega)) hRd hBd hgmb (by omega) ?_
     intro v1 w3 ho hb hg hat
     obtain ⟨A1, q1c, rfl⟩ := Kd.R_slice ho
     have hown : ∀ k, v0.ownBlock = some k → oki k := fun k hk => U3.out.1 k hk
     have hnm : v0.ownBlock ≠ some (gm + 1) := fun e => Kd.R_ne hRd hVd (by decide) e.symm
     have hng : v0.ownBlock ≠ some gm := fun e => (U4.out gm (hown gm e)).2 rfl
     have hgl : gm < wd.heap.size := by have := blk_lt hVd; omega
     have w1c : wd.cell? ⟨gm + 1, 0, none⟩ = some (.slice (some ⟨gm, 0, none⟩) n n) := by rw [← hwd]; exact c1
     have w2c : wd.cell? ⟨gm, x.toNat, none⟩ = some v0 := by rw [← hwd]; exact u1
     have w2f : wd.frozen? ⟨gm, x.toNat, none⟩ = false := by rw [← hwd]; exact U2.out
     have k1 : w3.cell? ⟨gm + 1, 0, none⟩ = some (.slice (some ⟨gm, 0, none⟩) n n) := (World.cell?_of_block (hg.block _ (blk_lt hVd) (fun e => hnm e.symm))).trans w1c
     have k2 : w3.cell? ⟨gm, x.toNat, none⟩ = some v0 := (World.cell?_of_block (hg.block gm hgl (fun e => hng e.symm))).trans w2c
     have k3 : w3.frozen? ⟨gm, x.toNat, none⟩ = false := (World.frozen?_of_block (hg.block gm hgl (fun e => hng e.symm))).trans w2f
     have G3 := Aside0.mk hg
     have R3 := Aside0.mk ho
     have B3 := Aside0.mk hb
     have V3 := Aside0.mk ((hg.block _ (blk_lt hVd) (fun e => hnm e.symm)).trans hVd)
     clear hg ho hb hat w1c w2c w2f hown hnm hng hRd hBd hVd
     refine hK.out _ _ ⟨k1, k2⟩ (fun hHeld => ?_)
     refine norm_ (a' := ?_) ?_ ?_
     rotate_left
     · show Act.put _ (some 47) _ = _
       simp only [Act.put, List.setIfInBounds_toArray, List.set_cons_zero, List.set_cons_succ, i64_w, i32_w]
       rfl
     refine pure_ (i := 9) (N := some 48) (v := ?_) (a' := ?_) #[true, true, true, true, true, true, true, true, true, true, false] rfl rfl (by kernel_rfl) (fun _ _ _ h => h) (Or.inl ⟨by rfl, ?_⟩) ?_ ?_
     rotate_left
     · intro w'
       go_simp
       with_reducible rfl
     rotate_left
     · simp only [Act.put, List.setIfInBounds_toArray, List.set_cons_zero, List.set_cons_succ, i64_w, i32_w]
       rfl
     refine last_ (i := 10) (N := none) #[true, true, true, true, true, true, true, true, true, true, true] rfl rfl (by kernel_rfl) (by decide) (fun K hK => ?_)
     refine skip_step (w1 := w3.setCell ⟨gm, x.toNat, none⟩ (.slice A1 (row m x ++ [v]).length q1c)) rfl rfl (by go_simp; first | done | rfl) (hK.out _ _ ?_)
     refine done_ (by kernel_rfl) ?_
     obtain ⟨S4, g4⟩ := U5.out w3 _ _ (by rw [← hwd] at G3; exact World.grownBy.trans (grown_of_below (below_drew (Below.refl _ _)) _) G3.out) R3.out
     have S5 := Aside0.mk S4
     have V5 := Aside0.mk (blk_grown V3.out g4 (by simp))
     have B5 := Aside0.mk ((B3.out.grown g4 (by have := B.out.size; have := blk_lt V3.out; omega) (fun k hk => by cases hk; exact Nat.le_refl _)))
     clear S4 g4 k1 k2 k3 hHeld hK hH0 V3 B3 G3 R3 U5 U4 U3 U2
     generalize w3.setCell ⟨gm, x.toNat, none⟩ (.slice A1 (row m x ++ [v]).length q1c) = w5 at S5 V5 B5 ⊢
     go_wp2_with fail
     go_roundg k1
     case measure => omega
     case rel => exact ⟨v + 1, _, rfl, ⟨by omega⟩, ⟨by unfold app; rw [List.length_set]; exact HML.out⟩, H', ⟨by have := HK1.out; omega⟩, S5, V5, B5⟩
   · as_aux_lemma =>
     rw [if_neg ci] at H
     obtain rfl := Option.some.inj H
     have cb : decide (v < (comp.length : Int)) = false := decide_eq_false ci
     have MM : MsAt wr (gm + 1) m := by
      obtain ⟨A5, c5, e5, l5, r5⟩ := Kd.S_reads S.out
      injection e5 with e6 e7 e8
      exact ⟨some ⟨gm, 0, none⟩, n, by rw [HML.out]; exact V.out, by rw [HML.out, e6]; rw [HML.out] at r5; exact r5⟩
     have M := Aside0.mk MM
     have MF := Aside0.mk (show Kd.F KS wr (fun k => gm ≤ k) (some ⟨gm, 0, none⟩) n m from Kd.S_F (Kd.S_mono (Kd.S_bound S.out) (fun k hk => hk.2.1)))
     clear H MM S
     go_upto_region 8 with fail
     obtain ⟨i0, e0, e1, e2, e3⟩ := info_parts info3
     have hmk := run_make wr 55 3 i0 _ Try.underlying55 e0 e1 .i64 .i64 n n (by omega) (by omega) (by rw [e3]; omega) (by omega)
     rw [Int.toNat_natCast, e2, Nat.mul_one] at hmk
     obtain ⟨i1, f0, f1, f2, f3⟩ := info_parts info55
     have hmk2 := run_make (wr.alloc (.cells (madeCells (Value.int .i64 0).cells n) 3)) 47 55 i1 _ Try.underlying47 f0 f1 .i64 .i64 n n (by omega) (by omega) (by rw [f3]; omega) (by omega)
     rw [Int.toNat_natCast, f2, Nat.mul_one] at hmk2
     clear e0 e1 e2 e3 f0 f1 f2 f3
     have hz0 : (Value.int .i64 0).cells = #[.int .i64 0] := rfl
     have hz1 : (Value.slice none 0 0).cells = #[.slice none 0 0] := rfl
     rw [hz0] at hmk hmk2
     rw [hz1] at hmk2
     clear hz0 hz1
     go_upto_region 10 with fail
     obtain ⟨W1, rfl⟩ : ∃ W1 : World, W1 = wr := ⟨_, rfl⟩
     have hgo1 := blk_alloc (blk_new W1 (.cells (madeCells #[.int .i64 0] n) 3)) (.cells (madeCells #[.slice none 0 0] n) 55)
     have hgu1 := blk_new (W1.alloc (.cells (madeCells #[.int .i64 0] n) 3)) (.cells (madeCells #[.slice none 0 0] n) 55)
     have hs1 : (W1.alloc (.cells (madeCells #[.int .i64 0] n) 3)).heap.size = W1.heap.size + 1 := by simp
     rw [hs1] at hgu1
     have B2 := Aside0.mk (below_alloc (below_alloc (Below.refl W1.heap.size W1) (.cells (madeCells #[.int .i64 0] n) 3)) (.cells (madeCells #[.slice none 0 0] n) 55))
     have O2 := Aside0.mk (arr_made hgo1)
     have S2 := Aside0.mk (S_made (base := W1.heap.size + 1) (ok := fun _ => True) hgu1 (Nat.le_refl _) (by unfold maxLen; omega) trivial)
     clear hgo1 hgu1 hs1 hmk hmk2
     generalize ((W1.alloc (.cells (madeCells #[.int .i64 0] n) 3)).alloc (.cells (madeCells #[.slice none 0 0] n) 55)) = W2 at B2 O2 S2 ⊢
     generalize hgo : W1.heap.size = go at B2 O2 S2 ⊢
     have HGO := Aside0.mk hgo
     clear hgo
     have cm := cell_of_one (blk_below V.out (by rw [HGO.out]; exact B2.out))
     go_wp2_with fail
     clear cm
     go_loopg [56] k (fun kq v56 w' => ∃ (ci : Int) (u1 : US), v56 = .int .i64 ci ∧ Aside0 (0 ≤ ci) ∧ Aside0 (u1.opn.length = n ∧ u1.users.length = n) ∧ Aside0 (ed1 kq es comp m ci u1 = some u) ∧ Aside0 (kq ≤ k) ∧ Aside0 (Below go W1 w') ∧ Aside0 (w'.heap[go]? = some (arr u1.opn)) ∧ Aside0 (Kd.S KS 55 w' (go + 1) (fun _ => True) (.slice (some ⟨go + 1, 0, none⟩) n n) u1.users))
     case atStart => exact ⟨0, _, rfl, ⟨by omega⟩, ⟨by simp, by simp⟩, HU, ⟨Nat.le_refl _⟩, B2, O2, S2⟩
     case round => as_aux_lemma =>
      clear HU B2 O2 S2
      obtain ⟨ci, u1, rfl, HC0, HL1, HA, HK2, B2, O2, S2⟩ := hrel
      obtain ⟨W2b, rfl⟩ : ∃ W2b : World, W2b = wr := ⟨_, rfl⟩
      cases gk with
      | zero => exact absurd HA.out (by simp [ed1])
      | succ k2 =>
       have H := HA.out
       clear HA
       rw [ed1] at H
       have hml2 : m.length ≤ 9223372036854775807 := by rw [HML.out]; omega
       by_cases cc1 : ci < m.length
       · as_aux_lemma =>
         rw [if_pos cc1] at H
         by_cases cw : (Lit.int .i64 ci).wf = true
         case neg => rw [if_neg cw] at H; cases H
         rw [if_pos cw] at H
         have CW := Aside0.mk cw
         clear cw
         obtain ⟨u2, hu2, H⟩ := Option.bind_eq_some_iff.1 H
         have H' := Aside0.mk H
         have HU2 := Aside0.mk hu2
         clear H hu2
         have hc0 := HC0.out
         have hcn : ci < (n : Int) := by rw [← HML.out]; exact cc1
         have cb2 : decide (ci < (n : Int)) = true := decide_eq_true hcn
         obtain ⟨Am, cm, km1, km2⟩ := M.out.cell
         have eA : Am = some ⟨gm, 0, none⟩ := by
          have e9 := V.out.symm.trans km1
          simp at e9
          exact e9.1.symm
         subst eA
         obtain ⟨adm, Ar, cr, er, hx, hxl, hxi⟩ := at_L11 km2 ci hc0 cc1
         cases er
         have hx1 := (B2.out.cell (by rw [← HGO.out]; exact World.block_lt_of_cell? _ _ hx)).trans hx
         have el : rd_L11 m ci = row m ci := rfl
         rw [el] at hx1 hxi hxl
         have HXI := Aside0.mk hxi
         clear hx hxi hxl km1 km2 el
         rw [Addr.add_lit, Nat.zero_add] at hx1
         have q1 := eq_true hc0
         have q2 := eq_true hcn
         have q1b := eq_true cc1
         go_upto_region 13 with fail
         have hmm := @run_makeMap Try.prog
         obtain ⟨w6, hput, hseen, hg6⟩ := (SeenAt.made W2b).put (by unfold maxLen; simp) ci CW.out
         have hput1 := hput
         have HG6 := Aside0.mk hg6
         have HSE := Aside0.mk hseen
         clear hput hg6 hseen hx1
         go_upto_region 14 with fail
         have hgs : go + 1 < W2b.heap.size := Kd.S_lt S2.out (go + 1) (by simp [Value.ownBlock])
         have B6 := Aside0.mk (show Below go W1 w6 from (B2.out.alloc (by omega) (.map #[] 0)).grown HG6.out (by simp; omega) (fun k hk => by cases hk; omega))
         have O6 := Aside0.mk (blk_grown (blk_alloc O2.out (.map #[] 0)) HG6.out (by intro e; injection e with e; omega))
         have S6 := Aside0.mk (S_mapstep (Kd.S_alloc S2.out (.map #[] 0)) (blk_new W2b _) HG6.out)
         have Q6 := Aside0.mk (show SeenAt w6 W2b.heap.size [ci] from HSE.out)
         have HXL : Aside0 ((row m ci).length ≤ 9223372036854775807) := ⟨HXI.out.2.1⟩
         clear hmm hput1 HG6 HSE
         generalize hgs2 : W2b.heap.size = gs at hgs B6 O6 S6 Q6 ⊢
         have HGS := Aside0.mk (show go + 1 < gs from hgs)
         clear hgs2 hgs O2 S2 B2
         have hxl := HXL.out
         go_wp2_with fail
         go_loopg [66] k2 (fun kq v66 w' => ∃ (i : Int) (u3 : US), v66 = .int .i64 i ∧ Aside0 (0 ≤ i) ∧ Aside0 (u3.opn.length = n ∧ u3.users.length = n) ∧ Aside0 (ed2 kq es comp ci (row m ci) i u3 = some u2) ∧ Aside0 (kq ≤ k2) ∧ Aside0 (Below go W1 w') ∧ Aside0 (w'.heap[go]? = some (arr u3.opn)) ∧ Aside0 (Kd.S KS 55 w' (go + 1) (fun _ => True) (.slice (some ⟨go + 1, 0, none⟩) n n) u3.users) ∧ Aside0 (SeenAt w' gs u3.seen))
         case atStart => exact ⟨0, { opn := u1.opn, users := u1.users, seen := [ci] }, rfl, ⟨by omega⟩, HL1, HU2, ⟨Nat.le_refl _⟩, B6, O6, S6, Q6⟩
         case round => as_aux_lemma =>
          clear HU2 B6 O6 S6 Q6
          obtain ⟨i, u3, rfl, HI0, HL3, HA, HK3, B6, O6, S6, Q6⟩ := hrel
          obtain ⟨W3b, rfl⟩ : ∃ W3b : World, W3b = wr := ⟨_, rfl⟩
          cases gk with
          | zero => exact absurd HA.out (by simp [ed2])
          | succ k3 =>
           have H := HA.out
           clear HA
           rw [ed2] at H
           by_cases ci3 : i < (row m ci).length
           · as_aux_lemma =>
             rw [if_pos ci3] at H
             have hi0 := HI0.out
             obtain ⟨ad3, e3, hx⟩ := Kd.at_int HXI.out i hi0 ci3
             subst e3
             have hx3 := (B6.out.cell (by rw [← HGO.out]; exact World.block_lt_of_cell? _ _ hx)).trans hx
             clear hx
             generalize rd (row m ci) i = y at H hx3
             by_cases cy : 0 ≤ y ∧ y < es.length
             case neg => rw [if_neg cy] at H; cases H
             rw [if_pos cy] at H
             obtain ⟨cy0, cy1⟩ := cy
             obtain ⟨u4, hu4, H⟩ := Option.bind_eq_some_iff.1 H
             have H' := Aside0.mk H
             have HU4 := Aside0.mk hu4
             clear H hu4
             have hrr := HR.out
             rw [← HL.out] at hrr
             obtain ⟨adE, Ay, cyy, eE, hy, hyl, hyi⟩ := at_L11 hrr y cy0 cy1
             subst eE
             have hW1 : Below w.heap.size w W3b := (HB1.out.trans (B.out.mono (by rw [← HG.out]; exact HB1.out.size))).trans (B6.out.mono (by rw [← HGO.out]; have h1 := B.out.size; have h2 := HB1.out.size; have h3 := HG.out; omega))
             have hy1 := (hW1.cell (World.block_lt_of_cell? _ _ hy)).trans hy
             have el : rd_L11 es y = row es y := rfl
             rw [el] at hy1 hyi hyl
             have HYI := Aside0.mk hyi
             have hyl2 : (row es y).length ≤ 9223372036854775807 := hyi.2.1
             rw [HL.out] at cy1
             have cb3 : decide (i < ((row m ci).length : Int)) = true := decide_eq_true ci3
             have q3 := eq_true hi0
             have q4 := eq_true ci3
             have q5 := eq_true cy0
             have q6 := eq_true cy1
             clear hy hyi hyl hrr el
             go_upto_region 17 with fail
             go_wp2_with fail
             have HYL := Aside0.mk hyl2
             clear hy1 hx3
             go_loopg [75] k3 (fun kq v75 w' => ∃ (j : Int) (u5 : US), v75 = .int .i64 j ∧ Aside0 (0 ≤ j) ∧ Aside0 (u5.opn.length = n ∧ u5.users.length = n) ∧ Aside0 (ed3 kq comp ci (row es y) j u5 = some u4) ∧ Aside0 (kq ≤ k3) ∧ Aside0 (Below go W1 w') ∧ Aside0 (w'.heap[go]? = some (arr u5.opn)) ∧ Aside0 (Kd.S KS 55 w' (go + 1) (fun _ => True) (.slice (some ⟨go + 1, 0, none⟩) n n) u5.users) ∧ Aside0 (SeenAt w' gs u5.seen))
             case atStart => exact ⟨0, _, rfl, ⟨by omega⟩, HL3, HU4, ⟨Nat.le_refl _⟩, B6, O6, S6, Q6⟩
             case round => as_aux_lemma =>
              clear HU4 B6 O6 S6 Q6 HL3
              obtain ⟨j, u5, rfl, HJ0, HL5, HA, HK4, B6, O6, S6, Q6⟩ := hrel
              obtain ⟨W4b, rfl⟩ : ∃ W4b : World, W4b = wr := ⟨_, rfl⟩
              cases gk with
              | zero => exact absurd HA.out (by simp [ed3])
              | succ k4 =>
               have H := HA.out
               clear HA
               rw [ed3] at H
               by_cases cj : j < (row es y).length
               · as_aux_lemma =>
                 rw [if_pos cj] at H
                 have hj0 := HJ0.out
                 obtain ⟨ad4, e4, hx⟩ := Kd.at_int HYI.out j hj0 cj
                 subst e4
                 have hWw : Below w.heap.size w W4b := (HB1.out.trans (B.out.mono (by rw [← HG.out]; exact HB1.out.size))).trans (B6.out.mono (by rw [← HGO.out]; have h1 := B.out.size; have h2 := HB1.out.size; have h3 := HG.out; omega))
                 have hx4 := (hWw.cell (World.block_lt_of_cell? _ _ hx)).trans hx
                 clear hx hWw
                 generalize rd (row es y) j = z at H hx4
                 by_cases cz : 0 ≤ z ∧ z < comp.length ∧ (Lit.int .i64 (rd comp z)).wf = true
                 case neg => rw [if_neg cz] at H; cases H
                 rw [if_pos cz] at H
                 obtain ⟨cz0, cz1, cz2⟩ := cz
                 obtain ⟨ad5, e5, hx⟩ := Kd.at_int HCC.out z cz0 cz1
                 subst e5
                 have hWc : Below w1.heap.size w1 W4b := by
                  have h1 := B.out
                  rw [← HG.out] at h1
                  exact h1.trans (B6.out.mono (by rw [← HGO.out]; exact h1.size))
                 have hx5 := (hWc.cell (World.block_lt_of_cell? _ _ hx)).trans hx
                 clear hx hWc
                 generalize rd comp z = d at H hx5 cz2
                 have CZ := Aside0.mk cz2
                 clear cz2
                 have cb4 : decide (j < ((row es y).length : Int)) = true := decide_eq_true cj
                 have q1 := eq_true hj0
                 have q2 := eq_true cj
                 have q5 := eq_true cz0
                 have q6 := eq_true cz1
                 have hyl3 := HYL.out
                 have hlook := Q6.out.look d CZ.out
                 by_cases cs : u5.seen.contains d = true
                 · as_aux_lemma =>
                   rw [if_pos cs] at H
                   have H' := Aside0.mk H
                   clear H
                   rw [cs] at hlook
                   clear cs
                   go_wp2_with fail
                   go_roundg k4
                   case measure => omega
                   case rel => exact ⟨j + 1, _, rfl, ⟨by omega⟩, HL5, H', ⟨by have := HK4.out; omega⟩, B6, O6, S6, Q6⟩
                 · as_aux_lemma =>
                   rw [if_neg cs] at H
                   have cs2 : u5.seen.contains d = false := by simpa using cs
                   rw [cs2] at hlook
                   clear cs
                   by_cases ca : 0 ≤ ci ∧ ci < u5.opn.length ∧ 0 ≤ d ∧ d < u5.users.length ∧ (row u5.users d).length < 17592186044415 ∧ u5.seen.length < 17592186044415
                   case neg => rw [if_neg ca] at H; cases H
                   rw [if_pos ca] at H
                   obtain ⟨ca0, ca1, ca2, ca3, ca4, ca5⟩ := ca
                   have H' := Aside0.mk H
                   clear H cs2
                   go_upto_region 22 with fail
                   obtain ⟨w7, hput, hq7, hg7⟩ := Q6.out.put (by unfold maxLen; omega) d CZ.out
                   have hput1 := hput
                   clear hput hlook hx4 hx5
                   go_upto_region 23 with fail
                   obtain ⟨mes, mc, hmo⟩ := Q6.out.obj
                   have hgl := blk_lt O6.out
                   have hgg := HGS.out
                   have B7 := Aside0.mk (B6.out.grown hg7 (by omega) (fun k hk => by cases hk; omega))
                   have O7 := Aside0.mk (blk_grown O6.out hg7 (by intro e; injection e with e; omega))
                   have S7 := Aside0.mk (S_mapstep S6.out hmo hg7)
                   have Q7 := Aside0.mk hq7
                   clear hput1 hq7 hg7 hmo B6 O6 S6 Q6 hgl
                   have c1 := arr_cell O7.out ci ca0 ca1
                   have f1 := arr_free O7.out ci.toNat
                   have q7 := eq_true ca0
                   have q8 : (ci < (n : Int)) = True := by rw [← HL5.out.1]; exact eq_true ca1
                   go_upto_region 24 with fail
                   have hgr : w7.grownBy (w7.setCell ⟨go, ci.toNat, none⟩ (.int .i64 (wrap64 (rd u5.opn ci + 1)))) (some go) := ⟨rfl, rfl, rfl, by simp, fun i hi hne => Below.heap_setCell w7 _ _ i (fun e => hne (by rw [e]))⟩
                   have B8 := Aside0.mk (B7.out.setCell (show go ≤ (⟨go, ci.toNat, none⟩ : Addr).block from Nat.le_refl go) (.int .i64 (wrap64 (rd u5.opn ci + 1))))
                   have O8 := Aside0.mk (show (w7.setCell ⟨go, ci.toNat, none⟩ (.int .i64 (wrap64 (rd u5.opn ci + 1)))).heap[go]? = some (arr (u5.opn.set ci.toNat (wrap64 (rd u5.opn ci + 1)))) from by unfold arr; rw [← nums_set]; exact blk_set O7.out ci.toNat _)
                   have S8 := Aside0.mk (Kd.S_mono (ok' := fun k => go + 1 ≤ k) (Kd.S_far (p := ⟨go, ci.toNat, none⟩) (Kd.S_bound S7.out) (fun k hk => by have := hk.2.1; show k ≠ go; omega) (.int .i64 (wrap64 (rd u5.opn ci + 1)))) (fun k hk => hk.2.1))
                   have Q8 := Aside0.mk (Q7.out.kept hgr (by intro e; injection e with e; omega))
                   clear hgr B7 O7 S7 Q7 c1 f1
                   generalize w7.setCell ⟨go, ci.toNat, none⟩ (.int .i64 (wrap64 (rd u5.opn ci + 1))) = w8 at B8 O8 S8 Q8 ⊢
                   have hs8 := blk_lt O8.out
                   rw [HL5.out.2] at ca3
                   obtain ⟨v0, oki, x1, x2, x3, x4, x5⟩ := S_upd S8.out (fun k hk => by omega) d ca2 ca3
                   have X3 := Aside0.mk (Kd.R_mono (ok' := fun k => oki k ∨ w8.heap.size ≤ k) x3 (fun k hk => .inl hk))
                   have X4 := Aside0.mk x4
                   have X5 := Aside0.mk (@x5)
                   have X6 := Aside0.mk x3
                   have q9 := eq_true ca2
                   have q10 := eq_true ca3
                   clear x3 x4 x5 hgg
                   go_wp2_with ((with_reducible refine gate_builtin (b := .append) (xs := #[.tmp 100, .tmp 102]) rfl ?_); at_builtin; refine Kd.R_append (Kd.int .i64) (w0 := w8) (go + 1) rfl (.tmp 100) (.tmp 102) 55 3 (.int .i64 0) 8 rfl Try.underlying55 info3 rfl (by decide) (by omega) v0 (row u5.users d) ci [.int .i64 ci] (fun k => oki k ∨ w8.heap.size ≤ k) (fun _ => False) rfl rfl rfl (fun _ hk => hk.elim) (fun k hk => .inr hk) X3.out (Below.refl _ _) ?hs ?hl ?_)
                   (case hs => omega)
                   (case hl => omega)
                   intro v1 w9 ho hb hg hat
                   obtain ⟨A9, q9c, rfl⟩ := Kd.R_slice ho
                   have hown : ∀ k, v0.ownBlock = some k → go + 1 ≤ k ∧ k ≠ go + 1 := fun k hk => X4.out k (X6.out.1 k hk)
                   obtain ⟨mes2, mc2, hmo2⟩ := Q8.out.obj
                   have hqn : some gs ≠ v0.ownBlock := by
                    intro e
                    obtain ⟨inner, hi⟩ := Kd.R_own X6.out
                    obtain ⟨cells, hc⟩ := own_typed hi gs e.symm
                    rw [hmo2] at hc
                    cases hc
                   have O9 := Aside0.mk (blk_grown O8.out hg (fun e => by have := (hown go e.symm).1; omega))
                   have B9 := Aside0.mk (B8.out.grown hg (by omega) (fun k hk => by have := (hown k hk).1; omega))
                   have Q9 := Aside0.mk (Q8.out.kept hg hqn)
                   have hgu : go + 1 < w8.heap.size := Kd.S_lt S8.out (go + 1) (by simp [Value.ownBlock])
                   have hne9 : some (go + 1) ≠ v0.ownBlock := fun e => (hown _ e.symm).2 rfl
                   have k2 : w9.cell? ⟨go + 1, d.toNat, none⟩ = some v0 := (World.cell?_of_block (hg.block (go + 1) hgu hne9)).trans x1
                   have k3 : w9.frozen? ⟨go + 1, d.toNat, none⟩ = false := (World.frozen?_of_block (hg.block (go + 1) hgu hne9)).trans x2
                   have hs9 := hg.size
                   have G9 := Aside0.mk hg
                   have R9 := Aside0.mk ho
                   clear hg ho hb hat hown hqn hmo2 x1 x2 hne9 B8 O8 S8 Q8 X3 X4 X6
                   go_upto_region 25 with fail
                   obtain ⟨S10, g10⟩ := X5.out w9 _ _ G9.out R9.out
                   have S11 := Aside0.mk (Kd.S_mono (ok' := fun _ => True) S10 (fun _ _ => trivial))
                   have O11 := Aside0.mk (blk_grown O9.out g10 (by intro e; injection e with e; omega))
                   have B11 := Aside0.mk (B9.out.grown g10 (by omega) (fun k hk => by cases hk; omega))
                   have Q11 := Aside0.mk (Q9.out.kept g10 (by have := HGS.out; intro e; injection e with e; omega))
                   have HL11 : Aside0 ((link ci d u5).opn.length = n ∧ (link ci d u5).users.length = n) := ⟨by unfold link app; simp only [List.length_set]; exact HL5.out⟩
                   clear S10 g10 k2 k3 hs9 G9 R9 X5 O9 B9 Q9 hs8 hgu
                   have e9 : (row u5.users d ++ [ci]).length = (row u5.users d).length + 1 := by simp
                   rw [e9] at S11 O11 B11 Q11
                   clear e9
                   generalize w9.setCell ⟨go + 1, d.toNat, none⟩ (.slice A9 ((row u5.users d).length + 1) q9c) = w11 at S11 O11 B11 Q11 ⊢
                   go_wp2_with fail
                   go_roundg k4
                   case measure => omega
                   case rel => exact ⟨j + 1, link ci d u5, rfl, ⟨by omega⟩, HL11, H', ⟨by have := HK4.out; omega⟩, B11, O11, S11, Q11⟩
               · as_aux_lemma =>
                 rw [if_neg cj] at H
                 obtain rfl := Option.some.inj H
                 have cb4 : decide (j < ((row es y).length : Int)) = false := decide_eq_false cj
                 go_wp2_with fail
                 go_roundg k3
                 case measure => omega
                 case rel => exact ⟨i + 1, _, rfl, ⟨by have := HI0.out; omega⟩, HL5, H', ⟨by have := HK3.out; omega⟩, B6, O6, S6, Q6⟩
           · as_aux_lemma =>
             rw [if_neg ci3] at H
             obtain rfl := Option.some.inj H
             have cb3 : decide (i < ((row m ci).length : Int)) = false := decide_eq_false ci3
             go_wp2_with fail
             go_roundg k2
             case measure => omega
             case rel => exact ⟨ci + 1, _, rfl, ⟨by have := HC0.out; omega⟩, HL3, H', ⟨by have := HK2.out; omega⟩, B6, O6, S6⟩
       · as_aux_lemma =>
         rw [if_neg cc1] at H
         obtain rfl := Option.some.inj H
         have hcn : ¬ ci < (n : Int) := by rw [← HML.out]; exact cc1
         have cb2 : decide (ci < (n : Int)) = false := decide_eq_false hcn
         clear H
         go_upto_region 28 with fail
         obtain ⟨W2, rfl⟩ : ∃ W2 : World, W2 = W2b := ⟨_, rfl⟩
         have hbr := blk_new W2 (.cells #[.slice none 0 0] 55)
         have B3 := Aside0.mk (B2.out.alloc (by have := blk_lt O2.out; omega) (.cells #[.slice none 0 0] 55))
         have O3 := Aside0.mk (blk_alloc O2.out (.cells #[.slice none 0 0] 55))
         have S3 := Aside0.mk (Kd.S_alloc (Kd.S_mono (ok' := fun k => go + 1 ≤ k ∧ k < W2.heap.size) (Kd.S_bound S2.out) (fun k hk => ⟨hk.2.1, hk.2.2.1⟩)) (.cells #[.slice none 0 0] 55))
         have R3 := Aside0.mk (show ReadyAt (W2.alloc (.cells #[.slice none 0 0] 55)) W2.heap.size [] from ⟨_, hbr, .inl ⟨rfl, rfl⟩⟩)
         have Z3 := Aside0.mk (show W2.heap.size + 1 ≤ (W2.alloc (.cells #[.slice none 0 0] 55)).heap.size by simp)
         have HGB := Aside0.mk (show go < W2.heap.size from blk_lt O2.out)
         clear hbr B2 O2 S2
         go_upto_region 29 with fail
         generalize (W2.alloc (.cells #[.slice none 0 0] 55)) = W3 at B3 O3 S3 R3 Z3 ⊢
         generalize W2.heap.size = br at S3 R3 Z3 HGB ⊢
         go_wp2_with fail
         have hgB := HGO.out
         go_loopg [110] k (fun kq v110 w' => ∃ (cI : Int) (ready : List Int), v110 = .int .i64 cI ∧ Aside0 (0 ≤ cI) ∧ Aside0 (starts kq m n cI u1.opn ready = some rd0) ∧ Aside0 (kq ≤ k) ∧ Aside0 (Below go W1 w') ∧ Aside0 (w'.heap[go]? = some (arr u1.opn)) ∧ Aside0 (Kd.S KS 55 w' (go + 1) (fun k => go + 1 ≤ k ∧ k < br) (.slice (some ⟨go + 1, 0, none⟩) n n) u1.users) ∧ Aside0 (ReadyAt w' br ready) ∧ Aside0 (br + 1 ≤ w'.heap.size))
         case atStart => exact ⟨0, _, rfl, ⟨by omega⟩, HRD, ⟨Nat.le_refl _⟩, B3, O3, S3, R3, Z3⟩
         case round => as_aux_lemma =>
          clear HRD B3 O3 S3 R3 Z3
          obtain ⟨cI, ready, rfl, HC0, HA, HK5, B3, O3, S3, R3, Z3⟩ := hrel
          obtain ⟨W4, rfl⟩ : ∃ W4 : World, W4 = wr := ⟨_, rfl⟩
          cases gk with
          | zero => exact absurd HA.out (by simp [starts])
          | succ k5 =>
           have H := HA.out
           clear HA
           rw [starts] at H
           by_cases cc5 : cI < (n : Int)
           · as_aux_lemma =>
             rw [if_pos cc5] at H
             by_cases cx : 0 ≤ cI ∧ cI < u1.opn.length
             case neg => rw [if_neg cx] at H; cases H
             rw [if_pos cx] at H
             obtain ⟨cx0, cx1⟩ := cx
             have c1 := arr_cell O3.out cI cx0 cx1
             have q1 := eq_true cx0
             have q2 := eq_true cc5
             have cb5 : decide (cI < (n : Int)) = true := decide_eq_true cc5
             by_cases cz : rd u1.opn cI = 0
             · as_aux_lemma =>
               rw [if_pos cz] at H
               obtain ⟨ready2, hent, H⟩ := Option.bind_eq_some_iff.1 H
               have H' := Aside0.mk H
               have HE := Aside0.mk hent
               have cz1 : (rd u1.opn cI == 0) = true := beq_iff_eq.2 cz
               clear cz H hent
               obtain ⟨vr, hv, hra⟩ := R3.out
               have HRA := Aside0.mk hra
               have hB4 : Below W1.heap.size W1 W4 := by rw [HGO.out]; exact B3.out
               have ENT := Aside0.mk (enter_calls W1 W4 (gm + 1) br m cI (br + 1) vr ready ready2 M.out hB4 (by have := HGB.out; omega) (by have := HGB.out; omega) Z3.out hv hra HE.out)
               clear hv hra hB4
               go_wp2_with (go_at_call 51; refine ENT.out.mono ?_; clear ENT c1; intro e w9 hen; obtain ⟨rfl, e1, e2, e3, e4, e5⟩ := hen.keeps HRA.out; rw [HGO.out] at e1; have E1 := Aside0.mk e1; have E2 := Aside0.mk e2; have E3 := Aside0.mk e3; have E4 := Aside0.mk e4; clear e1 e2 e3 e4 e5 hen)
               have O9 := Aside0.mk ((E4.out go HGB.out (blk_lt O3.out)).trans O3.out)
               have S9 := Aside0.mk (Kd.S_step S3.out (fun k hk hlt => E4.out k hk.2 hlt))
               go_roundg k5
               case measure => omega
               case rel => exact ⟨cI + 1, _, rfl, ⟨by omega⟩, H', ⟨by have := HK5.out; omega⟩, E1, O9, S9, E3, ⟨by have := Z3.out; have := E2.out; omega⟩⟩
             · as_aux_lemma =>
               rw [if_neg cz] at H
               have H' := Aside0.mk H
               have cz1 : (rd u1.opn cI == 0) = false := beq_eq_false_iff_ne.2 cz
               clear cz H
               go_wp2_with fail
               go_roundg k5
               case measure => omega
               case rel => exact ⟨cI + 1, _, rfl, ⟨by omega⟩, H', ⟨by have := HK5.out; omega⟩, B3, O3, S3, R3, Z3⟩
           · as_aux_lemma =>
             rw [if_neg cc5] at H
             obtain rfl := Option.some.inj H
             have cb5 : decide (cI < (n : Int)) = false := decide_eq_false cc5
             clear H
             obtain ⟨W5, rfl⟩ : ∃ W5 : World, W5 = W4 := ⟨_, rfl⟩
             have X3 := Aside0.mk (show OutR W1 gm W5 (br + 1) (.slice none 0 0) [] from Kd.R_nil _ _ _ _ _)
             have HU1 := Aside0.mk HL1.out
             go_upto_region 37 with fail
             go_loopg [21] k (fun kq v21 w' => ∃ (ready opn : List Int) (out : List (List Int)), Aside0 (drain kq m u1.users opn ready out = some r) ∧ Aside0 (kq ≤ k) ∧ Aside0 (opn.length = n) ∧ Aside0 (Below go W1 w') ∧ Aside0 (w'.heap[go]? = some (arr opn)) ∧ Aside0 (Kd.S KS 55 w' (go + 1) (fun k => go + 1 ≤ k ∧ k < br) (.slice (some ⟨go + 1, 0, none⟩) n n) u1.users) ∧ Aside0 (ReadyAt w' br ready) ∧ Aside0 (br + 1 ≤ w'.heap.size) ∧ Aside0 (OutR W1 gm w' (br + 1) v21 out))
             case atStart => exact ⟨_, _, _, HDR, ⟨Nat.le_refl _⟩, ⟨HL1.out.1⟩, B3, O3, S3, R3, Z3, X3⟩
             case round => as_aux_lemma =>
              clear HDR B3 O3 S3 R3 Z3 X3
              obtain ⟨ready, opn, out, HA, HK6, HLO, B3, O3, S3, R3, Z3, X3⟩ := hrel
              obtain ⟨W6, rfl⟩ : ∃ W6 : World, W6 = wr := ⟨_, rfl⟩
              obtain ⟨Ao, co, rfl⟩ := Kd.R_slice X3.out
              cases gk with
              | zero => exact absurd HA.out (by simp [drain])
              | succ k6 =>
               have H := HA.out
               clear HA
               rw [drain] at H
               obtain ⟨vr, hv, hra⟩ := R3.out
               have HV := Aside0.mk hv
               have HRA := Aside0.mk hra
               clear hv hra R3
               by_cases ce : 0 < ready.length
               · as_aux_lemma =>
                 rw [if_pos ce] at H
                 obtain ⟨gr, off, cap, A1, rfl, hg1, hg2, hcp, hc0, hif, hcut⟩ := HRA.out.cut ce
                 have c1 := cell_of_one HV.out
                 have cb : decide ((0 : Int) < (ready.length : Int)) = true := decide_eq_true (by omega)
                 by_cases cx : 0 ≤ rd ready 0 ∧ rd ready 0 < m.length ∧ rd ready 0 < u1.users.length ∧ out.length < 5864062014805
                 case neg => rw [if_neg cx] at H; cases H
                 rw [if_pos cx] at H
                 obtain ⟨⟨opn2, ready2⟩, hdec, H2⟩ := Option.bind_eq_some_iff.1 H
                 have HDC := Aside0.mk hdec
                 have H' := Aside0.mk H2
                 clear hdec H2 H
                 have f1 := free_of_one HV.out
                 have q1 : (1 ≤ (ready.length : Int)) = True := eq_true (by omega)
                 go_upto_region 40 with fail
                 have hr7 : ∀ k, (Value.slice A1 (ready.length - 1) (cap - 1)).ownBlock = some k → k ≠ br := fun k hk => by have := (hcut.lt k hk).1; omega
                 have B7 := Aside0.mk (B3.out.setCell (show go ≤ (⟨br, 0, none⟩ : Addr).block from Nat.le_of_lt HGB.out) (.slice A1 (ready.length - 1) (cap - 1)))
                 have O7 := Aside0.mk (blk_far O3.out (p := ⟨br, 0, none⟩) (show go ≠ br from Nat.ne_of_lt HGB.out) (.slice A1 (ready.length - 1) (cap - 1)))
                 have S7 := Aside0.mk (Kd.S_far (p := ⟨br, 0, none⟩) S3.out (fun k hk => show k ≠ br from Nat.ne_of_lt hk.2) (.slice A1 (ready.length - 1) (cap - 1)))
                 have R7 := Aside0.mk (show ReadyAt (W6.setCell ⟨br, 0, none⟩ (.slice A1 (ready.length - 1) (cap - 1))) br (ready.drop 1) from ⟨_, one_setCell HV.out, hcut.kept (fun k hk => Below.heap_setCell _ _ _ _ (hr7 k hk))⟩)
                 have Z7 := Aside0.mk (show br + 1 ≤ (W6.setCell ⟨br, 0, none⟩ (.slice A1 (ready.length - 1) (cap - 1))).heap.size by simpa using Z3.out)
                 have X7 := Aside0.mk (X3.out.kept (w1 := W6.setCell ⟨br, 0, none⟩ (.slice A1 (ready.length - 1) (cap - 1))) (fun k hk => Below.heap_setCell _ _ _ _ (show k ≠ br from fun e => by have := (X3.out.typed k hk).1; omega)))
                 clear hr7 hcut hg1 hg2 hcp hc0 c1 f1 q1 hif B3 O3 S3 Z3 X3 HV HRA cb
                 generalize W6.setCell ⟨br, 0, none⟩ (.slice A1 (ready.length - 1) (cap - 1)) = W7 at B7 O7 S7 R7 Z7 X7 ⊢
                 have BW := Aside0.mk (show Below W1.heap.size W1 W7 by rw [HGO.out]; exact B7.out)
                 have c1 := cell_of_one (blk_below V.out BW.out)
                 obtain ⟨cx0, cx1, cx2, cx3⟩ := cx
                 obtain ⟨adm, cm, er, hcl, hfk, hcc, _⟩ := Kd.F_get MF.out ([] : List Int) (rd ready 0) cx0 (by rw [← HML.out]; exact cx1)
                 cases er
                 obtain ⟨Ar, cr, rfl, hlr, hF⟩ := Kd.FK_slice_open hfk
                 have hFK := Aside0.mk hfk
                 have hx := hcc 0 _ rfl
                 have hx1 := (BW.out.cell (World.block_lt_of_cell? _ _ hx)).trans hx
                 have ek : KS.sz = 1 := rfl
                 have el : m.getD (rd ready 0).toNat [] = row m (rd ready 0) := rfl
                 rw [ek, Nat.mul_one, Nat.add_zero] at hx1
                 rw [el] at hx1 hFK
                 rw [Addr.add_lit, Nat.zero_add] at hx1
                 have q1 := eq_true cx0
                 have q2 : (rd ready 0 < (n : Int)) = True := eq_true (by rw [← HML.out]; exact cx1)
                 have HCX := Aside0.mk (And.intro cx0 (And.intro cx1 (And.intro cx2 cx3)))
                 clear cx0 cx1 cx2 cx3 ce
                 clear hcc hcl hlr hF hx ek el hfk
                 go_wp2_with ((with_reducible refine gate_builtin (b := .append) (xs := #[.tmp 130, .tmp 135]) rfl ?_); at_builtin; refine Kd.R_append (outK W1 (fun k => gm ≤ k)) (w0 := W7) (br + 1) rfl (.tmp 130) (.tmp 135) 47 55 (.slice none 0 0) 24 rfl Try.underlying47 info55 rfl Nat.zero_lt_one (by omega) (.slice Ao out.length co) out (row m (rd ready 0)) [.slice Ar (row m (rd ready 0)).length cr] (fun _ => True) (fun _ => False) rfl rfl hFK.out (fun _ hk => hk.elim) (fun k hk => trivial) X7.out (Below.refl _ _) Z7.out ?hl ?_)
                 (case hl => have := HCX.out.2.2.2; omega)
                 intro v1 w9 ho hb hg hat
                 obtain ⟨A9, q9c, rfl⟩ := Kd.R_slice ho
                 have hty := X7.out.typed
                 obtain ⟨vr7, hv7, hra7⟩ := R7.out
                 have hroe := row_out_ne X7.out hra7
                 have B9 := Aside0.mk (B7.out.grown hg (by have := HGB.out; have := Z7.out; omega) (fun k hk => by have := (hty k hk).1; have := HGB.out; omega))
                 have O9 := Aside0.mk (blk_grown O7.out hg (fun e => by have := (hty go e.symm).1; have := HGB.out; omega))
                 have S9 := Aside0.mk (Kd.S_grown S7.out hg (fun k hk e => by have := (hty k e.symm).1; have := hk.2; omega))
                 have R9 := Aside0.mk (show ReadyAt w9 br (ready.drop 1) from ⟨vr7, (hg.block br (blk_lt hv7) (fun e => by have := (hty br e.symm).1; omega)).trans hv7, hra7.kept (fun k hk => hg.block k (hra7.lt k hk).2.1 (hroe k hk))⟩)
                 have Z9 := Aside0.mk (Nat.le_trans Z7.out hg.size)
                 have X9 := Aside0.mk ho
                 clear ho hb hg hat hty hv7 hra7 hroe vr7 B7 O7 S7 R7 Z7 X7 BW hx1 c1 hFK
                 have e9 : (out ++ [row m (rd ready 0)]).length = out.length + 1 := by simp
                 rw [e9] at X9 ⊢
                 clear e9
                 obtain ⟨adu, cu, er, hcl, hfk, hcc, hrst⟩ := Kd.F_get (Kd.S_F S9.out) ([] : List Int) (rd ready 0) HCX.out.1 (by rw [← HU1.out.2]; exact HCX.out.2.2.1)
                 cases er
                 obtain ⟨Au, cu, rfl, hlu, hF⟩ := Kd.FK_slice_open hfk
                 have hx := hcc 0 _ rfl
                 have ek : KS.sz = 1 := rfl
                 have el : u1.users.getD (rd ready 0).toNat [] = row u1.users (rd ready 0) := rfl
                 simp only [ek, Nat.mul_one, Nat.add_zero, Addr.add_lit, Nat.zero_add] at hx
                 rw [el] at hx hF
                 have F9 := Aside0.mk hF
                 have HUL : Aside0 ((row u1.users (rd ready 0)).length ≤ 9223372036854775807) := ⟨Kd.F_max hF⟩
                 clear hcc hcl hlu hF hfk ek el hrst
                 go_upto_region 41 with fail
                 have hul := HUL.out
                 go_wp2_with fail
                 go_loopg [142] k6 (fun kq v142 w' => ∃ (i : Int) (opn3 ready3 : List Int), v142 = .int .i64 i ∧ Aside0 (0 ≤ i) ∧ Aside0 (opn3.length = n) ∧ Aside0 (dec kq m (row u1.users (rd ready 0)) i opn3 ready3 = some (opn2, ready2)) ∧ Aside0 (kq ≤ k6) ∧ Aside0 (Below go W1 w') ∧ Aside0 (w'.heap[go]? = some (arr opn3)) ∧ Aside0 (Kd.S KS 55 w' (go + 1) (fun k => go + 1 ≤ k ∧ k < br) (.slice (some ⟨go + 1, 0, none⟩) n n) u1.users) ∧ Aside0 (Kd.F (Kd.int .i64) w' (fun k => go + 1 ≤ k ∧ k < br) Au (row u1.users (rd ready 0)).length (row u1.users (rd ready 0))) ∧ Aside0 (ReadyAt w' br ready3) ∧ Aside0 (br + 1 ≤ w'.heap.size) ∧ Aside0 (OutR W1 gm w' (br + 1) (.slice A9 (out.length + 1) q9c) (out ++ [row m (rd ready 0)])))
                 case atStart => exact ⟨0, _, _, rfl, ⟨by omega⟩, HLO, HDC, ⟨Nat.le_refl _⟩, B9, O9, S9, F9, R9, Z9, X9⟩
                 case round => as_aux_lemma =>
                  clear HDC B9 O9 S9 F9 R9 Z9 X9 hx q1 q2
                  obtain ⟨i, opn3, ready3, rfl, HI, HLO3, HA, HK7, B3, O3, S3, F3, R3, Z3, X3⟩ := hrel
                  obtain ⟨W8, rfl⟩ : ∃ W8 : World, W8 = wr := ⟨_, rfl⟩
                  cases gk with
                  | zero => exact absurd HA.out (by simp [dec])
                  | succ k7 =>
                   have H := HA.out
                   clear HA
                   rw [dec] at H
                   by_cases ci : i < (row u1.users (rd ready 0)).length
                   · as_aux_lemma =>
                     rw [if_pos ci] at H
                     have hi0 := HI.out
                     obtain ⟨ad4, e4, hx4⟩ := Kd.at_int (Kd.F_now F3.out) i hi0 ci
                     subst e4
                     generalize rd (row u1.users (rd ready 0)) i = d at H hx4
                     by_cases cd : 0 ≤ d ∧ d < opn3.length
                     case neg => rw [if_neg cd] at H; cases H
                     rw [if_pos cd] at H
                     obtain ⟨cd0, cd1⟩ := cd
                     have cb7 : decide (i < ((row u1.users (rd ready 0)).length : Int)) = true := decide_eq_true ci
                     have q0 := eq_true hi0
                     have q1 := eq_true cd0
                     have q2 : (d < (n : Int)) = True := eq_true (by rw [← HLO3.out]; exact cd1)
                     have c1 := arr_cell O3.out d cd0 cd1
                     have f1 := arr_free O3.out d.toNat
                     have HH := Aside0.mk H
                     clear H
                     go_upto_region 45 with fail
                     have B10 := Aside0.mk (B3.out.setCell (show go ≤ (⟨go, d.toNat, none⟩ : Addr).block from Nat.le_refl go) (.int .i64 (wrap64 (rd opn3 d - 1))))
                     have O10 := Aside0.mk (show (W8.setCell ⟨go, d.toNat, none⟩ (.int .i64 (wrap64 (rd opn3 d - 1)))).heap[go]? = some (arr (opn3.set d.toNat (wrap64 (rd opn3 d - 1)))) from by unfold arr; rw [← nums_set]; exact blk_set O3.out d.toNat _)
                     have S10 := Aside0.mk (Kd.S_far (p := ⟨go, d.toNat, none⟩) S3.out (fun k hk => by have := hk.1; show k ≠ go; omega) (.int .i64 (wrap64 (rd opn3 d - 1))))
                     have F10 := Aside0.mk (Kd.F_far (p := ⟨go, d.toNat, none⟩) F3.out (fun k hk => by have := hk.1; show k ≠ go; omega) (.int .i64 (wrap64 (rd opn3 d - 1))))
                     have R10 := Aside0.mk (R3.out.kept (w1 := W8.setCell ⟨go, d.toNat, none⟩ (.int .i64 (wrap64 (rd opn3 d - 1)))) (fun k hk hlt => Below.heap_setCell _ _ _ _ (show k ≠ go by have := HGB.out; omega)))
                     have Z10 := Aside0.mk (show br + 1 ≤ (W8.setCell ⟨go, d.toNat, none⟩ (.int .i64 (wrap64 (rd opn3 d - 1)))).heap.size by simpa using Z3.out)
                     have X10 := Aside0.mk (X3.out.kept (w1 := W8.setCell ⟨go, d.toNat, none⟩ (.int .i64 (wrap64 (rd opn3 d - 1)))) (fun k hk => Below.heap_setCell _ _ _ _ (show k ≠ go from fun e => by have := (X3.out.typed k hk).1; have := HGB.out; omega)))
                     have L10 : Aside0 ((opn3.set d.toNat (wrap64 (rd opn3 d - 1))).length = n) := ⟨by rw [List.length_set]; exact HLO3.out⟩
                     clear B3 O3 S3 F3 R3 Z3 X3 c1 f1 hx4 HLO3
                     generalize W8.setCell ⟨go, d.toNat, none⟩ (.int .i64 (wrap64 (rd opn3 d - 1))) = W10 at B10 O10 S10 F10 R10 Z10 X10 ⊢
                     generalize (opn3.set d.toNat (wrap64 (rd opn3 d - 1))) = opn4 at HH O10 L10
                     clear cd1
                     have c1 := arr_cell O10.out d cd0 (by rw [L10.out]; exact of_eq_true q2)
                     by_cases cz : rd opn4 d = 0
                     · as_aux_lemma =>
                       have H := HH.out
                       clear HH
                       rw [if_pos cz] at H
                       obtain ⟨ready4, hent, H⟩ := Option.bind_eq_some_iff.1 H
                       have H3 := Aside0.mk H
                       have HE := Aside0.mk hent
                       have cz1 : (rd opn4 d == 0) = true := beq_iff_eq.2 cz
                       clear cz H hent
                       obtain ⟨vr, hv, hra⟩ := R10.out
                       have HRA := Aside0.mk hra
                       have hB4 : Below W1.heap.size W1 W10 := by rw [HGO.out]; exact B10.out
                       have ENT := Aside0.mk (enter_calls W1 W10 (gm + 1) br m d (br + 1) vr ready3 ready4 M.out hB4 (by have := HGB.out; omega) (by have := HGB.out; omega) Z10.out hv hra HE.out)
                       clear hv hra hB4
                       go_wp2_with (go_at_call 51; refine ENT.out.mono ?_; clear ENT c1; intro e w9 hen; obtain ⟨rfl, e1, e2, e3, e4, e5⟩ := hen.keeps HRA.out; rw [HGO.out] at e1; have E1 := Aside0.mk e1; have E2 := Aside0.mk e2; have E3 := Aside0.mk e3; have E4 := Aside0.mk e4; have E5 := Aside0.mk e5; clear e1 e2 e3 e4 e5 hen)
                       have O12 := Aside0.mk ((E4.out go HGB.out (blk_lt O10.out)).trans O10.out)
                       have S12 := Aside0.mk (Kd.S_step S10.out (fun k hk hlt => E4.out k hk.2 hlt))
                       have F12 := Aside0.mk (Kd.F_step F10.out (fun k hk hlt => E4.out k hk.2 hlt))
                       have X12 := Aside0.mk (X10.out.kept (fun k hk => by obtain ⟨x1, x2, cells, x3⟩ := X10.out.typed k hk; exact E5.out k 55 cells (by omega) x3 (by decide)))
                       go_roundg k7
                       case measure => omega
                       case rel => exact ⟨i + 1, _, _, rfl, ⟨by have := HI.out; omega⟩, L10, H3, ⟨by have := HK7.out; omega⟩, E1, O12, S12, F12, E3, ⟨by have := Z10.out; have := E2.out; omega⟩, X12⟩
                     · as_aux_lemma =>
                       have H := HH.out
                       clear HH
                       rw [if_neg cz] at H
                       have H3 := Aside0.mk H
                       have cz1 : (rd opn4 d == 0) = false := beq_eq_false_iff_ne.2 cz
                       clear cz H
                       go_wp2_with fail
                       go_roundg k7
                       case measure => omega
                       case rel => exact ⟨i + 1, _, _, rfl, ⟨by have := HI.out; omega⟩, L10, H3, ⟨by have := HK7.out; omega⟩, B10, O10, S10, F10, R10, Z10, X10⟩
                   · as_aux_lemma =>
                     rw [if_neg ci] at H
                     obtain ⟨rfl, rfl⟩ := Prod.mk.inj (Option.some.inj H)
                     have cb7 : decide (i < ((row u1.users (rd ready 0)).length : Int)) = false := decide_eq_false ci
                     clear H
                     go_wp2_with fail
                     go_roundg k6
                     case measure => omega
                     case rel => exact ⟨_, _, _, H', ⟨by have := HK6.out; omega⟩, HLO3, B3, O3, S3, R3, Z3, X3⟩
               · as_aux_lemma =>
                 rw [if_neg ce] at H
                 obtain rfl := Option.some.inj H
                 obtain ⟨A2, c2, rfl, _, _⟩ := HRA.out.slice
                 have c1 := cell_of_one HV.out
                 have cb : decide ((0 : Int) < (ready.length : Int)) = false := decide_eq_false (by omega)
                 go_wp2_with fail
                 go_ret
                 have e1 : w.heap.size ≤ gm := by rw [← HG.out]; exact HB1.out.size
                 have e2 : gm + 1 < go := by rw [← HGO.out]; exact blk_lt V.out
                 refine ⟨_, rfl, ?_, ?_⟩
                 · exact outK_V X3.out (by rw [HGO.out]; exact B3.out) (by have := HGB.out; omega) (g0 := w.heap.size) e1
                 · exact HB1.out.trans ((B.out.mono e1).trans (B3.out.mono (by omega)))
end Od
end Go.Proofs.Ytmadhaccjmakdaa
/- graph.ordered in the form in which printed texts call it: the answer that all great enough numbers of rounds give. -/
namespace Go.Proofs.Ytmadhaccjmakdaa
open Go.RowKit Go.Proofs.YtmadhaccjmakdaaW.PrintWords Go.Proofs.YtmadhaccjmakdaaW.PrintLast Go.Proofs.YtmadhaccjmakdaaW.PrintMore Go.Proofs.Ytmadhaccjmakdaa.P
namespace Od
noncomputable def lim {α : Type} (F : Nat → Option α) : Option α :=
 open Classical in if h : ∃ (r : α) (k0 : Nat), ∀ k, k0 ≤ k → F k = some r then some h.choose else none
set_option maxRecDepth 100000 in
theorem lim_of {α : Type} {F : Nat → Option α} {r : α} {k0 : Nat} (h : ∀ k, k0 ≤ k → F k = some r) : lim F = some r := by
 have hx : ∃ (r : α) (k0 : Nat), ∀ k, k0 ≤ k → F k = some r := ⟨r, k0, h⟩
 unfold lim
 rw [dif_pos hx]
 obtain ⟨k1, h1⟩ := hx.choose_spec
 have e1 := h1 (max k0 k1) (by omega)
 rw [h _ (by omega)] at e1
 exact e1.symm
set_option maxRecDepth 100000 in
theorem lim_some {α : Type} {F : Nat → Option α} {r : α} (h : lim F = some r) : ∃ k0, ∀ k, k0 ≤ k → F k = some r := by
 unfold lim at h
 split at h
 · rename_i hx
   obtain rfl := Option.some.inj h
   exact hx.choose_spec
 · cases h
end Od
namespace P
noncomputable def graph_ordered.f (l : List (List Int)) : Option (List (List Int)) := Od.lim fun k => Od.orderedF k l
set_option maxRecDepth 100000 in
theorem graph_ordered.calls (A0 : Option Addr) (c0 : Nat) (l0 : List (List Int)) (r : List (List Int)) (w : World) (hr0 : Kd.C (Kd.slice 3 (Kd.int .i64)) w A0 l0.length l0) (hc0 : l0.length ≤ c0) (h : graph_ordered.f l0 = some r) :
 Calls Try.prog 40 #[.slice A0 l0.length c0] w fun e w' => ∃ v0_, e = .returned v0_ ∧ Kd.V (Kd.slice 3 (Kd.int .i64)) 55 w' w.heap.size (fun k_ => w.heap.size ≤ k_) v0_ r ∧ Below w.heap.size w w' := by
 obtain ⟨k0, h0⟩ := Od.lim_some h
 exact Od.ordered_calls k0 A0 c0 l0 r w hr0 hc0 (h0 k0 (Nat.le_refl _))
end P
end Go.Proofs.Ytmadhaccjmakdaa
namespace Go.Proofs.Ytmadhaccjmakdaa.P
open Go.RowKit Go.Proofs.YtmadhaccjmakdaaW.PrintWords Go.Proofs.YtmadhaccjmakdaaW.PrintLast Go.Proofs.YtmadhaccjmakdaaW.PrintMore
attribute [local go_sem] str_gtr str_leq str_geq max2_int min2_int max_two min_two max_three min_three max_four min_four
mutual
noncomputable def graph_valid.l0 : Nat → List (List Int) → Int → Int → List (List Int) → Option (Bool)
 | 0, _, _, _, _ => none
 | k + 1, x8, x9, x10, x164000 => if x10 < x9 then (if 0 ≤ x10 then (if x10 < (x8.length : Int) then (graph_valid.l1 k x8 x9 x10 (rd_L11 x8 x10) ((rd_L11 x8 x10).length : Int) 0 x164000) else (none)) else (none)) else (some true)
noncomputable def graph_valid.l1 : Nat → List (List Int) → Int → Int → List Int → Int → Int → List (List Int) → Option (Bool)
 | 0, _, _, _, _, _, _, _ => none
 | k + 1, x8, x9, x10, x14, x15, x16, x164000 => if x16 < x15 then (if 0 ≤ x16 then (if x16 < (x14.length : Int) then (if (rd x14 x16) < 0 then (some false) else (if (rd x14 x16) ≥ (x164000.length : Int) then (some false) else (graph_valid.l1 k x8 x9 x10 x14 x15 (wrap64 (x16 + 1)) x164000))) else (none)) else (none)) else (graph_valid.l0 k x8 x9 (wrap64 (x10 + 1)) x164000)
end
noncomputable def graph_valid.f (k : Nat) (l0_0 : List (List Int)) : Option (Bool) := graph_valid.l0 k l0_0 (l0_0.length : Int) 0 l0_0
set_option maxHeartbeats 8000000 in
set_option maxRecDepth 100000 in
theorem graph_valid.calls (k : Nat) (A0_0 : Option Addr) (c0_0 : Nat) (l0_0 : List (List Int)) (r : Bool) (w : World) (hr0_0 : Kd.C (Kd.slice 3 (Kd.int .i64)) w A0_0 l0_0.length l0_0) (hc0_0 : l0_0.length ≤ c0_0) (h : graph_valid.f k l0_0 = some r) :
 Calls Try.prog 39 #[.agg #[.slice A0_0 l0_0.length c0_0]] w fun e w' => e = .returned (.bool r) ∧ Below w.heap.size w w' := by
 have hu49 := Try.underlying49
 have HR0_0 := aM hr0_0
 have HC0_0 := aM hc0_0
 clear hr0_0 hc0_0
 have HB := aM (Below.refl w.heap.size w)
 have H : (graph_valid.l0 k l0_0 (l0_0.length : Int) 0 l0_0) = some r := h
 clear h
 have H' := aM H
 clear H
 go_enter Try.func39, Try.ntmps39
 go_wp2_with (first | ((with_reducible refine gate_dst (N := 1) rfl ?_); (try (refine gate_guard (by rfl) ?_; dsimp only)); refine box_event ?hg (N := 1) ?hd (cs := #[.slice A0_0 l0_0.length c0_0]) (t := 49) ?hr ?_; (case hd => rfl); (case hg => rfl); (case hr => first | (go_simp; done) | (go_simp; rfl)); intro gb163 hg w2 hbox hb; have BK163 := aM hbox; have GW163 := gs hg HB; have GE163 := gs hg HB; replace HB := bs HB hb; clear hb hbox hg; have hcz3_0 : w2.cell? ⟨gb163, 0, none⟩ = some (.slice A0_0 l0_0.length c0_0) := (blk_cell BK163.out 0).trans rfl; have hfz3_0 := blk_frozen BK163.out 0))
 go_loopg [10] k (fun kq v10 w' => ∃ (x10_1 : Int), v10 = .int .i64 x10_1 ∧ Aside0 (graph_valid.l0 kq l0_0 (l0_0.length : Int) x10_1 l0_0 = some r) ∧ Aside0 (kq ≤ k) ∧ Aside0 (w'.heap[gb163]? = some (.cells #[(.slice A0_0 l0_0.length c0_0)] 49 (0, 0))) ∧ Aside0 (Below w.heap.size w w'))
 case atStart => exact ⟨(0), (by first | rfl | (simp; done) | (simp [*]; done)), H', ⟨Nat.le_refl _⟩, ⟨kk BK163⟩, ⟨hh HB⟩⟩
 case round =>
  clear H'
  try clear p2
  try clear c3
  try clear hcz3_0
  try clear hfz3_0
  obtain ⟨x10_1, rfl, HA, HK1, BK163, HB⟩ := hrel
  cases gk with
  | zero => exact absurd HA.out (by simp [graph_valid.l0])
  | succ k1 =>
   have H := HA.out
   clear HA
   simp only [graph_valid.l0] at H
   by_cases c4 : x10_1 < (l0_0.length : Int)
   · rw [if_pos c4] at H
     have c4b0 : decide (x10_1 < (l0_0.length : Int)) = true := decide_eq_true c4
     clear c4
     by_cases c5 : 0 ≤ x10_1
     · rw [if_pos c5] at H
       have c5b0 : decide (0 ≤ x10_1) = true := decide_eq_true c5
       clear c5
       by_cases c6 : x10_1 < (l0_0.length : Int)
       · rw [if_pos c6] at H
         have c6b0 : decide (x10_1 < (l0_0.length : Int)) = true := decide_eq_true c6
         clear c6
         have H' := aM H
         clear H
         have p164 : 0 ≤ (x10_1 : Int) := dt
         have q164 : x10_1 < (l0_0.length : Int) := dt
         obtain ⟨ad164, A164_0, c164_0, e164, hx164_0, hl164_0, hi164_0⟩ := at_L11 HR0_0.out x10_1 p164 q164
         cases e164
         replace hx164_0 := (HB.out.cell (World.block_lt_of_cell? w _ hx164_0)).trans hx164_0
         have HR164_0 := aM hi164_0
         have HC164_0 := aM hl164_0
         clear hi164_0 hl164_0
         replace p164 := eq_true p164
         replace q164 := eq_true q164
         go_wp2
         go_loopg [16] k1 (fun kq v16 w' => ∃ (x16_2 : Int), v16 = .int .i64 x16_2 ∧ Aside0 (graph_valid.l1 kq l0_0 (l0_0.length : Int) x10_1 (rd_L11 l0_0 x10_1) ((rd_L11 l0_0 x10_1).length : Int) x16_2 l0_0 = some r) ∧ Aside0 (kq ≤ k1) ∧ Aside0 (w'.heap[gb163]? = some (.cells #[(.slice (some ad164) l0_0.length c0_0)] 49 (0, 0))) ∧ Aside0 (Below w.heap.size w w'))
         case atStart => exact ⟨(0), (by first | rfl | (simp; done) | (simp [*]; done)), H', ⟨Nat.le_refl _⟩, ⟨kk BK163⟩, ⟨hh HB⟩⟩
         case round =>
          clear H'
          try clear c1
          try clear p1
          try clear q1
          try clear hx1
          try clear p2
          try clear c3
          try clear c4
          try clear c4b0
          try clear c5
          try clear c5b0
          try clear c6
          try clear c6b0
          try clear hcz3_0
          try clear hfz3_0
          try clear hx164_0
          try clear p164
          try clear p2
          try clear q164
          obtain ⟨x16_2, rfl, HA, HK2, BK163, HB⟩ := hrel
          cases gk with
          | zero => exact absurd HA.out (by simp [graph_valid.l1])
          | succ k2 =>
           have H := HA.out
           clear HA
           simp only [graph_valid.l1] at H
           by_cases c7 : x16_2 < ((rd_L11 l0_0 x10_1).length : Int)
           · rw [if_pos c7] at H
             have c7b0 : decide (x16_2 < ((rd_L11 l0_0 x10_1).length : Int)) = true := decide_eq_true c7
             clear c7
             by_cases c8 : 0 ≤ x16_2
             · rw [if_pos c8] at H
               have c8b0 : decide (0 ≤ x16_2) = true := decide_eq_true c8
               clear c8
               by_cases c9 : x16_2 < ((rd_L11 l0_0 x10_1).length : Int)
               · rw [if_pos c9] at H
                 have c9b0 : decide (x16_2 < ((rd_L11 l0_0 x10_1).length : Int)) = true := decide_eq_true c9
                 clear c9
                 by_cases c10 : (rd (rd_L11 l0_0 x10_1) x16_2) < 0
                 · rw [if_pos c10] at H
                   have c10b0 : decide ((rd (rd_L11 l0_0 x10_1) x16_2) < 0) = true := decide_eq_true c10
                   clear c10
                   obtain rfl := Option.some.inj H
                   have p165 : 0 ≤ (x16_2 : Int) := dt
                   have q165 : x16_2 < ((rd_L11 l0_0 x10_1).length : Int) := dt
                   obtain ⟨ad165, e165, hx165_0⟩ := Kd.at_int HR164_0.out x16_2 p165 q165
                   cases e165
                   replace hx165_0 := (HB.out.cell (World.block_lt_of_cell? w _ hx165_0)).trans hx165_0
                   replace p165 := eq_true p165
                   replace q165 := eq_true q165
                   go_wp2
                   go_ret
                   exact ⟨by first | rfl | (simp [errW_none, errW_some] <;> rfl) | (simp [*, errW_none, errW_some] <;> rfl), hh HB⟩
                 · rw [if_neg c10] at H
                   have c10b0 : decide ((rd (rd_L11 l0_0 x10_1) x16_2) < 0) = false := decide_eq_false c10
                   clear c10
                   by_cases c11 : (rd (rd_L11 l0_0 x10_1) x16_2) ≥ (l0_0.length : Int)
                   · rw [if_pos c11] at H
                     have c11b0 : decide ((l0_0.length : Int) ≤ (rd (rd_L11 l0_0 x10_1) x16_2)) = true := decide_eq_true c11
                     clear c11
                     obtain rfl := Option.some.inj H
                     have p165 : 0 ≤ (x16_2 : Int) := dt
                     have q165 : x16_2 < ((rd_L11 l0_0 x10_1).length : Int) := dt
                     obtain ⟨ad165, e165, hx165_0⟩ := Kd.at_int HR164_0.out x16_2 p165 q165
                     cases e165
                     replace hx165_0 := (HB.out.cell (World.block_lt_of_cell? w _ hx165_0)).trans hx165_0
                     replace p165 := eq_true p165
                     replace q165 := eq_true q165
                     have hcz12_0 : wr.cell? ⟨gb163, 0, none⟩ = some (.slice (some ad164) l0_0.length c0_0) := (blk_cell BK163.out 0).trans rfl
                     have hfz12_0 := blk_frozen BK163.out 0
                     go_wp2
                     go_ret
                     exact ⟨by first | rfl | (simp [errW_none, errW_some] <;> rfl) | (simp [*, errW_none, errW_some] <;> rfl), hh HB⟩
                   · rw [if_neg c11] at H
                     have c11b0 : decide ((l0_0.length : Int) ≤ (rd (rd_L11 l0_0 x10_1) x16_2)) = false := decide_eq_false c11
                     clear c11
                     have H' := aM H
                     clear H
                     have p165 : 0 ≤ (x16_2 : Int) := dt
                     have q165 : x16_2 < ((rd_L11 l0_0 x10_1).length : Int) := dt
                     obtain ⟨ad165, e165, hx165_0⟩ := Kd.at_int HR164_0.out x16_2 p165 q165
                     cases e165
                     replace hx165_0 := (HB.out.cell (World.block_lt_of_cell? w _ hx165_0)).trans hx165_0
                     replace p165 := eq_true p165
                     replace q165 := eq_true q165
                     have hcz13_0 : wr.cell? ⟨gb163, 0, none⟩ = some (.slice (some ad164) l0_0.length c0_0) := (blk_cell BK163.out 0).trans rfl
                     have hfz13_0 := blk_frozen BK163.out 0
                     go_wp2
                     go_roundg k2
                     case measure => have := HK1.out; have := HK2.out; omega
                     case rel => exact ⟨(wrap64 (x16_2 + 1)), (by first | rfl | (simp; done) | (simp [*]; done)), H', ⟨by have := HK1.out; have := HK2.out; omega⟩, ⟨kk BK163⟩, ⟨hh HB⟩⟩
               · rw [if_neg c9] at H
                 exact absurd H (by simp)
             · rw [if_neg c8] at H
               exact absurd H (by simp)
           · rw [if_neg c7] at H
             have c7b0 : decide (x16_2 < ((rd_L11 l0_0 x10_1).length : Int)) = false := decide_eq_false c7
             clear c7
             have H' := aM H
             clear H
             go_wp2
             go_roundg k2
             case measure => have := HK1.out; have := HK2.out; omega
             case rel => exact ⟨(wrap64 (x10_1 + 1)), (by first | rfl | (simp; done) | (simp [*]; done)), H', ⟨by have := HK1.out; have := HK2.out; omega⟩, ⟨kk BK163⟩, ⟨hh HB⟩⟩
       · rw [if_neg c6] at H
         exact absurd H (by simp)
     · rw [if_neg c5] at H
       exact absurd H (by simp)
   · rw [if_neg c4] at H
     have c4b0 : decide (x10_1 < (l0_0.length : Int)) = false := decide_eq_false c4
     clear c4
     obtain rfl := Option.some.inj H
     go_wp2
     go_ret
     exact ⟨by first | rfl | (simp [errW_none, errW_some] <;> rfl) | (simp [*, errW_none, errW_some] <;> rfl), hh HB⟩
end Go.Proofs.Ytmadhaccjmakdaa.P
/- graph.Levels as a Lean function on lists. -/
namespace Go.Proofs.Ytmadhaccjmakdaa
open Go.RowKit Go.Proofs.YtmadhaccjmakdaaW.PrintWords Go.Proofs.YtmadhaccjmakdaaW.PrintLast Go.Proofs.YtmadhaccjmakdaaW.PrintMore Go.Proofs.Ytmadhaccjmakdaa.P
namespace Lv
open Tj Rw Od
def lv1 : Nat → Int → List Int → Int → List Int → Option (List Int)
 | 0, _, _, _, _ => none
 | k + 1, v, l, i, lv =>
  if i < l.length then
   if 0 ≤ rd l i ∧ rd l i < lv.length then lv1 k v l (i + 1) (lv.set v.toNat (max (rd lv v) (wrap64 (rd lv (rd l i) + 1)))) else none
  else some lv
def lv0 : Nat → List (List Int) → List (List Int) → Int → List Int → Int → Option (Option (List Int × Int))
 | 0, _, _, _, _, _ => none
 | k + 1, es, comps, i, lv, top =>
  if i < comps.length then
   if 0 < (row comps i).length ∧ 0 ≤ rd (row comps i) 0 ∧ rd (row comps i) 0 < es.length then
    if 1 < (row comps i).length ∨ (row es (rd (row comps i) 0)).contains (rd (row comps i) 0) = true then some none
    else (lv1 k (rd (row comps i) 0) (row es (rd (row comps i) 0)) 0 lv).bind fun lv2 => lv0 k es comps (i + 1) lv2 (max top (rd lv2 (rd (row comps i) 0)))
   else none
  else some (some (lv, top))
def lv3 : Nat → List Int → Int → List (List Int) → Option (List (List Int))
 | 0, _, _, _ => none
 | k + 1, lv, i, out =>
  if i < lv.length then
   if 0 ≤ rd lv i ∧ rd lv i < out.length ∧ (row out (rd lv i)).length < 17592186044415 then lv3 k lv (i + 1) (app out (rd lv i) i) else none
  else some out
noncomputable def levelsF (k : Nat) (es : List (List Int)) : Option (List (List Int) × Int) :=
 (graph_valid.f k es).bind fun b =>
  if b = true then
   (graph_ordered.f es).bind fun comps =>
    if es.length < 17592186044416 then
     (lv0 k es comps 0 (List.replicate es.length 0) (-1)).bind fun o =>
      match o with
      | none => some ([], 18)
      | some (lv, top) => if 0 ≤ wrap64 (top + 1) ∧ wrap64 (top + 1) < 5864062014805 then (lv3 k lv 0 (List.replicate (wrap64 (top + 1)).toNat [])).map fun out => (out, 0) else none
    else none
  else some ([], 1)
end Lv
end Go.Proofs.Ytmadhaccjmakdaa
namespace Go.Proofs.Ytmadhaccjmakdaa.P
open Go.RowKit Go.Proofs.YtmadhaccjmakdaaW.PrintWords Go.Proofs.YtmadhaccjmakdaaW.PrintLast Go.Proofs.YtmadhaccjmakdaaW.PrintMore
attribute [local go_sem] str_gtr str_leq str_geq max2_int min2_int max_two min_two max_three min_three max_four min_four
noncomputable def slices_Index_int_int.l0 : Nat → List Int → Int → Int → Int → Option (Int)
 | 0, _, _, _, _ => none
 | k + 1, x0, x1, x7, x8 => if x8 < x7 then (if 0 ≤ x8 then (if x8 < (x0.length : Int) then (if x1 = (rd x0 x8) then (some x8) else (slices_Index_int_int.l0 k x0 x1 x7 (wrap64 (x8 + 1)))) else (none)) else (none)) else (some (-1))
noncomputable def slices_Index_int_int.f (k : Nat) (l0 : List Int) (a1 : Int) : Option (Int) := slices_Index_int_int.l0 k l0 a1 (l0.length : Int) 0
set_option maxHeartbeats 8000000 in
set_option maxRecDepth 100000 in
theorem slices_Index_int_int.calls (k : Nat) (A0 : Option Addr) (c0 : Nat) (l0 : List Int) (a1 : Int) (r : Int) (w : World) (hr0 : Kd.C (Kd.int .i64) w A0 l0.length l0) (hc0 : l0.length ≤ c0) (h : slices_Index_int_int.f k l0 a1 = some r) :
 Calls Try.prog 55 #[.slice A0 l0.length c0, .int .i64 a1] w fun e w' => e = .returned (.int .i64 r) ∧ Drawn0 w w' := by
 have HR0 := aM hr0
 have HC0 := aM hc0
 clear hr0 hc0
 have H : (slices_Index_int_int.l0 k l0 a1 (l0.length : Int) 0) = some r := h
 clear h
 have H' := aM H
 clear H
 go_enter Try.func55, Try.ntmps55
 go_wp2
 go_loopg [8] k (fun kq v8 w' => ∃ (x8_1 : Int), v8 = .int .i64 x8_1 ∧ Aside0 (slices_Index_int_int.l0 kq l0 a1 (l0.length : Int) x8_1 = some r) ∧ Aside0 (kq ≤ k) ∧ Drawn0 w w')
 case atStart => exact ⟨(0), (by first | rfl | (simp; done) | (simp [*]; done)), H', ⟨Nat.le_refl _⟩, by repeat (first | exact Drawn0.refl _ | apply Drawn0.step)⟩
 case round =>
  clear H'
  try clear p2
  obtain ⟨x8_1, rfl, HA, HK1, ⟨m1, rfl⟩⟩ := hrel
  cases gk with
  | zero => exact absurd HA.out (by simp [slices_Index_int_int.l0])
  | succ k1 =>
   have H := HA.out
   clear HA
   simp only [slices_Index_int_int.l0] at H
   by_cases c3 : x8_1 < (l0.length : Int)
   · rw [if_pos c3] at H
     have c3b0 : decide (x8_1 < (l0.length : Int)) = true := decide_eq_true c3
     clear c3
     by_cases c4 : 0 ≤ x8_1
     · rw [if_pos c4] at H
       have c4b0 : decide (0 ≤ x8_1) = true := decide_eq_true c4
       clear c4
       by_cases c5 : x8_1 < (l0.length : Int)
       · rw [if_pos c5] at H
         have c5b0 : decide (x8_1 < (l0.length : Int)) = true := decide_eq_true c5
         clear c5
         by_cases c6 : a1 = (rd l0 x8_1)
         · rw [if_pos c6] at H
           have c6b0 : (a1 == (rd l0 x8_1)) = true := beq_iff_eq.mpr c6
           have c6b1 : (a1 != (rd l0 x8_1)) = false := bne_eq_false_iff_eq.mpr c6
           clear c6
           obtain rfl := Option.some.inj H
           have p200 : 0 ≤ (x8_1 : Int) := dt
           have q200 : x8_1 < (l0.length : Int) := dt
           obtain ⟨ad200, e200, hx200_0⟩ := Kd.at_int HR0.out x8_1 p200 q200
           cases e200
           replace p200 := eq_true p200
           replace q200 := eq_true q200
           go_wp2
           go_ret
           exact ⟨by first | rfl | (simp; done) | (simp [*]; done), by repeat (first | exact Drawn0.refl _ | apply Drawn0.step)⟩
         · rw [if_neg c6] at H
           have c6b0 : (a1 == (rd l0 x8_1)) = false := beq_eq_false_iff_ne.mpr c6
           have c6b1 : (a1 != (rd l0 x8_1)) = true := bne_iff_ne.mpr c6
           have H' := aM H
           clear H
           have p200 : 0 ≤ (x8_1 : Int) := dt
           have q200 : x8_1 < (l0.length : Int) := dt
           obtain ⟨ad200, e200, hx200_0⟩ := Kd.at_int HR0.out x8_1 p200 q200
           cases e200
           replace p200 := eq_true p200
           replace q200 := eq_true q200
           go_wp2
           go_roundg k1
           case measure => have := HK1.out; omega
           case rel => exact ⟨(wrap64 (x8_1 + 1)), (by first | rfl | (simp; done) | (simp [*]; done)), H', ⟨by have := HK1.out; omega⟩, by repeat (first | exact Drawn0.refl _ | apply Drawn0.step)⟩
       · rw [if_neg c5] at H
         exact absurd H (by simp)
     · rw [if_neg c4] at H
       exact absurd H (by simp)
   · rw [if_neg c3] at H
     have c3b0 : decide (x8_1 < (l0.length : Int)) = false := decide_eq_false c3
     clear c3
     obtain rfl := Option.some.inj H
     go_wp2
     go_ret
     exact ⟨by first | rfl | (simp; done) | (simp [*]; done), by repeat (first | exact Drawn0.refl _ | apply Drawn0.step)⟩
noncomputable def slices_Contains_int_int.f (k : Nat) (l0 : List Int) (a1 : Int) : Option (Bool) := (slices_Index_int_int.f k l0 a1).bind fun t201 => (some (decide (t201 ≥ 0)))
set_option maxHeartbeats 8000000 in
set_option maxRecDepth 100000 in
theorem slices_Contains_int_int.calls (k : Nat) (A0 : Option Addr) (c0 : Nat) (l0 : List Int) (a1 : Int) (r : Bool) (w : World) (hr0 : Kd.C (Kd.int .i64) w A0 l0.length l0) (hc0 : l0.length ≤ c0) (h : slices_Contains_int_int.f k l0 a1 = some r) :
 Calls Try.prog 41 #[.slice A0 l0.length c0, .int .i64 a1] w fun e w' => e = .returned (.bool r) ∧ Drawn0 w w' := by
 have HR0 := aM hr0
 have HC0 := aM hc0
 clear hr0 hc0
 have H : ((slices_Index_int_int.f k l0 a1).bind fun t201 => (some (decide (t201 ≥ 0)))) = some r := h
 clear h
 replace H := Option.bind_eq_some_iff.mp H
 obtain ⟨t201, A30, H⟩ := H
 replace H : (some (decide (t201 ≥ 0))) = some r := H
 have A3 := aM A30
 clear A30
 obtain rfl := Option.some.inj H
 go_enter Try.func41, Try.ntmps41
 go_wp2_with (first | ((with_reducible refine gate_callee (f := 55) rfl ?_); refine gL (some 7) rfl rfl Try.func55 (by kernel_rfl) rfl #[.slice A0 l0.length c0, .int .i64 a1] rfl ?_; (with_reducible refine (slices_Index_int_int.calls k _ _ l0 a1 t201 _ ?side1 ?side2 A3.out).mono ?_); (case side1 => exact ck HR0); (case side2 => exact HC0.out); rintro e w' ⟨rfl, ⟨nd, rfl⟩⟩; refine ⟨_, rfl, ?_⟩))
 go_ret
 exact ⟨by first | rfl | (simp; done) | (simp [*]; done), by repeat (first | exact Drawn0.refl _ | apply Drawn0.step)⟩
end Go.Proofs.Ytmadhaccjmakdaa.P
/- slices.Contains as printed says whether the list has the number. -/
namespace Go.Proofs.Ytmadhaccjmakdaa
open Go.RowKit Go.Proofs.YtmadhaccjmakdaaW.PrintWords Go.Proofs.YtmadhaccjmakdaaW.PrintLast Go.Proofs.YtmadhaccjmakdaaW.PrintMore Go.Proofs.Ytmadhaccjmakdaa.P
namespace Lv
open Tj Rw Od
set_option maxRecDepth 100000 in
theorem wrap_small (x : Int) (h0 : -9223372036854775808 ≤ x) (h1 : x < 9223372036854775808) : wrap64 x = x := by
 unfold wrap64
 omega
set_option maxRecDepth 100000 in
theorem index_run (l : List Int) (a : Int) (hl : l.length ≤ 9223372036854775807) : ∀ (m : Nat) (i : Nat), i + m = l.length → (l.take i).contains a = false → ∃ r : Int, slices_Index_int_int.l0 (m + 1) l a l.length i = some r ∧ (decide (r ≥ 0)) = l.contains a := by
 intro m
 induction m with
 | zero =>
  intro i hi hc
  have : i = l.length := by omega
  subst this
  rw [List.take_length] at hc
  refine ⟨-1, ?_, by rw [hc]; decide⟩
  unfold slices_Index_int_int.l0
  rw [if_neg (by omega)]
 | succ m ih =>
  intro i hi hc
  unfold slices_Index_int_int.l0
  rw [if_pos (by omega), if_pos (by omega), if_pos (by omega)]
  have hil : i < l.length := by omega
  have hrd : rd l (i : Int) = l[i] := by
   show l.getD (i : Int).toNat 0 = l[i]
   rw [Int.toNat_natCast, List.getD_eq_getElem?_getD, List.getElem?_eq_getElem hil]
   rfl
  rw [hrd]
  by_cases he : a = l[i]
  · rw [if_pos he]
    refine ⟨i, rfl, ?_⟩
    have h1 : l.contains a = true := by
     rw [List.contains_iff_mem, he]
     exact List.getElem_mem hil
    rw [h1]
    exact decide_eq_true (by omega)
  · rw [if_neg he]
    have hw : wrap64 ((i : Int) + 1) = ((i + 1 : Nat) : Int) := by
     rw [wrap_small _ (by omega) (by omega)]
     omega
    rw [hw]
    refine ih (i + 1) (by omega) ?_
    rw [List.take_succ_eq_append_getElem hil, List.contains_append, hc]
    simp [he]
set_option maxRecDepth 100000 in
theorem contains_run (l : List Int) (a : Int) (hl : l.length ≤ 9223372036854775807) : slices_Contains_int_int.f (l.length + 1) l a = some (l.contains a) := by
 obtain ⟨r, h1, h2⟩ := index_run l a hl l.length 0 (by omega) rfl
 unfold slices_Contains_int_int.f slices_Index_int_int.f
 rw [show ((0 : Int)) = ((0 : Nat) : Int) from rfl, h1]
 show some (decide (r ≥ 0)) = _
 rw [h2]
end Lv
end Go.Proofs.Ytmadhaccjmakdaa
/- graph.Levels: what the call does, by its Lean function. -/
namespace Go.Proofs.Ytmadhaccjmakdaa
open Go.RowKit Go.Proofs.YtmadhaccjmakdaaW.PrintWords Go.Proofs.YtmadhaccjmakdaaW.PrintLast Go.Proofs.YtmadhaccjmakdaaW.PrintMore Go.Proofs.Ytmadhaccjmakdaa.P
namespace Lv
open Tj Rw Od
set_option maxRecDepth 100000 in
set_option maxHeartbeats 4000000 in
theorem levels_calls (k : Nat) (A : Option Addr) (c : Nat) (es : List (List Int)) (r1 : List (List Int)) (r2 : Int) (w : World) (hr : Kd.C KS w A es.length es) (hc : es.length ≤ c) (h : levelsF k es = some (r1, r2)) :
 Calls Try.prog 30 #[.agg #[.slice A es.length c]] w fun e w' => ∃ v, e = .returned (.tuple #[v, .int .i64 r2]) ∧ Kd.S KS 55 w' w.heap.size (fun _ => True) v r1 ∧ Below w.heap.size w w' := by
 have hu24 := Try.underlying49
 unfold levelsF at h
 obtain ⟨b, hb, h⟩ := Option.bind_eq_some_iff.1 h
 have HR := Aside0.mk hr
 have HC := Aside0.mk hc
 clear hr hc
 cases b with
 | false =>
  have HVA := Aside0.mk hb
  rw [if_neg (by decide)] at h
  obtain ⟨rfl, rfl⟩ := Prod.mk.inj (Option.some.inj h)
  clear hb h
  go_enter Try.func30, Try.ntmps30
  go_wp2_with (first | ((with_reducible refine gate_dst (N := 1) rfl ?_); refine box_event ?hg (N := 1) ?hd (cs := #[.slice A es.length c]) (t := 49) ?hr ?_; (case hd => rfl); (case hg => rfl); (case hr => first | (go_simp; done) | (go_simp; rfl)); intro gb hg w5 hbox hb; have B5 := Aside0.mk (below_step (Below.refl w.heap.size w) hb); have K5 := Aside0.mk hbox; have GE : Aside0 (w.heap.size ≤ gb) := Aside0.mk (by rw [hg]; exact Nat.le_refl _); have hcz : w5.cell? ⟨gb, 0, none⟩ = some (.slice A es.length c) := (blk_cell K5.out 0).trans rfl; clear hb hbox hg) | (go_at_call 39; refine (graph_valid.calls k A c es false _ (Kd.C_below HR.out B5.out) HC.out HVA.out).mono ?_; rintro e w7 ⟨rfl, hb7⟩; have B7 := Aside0.mk (below_step B5.out hb7); have K7 := Aside0.mk (blk_below K5.out hb7); clear hb7 hcz B5 K5; have hcz : w7.cell? ⟨gb, 0, none⟩ = some (.slice A es.length c) := (blk_cell K7.out 0).trans rfl) | fail)
  go_ret2
  exact ⟨_, rfl, Kd.S_nil _ _ _ _ _, B7.out⟩
 | true =>
  have HVA := Aside0.mk hb
  rw [if_pos rfl] at h
  obtain ⟨comps, ho, h⟩ := Option.bind_eq_some_iff.1 h
  have HO := Aside0.mk ho
  by_cases hL : es.length < 17592186044416
  case neg => rw [if_neg hL] at h; cases h
  rw [if_pos hL] at h
  obtain ⟨o, hlv, h⟩ := Option.bind_eq_some_iff.1 h
  have HLV := Aside0.mk hlv
  have HH := Aside0.mk h
  have HLL := Aside0.mk hL
  clear hb ho h hlv hL
  go_enter Try.func30, Try.ntmps30
  go_upto_region 4 with (first | ((with_reducible refine gate_dst (N := 1) rfl ?_); refine box_event ?hg (N := 1) ?hd (cs := #[.slice A es.length c]) (t := 49) ?hr ?_; (case hd => rfl); (case hg => rfl); (case hr => first | (go_simp; done) | (go_simp; rfl)); intro gb hg w5 hbox hb; have B5 := Aside0.mk (below_step (Below.refl w.heap.size w) hb); have K5 := Aside0.mk hbox; have GE : Aside0 (w.heap.size ≤ gb) := Aside0.mk (by rw [hg]; exact Nat.le_refl _); have hcz : w5.cell? ⟨gb, 0, none⟩ = some (.slice A es.length c) := (blk_cell K5.out 0).trans rfl; clear hb hbox hg) | (go_at_call 39; refine (graph_valid.calls k A c es true _ (Kd.C_below HR.out B5.out) HC.out HVA.out).mono ?_; rintro e w7 ⟨rfl, hb7⟩; have B7 := Aside0.mk (below_step B5.out hb7); have K7 := Aside0.mk (blk_below K5.out hb7); clear hb7 hcz B5 K5; have hcz : w7.cell? ⟨gb, 0, none⟩ = some (.slice A es.length c) := (blk_cell K7.out 0).trans rfl) | (go_at_call 40; refine (graph_ordered.calls A c es comps _ (Kd.C_below HR.out B7.out) HC.out HO.out).mono ?_; rintro e w9 ⟨vc, rfl, hV, hb9⟩; obtain ⟨Ac, cc, rfl, hlc, hF⟩ := hV; have V9 := Aside0.mk (Kd.F_bound hF); have B9 := Aside0.mk (below_step B7.out hb9); have K9 := Aside0.mk (blk_below K7.out hb9); have S7 := Aside0.mk (B7.out.size); have LC := Aside0.mk (Kd.F_max hF); clear hF hb9 hcz B7 K7 hlc; have hcz : w9.cell? ⟨gb, 0, none⟩ = some (.slice A es.length c) := (blk_cell K9.out 0).trans rfl) | fail)
  obtain ⟨i0, e0, e1, e2, e3⟩ := info_parts info3
  have hll := HLL.out
  have hmk := run_make w9 55 3 i0 _ Try.underlying55 e0 e1 .i64 .i64 es.length es.length (by omega) (by omega) (by rw [e3]; omega) (by omega)
  rw [Int.toNat_natCast, e2, Nat.mul_one] at hmk
  have hz0 : (Value.int .i64 0).cells = #[.int .i64 0] := rfl
  rw [hz0] at hmk
  clear e0 e1 e2 e3 hz0
  go_upto_region 6 with fail
  have hb0 := B9.out.size
  have O3 := Aside0.mk (arr_made (blk_new w9 (.cells (madeCells #[.int .i64 0] es.length) 3)))
  have B3 := Aside0.mk (below_alloc B9.out (.cells (madeCells #[.int .i64 0] es.length) 3))
  have K3 := Aside0.mk (blk_alloc K9.out (.cells (madeCells #[.int .i64 0] es.length) 3))
  have F3 := Aside0.mk (Kd.F_alloc V9.out (.cells (madeCells #[.int .i64 0] es.length) 3))
  have HGA : Aside0 (w.heap.size ≤ w9.heap.size ∧ gb < w9.heap.size) := ⟨hb0, blk_lt K9.out⟩
  clear hmk B9 K9 V9 hb0 hcz
  generalize w9.alloc (.cells (madeCells #[.int .i64 0] es.length) 3) = w10 at O3 B3 K3 F3 ⊢
  generalize w9.heap.size = ga at O3 B3 K3 F3 HGA ⊢
  have hlc := LC.out
  have hll2 : Aside0 ((List.replicate es.length (0 : Int)).length = es.length) := ⟨by simp⟩
  go_wp2_with fail
  go_loopg [6, 27] k (fun kq v6 v27 w' => ∃ (i top : Int) (lv : List Int), v27 = .int .i64 i ∧ v6 = .int .i64 top ∧ Aside0 (0 ≤ i) ∧ Aside0 (lv.length = es.length) ∧ Aside0 (lv0 kq es comps i lv top = some o) ∧ Aside0 (kq ≤ k) ∧ Aside0 (Below w.heap.size w w') ∧ Aside0 (w'.heap[gb]? = some (.cells #[.slice A es.length c] 49 (0, 0))) ∧ Aside0 (w'.heap[ga]? = some (arr lv)) ∧ Aside0 (Kd.F KS w' (fun k => w7.heap.size ≤ k ∧ k < ga) Ac comps.length comps))
  case atStart => exact ⟨0, -1, _, rfl, rfl, ⟨by omega⟩, hll2, HLV, ⟨Nat.le_refl _⟩, B3, K3, O3, F3⟩
  case round => as_aux_lemma =>
   clear HLV B3 K3 O3 F3 hll2
   obtain ⟨i, top, lv, rfl, rfl, HI, HLEN, HA, HK1, B3, K3, O3, F3⟩ := hrel
   cases gk with
   | zero => exact absurd HA.out (by simp [lv0])
   | succ k1 =>
    have H := HA.out
    clear HA
    rw [lv0] at H
    by_cases ci : i < comps.length
    · as_aux_lemma =>
      rw [if_pos ci] at H
      by_cases cx : 0 < (row comps i).length ∧ 0 ≤ rd (row comps i) 0 ∧ rd (row comps i) 0 < es.length
      case neg => rw [if_neg cx] at H; cases H
      rw [if_pos cx] at H
      obtain ⟨cx0, cx1, cx2⟩ := cx
      have hi0 := HI.out
      obtain ⟨adc, Ar, cr, er, hx, hxl, hxi⟩ := at_L11 (Kd.F_now F3.out) i hi0 ci
      subst er
      have el : rd_L11 comps i = row comps i := rfl
      rw [el] at hx hxl hxi
      have HXI := Aside0.mk hxi
      have HXL := Aside0.mk hxl
      obtain ⟨ad0, e0, hy⟩ := Kd.at_int hxi 0 (by omega) (by omega)
      subst e0
      rw [show ((0 : Int)).toNat = 0 from rfl, Addr.add_zero'] at hy
      clear hxi hxl el
      have cb : decide (i < (comps.length : Int)) = true := decide_eq_true ci
      have q0 := eq_true hi0
      have cz : (0 < (row comps i).length) = True := eq_true cx0
      have H' := Aside0.mk H
      clear H
      go_upto_region 10 with fail
      clear hy hx cz cb q0
      generalize rd (row comps i) 0 = v at H' cx1 cx2 ⊢
      have hcz := (blk_cell K3.out 0)
      have hcy : wr.cell? ⟨gb, 0, none⟩ = some (.slice A es.length c) := hcz.trans rfl
      clear hcz
      by_cases c1 : 1 < (row comps i).length
      · as_aux_lemma =>
        have H := H'.out
        clear H'
        rw [if_pos (Or.inl c1)] at H
        obtain rfl := Option.some.inj H
        obtain ⟨rfl, rfl⟩ := Prod.mk.inj (Option.some.inj HH.out)
        have cb1 : decide ((1 : Int) < ((row comps i).length : Int)) = true := decide_eq_true (by omega)
        clear H HH
        go_wp2_with fail
        go_ret2
        exact ⟨_, rfl, Kd.S_nil _ _ _ _ _, B3.out⟩
      · as_aux_lemma =>
        have cb1 : decide ((1 : Int) < ((row comps i).length : Int)) = false := decide_eq_false (by omega)
        obtain ⟨adE, Ae, ce, er, hx, hxl, hxi⟩ := at_L11 HR.out v cx1 cx2
        subst er
        have el : rd_L11 es v = row es v := rfl
        rw [el] at hx hxl hxi
        have hx1 := (B3.out.cell (World.block_lt_of_cell? _ _ hx)).trans hx
        have HXE := Aside0.mk hx
        have EXI := Aside0.mk hxi
        have EXL := Aside0.mk hxl
        clear hx hxi hxl el
        have q1 := eq_true cx1
        have q2 := eq_true cx2
        have CON := Aside0.mk (fun (wq : World) (hq : Below w.heap.size w wq) => slices_Contains_int_int.calls ((row es v).length + 1) Ae ce (row es v) v _ wq (Kd.C_below EXI.out hq) EXL.out (contains_run _ _ (EXI.out.2.1)))
        by_cases cc1 : (row es v).contains v = true
        · as_aux_lemma =>
          have H := H'.out
          clear H'
          rw [if_pos (Or.inr cc1)] at H
          obtain rfl := Option.some.inj H
          obtain ⟨rfl, rfl⟩ := Prod.mk.inj (Option.some.inj HH.out)
          clear H HH
          rw [cc1] at CON
          go_wp2_with (go_at_call 41; refine (CON.out wr B3.out).mono ?_; rintro e w11 ⟨rfl, hd11⟩; obtain ⟨⟨nq, rfl⟩⟩ := hd11)
          go_ret2
          exact ⟨_, rfl, Kd.S_nil _ _ _ _ _, pw_below_drewN B3.out nq⟩
        · as_aux_lemma =>
          have cc2 : (row es v).contains v = false := by simpa using cc1
          rw [cc2] at CON
          have H := H'.out
          clear H'
          rw [if_neg (by rintro (h | h); exact c1 h; exact cc1 h)] at H
          obtain ⟨lv2, hl2, H⟩ := Option.bind_eq_some_iff.1 H
          have HL2 := Aside0.mk hl2
          have H' := Aside0.mk H
          clear H hl2
          go_upto_region 12 with (go_at_call 41; refine (CON.out wr B3.out).mono ?_; rintro e w11 ⟨rfl, hd11⟩; obtain ⟨⟨nq, rfl⟩⟩ := hd11)
          have B4 := Aside0.mk (pw_below_drewN B3.out nq)
          have K4 := Aside0.mk (blk_drewN K3.out nq)
          have O4 := Aside0.mk (show (wr.drewN nq).heap[ga]? = some (arr lv) from blk_drewN O3.out nq)
          have F4 := Aside0.mk (Kd.F_drewN F3.out nq)
          clear B3 K3 O3 F3 CON hcy hx1
          generalize wr.drewN nq = w12 at B4 K4 O4 F4 ⊢
          have hcy : w12.cell? ⟨gb, 0, none⟩ = some (.slice (some adE) es.length c) := (blk_cell K4.out 0).trans rfl
          have hx1 := (B4.out.cell (World.block_lt_of_cell? _ _ HXE.out)).trans HXE.out
          have hel := EXI.out.2.1
          go_wp2_with fail
          clear hx1 hcy q1 q2
          go_loopg [52] k1 (fun kq v52 w' => ∃ (j : Int) (lv3 : List Int), v52 = .int .i64 j ∧ Aside0 (0 ≤ j) ∧ Aside0 (lv3.length = es.length) ∧ Aside0 (lv1 kq v (row es v) j lv3 = some lv2) ∧ Aside0 (kq ≤ k1) ∧ Aside0 (Below w.heap.size w w') ∧ Aside0 (w'.heap[gb]? = some (.cells #[.slice (some adE) es.length c] 49 (0, 0))) ∧ Aside0 (w'.heap[ga]? = some (arr lv3)) ∧ Aside0 (Kd.F KS w' (fun k => w7.heap.size ≤ k ∧ k < ga) (some adc) comps.length comps))
          case atStart => exact ⟨0, _, rfl, ⟨by omega⟩, HLEN, HL2, ⟨Nat.le_refl _⟩, B4, K4, O4, F4⟩
          case round => as_aux_lemma =>
           clear HL2 B4 K4 O4 F4
           obtain ⟨j, lv3, rfl, HJ, HLEN3, HA, HK2, B4, K4, O4, F4⟩ := hrel
           obtain ⟨W2, rfl⟩ : ∃ W2 : World, W2 = wr := ⟨_, rfl⟩
           cases gk with
           | zero => exact absurd HA.out (by simp [lv1])
           | succ k2 =>
            have H := HA.out
            clear HA
            rw [lv1] at H
            by_cases cj : j < (row es v).length
            · as_aux_lemma =>
              rw [if_pos cj] at H
              by_cases cd : 0 ≤ rd (row es v) j ∧ rd (row es v) j < lv3.length
              case neg => rw [if_neg cd] at H; cases H
              rw [if_pos cd] at H
              have hj0 := HJ.out
              obtain ⟨adj, ej, hx⟩ := Kd.at_int EXI.out j hj0 cj
              subst ej
              have hxj := (B4.out.cell (World.block_lt_of_cell? _ _ hx)).trans hx
              clear hx
              generalize rd (row es v) j = d at H cd hxj
              obtain ⟨cd0, cd1⟩ := cd
              have H' := Aside0.mk H
              clear H
              have cbj : decide (j < ((row es v).length : Int)) = true := decide_eq_true cj
              have qj := eq_true hj0
              have q1 := eq_true cx1
              have q2 := eq_true cx2
              have q3 := eq_true cd0
              have q4 : (d < (es.length : Int)) = True := eq_true (by rw [← HLEN3.out]; exact cd1)
              have cv := arr_cell O4.out v cx1 (by rw [HLEN3.out]; exact cx2)
              have cdd := arr_cell O4.out d cd0 cd1
              have fv := arr_free O4.out v.toNat
              go_upto_region 15 with fail
              go_region
              have B5 := Aside0.mk (below_drew (B4.out.setCell (show w.heap.size ≤ (⟨ga, v.toNat, none⟩ : Addr).block from HGA.out.1) (.int .i64 (max (rd lv3 v) (wrap64 (rd lv3 d + 1))))))
              have K5 := Aside0.mk (blk_drew (blk_far K4.out (p := ⟨ga, v.toNat, none⟩) (show gb ≠ ga from Nat.ne_of_lt HGA.out.2) (.int .i64 (max (rd lv3 v) (wrap64 (rd lv3 d + 1))))))
              have O5 := Aside0.mk (show (W2.setCell ⟨ga, v.toNat, none⟩ (.int .i64 (max (rd lv3 v) (wrap64 (rd lv3 d + 1))))).drew.heap[ga]? = some (arr (lv3.set v.toNat (max (rd lv3 v) (wrap64 (rd lv3 d + 1))))) from by unfold arr; rw [← nums_set]; exact blk_drew (blk_set O4.out v.toNat _))
              have F5 := Aside0.mk (Kd.F_drew (Kd.F_far (p := ⟨ga, v.toNat, none⟩) F4.out (fun k hk => show k ≠ ga from Nat.ne_of_lt hk.2) (.int .i64 (max (rd lv3 v) (wrap64 (rd lv3 d + 1))))))
              have L5 : Aside0 ((lv3.set v.toNat (max (rd lv3 v) (wrap64 (rd lv3 d + 1)))).length = es.length) := ⟨by rw [List.length_set]; exact HLEN3.out⟩
              clear B4 K4 O4 F4 cv cdd fv hxj HLEN3
              generalize (W2.setCell ⟨ga, v.toNat, none⟩ (.int .i64 (max (rd lv3 v) (wrap64 (rd lv3 d + 1))))).drew = w13 at B5 K5 O5 F5 ⊢
              go_wp2_with fail
              go_roundg k2
              case measure => omega
              case rel => exact ⟨j + 1, _, rfl, ⟨by omega⟩, L5, H', ⟨by have := HK2.out; omega⟩, B5, K5, O5, F5⟩
            · as_aux_lemma =>
              rw [if_neg cj] at H
              obtain rfl := Option.some.inj H
              have cbj : decide (j < ((row es v).length : Int)) = false := decide_eq_false cj
              clear H
              have q1 := eq_true cx1
              have q2 := eq_true cx2
              have cv := arr_cell O4.out v cx1 (by rw [HLEN3.out]; exact cx2)
              go_wp2_with fail
              go_roundg k1
              case measure => omega
              case rel => exact ⟨i + 1, _, _, rfl, rfl, ⟨by have := HI.out; omega⟩, HLEN3, H', ⟨by have := HK1.out; omega⟩, B4, K4, O4, F4⟩
    · as_aux_lemma =>
      rw [if_neg ci] at H
      obtain rfl := Option.some.inj H
      have cb : decide (i < (comps.length : Int)) = false := decide_eq_false ci
      clear H
      by_cases ct : 0 ≤ wrap64 (top + 1) ∧ wrap64 (top + 1) < 5864062014805
      case neg => have := HH.out; simp only at this; rw [if_neg ct] at this; cases this
      have HH1 := HH.out
      simp only at HH1
      rw [if_pos ct] at HH1
      obtain ⟨out0, h3, h4⟩ := Option.map_eq_some_iff.1 HH1
      obtain ⟨rfl, rfl⟩ := Prod.mk.inj h4
      have H3 := Aside0.mk h3
      obtain ⟨ct0, ct1⟩ := ct
      obtain ⟨n, hn⟩ := Int.eq_ofNat_of_zero_le ct0
      rw [hn] at ct1
      rw [hn, Int.toNat_natCast] at H3
      have HN := Aside0.mk hn
      clear HH HH1 h3 h4 ct0 hn
      go_upto_region 19 with fail
      have hn := HN.out
      obtain ⟨i0, e0, e1, e2, e3⟩ := info_parts info55
      have hmk := run_make wr 47 55 i0 _ Try.underlying47 e0 e1 .i64 .i64 n n (by omega) (by omega) (by rw [e3]; omega) (by omega)
      rw [Int.toNat_natCast, e2, Nat.mul_one] at hmk
      have hz0 : (Value.slice none 0 0).cells = #[.slice none 0 0] := rfl
      rw [hz0] at hmk
      clear e0 e1 e2 e3 hz0
      go_upto_region 20 with fail
      obtain ⟨W3, rfl⟩ : ∃ W3 : World, W3 = wr := ⟨_, rfl⟩
      have O6 := Aside0.mk (show (W3.alloc (.cells (madeCells #[.slice none 0 0] n) 55)).heap[ga]? = some (arr lv) from blk_alloc O3.out (.cells (madeCells #[.slice none 0 0] n) 55))
      have B6 := Aside0.mk (below_alloc B3.out (.cells (madeCells #[.slice none 0 0] n) 55))
      have hbs := B3.out.size
      have S6 := Aside0.mk (S_made (base := w.heap.size) (ok := fun k => W3.heap.size ≤ k) (blk_new W3 (.cells (madeCells #[.slice none 0 0] n) 55)) hbs (by unfold maxLen; omega) (Nat.le_refl _))
      have HGO : Aside0 (w.heap.size ≤ W3.heap.size ∧ ga < W3.heap.size) := ⟨hbs, blk_lt O3.out⟩
      have hll2 : Aside0 ((List.replicate n ([] : List Int)).length = n) := ⟨by simp⟩
      have HLE : Aside0 (lv.length ≤ 9223372036854775807) := ⟨by have := HLL.out; rw [HLEN.out]; omega⟩
      clear hmk hn hbs K3 O3 B3 F3
      generalize W3.alloc (.cells (madeCells #[.slice none 0 0] n) 55) = W4 at O6 B6 S6 ⊢
      generalize W3.heap.size = go at S6 HGO ⊢
      have hle := HLE.out
      have hel := HLEN.out
      go_wp2_with fail
      go_loopg [82] k (fun kq v82 w' => ∃ (j : Int) (out : List (List Int)), v82 = .int .i64 j ∧ Aside0 (0 ≤ j) ∧ Aside0 (out.length = n) ∧ Aside0 (lv3 kq lv j out = some out0) ∧ Aside0 (kq ≤ k) ∧ Aside0 (Below w.heap.size w w') ∧ Aside0 (w'.heap[ga]? = some (arr lv)) ∧ Aside0 (Kd.S KS 55 w' w.heap.size (fun k => go ≤ k) (.slice (some ⟨go, 0, none⟩) n n) out))
      case atStart => exact ⟨0, _, rfl, ⟨by omega⟩, hll2, H3, ⟨Nat.le_refl _⟩, B6, O6, S6⟩
      case round => as_aux_lemma =>
       clear H3 B6 O6 S6 hll2
       obtain ⟨j, out, rfl, HJ, HLO, HA, HK2, B6, O6, S6⟩ := hrel
       obtain ⟨W5, rfl⟩ : ∃ W5 : World, W5 = wr := ⟨_, rfl⟩
       cases gk with
       | zero => exact absurd HA.out (by simp [lv3])
       | succ k2 =>
        have H := HA.out
        clear HA
        rw [lv3] at H
        by_cases cj : j < lv.length
        · as_aux_lemma =>
          rw [if_pos cj] at H
          by_cases cd : 0 ≤ rd lv j ∧ rd lv j < out.length ∧ (row out (rd lv j)).length < 17592186044415
          case neg => rw [if_neg cd] at H; cases H
          rw [if_pos cd] at H
          have hj0 := HJ.out
          have cx := arr_cell O6.out j hj0 cj
          have cj2 : j < (es.length : Int) := by rw [← hel]; exact cj
          have cbj : decide (j < (es.length : Int)) = true := decide_eq_true cj2
          have qj := eq_true hj0
          generalize rd lv j = d at H cd cx
          obtain ⟨cd0, cd1, cd2⟩ := cd
          rw [HLO.out] at cd1
          have H' := Aside0.mk H
          clear H
          have q9 := eq_true cd0
          have q10 := eq_true cd1
          go_upto_region 23 with fail
          have hgo := Kd.S_lt S6.out go (by simp [Value.ownBlock])
          have hgs := B6.out.size
          obtain ⟨v0, oki, x1, x2, x3, x4, x5⟩ := S_upd S6.out (fun k hk => by omega) d cd0 cd1
          have X3 := Aside0.mk (Kd.R_mono (ok' := fun k => oki k ∨ W5.heap.size ≤ k) x3 (fun k hk => .inl hk))
          have X4 := Aside0.mk x4
          have X5 := Aside0.mk (@x5)
          have X6 := Aside0.mk x3
          clear x3 x4 x5 cx
          go_wp2_with ((with_reducible refine gate_builtin (b := .append) (xs := #[.tmp 92, .tmp 94]) rfl ?_); at_builtin; refine Kd.R_append (Kd.int .i64) (w0 := W5) w.heap.size rfl (.tmp 92) (.tmp 94) 55 3 (.int .i64 0) 8 rfl Try.underlying55 info3 rfl (by decide) (by omega) v0 (row out d) j [.int .i64 j] (fun k => oki k ∨ W5.heap.size ≤ k) (fun _ => False) rfl rfl rfl (fun _ hk => hk.elim) (fun k hk => .inr hk) X3.out (Below.refl _ _) ?hs ?hl ?_)
          (case hs => omega)
          (case hl => omega)
          intro v1 w9 ho hb hg hat
          obtain ⟨A9, q9c, rfl⟩ := Kd.R_slice ho
          have hown : ∀ k, v0.ownBlock = some k → go ≤ k ∧ k ≠ go := fun k hk => X4.out k (X6.out.1 k hk)
          have hga := HGO.out.2
          have hgw := HGO.out.1
          have O9 := Aside0.mk (blk_grown O6.out hg (fun e => by have := (hown ga e.symm).1; omega))
          have B9 := Aside0.mk (B6.out.grown hg (by omega) (fun k hk => by have := (hown k hk).1; omega))
          have hne9 : some go ≠ v0.ownBlock := fun e => (hown _ e.symm).2 rfl
          have k2 : w9.cell? ⟨go, d.toNat, none⟩ = some v0 := (World.cell?_of_block (hg.block go hgo hne9)).trans x1
          have k3 : w9.frozen? ⟨go, d.toNat, none⟩ = false := (World.frozen?_of_block (hg.block go hgo hne9)).trans x2
          have G9 := Aside0.mk hg
          have R9 := Aside0.mk ho
          clear hg ho hb hat hown x1 x2 hne9 B6 O6 S6 X3 X4 X6 hga hgw
          go_upto_region 24 with fail
          obtain ⟨S10, g10⟩ := X5.out w9 _ _ G9.out R9.out
          have S11 := Aside0.mk S10
          have O11 := Aside0.mk (blk_grown O9.out g10 (by have := HGO.out.2; intro e; injection e with e; omega))
          have B11 := Aside0.mk (B9.out.grown g10 (by have := G9.out.size; omega) (fun k hk => by cases hk; exact HGO.out.1))
          have HL11 : Aside0 ((app out d j).length = n) := ⟨by unfold app; simp only [List.length_set]; exact HLO.out⟩
          clear S10 g10 k2 k3 G9 R9 X5 O9 B9 hgs hgo
          have e9 : (row out d ++ [j]).length = (row out d).length + 1 := by simp
          rw [e9] at S11 O11 B11
          clear e9
          generalize w9.setCell ⟨go, d.toNat, none⟩ (.slice A9 ((row out d).length + 1) q9c) = w11 at S11 O11 B11 ⊢
          go_wp2_with fail
          go_roundg k2
          case measure => omega
          case rel => exact ⟨j + 1, _, rfl, ⟨by omega⟩, HL11, H', ⟨by have := HK2.out; omega⟩, B11, O11, S11⟩
        · as_aux_lemma =>
          rw [if_neg cj] at H
          obtain rfl := Option.some.inj H
          have cbj : decide (j < (es.length : Int)) = false := decide_eq_false (by rw [← hel]; exact cj)
          clear H
          go_wp2_with fail
          go_ret2
          exact ⟨_, rfl, Kd.S_mono S6.out (fun _ _ => trivial), B6.out⟩
end Lv
end Go.Proofs.Ytmadhaccjmakdaa
/- graph.Levels in the form in which printed texts call it. -/
namespace Go.Proofs.Ytmadhaccjmakdaa
open Go.RowKit Go.Proofs.YtmadhaccjmakdaaW.PrintWords Go.Proofs.YtmadhaccjmakdaaW.PrintLast Go.Proofs.YtmadhaccjmakdaaW.PrintMore Go.Proofs.Ytmadhaccjmakdaa.P
namespace P
noncomputable def graph_Levels.f (l : List (List Int)) : Option (List (List Int) × Int) := Od.lim fun k => Lv.levelsF k l
set_option maxRecDepth 100000 in
theorem graph_Levels.calls (A0_0 : Option Addr) (c0_0 : Nat) (l0_0 : List (List Int)) (r1 : List (List Int)) (r2 : Int) (w : World) (hr0_0 : Kd.C (Kd.slice 3 (Kd.int .i64)) w A0_0 l0_0.length l0_0) (hc0_0 : l0_0.length ≤ c0_0) (h : graph_Levels.f l0_0 = some (r1, r2)) :
 Calls Try.prog 30 #[.agg #[.slice A0_0 l0_0.length c0_0]] w fun e w' => ∃ v0_ : Value, e = .returned (.tuple #[v0_, .int .i64 r2]) ∧ Kd.S (Kd.slice 3 (Kd.int .i64)) 55 w' w.heap.size (fun _ => True) v0_ r1 ∧ Below w.heap.size w w' := by
 obtain ⟨k0, h0⟩ := Od.lim_some h
 exact Lv.levels_calls k0 A0_0 c0_0 l0_0 r1 r2 w hr0_0 hc0_0 (h0 k0 (Nat.le_refl _))
end P
end Go.Proofs.Ytmadhaccjmakdaa
namespace Go.Proofs.Ytmadhaccjmakdaa.P
open Go.RowKit Go.Proofs.YtmadhaccjmakdaaW.PrintWords Go.Proofs.YtmadhaccjmakdaaW.PrintLast Go.Proofs.YtmadhaccjmakdaaW.PrintMore
attribute [local go_sem] str_gtr str_leq str_geq max2_int min2_int max_two min_two max_three min_three max_four min_four
noncomputable def modgraph_acyclic.f (k : Nat) (l0 : List (S42)) : Option (List ByteArray × (List (List Int)) × Int × ByteArray × Int × Int) := (modgraph_made.f l0).bind fun bt146 => (if bt146.2.2.1 = 0 then ((modgraph_program_cycle.f k bt146.1 bt146.2.1).bind fun t158 => (if (t158.length : Int) > 0 then (if 0 < (t158.length : Int) then (if 0 ≤ (rd t158 0) then (if (rd t158 0) < (bt146.1.length : Int) then (some (([] : List ByteArray), ([] : List (List Int)), 18, rdOf ByteArray.empty bt146.1 (rd t158 0), 0, 0)) else (none)) else (none)) else (none)) else (some (bt146.1, bt146.2.1, 0, (⟨#[]⟩ : ByteArray), 0, 0)))) else (some (([] : List ByteArray), ([] : List (List Int)), bt146.2.2.1, bt146.2.2.2.1, bt146.2.2.2.2.1, bt146.2.2.2.2.2)))
noncomputable def modgraph_acyclic.T6 : Bool × List (List Nat × List Nat) := (true, [([], []), ([], []), ([1], [1]), ([], []), ([3], [3]), ([4], [4]), ([2, 5], [2, 5]), ([6], [6]), ([7], [7]), ([0, 0], [0]), ([8, 9, 0, 1, 2, 3, 4, 5, 6, 7, 8, 9], [8])])
noncomputable def modgraph_acyclic.B6 : List Nat := [0, 0, 2, 0, 8, 24, 62, 126, 254, 1, 1023]
theorem modgraph_acyclic.tab6 : rtab .any (opsOf Try.f24 6) = modgraph_acyclic.T6 := by kernel_rfl
theorem modgraph_acyclic.bits6 : waitsOk modgraph_acyclic.T6.2 modgraph_acyclic.B6 = true := by kernel_rfl
set_option maxHeartbeats 8000000 in
set_option maxRecDepth 100000 in
theorem modgraph_acyclic.calls (k : Nat) (A0 : Option Addr) (c0 : Nat) (l0 : List (S42)) (r1 : List ByteArray) (r2 : List (List Int)) (r3 : Int) (r4 : ByteArray) (r5 : Int) (r6 : Int) (w : World) (hr0 : Kd.C k42 w A0 l0.length l0) (hc0 : l0.length ≤ c0) (h : modgraph_acyclic.f k l0 = some (r1, r2, r3, r4, r5, r6)) :
 Calls Try.prog 24 #[.slice A0 l0.length c0] w fun e w' => ∃ v0_ v1_ : Value, e = .returned (.tuple #[.agg #[v0_, v1_], .agg #[.int .i64 r3, .string r4, .int .i64 r5, .int .i64 r6]]) ∧ Kd.R Kd.string 9 w' w.heap.size (fun _ => True) v0_ r1 ∧ Kd.S (Kd.slice 3 (Kd.int .i64)) 55 w' w.heap.size (fun _ => True) v1_ r2 ∧ Below w.heap.size w w' := by
 have hu51 := Try.underlying51
 have hu28 := Try.underlying28
 have HR0 := aM hr0
 have HC0 := aM hc0
 clear hr0 hc0
 have HB := aM (Below.refl w.heap.size w)
 have H : ((modgraph_made.f l0).bind fun bt146 => (if bt146.2.2.1 = 0 then ((modgraph_program_cycle.f k bt146.1 bt146.2.1).bind fun t158 => (if (t158.length : Int) > 0 then (if 0 < (t158.length : Int) then (if 0 ≤ (rd t158 0) then (if (rd t158 0) < (bt146.1.length : Int) then (some (([] : List ByteArray), ([] : List (List Int)), 18, rdOf ByteArray.empty bt146.1 (rd t158 0), 0, 0)) else (none)) else (none)) else (none)) else (some (bt146.1, bt146.2.1, 0, (⟨#[]⟩ : ByteArray), 0, 0)))) else (some (([] : List ByteArray), ([] : List (List Int)), bt146.2.2.1, bt146.2.2.2.1, bt146.2.2.2.2.1, bt146.2.2.2.2.2)))) = some (r1, r2, r3, r4, r5, r6) := h
 clear h
 replace H := Option.bind_eq_some_iff.mp H
 obtain ⟨⟨t146, t149, t152, t153, t154, t155⟩, A20, H⟩ := H
 replace H : (if t152 = 0 then ((modgraph_program_cycle.f k t146 t149).bind fun t158 => (if (t158.length : Int) > 0 then (if 0 < (t158.length : Int) then (if 0 ≤ (rd t158 0) then (if (rd t158 0) < (t146.length : Int) then (some (([] : List ByteArray), ([] : List (List Int)), 18, rdOf ByteArray.empty t146 (rd t158 0), 0, 0)) else (none)) else (none)) else (none)) else (some (t146, t149, 0, (⟨#[]⟩ : ByteArray), 0, 0)))) else (some (([] : List ByteArray), ([] : List (List Int)), t152, t153, t154, t155))) = some (r1, r2, r3, r4, r5, r6) := H
 have A2 := aM A20
 clear A20
 by_cases c3 : t152 = 0
 · rw [if_pos c3] at H
   have c3b0 : (t152 == 0) = true := beq_iff_eq.mpr c3
   have c3b1 : (t152 != 0) = false := bne_eq_false_iff_eq.mpr c3
   clear c3
   replace H := Option.bind_eq_some_iff.mp H
   obtain ⟨t158, A40, H⟩ := H
   replace H : (if (t158.length : Int) > 0 then (if 0 < (t158.length : Int) then (if 0 ≤ (rd t158 0) then (if (rd t158 0) < (t146.length : Int) then (some (([] : List ByteArray), ([] : List (List Int)), 18, rdOf ByteArray.empty t146 (rd t158 0), 0, 0)) else (none)) else (none)) else (none)) else (some (t146, t149, 0, (⟨#[]⟩ : ByteArray), 0, 0))) = some (r1, r2, r3, r4, r5, r6) := H
   have A4 := aM A40
   clear A40
   by_cases c5 : (t158.length : Int) > 0
   · rw [if_pos c5] at H
     have c5b0 : decide (0 < (t158.length : Int)) = true := decide_eq_true c5
     have c5b1 : decide (0 < t158.length) = true := decide_eq_true (by omega)
     clear c5
     by_cases c6 : 0 < (t158.length : Int)
     · rw [if_pos c6] at H
       have c6b0 : decide (0 < (t158.length : Int)) = true := decide_eq_true c6
       have c6b1 : decide (0 < t158.length) = true := decide_eq_true (by omega)
       clear c6
       by_cases c7 : 0 ≤ (rd t158 0)
       · rw [if_pos c7] at H
         have c7b0 : decide (0 ≤ (rd t158 0)) = true := decide_eq_true c7
         clear c7
         by_cases c8 : (rd t158 0) < (t146.length : Int)
         · rw [if_pos c8] at H
           have c8b0 : decide ((rd t158 0) < (t146.length : Int)) = true := decide_eq_true c8
           clear c8
           simp only [Option.some.injEq, Prod.mk.injEq] at H
           obtain ⟨rfl, rfl, rfl, rfl, rfl, rfl⟩ := H
           go_enter Try.func24, Try.ntmps24
           try go_wp2_with (first | ((with_reducible refine gate_dst (N := 2) rfl ?_); refine box_event ?hg (N := 2) ?hd (cs := #[.slice none 0 0, .slice none 0 0]) (t := 51) ?hr ?_; (case hd => rfl); (case hg => rfl); (case hr => first | (go_simp; done) | (go_simp; rfl)); intro gb144 hg w9 hbox hb; have BK144 := aM hbox; have GW144 := gs hg HB; have GE144 := gs hg HB; replace HB := bs HB hb; clear hb hbox hg) | ((with_reducible refine gate_dst (N := 3) rfl ?_); refine box_event ?hg (N := 3) ?hd (cs := #[.int .i64 0, .string (⟨#[]⟩ : ByteArray), .int .i64 0, .int .i64 0]) (t := 28) ?hr ?_; (case hd => rfl); (case hg => rfl); (case hr => first | (go_simp; done) | (go_simp; rfl)); intro gb145 hg w10 hbox hb; have BK145 := aM hbox; have GW145 := gs hg HB; have GE145 := gs hg HB; have NB144_145 := nl hg BK144; have NB145_144 := nr hg BK144; replace BK144 := kb BK144 hb; replace HB := bs HB hb; clear hb hbox hg) | ((with_reducible refine gate_callee (f := 34) rfl ?_); refine gL (some 9) rfl rfl Try.func34 (by kernel_rfl) rfl #[.slice A0 l0.length c0] rfl ?_; (with_reducible refine (modgraph_made.calls _ _ l0 t146 t149 t152 t153 t154 t155 _ ?side1 ?side2 A2.out).mono ?_); (case side1 => exact cb HR0 HB); (case side2 => exact HC0.out); rintro e w11 ⟨v147, v150, rfl, ho0, ho1, hb⟩; refine ⟨_, rfl, ?_⟩; have HO148 := aM (Kd.R_lower ho0 (below_size (hh HB))); have HO151 := aM (Kd.S_lower ho1 (below_size (hh HB))); replace BK144 := kb BK144 hb; replace BK145 := kb BK145 hb; replace HB := bs HB hb; (try clear hb); (try clear hb2); (try clear hk); (try clear hi); (try clear ho0); (try clear ho1)) | ((with_reducible refine gate_dst (N := 4) rfl ?_); refine box_event ?hg (N := 4) ?hd (cs := #[.slice none 0 0, .slice none 0 0]) (t := 51) ?hr ?_; (case hd => rfl); (case hg => rfl); (case hr => first | (go_simp; done) | (go_simp; rfl)); intro gb156 hg w12 hbox hb; have BK156 := aM hbox; have GW156 := gs hg HB; have GE156 := gs hg HB; have NB144_156 := nl hg BK144; have NB156_144 := nr hg BK144; have NB145_156 := nl hg BK145; have NB156_145 := nr hg BK145; replace HO148 := rb HO148 hb; replace HO151 := sb HO151 hb; replace BK144 := kb BK144 hb; replace BK145 := kb BK145 hb; replace HB := bs HB hb; clear hb hbox hg) | ((with_reducible refine gate_dst (N := 5) rfl ?_); refine box_event ?hg (N := 5) ?hd (cs := #[.int .i64 0, .string (⟨#[]⟩ : ByteArray), .int .i64 0, .int .i64 0]) (t := 28) ?hr ?_; (case hd => rfl); (case hg => rfl); (case hr => first | (go_simp; done) | (go_simp; rfl)); intro gb157 hg w13 hbox hb; have BK157 := aM hbox; have GW157 := gs hg HB; have GE157 := gs hg HB; have NB144_157 := nl hg BK144; have NB157_144 := nr hg BK144; have NB145_157 := nl hg BK145; have NB157_145 := nr hg BK145; have NB156_157 := nl hg BK156; have NB157_156 := nr hg BK156; replace HO148 := rb HO148 hb; replace HO151 := sb HO151 hb; replace BK144 := kb BK144 hb; replace BK145 := kb BK145 hb; replace BK156 := kb BK156 hb; replace HB := bs HB hb; clear hb hbox hg; obtain ⟨Ao14, co14, eo14⟩ := Kd.R_slice HO148.out; subst eo14; have hnb15 := NB156_144.out; have hnc15 := NB144_156.out; have hnb16 := NB156_145.out; have hnc16 := NB145_156.out; have hnb17 := NB156_157.out; have hnc17 := NB157_156.out; obtain ⟨hcz18_0, hcz18_1⟩ := cz2 BK156; obtain ⟨hfz18_0, hfz18_1⟩ := fz2 BK156; obtain ⟨Ao19, co19, eo19⟩ := Kd.S_slice HO151.out; subst eo19; have hnb20 := NB157_144.out; have hnc20 := NB144_157.out; have hnb21 := NB157_145.out; have hnc21 := NB145_157.out; obtain ⟨hcz22_0, hcz22_1, hcz22_2, hcz22_3⟩ := cz BK157; obtain ⟨hfz22_0, hfz22_1, hfz22_2, hfz22_3⟩ := fz BK157) | ((with_reducible refine gate_callee (f := 35) rfl ?_); refine gL (some 18) rfl rfl Try.func35 (by kernel_rfl) rfl #[.agg #[.slice Ao14 t146.length co14, .slice Ao19 t149.length co19]] rfl ?_; (with_reducible refine (modgraph_program_cycle.calls k _ _ t146 _ _ t149 t158 _ ?side1 ?side2 ?side3 ?side4 A4.out).mono ?_); (case side1 => refine (Kd.R_reads' (e := 9) (base := w.heap.size) (ok := fun k_ => True) (n := t146.length) (c := co14) ?_).2.2; exact (by (with_reducible repeat (first | apply Kd.R_alloc | apply Kd.R_drewN | apply Kd.R_drew)); exact (rf24 HO148 BK156 (by decide) BK157 (by decide)))); (case side2 => exact (Kd.R_reads' HO148.out).2.1); (case side3 => refine (Kd.S_reads' (e := 55) (base := w.heap.size) (ok := fun k_ => True) (n := t149.length) (c := co19) ?_).2.2; exact (by (with_reducible repeat (first | apply Kd.S_alloc | apply Kd.S_drewN | apply Kd.S_drew)); exact (sf24 HO151 BK156 (by decide) BK157 (by decide)))); (case side4 => exact (Kd.S_reads' HO151.out).2.1); rintro e w23 ⟨v159, rfl, ho0, hb⟩; refine ⟨_, rfl, ?_⟩; have HO160 := aM (Kd.R_lower ho0 (below_size (hh HB))); replace HO148 := aM (Kd.R_below (by (with_reducible repeat (first | apply Kd.R_alloc | apply Kd.R_drewN | apply Kd.R_drew)); exact (rf24 HO148 BK156 (by decide) BK157 (by decide))) hb); replace HO151 := aM (Kd.S_elder' (by (with_reducible repeat (first | apply Kd.S_alloc | apply Kd.S_drewN | apply Kd.S_drew)); exact (sf24 HO151 BK156 (by decide) BK157 (by decide))) (Kd.R_base ho0) hb); replace BK144 := aM (blk_below (g := gb144) (o := .cells #[.slice none 0 0, .slice none 0 0] 51 (0, 0)) (kf BK144) hb); replace BK145 := aM (blk_below (g := gb145) (o := .cells #[.int .i64 0, .string (⟨#[]⟩ : ByteArray), .int .i64 0, .int .i64 0] 28 (0, 0)) (kf BK145) hb); replace BK156 := aM (blk_below (g := gb156) (o := .cells #[.slice Ao14 t146.length co14, .slice Ao19 t149.length co19] 51 (0, 0)) (kf BK156) hb); replace BK157 := aM (blk_below (g := gb157) (o := .cells #[.int .i64 t152, .string t153, .int .i64 t154, .int .i64 t155] 28 (0, 0)) (kf BK157) hb); replace HB := bs HB hb; (try clear hb); (try clear hb2); (try clear hk); (try clear hi); (try clear ho0); obtain ⟨Ao24, co24, eo24⟩ := Kd.R_slice HO160.out; subst eo24))
           replace HO148 := aM (Kd.R_drew HO148.out)
           replace HO151 := aM (Kd.S_drew HO151.out)
           replace HO160 := aM (Kd.R_drew HO160.out)
           replace BK144 := aM (blk_drew BK144.out)
           replace BK145 := aM (blk_drew BK145.out)
           replace BK156 := aM (blk_drew BK156.out)
           replace BK157 := aM (blk_drew BK157.out)
           replace HB := aM (below_drew1 HB.out)
           have p161 : 0 ≤ (0 : Int) := (by omega)
           have q161 : 0 < (t158.length : Int) := dt
           obtain ⟨ad161, e161, hx161_0⟩ := Kd.at_int (Kd.R_reads' HO160.out).2.2 0 p161 q161
           cases e161
           have qi161 : (0 < t158.length) = True := eq_true (by omega)
           (try rw [show ((0 : Int)).toNat = 0 from rfl] at hx161_0)
           (try rw [Addr.add_zero'] at hx161_0)
           replace p161 := eq_true p161
           replace q161 := eq_true q161
           have p162 : 0 ≤ ((rd t158 0) : Int) := dt
           have q162 : (rd t158 0) < (t146.length : Int) := dt
           obtain ⟨ad162, e162, hx162_0⟩ := Kd.at_string (Kd.R_reads' HO148.out).2.2 (rd t158 0) p162 q162
           cases e162
           replace p162 := eq_true p162
           replace q162 := eq_true q162
           refine start_ (n := 11) (S := fun w' => w'.cell? ⟨gb156, 0, none⟩ = some (.slice (some ad162) t146.length co14) ∧ w'.cell? ⟨gb156, 1, none⟩ = some (.slice Ao19 t149.length co19) ∧ w'.cell? ad161 = some (.int .i64 (rd t158 0)) ∧ w'.cell? (ad162.add ((rd t158 0)).toNat) = some (.string (rdOf ByteArray.empty t146 (rd t158 0)))) (ds := []) #[false, false, false, false, false, false, false, false, false, false, false] (by kernel_rfl) rfl rfl ⟨(blk_cell BK156.out 0).trans rfl, (blk_cell BK156.out 1).trans rfl, hx161_0, hx162_0⟩ (fun hHeld => ?_); refine with_tabW modgraph_acyclic.tab6 modgraph_acyclic.bits6 (fun HT_ HW_ => ?_)
           generalize w23.drew = w25 at HO148 HO151 HO160 BK144 BK145 BK156 BK157 HB hx161_0 hx162_0 hHeld ⊢
           refine pure_ (i := 0) (N := some 22) (v := ?_) (a' := ?_) #[true, false, false, false, false, false, false, false, false, false, false] rfl rfl (any_of HT_.out (by kernel_rfl)) (fun _ _ _ h => h) (Or.inl ⟨by rfl, ?_⟩) ?_ ?_
           rotate_left
           · intro w'
             go_simp
             with_reducible rfl
           rotate_left
           · simp only [Act.put, sA, sZ, sS, i64_w, i32_w]
             rfl
           refine pure_ (i := 1) (N := some 23) (v := ?_) (a' := ?_) #[true, true, false, false, false, false, false, false, false, false, false] rfl rfl (any_of HT_.out (by kernel_rfl)) (fun _ _ _ h => h) (Or.inl ⟨by rfl, ?_⟩) ?_ ?_
           rotate_left
           · intro w'
             go_simp
             with_reducible rfl
           rotate_left
           · simp only [Act.put, sA, sZ, sS, i64_w, i32_w]
             rfl
           refine pure_ (i := 3) (N := some 25) (v := ?_) (a' := ?_) #[true, true, false, true, false, false, false, false, false, false, false] rfl rfl (any_of HT_.out (by kernel_rfl)) (fun _ _ _ h => h) (Or.inl ⟨by rfl, ?_⟩) ?_ ?_
           rotate_left
           · intro w'
             go_simp
             with_reducible rfl
           rotate_left
           · simp only [Act.put, sA, sZ, sS, i64_w, i32_w]
             rfl
           refine pure_ (i := 4) (N := some 26) (v := ?_) (a' := ?_) #[true, true, false, true, true, false, false, false, false, false, false] rfl rfl (any_of HT_.out (by kernel_rfl)) (fun _ _ _ h => h) (Or.inl ⟨by rfl, ?_⟩) ?_ ?_
           rotate_left
           · intro w'
             go_simp
             with_reducible rfl
           rotate_left
           · simp only [Act.put, sA, sZ, sS, i64_w, i32_w]
             rfl
           refine take_ (i := 2) (N := some 24) (v := ?_) (a' := ?_) #[true, true, true, true, true, false, false, false, false, false, false] rfl rfl (take_ofW HT_.out HW_.out (by kernel_rfl)) (fun _ _ _ h => h) (Or.inl ⟨by rfl, ?_⟩) hHeld ?_ ?_
           rotate_left
           · rintro w' ⟨s0, s1, s2, s3⟩
             go_simp
             with_reducible rfl
           rotate_left
           · simp only [Act.put, sA, sZ, sS, i64_w, i32_w]
             rfl
           refine take_ (i := 5) (N := some 27) (v := ?_) (a' := ?_) #[true, true, true, true, true, true, false, false, false, false, false] rfl rfl (take_ofW HT_.out HW_.out (by kernel_rfl)) (fun _ _ _ h => h) (Or.inl ⟨by rfl, ?_⟩) hHeld ?_ ?_
           rotate_left
           · rintro w' ⟨s0, s1, s2, s3⟩
             go_simp
             with_reducible rfl
           rotate_left
           · simp only [Act.put, sA, sZ, sS, i64_w, i32_w]
             rfl
           refine pure_ (i := 6) (N := some 28) (v := ?_) (a' := ?_) #[true, true, true, true, true, true, true, false, false, false, false] rfl rfl (any_of HT_.out (by kernel_rfl)) (fun _ _ _ h => h) (Or.inl ⟨by rfl, ?_⟩) ?_ ?_
           rotate_left
           · intro w'
             go_simp
             with_reducible rfl
           rotate_left
           · simp only [Act.put, sA, sZ, sS, i64_w, i32_w]
             rfl
           refine take_ (i := 7) (N := some 29) (v := ?_) (a' := ?_) #[true, true, true, true, true, true, true, true, false, false, false] rfl rfl (take_ofW HT_.out HW_.out (by kernel_rfl)) (fun _ _ _ h => h) (Or.inl ⟨by rfl, ?_⟩) hHeld ?_ ?_
           rotate_left
           · rintro w' ⟨s0, s1, s2, s3⟩
             go_simp
             with_reducible rfl
           rotate_left
           · simp only [Act.put, sA, sZ, sS, i64_w, i32_w]
             rfl
           refine pure_ (i := 8) (N := some 30) (v := ?_) (a' := ?_) #[true, true, true, true, true, true, true, true, true, false, false] rfl rfl (any_of HT_.out (by kernel_rfl)) (fun _ _ _ h => h) (Or.inl ⟨by rfl, ?_⟩) ?_ ?_
           rotate_left
           · intro w'
             go_simp
             with_reducible rfl
           rotate_left
           · simp only [Act.put, sA, sZ, sS, i64_w, i32_w]
             rfl
           refine one_ (i := 9) (N := none) #[true, true, true, true, true, true, true, true, true, true, false] rfl rfl (one_of HT_.out (by kernel_rfl)) (by decide) (fun K hK => ?_)
           have hs26 : w25.cell? ⟨gb144, 0, none⟩ = some (.slice none 0 0) := (blk_cell BK144.out 0).trans rfl
           have hfs26 := blk_frozen BK144.out 0
           have hns26_1 := NB145_144.out
           have hns26_2 := NB156_144.out
           have hns26_3 := NB157_144.out
           have hms26_1 := NB144_145.out
           have hms26_2 := NB144_156.out
           have hms26_3 := NB144_157.out
           have hs27 : w25.cell? ⟨gb144, 1, none⟩ = some (.slice none 0 0) := (blk_cell BK144.out 1).trans rfl
           have hfs27 := blk_frozen BK144.out 1
           have hns27_1 := NB145_144.out
           have hns27_2 := NB156_144.out
           have hns27_3 := NB157_144.out
           have hms27_1 := NB144_145.out
           have hms27_2 := NB144_156.out
           have hms27_3 := NB144_157.out
           refine skip_ (w1 := ?_) (by rfl) rfl ?_ ?_
           rotate_left
           · go_simp
             rfl
           refine hK.out _ _ ⟨((cell_far (p := ⟨gb144, _, none⟩) NB156_144.out _).trans (((cell_far (p := ⟨gb144, _, none⟩) NB156_144.out _).trans (hHeld.1)))), ((cell_far (p := ⟨gb144, _, none⟩) NB156_144.out _).trans (((cell_far (p := ⟨gb144, _, none⟩) NB156_144.out _).trans (hHeld.2.1)))), ((cell_far (p := ⟨gb144, _, none⟩) (by first | exact Kd.own_blk (Kd.R_ne HO160.out BK144.out (by decide)) | (rw [add_block]; exact Kd.own_blk (Kd.R_ne HO160.out BK144.out (by decide))) | (show (Addr.add _ _).block ≠ _; rw [add_block]; exact Kd.own_blk (Kd.R_ne HO160.out BK144.out (by decide))) | (dsimp only; exact Kd.own_blk (Kd.R_ne HO160.out BK144.out (by decide)))) _).trans (((cell_far (p := ⟨gb144, _, none⟩) (by first | exact Kd.own_blk (Kd.R_ne HO160.out BK144.out (by decide)) | (rw [add_block]; exact Kd.own_blk (Kd.R_ne HO160.out BK144.out (by decide))) | (show (Addr.add _ _).block ≠ _; rw [add_block]; exact Kd.own_blk (Kd.R_ne HO160.out BK144.out (by decide))) | (dsimp only; exact Kd.own_blk (Kd.R_ne HO160.out BK144.out (by decide)))) _).trans (hHeld.2.2.1)))), ((cell_far (p := ⟨gb144, _, none⟩) (by first | exact Kd.own_blk (Kd.R_ne HO148.out BK144.out (by decide)) | (rw [add_block]; exact Kd.own_blk (Kd.R_ne HO148.out BK144.out (by decide))) | (show (Addr.add _ _).block ≠ _; rw [add_block]; exact Kd.own_blk (Kd.R_ne HO148.out BK144.out (by decide))) | (dsimp only; exact Kd.own_blk (Kd.R_ne HO148.out BK144.out (by decide)))) _).trans (((cell_far (p := ⟨gb144, _, none⟩) (by first | exact Kd.own_blk (Kd.R_ne HO148.out BK144.out (by decide)) | (rw [add_block]; exact Kd.own_blk (Kd.R_ne HO148.out BK144.out (by decide))) | (show (Addr.add _ _).block ≠ _; rw [add_block]; exact Kd.own_blk (Kd.R_ne HO148.out BK144.out (by decide))) | (dsimp only; exact Kd.own_blk (Kd.R_ne HO148.out BK144.out (by decide)))) _).trans (hHeld.2.2.2))))⟩ (fun hHeld => ?_)
           clear hK K
           refine one_ (i := 10) (N := none) #[true, true, true, true, true, true, true, true, true, true, true] rfl rfl (one_of HT_.out (by kernel_rfl)) (by decide) (fun K hK => ?_)
           have hs28 : w25.cell? ⟨gb145, 0, none⟩ = some (.int .i64 0) := (blk_cell BK145.out 0).trans rfl
           have hfs28 := blk_frozen BK145.out 0
           have hns28_0 := NB144_145.out
           have hns28_2 := NB156_145.out
           have hns28_3 := NB157_145.out
           have hms28_0 := NB145_144.out
           have hms28_2 := NB145_156.out
           have hms28_3 := NB145_157.out
           have hs29 : w25.cell? ⟨gb145, 1, none⟩ = some (.string (⟨#[]⟩ : ByteArray)) := (blk_cell BK145.out 1).trans rfl
           have hfs29 := blk_frozen BK145.out 1
           have hns29_0 := NB144_145.out
           have hns29_2 := NB156_145.out
           have hns29_3 := NB157_145.out
           have hms29_0 := NB145_144.out
           have hms29_2 := NB145_156.out
           have hms29_3 := NB145_157.out
           have hs30 : w25.cell? ⟨gb145, 2, none⟩ = some (.int .i64 0) := (blk_cell BK145.out 2).trans rfl
           have hfs30 := blk_frozen BK145.out 2
           have hns30_0 := NB144_145.out
           have hns30_2 := NB156_145.out
           have hns30_3 := NB157_145.out
           have hms30_0 := NB145_144.out
           have hms30_2 := NB145_156.out
           have hms30_3 := NB145_157.out
           have hs31 : w25.cell? ⟨gb145, 3, none⟩ = some (.int .i64 0) := (blk_cell BK145.out 3).trans rfl
           have hfs31 := blk_frozen BK145.out 3
           have hns31_0 := NB144_145.out
           have hns31_2 := NB156_145.out
           have hns31_3 := NB157_145.out
           have hms31_0 := NB145_144.out
           have hms31_2 := NB145_156.out
           have hms31_3 := NB145_157.out
           refine skip_ (w1 := ?_) (by rfl) rfl ?_ ?_
           rotate_left
           · go_simp
             rfl
           refine hK.out _ _ ⟨((cell_far (p := ⟨gb145, _, none⟩) NB156_145.out _).trans (((cell_far (p := ⟨gb145, _, none⟩) NB156_145.out _).trans (((cell_far (p := ⟨gb145, _, none⟩) NB156_145.out _).trans (((cell_far (p := ⟨gb145, _, none⟩) NB156_145.out _).trans (hHeld.1)))))))), ((cell_far (p := ⟨gb145, _, none⟩) NB156_145.out _).trans (((cell_far (p := ⟨gb145, _, none⟩) NB156_145.out _).trans (((cell_far (p := ⟨gb145, _, none⟩) NB156_145.out _).trans (((cell_far (p := ⟨gb145, _, none⟩) NB156_145.out _).trans (hHeld.2.1)))))))), ((cell_far (p := ⟨gb145, _, none⟩) (by first | exact Kd.own_blk (Kd.R_ne HO160.out BK145.out (by decide)) | (rw [add_block]; exact Kd.own_blk (Kd.R_ne HO160.out BK145.out (by decide))) | (show (Addr.add _ _).block ≠ _; rw [add_block]; exact Kd.own_blk (Kd.R_ne HO160.out BK145.out (by decide))) | (dsimp only; exact Kd.own_blk (Kd.R_ne HO160.out BK145.out (by decide)))) _).trans (((cell_far (p := ⟨gb145, _, none⟩) (by first | exact Kd.own_blk (Kd.R_ne HO160.out BK145.out (by decide)) | (rw [add_block]; exact Kd.own_blk (Kd.R_ne HO160.out BK145.out (by decide))) | (show (Addr.add _ _).block ≠ _; rw [add_block]; exact Kd.own_blk (Kd.R_ne HO160.out BK145.out (by decide))) | (dsimp only; exact Kd.own_blk (Kd.R_ne HO160.out BK145.out (by decide)))) _).trans (((cell_far (p := ⟨gb145, _, none⟩) (by first | exact Kd.own_blk (Kd.R_ne HO160.out BK145.out (by decide)) | (rw [add_block]; exact Kd.own_blk (Kd.R_ne HO160.out BK145.out (by decide))) | (show (Addr.add _ _).block ≠ _; rw [add_block]; exact Kd.own_blk (Kd.R_ne HO160.out BK145.out (by decide))) | (dsimp only; exact Kd.own_blk (Kd.R_ne HO160.out BK145.out (by decide)))) _).trans (((cell_far (p := ⟨gb145, _, none⟩) (by first | exact Kd.own_blk (Kd.R_ne HO160.out BK145.out (by decide)) | (rw [add_block]; exact Kd.own_blk (Kd.R_ne HO160.out BK145.out (by decide))) | (show (Addr.add _ _).block ≠ _; rw [add_block]; exact Kd.own_blk (Kd.R_ne HO160.out BK145.out (by decide))) | (dsimp only; exact Kd.own_blk (Kd.R_ne HO160.out BK145.out (by decide)))) _).trans (hHeld.2.2.1)))))))), ((cell_far (p := ⟨gb145, _, none⟩) (by first | exact Kd.own_blk (Kd.R_ne HO148.out BK145.out (by decide)) | (rw [add_block]; exact Kd.own_blk (Kd.R_ne HO148.out BK145.out (by decide))) | (show (Addr.add _ _).block ≠ _; rw [add_block]; exact Kd.own_blk (Kd.R_ne HO148.out BK145.out (by decide))) | (dsimp only; exact Kd.own_blk (Kd.R_ne HO148.out BK145.out (by decide)))) _).trans (((cell_far (p := ⟨gb145, _, none⟩) (by first | exact Kd.own_blk (Kd.R_ne HO148.out BK145.out (by decide)) | (rw [add_block]; exact Kd.own_blk (Kd.R_ne HO148.out BK145.out (by decide))) | (show (Addr.add _ _).block ≠ _; rw [add_block]; exact Kd.own_blk (Kd.R_ne HO148.out BK145.out (by decide))) | (dsimp only; exact Kd.own_blk (Kd.R_ne HO148.out BK145.out (by decide)))) _).trans (((cell_far (p := ⟨gb145, _, none⟩) (by first | exact Kd.own_blk (Kd.R_ne HO148.out BK145.out (by decide)) | (rw [add_block]; exact Kd.own_blk (Kd.R_ne HO148.out BK145.out (by decide))) | (show (Addr.add _ _).block ≠ _; rw [add_block]; exact Kd.own_blk (Kd.R_ne HO148.out BK145.out (by decide))) | (dsimp only; exact Kd.own_blk (Kd.R_ne HO148.out BK145.out (by decide)))) _).trans (((cell_far (p := ⟨gb145, _, none⟩) (by first | exact Kd.own_blk (Kd.R_ne HO148.out BK145.out (by decide)) | (rw [add_block]; exact Kd.own_blk (Kd.R_ne HO148.out BK145.out (by decide))) | (show (Addr.add _ _).block ≠ _; rw [add_block]; exact Kd.own_blk (Kd.R_ne HO148.out BK145.out (by decide))) | (dsimp only; exact Kd.own_blk (Kd.R_ne HO148.out BK145.out (by decide)))) _).trans (hHeld.2.2.2))))))))⟩ (fun hHeld => ?_)
           clear hK K
           refine done_ (done_of HT_.out (by kernel_rfl)) ?_
           try go_wp2
           refine bodyPost_ret (results_cc rfl _ _ gb144 gb145 51 28 #[.slice none 0 0, .slice none 0 0] #[.int .i64 18, .string (rdOf ByteArray.empty t146 (rd t158 0)), .int .i64 0, .int .i64 0] (0, 0) (0, 0) _ _ rfl (kf BK144) Try.underlying51 rfl (by kernel_rfl) rfl (kf BK145) Try.underlying28 rfl (by kernel_rfl)) rfl ?_
           exact ⟨_, _, by first | rfl | (simp [errW_none, errW_some] <;> rfl) | (simp [*, errW_none, errW_some] <;> rfl), by first | exact Kd.R_nil _ _ _ _ _ | exact Kd.N_nil _ _ _ _ _ | exact Kd.V_nil _ _ _ _ _ | exact Kd.Q_nil _ _ _ _ _ | exact Kd.S_nil _ _ _ _ _, by first | exact Kd.S_nil _ _ _ _ _ | exact Kd.N_nil _ _ _ _ _ | exact Kd.V_nil _ _ _ _ _ | exact Kd.Q_nil _ _ _ _ _ | exact Kd.R_nil _ _ _ _ _, hh HB⟩
         · rw [if_neg c8] at H
           exact absurd H (by simp)
       · rw [if_neg c7] at H
         exact absurd H (by simp)
     · rw [if_neg c6] at H
       exact absurd H (by simp)
   · rw [if_neg c5] at H
     have c5b0 : decide (0 < (t158.length : Int)) = false := decide_eq_false c5
     have c5b1 : decide (0 < t158.length) = false := decide_eq_false (by omega)
     clear c5
     simp only [Option.some.injEq, Prod.mk.injEq] at H
     obtain ⟨rfl, rfl, rfl, rfl, rfl, rfl⟩ := H
     go_enter Try.func24, Try.ntmps24
     go_wp2_with (first | ((with_reducible refine gate_dst (N := 2) rfl ?_); refine box_event ?hg (N := 2) ?hd (cs := #[.slice none 0 0, .slice none 0 0]) (t := 51) ?hr ?_; (case hd => rfl); (case hg => rfl); (case hr => first | (go_simp; done) | (go_simp; rfl)); intro gb144 hg w32 hbox hb; have BK144 := aM hbox; have GW144 := gs hg HB; have GE144 := gs hg HB; replace HB := bs HB hb; clear hb hbox hg) | ((with_reducible refine gate_dst (N := 3) rfl ?_); refine box_event ?hg (N := 3) ?hd (cs := #[.int .i64 0, .string (⟨#[]⟩ : ByteArray), .int .i64 0, .int .i64 0]) (t := 28) ?hr ?_; (case hd => rfl); (case hg => rfl); (case hr => first | (go_simp; done) | (go_simp; rfl)); intro gb145 hg w33 hbox hb; have BK145 := aM hbox; have GW145 := gs hg HB; have GE145 := gs hg HB; have NB144_145 := nl hg BK144; have NB145_144 := nr hg BK144; replace BK144 := kb BK144 hb; replace HB := bs HB hb; clear hb hbox hg) | ((with_reducible refine gate_callee (f := 34) rfl ?_); refine gL (some 9) rfl rfl Try.func34 (by kernel_rfl) rfl #[.slice A0 l0.length c0] rfl ?_; (with_reducible refine (modgraph_made.calls _ _ l0 t146 t149 t152 t153 t154 t155 _ ?side1 ?side2 A2.out).mono ?_); (case side1 => exact cb HR0 HB); (case side2 => exact HC0.out); rintro e w34 ⟨v147, v150, rfl, ho0, ho1, hb⟩; refine ⟨_, rfl, ?_⟩; have HO148 := aM (Kd.R_lower ho0 (below_size (hh HB))); have HO151 := aM (Kd.S_lower ho1 (below_size (hh HB))); replace BK144 := kb BK144 hb; replace BK145 := kb BK145 hb; replace HB := bs HB hb; (try clear hb); (try clear hb2); (try clear hk); (try clear hi); (try clear ho0); (try clear ho1)) | ((with_reducible refine gate_dst (N := 4) rfl ?_); refine box_event ?hg (N := 4) ?hd (cs := #[.slice none 0 0, .slice none 0 0]) (t := 51) ?hr ?_; (case hd => rfl); (case hg => rfl); (case hr => first | (go_simp; done) | (go_simp; rfl)); intro gb156 hg w35 hbox hb; have BK156 := aM hbox; have GW156 := gs hg HB; have GE156 := gs hg HB; have NB144_156 := nl hg BK144; have NB156_144 := nr hg BK144; have NB145_156 := nl hg BK145; have NB156_145 := nr hg BK145; replace HO148 := rb HO148 hb; replace HO151 := sb HO151 hb; replace BK144 := kb BK144 hb; replace BK145 := kb BK145 hb; replace HB := bs HB hb; clear hb hbox hg) | ((with_reducible refine gate_dst (N := 5) rfl ?_); refine box_event ?hg (N := 5) ?hd (cs := #[.int .i64 0, .string (⟨#[]⟩ : ByteArray), .int .i64 0, .int .i64 0]) (t := 28) ?hr ?_; (case hd => rfl); (case hg => rfl); (case hr => first | (go_simp; done) | (go_simp; rfl)); intro gb157 hg w36 hbox hb; have BK157 := aM hbox; have GW157 := gs hg HB; have GE157 := gs hg HB; have NB144_157 := nl hg BK144; have NB157_144 := nr hg BK144; have NB145_157 := nl hg BK145; have NB157_145 := nr hg BK145; have NB156_157 := nl hg BK156; have NB157_156 := nr hg BK156; replace HO148 := rb HO148 hb; replace HO151 := sb HO151 hb; replace BK144 := kb BK144 hb; replace BK145 := kb BK145 hb; replace BK156 := kb BK156 hb; replace HB := bs HB hb; clear hb hbox hg; obtain ⟨Ao37, co37, eo37⟩ := Kd.R_slice HO148.out; subst eo37; have hnb38 := NB156_144.out; have hnc38 := NB144_156.out; have hnb39 := NB156_145.out; have hnc39 := NB145_156.out; have hnb40 := NB156_157.out; have hnc40 := NB157_156.out; obtain ⟨hcz41_0, hcz41_1⟩ := cz2 BK156; obtain ⟨hfz41_0, hfz41_1⟩ := fz2 BK156; obtain ⟨Ao42, co42, eo42⟩ := Kd.S_slice HO151.out; subst eo42; have hnb43 := NB157_144.out; have hnc43 := NB144_157.out; have hnb44 := NB157_145.out; have hnc44 := NB145_157.out; obtain ⟨hcz45_0, hcz45_1, hcz45_2, hcz45_3⟩ := cz BK157; obtain ⟨hfz45_0, hfz45_1, hfz45_2, hfz45_3⟩ := fz BK157) | ((with_reducible refine gate_callee (f := 35) rfl ?_); refine gL (some 18) rfl rfl Try.func35 (by kernel_rfl) rfl #[.agg #[.slice Ao37 t146.length co37, .slice Ao42 t149.length co42]] rfl ?_; (with_reducible refine (modgraph_program_cycle.calls k _ _ t146 _ _ t149 t158 _ ?side1 ?side2 ?side3 ?side4 A4.out).mono ?_); (case side1 => refine (Kd.R_reads' (e := 9) (base := w.heap.size) (ok := fun k_ => True) (n := t146.length) (c := co37) ?_).2.2; exact (by (with_reducible repeat (first | apply Kd.R_alloc | apply Kd.R_drewN | apply Kd.R_drew)); exact (rf24 HO148 BK156 (by decide) BK157 (by decide)))); (case side2 => exact (Kd.R_reads' HO148.out).2.1); (case side3 => refine (Kd.S_reads' (e := 55) (base := w.heap.size) (ok := fun k_ => True) (n := t149.length) (c := co42) ?_).2.2; exact (by (with_reducible repeat (first | apply Kd.S_alloc | apply Kd.S_drewN | apply Kd.S_drew)); exact (sf24 HO151 BK156 (by decide) BK157 (by decide)))); (case side4 => exact (Kd.S_reads' HO151.out).2.1); rintro e w46 ⟨v159, rfl, ho0, hb⟩; refine ⟨_, rfl, ?_⟩; have HO160 := aM (Kd.R_lower ho0 (below_size (hh HB))); replace HO148 := aM (Kd.R_below (by (with_reducible repeat (first | apply Kd.R_alloc | apply Kd.R_drewN | apply Kd.R_drew)); exact (rf24 HO148 BK156 (by decide) BK157 (by decide))) hb); replace HO151 := aM (Kd.S_elder' (by (with_reducible repeat (first | apply Kd.S_alloc | apply Kd.S_drewN | apply Kd.S_drew)); exact (sf24 HO151 BK156 (by decide) BK157 (by decide))) (Kd.R_base ho0) hb); replace BK144 := aM (blk_below (g := gb144) (o := .cells #[.slice none 0 0, .slice none 0 0] 51 (0, 0)) (kf BK144) hb); replace BK145 := aM (blk_below (g := gb145) (o := .cells #[.int .i64 0, .string (⟨#[]⟩ : ByteArray), .int .i64 0, .int .i64 0] 28 (0, 0)) (kf BK145) hb); replace BK156 := aM (blk_below (g := gb156) (o := .cells #[.slice Ao37 t146.length co37, .slice Ao42 t149.length co42] 51 (0, 0)) (kf BK156) hb); replace BK157 := aM (blk_below (g := gb157) (o := .cells #[.int .i64 t152, .string t153, .int .i64 t154, .int .i64 t155] 28 (0, 0)) (kf BK157) hb); replace HB := bs HB hb; (try clear hb); (try clear hb2); (try clear hk); (try clear hi); (try clear ho0); obtain ⟨Ao47, co47, eo47⟩ := Kd.R_slice HO160.out; subst eo47; obtain ⟨hcz48_0, hcz48_1⟩ := cz2 BK156; obtain ⟨hfz48_0, hfz48_1⟩ := fz2 BK156; have hnb49 := NB144_145.out; have hnc49 := NB145_144.out; obtain ⟨hcz50_0, hcz50_1⟩ := cz2 BK144; obtain ⟨hfz50_0, hfz50_1⟩ := fz2 BK144; obtain ⟨hcz51_0, hcz51_1, hcz51_2, hcz51_3⟩ := cz BK145; obtain ⟨hfz51_0, hfz51_1, hfz51_2, hfz51_3⟩ := fz BK145))
     refine bodyPost_ret (results_cc rfl _ _ gb144 gb145 51 28 #[.slice Ao37 t146.length co37, .slice Ao42 t149.length co42] #[.int .i64 0, .string (⟨#[]⟩ : ByteArray), .int .i64 0, .int .i64 0] (0, 0) (0, 0) _ _ rfl (kf BK144) Try.underlying51 rfl (by kernel_rfl) rfl (kf BK145) Try.underlying28 rfl (by kernel_rfl)) rfl ?_
     exact ⟨_, _, by first | rfl | (simp [errW_none, errW_some] <;> rfl) | (simp [*, errW_none, errW_some] <;> rfl), by (with_reducible repeat (first | apply Kd.R_alloc | apply Kd.R_drewN | apply Kd.R_drew)); exact Kd.R_mono (Kd.R_far (p := ⟨gb145, 3, none⟩) (Kd.R_far (p := ⟨gb145, 2, none⟩) (Kd.R_far (p := ⟨gb145, 1, none⟩) (Kd.R_far (p := ⟨gb145, 0, none⟩) (Kd.R_far (p := ⟨gb144, 1, none⟩) (Kd.R_far (p := ⟨gb144, 0, none⟩) (Kd.R_types (Kd.R_types HO148.out BK144.out (by decide)) BK145.out (by decide)) (fun _ hk => hk.1.2) (.slice Ao37 t146.length co37)) (fun _ hk => hk.1.2) (.slice Ao42 t149.length co42)) (fun _ hk => hk.2) (.int .i64 0)) (fun _ hk => hk.2) (.string (⟨#[]⟩ : ByteArray))) (fun _ hk => hk.2) (.int .i64 0)) (fun _ hk => hk.2) (.int .i64 0)) (fun _ hk => trivial), by (with_reducible repeat (first | apply Kd.S_alloc | apply Kd.S_drewN | apply Kd.S_drew)); exact Kd.S_mono (Kd.S_far (p := ⟨gb145, 3, none⟩) (Kd.S_far (p := ⟨gb145, 2, none⟩) (Kd.S_far (p := ⟨gb145, 1, none⟩) (Kd.S_far (p := ⟨gb145, 0, none⟩) (Kd.S_far (p := ⟨gb144, 1, none⟩) (Kd.S_far (p := ⟨gb144, 0, none⟩) (Kd.S_types (Kd.S_types HO151.out BK144.out (by decide)) BK145.out (by decide)) (fun _ hk => hk.1.2) (.slice Ao37 t146.length co37)) (fun _ hk => hk.1.2) (.slice Ao42 t149.length co42)) (fun _ hk => hk.2) (.int .i64 0)) (fun _ hk => hk.2) (.string (⟨#[]⟩ : ByteArray))) (fun _ hk => hk.2) (.int .i64 0)) (fun _ hk => hk.2) (.int .i64 0)) (fun _ hk => trivial), hh HB⟩
 · rw [if_neg c3] at H
   have c3b0 : (t152 == 0) = false := beq_eq_false_iff_ne.mpr c3
   have c3b1 : (t152 != 0) = true := bne_iff_ne.mpr c3
   simp only [Option.some.injEq, Prod.mk.injEq] at H
   obtain ⟨rfl, rfl, rfl, rfl, rfl, rfl⟩ := H
   go_enter Try.func24, Try.ntmps24
   try go_wp2_with (first | ((with_reducible refine gate_dst (N := 2) rfl ?_); refine box_event ?hg (N := 2) ?hd (cs := #[.slice none 0 0, .slice none 0 0]) (t := 51) ?hr ?_; (case hd => rfl); (case hg => rfl); (case hr => first | (go_simp; done) | (go_simp; rfl)); intro gb144 hg w52 hbox hb; have BK144 := aM hbox; have GW144 := gs hg HB; have GE144 := gs hg HB; replace HB := bs HB hb; clear hb hbox hg) | ((with_reducible refine gate_dst (N := 3) rfl ?_); refine box_event ?hg (N := 3) ?hd (cs := #[.int .i64 0, .string (⟨#[]⟩ : ByteArray), .int .i64 0, .int .i64 0]) (t := 28) ?hr ?_; (case hd => rfl); (case hg => rfl); (case hr => first | (go_simp; done) | (go_simp; rfl)); intro gb145 hg w53 hbox hb; have BK145 := aM hbox; have GW145 := gs hg HB; have GE145 := gs hg HB; have NB144_145 := nl hg BK144; have NB145_144 := nr hg BK144; replace BK144 := kb BK144 hb; replace HB := bs HB hb; clear hb hbox hg) | ((with_reducible refine gate_callee (f := 34) rfl ?_); refine gL (some 9) rfl rfl Try.func34 (by kernel_rfl) rfl #[.slice A0 l0.length c0] rfl ?_; (with_reducible refine (modgraph_made.calls _ _ l0 t146 t149 t152 t153 t154 t155 _ ?side1 ?side2 A2.out).mono ?_); (case side1 => exact cb HR0 HB); (case side2 => exact HC0.out); rintro e w54 ⟨v147, v150, rfl, ho0, ho1, hb⟩; refine ⟨_, rfl, ?_⟩; have HO148 := aM (Kd.R_lower ho0 (below_size (hh HB))); have HO151 := aM (Kd.S_lower ho1 (below_size (hh HB))); replace BK144 := kb BK144 hb; replace BK145 := kb BK145 hb; replace HB := bs HB hb; (try clear hb); (try clear hb2); (try clear hk); (try clear hi); (try clear ho0); (try clear ho1)) | ((with_reducible refine gate_dst (N := 4) rfl ?_); refine box_event ?hg (N := 4) ?hd (cs := #[.slice none 0 0, .slice none 0 0]) (t := 51) ?hr ?_; (case hd => rfl); (case hg => rfl); (case hr => first | (go_simp; done) | (go_simp; rfl)); intro gb156 hg w55 hbox hb; have BK156 := aM hbox; have GW156 := gs hg HB; have GE156 := gs hg HB; have NB144_156 := nl hg BK144; have NB156_144 := nr hg BK144; have NB145_156 := nl hg BK145; have NB156_145 := nr hg BK145; replace HO148 := rb HO148 hb; replace HO151 := sb HO151 hb; replace BK144 := kb BK144 hb; replace BK145 := kb BK145 hb; replace HB := bs HB hb; clear hb hbox hg) | ((with_reducible refine gate_dst (N := 5) rfl ?_); refine box_event ?hg (N := 5) ?hd (cs := #[.int .i64 0, .string (⟨#[]⟩ : ByteArray), .int .i64 0, .int .i64 0]) (t := 28) ?hr ?_; (case hd => rfl); (case hg => rfl); (case hr => first | (go_simp; done) | (go_simp; rfl)); intro gb157 hg w56 hbox hb; have BK157 := aM hbox; have GW157 := gs hg HB; have GE157 := gs hg HB; have NB144_157 := nl hg BK144; have NB157_144 := nr hg BK144; have NB145_157 := nl hg BK145; have NB157_145 := nr hg BK145; have NB156_157 := nl hg BK156; have NB157_156 := nr hg BK156; replace HO148 := rb HO148 hb; replace HO151 := sb HO151 hb; replace BK144 := kb BK144 hb; replace BK145 := kb BK145 hb; replace BK156 := kb BK156 hb; replace HB := bs HB hb; clear hb hbox hg; obtain ⟨Ao57, co57, eo57⟩ := Kd.R_slice HO148.out; subst eo57; have hnb58 := NB156_144.out; have hnc58 := NB144_156.out; have hnb59 := NB156_145.out; have hnc59 := NB145_156.out; have hnb60 := NB156_157.out; have hnc60 := NB157_156.out; obtain ⟨hcz61_0, hcz61_1⟩ := cz2 BK156; obtain ⟨hfz61_0, hfz61_1⟩ := fz2 BK156; obtain ⟨Ao62, co62, eo62⟩ := Kd.S_slice HO151.out; subst eo62; have hnb63 := NB157_144.out; have hnc63 := NB144_157.out; have hnb64 := NB157_145.out; have hnc64 := NB145_157.out; obtain ⟨hcz65_0, hcz65_1, hcz65_2, hcz65_3⟩ := cz BK157; obtain ⟨hfz65_0, hfz65_1, hfz65_2, hfz65_3⟩ := fz BK157))
   have n0_ : Aside0 (Kd.R Kd.string 9 ((((((w56.setCell ⟨gb156, 0, none⟩ (.slice Ao57 t146.length co57)).setCell ⟨gb156, 1, none⟩ (.slice Ao62 t149.length co62)).setCell ⟨gb157, 0, none⟩ (.int .i64 t152)).setCell ⟨gb157, 1, none⟩ (.string t153)).setCell ⟨gb157, 2, none⟩ (.int .i64 t154)).setCell ⟨gb157, 3, none⟩ (.int .i64 t155)) w.heap.size (fun _ => True) (.slice Ao57 t146.length co57) t146) := ⟨by (with_reducible repeat (first | apply Kd.R_alloc | apply Kd.R_drewN | apply Kd.R_drew)); exact Kd.R_mono (Kd.R_far (p := ⟨gb157, 3, none⟩) (Kd.R_far (p := ⟨gb157, 2, none⟩) (Kd.R_far (p := ⟨gb157, 1, none⟩) (Kd.R_far (p := ⟨gb157, 0, none⟩) (Kd.R_far (p := ⟨gb156, 1, none⟩) (Kd.R_far (p := ⟨gb156, 0, none⟩) (Kd.R_types (Kd.R_types HO148.out BK156.out (by decide)) BK157.out (by decide)) (fun _ hk => hk.1.2) (.slice Ao57 t146.length co57)) (fun _ hk => hk.1.2) (.slice Ao62 t149.length co62)) (fun _ hk => hk.2) (.int .i64 t152)) (fun _ hk => hk.2) (.string t153)) (fun _ hk => hk.2) (.int .i64 t154)) (fun _ hk => hk.2) (.int .i64 t155)) (fun _ hk => trivial)⟩
   have n1_ : Aside0 (Kd.S (Kd.slice 3 (Kd.int .i64)) 55 ((((((w56.setCell ⟨gb156, 0, none⟩ (.slice Ao57 t146.length co57)).setCell ⟨gb156, 1, none⟩ (.slice Ao62 t149.length co62)).setCell ⟨gb157, 0, none⟩ (.int .i64 t152)).setCell ⟨gb157, 1, none⟩ (.string t153)).setCell ⟨gb157, 2, none⟩ (.int .i64 t154)).setCell ⟨gb157, 3, none⟩ (.int .i64 t155)) w.heap.size (fun _ => True) (.slice Ao62 t149.length co62) t149) := ⟨by (with_reducible repeat (first | apply Kd.S_alloc | apply Kd.S_drewN | apply Kd.S_drew)); exact Kd.S_mono (Kd.S_far (p := ⟨gb157, 3, none⟩) (Kd.S_far (p := ⟨gb157, 2, none⟩) (Kd.S_far (p := ⟨gb157, 1, none⟩) (Kd.S_far (p := ⟨gb157, 0, none⟩) (Kd.S_far (p := ⟨gb156, 1, none⟩) (Kd.S_far (p := ⟨gb156, 0, none⟩) (Kd.S_types (Kd.S_types HO151.out BK156.out (by decide)) BK157.out (by decide)) (fun _ hk => hk.1.2) (.slice Ao57 t146.length co57)) (fun _ hk => hk.1.2) (.slice Ao62 t149.length co62)) (fun _ hk => hk.2) (.int .i64 t152)) (fun _ hk => hk.2) (.string t153)) (fun _ hk => hk.2) (.int .i64 t154)) (fun _ hk => hk.2) (.int .i64 t155)) (fun _ hk => trivial)⟩
   have n2_ : Aside0 (((((((w56.setCell ⟨gb156, 0, none⟩ (.slice Ao57 t146.length co57)).setCell ⟨gb156, 1, none⟩ (.slice Ao62 t149.length co62)).setCell ⟨gb157, 0, none⟩ (.int .i64 t152)).setCell ⟨gb157, 1, none⟩ (.string t153)).setCell ⟨gb157, 2, none⟩ (.int .i64 t154)).setCell ⟨gb157, 3, none⟩ (.int .i64 t155)).heap[gb144]? = some (.cells #[.slice none 0 0, .slice none 0 0] 51 (0, 0))) := ⟨kf BK144⟩
   have n3_ : Aside0 (((((((w56.setCell ⟨gb156, 0, none⟩ (.slice Ao57 t146.length co57)).setCell ⟨gb156, 1, none⟩ (.slice Ao62 t149.length co62)).setCell ⟨gb157, 0, none⟩ (.int .i64 t152)).setCell ⟨gb157, 1, none⟩ (.string t153)).setCell ⟨gb157, 2, none⟩ (.int .i64 t154)).setCell ⟨gb157, 3, none⟩ (.int .i64 t155)).heap[gb145]? = some (.cells #[.int .i64 0, .string (⟨#[]⟩ : ByteArray), .int .i64 0, .int .i64 0] 28 (0, 0))) := ⟨kf BK145⟩
   have n4_ : Aside0 (((((((w56.setCell ⟨gb156, 0, none⟩ (.slice Ao57 t146.length co57)).setCell ⟨gb156, 1, none⟩ (.slice Ao62 t149.length co62)).setCell ⟨gb157, 0, none⟩ (.int .i64 t152)).setCell ⟨gb157, 1, none⟩ (.string t153)).setCell ⟨gb157, 2, none⟩ (.int .i64 t154)).setCell ⟨gb157, 3, none⟩ (.int .i64 t155)).heap[gb156]? = some (.cells #[.slice Ao57 t146.length co57, .slice Ao62 t149.length co62] 51 (0, 0))) := ⟨kf BK156⟩
   have n5_ : Aside0 (((((((w56.setCell ⟨gb156, 0, none⟩ (.slice Ao57 t146.length co57)).setCell ⟨gb156, 1, none⟩ (.slice Ao62 t149.length co62)).setCell ⟨gb157, 0, none⟩ (.int .i64 t152)).setCell ⟨gb157, 1, none⟩ (.string t153)).setCell ⟨gb157, 2, none⟩ (.int .i64 t154)).setCell ⟨gb157, 3, none⟩ (.int .i64 t155)).heap[gb157]? = some (.cells #[.int .i64 t152, .string t153, .int .i64 t154, .int .i64 t155] 28 (0, 0))) := ⟨kf BK157⟩
   have n6_ : Aside0 (Below w.heap.size w ((((((w56.setCell ⟨gb156, 0, none⟩ (.slice Ao57 t146.length co57)).setCell ⟨gb156, 1, none⟩ (.slice Ao62 t149.length co62)).setCell ⟨gb157, 0, none⟩ (.int .i64 t152)).setCell ⟨gb157, 1, none⟩ (.string t153)).setCell ⟨gb157, 2, none⟩ (.int .i64 t154)).setCell ⟨gb157, 3, none⟩ (.int .i64 t155))) := ⟨hh HB⟩
   (try clear HO148)
   (try clear HO151)
   (try clear BK144)
   (try clear BK145)
   (try clear BK156)
   (try clear BK157)
   (try clear HB)
   generalize ((((((w56.setCell ⟨gb156, 0, none⟩ (.slice Ao57 t146.length co57)).setCell ⟨gb156, 1, none⟩ (.slice Ao62 t149.length co62)).setCell ⟨gb157, 0, none⟩ (.int .i64 t152)).setCell ⟨gb157, 1, none⟩ (.string t153)).setCell ⟨gb157, 2, none⟩ (.int .i64 t154)).setCell ⟨gb157, 3, none⟩ (.int .i64 t155)) = w66 at n0_ n1_ n2_ n3_ n4_ n5_ n6_ ⊢
   have HO148 := n0_
   have HO151 := n1_
   have BK144 := n2_
   have BK145 := n3_
   have BK156 := n4_
   have BK157 := n5_
   have HB := n6_
   clear n0_ n1_ n2_ n3_ n4_ n5_ n6_
   replace HO148 := aM (Kd.R_drew HO148.out)
   replace HO151 := aM (Kd.S_drew HO151.out)
   replace BK144 := aM (blk_drew BK144.out)
   replace BK145 := aM (blk_drew BK145.out)
   replace BK156 := aM (blk_drew BK156.out)
   replace BK157 := aM (blk_drew BK157.out)
   replace HB := aM (below_drew1 HB.out)
   refine start_ (n := 4) (S := fun w' => w'.cell? ⟨gb157, 0, none⟩ = some (.int .i64 t152) ∧ w'.cell? ⟨gb157, 1, none⟩ = some (.string t153) ∧ w'.cell? ⟨gb157, 2, none⟩ = some (.int .i64 t154) ∧ w'.cell? ⟨gb157, 3, none⟩ = some (.int .i64 t155)) (ds := []) #[false, false, false, false] (by kernel_rfl) rfl rfl ⟨(blk_cell BK157.out 0).trans rfl, (blk_cell BK157.out 1).trans rfl, (blk_cell BK157.out 2).trans rfl, (blk_cell BK157.out 3).trans rfl⟩ (fun hHeld => ?_)
   generalize w66.drew = w67 at HO148 HO151 BK144 BK145 BK156 BK157 HB hHeld ⊢
   refine pure_ (i := 0) (N := some 15) (v := ?_) (a' := ?_) #[true, false, false, false] rfl rfl (by kernel_rfl) (fun _ _ _ h => h) (Or.inl ⟨by rfl, ?_⟩) ?_ ?_
   rotate_left
   · intro w'
     go_simp
     with_reducible rfl
   rotate_left
   · simp only [Act.put, sA, sZ, sS, i64_w, i32_w]
     rfl
   refine take_ (i := 1) (N := some 16) (v := ?_) (a' := ?_) #[true, true, false, false] rfl rfl (by kernel_rfl) (fun _ _ _ h => h) (Or.inl ⟨by rfl, ?_⟩) hHeld ?_ ?_
   rotate_left
   · rintro w' ⟨s0, s1, s2, s3⟩
     go_simp
     with_reducible rfl
   rotate_left
   · simp only [Act.put, sA, sZ, sS, i64_w, i32_w]
     rfl
   refine one_ (i := 2) (N := none) #[true, true, true, false] rfl rfl (by kernel_rfl) (by decide) (fun K hK => ?_)
   have hs68 : w67.cell? ⟨gb144, 0, none⟩ = some (.slice none 0 0) := (blk_cell BK144.out 0).trans rfl
   have hfs68 := blk_frozen BK144.out 0
   have hns68_1 := NB145_144.out
   have hns68_2 := NB156_144.out
   have hns68_3 := NB157_144.out
   have hms68_1 := NB144_145.out
   have hms68_2 := NB144_156.out
   have hms68_3 := NB144_157.out
   have hs69 : w67.cell? ⟨gb144, 1, none⟩ = some (.slice none 0 0) := (blk_cell BK144.out 1).trans rfl
   have hfs69 := blk_frozen BK144.out 1
   have hns69_1 := NB145_144.out
   have hns69_2 := NB156_144.out
   have hns69_3 := NB157_144.out
   have hms69_1 := NB144_145.out
   have hms69_2 := NB144_156.out
   have hms69_3 := NB144_157.out
   refine skip_ (w1 := ?_) (by rfl) rfl ?_ ?_
   rotate_left
   · go_simp
     rfl
   refine hK.out _ _ ⟨((cell_far (p := ⟨gb144, _, none⟩) NB157_144.out _).trans (((cell_far (p := ⟨gb144, _, none⟩) NB157_144.out _).trans (hHeld.1)))), ((cell_far (p := ⟨gb144, _, none⟩) NB157_144.out _).trans (((cell_far (p := ⟨gb144, _, none⟩) NB157_144.out _).trans (hHeld.2.1)))), ((cell_far (p := ⟨gb144, _, none⟩) NB157_144.out _).trans (((cell_far (p := ⟨gb144, _, none⟩) NB157_144.out _).trans (hHeld.2.2.1)))), ((cell_far (p := ⟨gb144, _, none⟩) NB157_144.out _).trans (((cell_far (p := ⟨gb144, _, none⟩) NB157_144.out _).trans (hHeld.2.2.2))))⟩ (fun hHeld => ?_)
   clear hK K
   refine one_ (i := 3) (N := none) #[true, true, true, true] rfl rfl (by kernel_rfl) (by decide) (fun K hK => ?_)
   have hs70 : w67.cell? ⟨gb145, 0, none⟩ = some (.int .i64 0) := (blk_cell BK145.out 0).trans rfl
   have hfs70 := blk_frozen BK145.out 0
   have hns70_0 := NB144_145.out
   have hns70_2 := NB156_145.out
   have hns70_3 := NB157_145.out
   have hms70_0 := NB145_144.out
   have hms70_2 := NB145_156.out
   have hms70_3 := NB145_157.out
   have hs71 : w67.cell? ⟨gb145, 1, none⟩ = some (.string (⟨#[]⟩ : ByteArray)) := (blk_cell BK145.out 1).trans rfl
   have hfs71 := blk_frozen BK145.out 1
   have hns71_0 := NB144_145.out
   have hns71_2 := NB156_145.out
   have hns71_3 := NB157_145.out
   have hms71_0 := NB145_144.out
   have hms71_2 := NB145_156.out
   have hms71_3 := NB145_157.out
   have hs72 : w67.cell? ⟨gb145, 2, none⟩ = some (.int .i64 0) := (blk_cell BK145.out 2).trans rfl
   have hfs72 := blk_frozen BK145.out 2
   have hns72_0 := NB144_145.out
   have hns72_2 := NB156_145.out
   have hns72_3 := NB157_145.out
   have hms72_0 := NB145_144.out
   have hms72_2 := NB145_156.out
   have hms72_3 := NB145_157.out
   have hs73 : w67.cell? ⟨gb145, 3, none⟩ = some (.int .i64 0) := (blk_cell BK145.out 3).trans rfl
   have hfs73 := blk_frozen BK145.out 3
   have hns73_0 := NB144_145.out
   have hns73_2 := NB156_145.out
   have hns73_3 := NB157_145.out
   have hms73_0 := NB145_144.out
   have hms73_2 := NB145_156.out
   have hms73_3 := NB145_157.out
   refine skip_ (w1 := ?_) (by rfl) rfl ?_ ?_
   rotate_left
   · go_simp
     rfl
   refine hK.out _ _ ⟨((cell_far (p := ⟨gb145, _, none⟩) NB157_145.out _).trans (((cell_far (p := ⟨gb145, _, none⟩) NB157_145.out _).trans (((cell_far (p := ⟨gb145, _, none⟩) NB157_145.out _).trans (((cell_far (p := ⟨gb145, _, none⟩) NB157_145.out _).trans (hHeld.1)))))))), ((cell_far (p := ⟨gb145, _, none⟩) NB157_145.out _).trans (((cell_far (p := ⟨gb145, _, none⟩) NB157_145.out _).trans (((cell_far (p := ⟨gb145, _, none⟩) NB157_145.out _).trans (((cell_far (p := ⟨gb145, _, none⟩) NB157_145.out _).trans (hHeld.2.1)))))))), ((cell_far (p := ⟨gb145, _, none⟩) NB157_145.out _).trans (((cell_far (p := ⟨gb145, _, none⟩) NB157_145.out _).trans (((cell_far (p := ⟨gb145, _, none⟩) NB157_145.out _).trans (((cell_far (p := ⟨gb145, _, none⟩) NB157_145.out _).trans (hHeld.2.2.1)))))))), ((cell_far (p := ⟨gb145, _, none⟩) NB157_145.out _).trans (((cell_far (p := ⟨gb145, _, none⟩) NB157_145.out _).trans (((cell_far (p := ⟨gb145, _, none⟩) NB157_145.out _).trans (((cell_far (p := ⟨gb145, _, none⟩) NB157_145.out _).trans (hHeld.2.2.2))))))))⟩ (fun hHeld => ?_)
   clear hK K
   refine done_ (by kernel_rfl) ?_
   try go_wp2
   refine bodyPost_ret (results_cc rfl _ _ gb144 gb145 51 28 #[.slice none 0 0, .slice none 0 0] #[.int .i64 t152, .string t153, .int .i64 t154, .int .i64 t155] (0, 0) (0, 0) _ _ rfl (kf BK144) Try.underlying51 rfl (by kernel_rfl) rfl (kf BK145) Try.underlying28 rfl (by kernel_rfl)) rfl ?_
   exact ⟨_, _, by first | rfl | (simp [errW_none, errW_some] <;> rfl) | (simp [*, errW_none, errW_some] <;> rfl), by first | exact Kd.R_nil _ _ _ _ _ | exact Kd.N_nil _ _ _ _ _ | exact Kd.V_nil _ _ _ _ _ | exact Kd.Q_nil _ _ _ _ _ | exact Kd.S_nil _ _ _ _ _, by first | exact Kd.S_nil _ _ _ _ _ | exact Kd.N_nil _ _ _ _ _ | exact Kd.V_nil _ _ _ _ _ | exact Kd.Q_nil _ _ _ _ _ | exact Kd.R_nil _ _ _ _ _, hh HB⟩
end Go.Proofs.Ytmadhaccjmakdaa.P
namespace Go.Proofs.Ytmadhaccjmakdaa.P
open Go.RowKit Go.Proofs.YtmadhaccjmakdaaW.PrintWords Go.Proofs.YtmadhaccjmakdaaW.PrintLast Go.Proofs.YtmadhaccjmakdaaW.PrintMore
attribute [local go_sem] str_gtr str_leq str_geq max2_int min2_int max_two min_two max_three min_three max_four min_four
noncomputable def graph_Components.f (k : Nat) (l0_0 : List (List Int)) : Option ((List (List Int))) := (graph_valid.f k l0_0).bind fun t167 => (if t167 = true then ((graph_ordered.f l0_0).bind fun t168 => (some t168)) else (some ([] : List (List Int))))
set_option maxHeartbeats 8000000 in
set_option maxRecDepth 100000 in
theorem graph_Components.calls (k : Nat) (A0_0 : Option Addr) (c0_0 : Nat) (l0_0 : List (List Int)) (r : List (List Int)) (w : World) (hr0_0 : Kd.C (Kd.slice 3 (Kd.int .i64)) w A0_0 l0_0.length l0_0) (hc0_0 : l0_0.length ≤ c0_0) (h : graph_Components.f k l0_0 = some r) :
 Calls Try.prog 25 #[.agg #[.slice A0_0 l0_0.length c0_0]] w fun e w' => ∃ v0_ : Value, e = .returned (v0_) ∧ Kd.V (Kd.slice 3 (Kd.int .i64)) 55 w' w.heap.size (fun k_ => (w.heap.size ≤ k_)) v0_ r ∧ Below w.heap.size w w' := by
 have hu49 := Try.underlying49
 have HR0_0 := aM hr0_0
 have HC0_0 := aM hc0_0
 clear hr0_0 hc0_0
 have HB := aM (Below.refl w.heap.size w)
 have H : ((graph_valid.f k l0_0).bind fun t167 => (if t167 = true then ((graph_ordered.f l0_0).bind fun t168 => (some t168)) else (some ([] : List (List Int))))) = some r := h
 clear h
 replace H := Option.bind_eq_some_iff.mp H
 obtain ⟨t167, A20, H⟩ := H
 replace H : (if t167 = true then ((graph_ordered.f l0_0).bind fun t168 => (some t168)) else (some ([] : List (List Int)))) = some r := H
 have A2 := aM A20
 clear A20
 by_cases c3 : t167 = true
 · subst c3
   have H1 : ((graph_ordered.f l0_0).bind fun t168 => (some t168)) = some r := by rw [if_pos rfl] at H; exact H
   clear H
   have H := H1
   clear H1
   replace H := Option.bind_eq_some_iff.mp H
   obtain ⟨t168, A40, H⟩ := H
   replace H : (some t168) = some r := H
   have A4 := aM A40
   clear A40
   obtain rfl := Option.some.inj H
   go_enter Try.func25, Try.ntmps25
   go_wp2_with (first | ((with_reducible refine gate_dst (N := 1) rfl ?_); refine box_event ?hg (N := 1) ?hd (cs := #[.slice A0_0 l0_0.length c0_0]) (t := 49) ?hr ?_; (case hd => rfl); (case hg => rfl); (case hr => first | (go_simp; done) | (go_simp; rfl)); intro gb166 hg w5 hbox hb; have BK166 := aM hbox; have GW166 := gs hg HB; have GE166 := gs hg HB; replace HB := bs HB hb; clear hb hbox hg; have hcz6_0 : w5.cell? ⟨gb166, 0, none⟩ = some (.slice A0_0 l0_0.length c0_0) := (blk_cell BK166.out 0).trans rfl; have hfz6_0 := blk_frozen BK166.out 0) | ((with_reducible refine gate_callee (f := 39) rfl ?_); refine gL (some 4) rfl rfl Try.func39 (by kernel_rfl) rfl #[.agg #[.slice A0_0 l0_0.length c0_0]] rfl ?_; (with_reducible refine (graph_valid.calls k _ _ l0_0 true _ ?side1 ?side2 A2.out).mono ?_); (case side1 => exact cb HR0_0 HB); (case side2 => exact HC0_0.out); rintro e w7 ⟨rfl, hb⟩; refine ⟨_, rfl, ?_⟩; replace BK166 := kb BK166 hb; replace HB := bs HB hb; (try clear hb); (try clear hb2); (try clear hk); (try clear hi); have hcz8_0 : w7.cell? ⟨gb166, 0, none⟩ = some (.slice A0_0 l0_0.length c0_0) := (blk_cell BK166.out 0).trans rfl; have hfz8_0 := blk_frozen BK166.out 0) | ((with_reducible refine gate_callee (f := 40) rfl ?_); refine gL (some 8) rfl rfl Try.func40 (by kernel_rfl) rfl #[.slice A0_0 l0_0.length c0_0] rfl ?_; (with_reducible refine (graph_ordered.calls _ _ l0_0 t168 _ ?side1 ?side2 A4.out).mono ?_); (case side1 => exact cb HR0_0 HB); (case side2 => exact HC0_0.out); rintro e w9 ⟨v169, rfl, ho0, hb⟩; refine ⟨_, rfl, ?_⟩; have HO170 := aM (Kd.V_lower (Kd.V_mono (ok' := fun k_ => (w.heap.size ≤ k_) ∧ k_ ≠ gb166) ho0 (fun k_ hk_ => ⟨(Nat.le_trans (below_size (hh HB)) hk_), (Kd.freshB (g := gb166) (o := .cells #[.slice A0_0 l0_0.length c0_0] 49 (0, 0)) (kk BK166) k_ hk_)⟩)) (below_size (hh HB))); replace BK166 := kb BK166 hb; replace HB := bs HB hb; (try clear hb); (try clear hb2); (try clear hk); (try clear hi); (try clear ho0)))
   go_ret
   exact ⟨_, by first | rfl | (simp [errW_none, errW_some] <;> rfl) | (simp [*, errW_none, errW_some] <;> rfl), by (with_reducible repeat (first | apply Kd.V_alloc | apply Kd.V_drewN | apply Kd.V_drew)); exact Kd.V_mono HO170.out (fun _ hk => hk.1), hh HB⟩
 · replace c3 := Bool.eq_false_iff.mpr c3
   subst c3
   have H1 : (some ([] : List (List Int))) = some r := by rw [if_neg (show ¬ (false = true) by decide)] at H; exact H
   clear H
   have H := H1
   clear H1
   obtain rfl := Option.some.inj H
   go_enter Try.func25, Try.ntmps25
   go_wp2_with (first | ((with_reducible refine gate_dst (N := 1) rfl ?_); refine box_event ?hg (N := 1) ?hd (cs := #[.slice A0_0 l0_0.length c0_0]) (t := 49) ?hr ?_; (case hd => rfl); (case hg => rfl); (case hr => first | (go_simp; done) | (go_simp; rfl)); intro gb166 hg w10 hbox hb; have BK166 := aM hbox; have GW166 := gs hg HB; have GE166 := gs hg HB; replace HB := bs HB hb; clear hb hbox hg; have hcz11_0 : w10.cell? ⟨gb166, 0, none⟩ = some (.slice A0_0 l0_0.length c0_0) := (blk_cell BK166.out 0).trans rfl; have hfz11_0 := blk_frozen BK166.out 0) | ((with_reducible refine gate_callee (f := 39) rfl ?_); refine gL (some 4) rfl rfl Try.func39 (by kernel_rfl) rfl #[.agg #[.slice A0_0 l0_0.length c0_0]] rfl ?_; (with_reducible refine (graph_valid.calls k _ _ l0_0 false _ ?side1 ?side2 A2.out).mono ?_); (case side1 => exact cb HR0_0 HB); (case side2 => exact HC0_0.out); rintro e w12 ⟨rfl, hb⟩; refine ⟨_, rfl, ?_⟩; replace BK166 := kb BK166 hb; replace HB := bs HB hb; (try clear hb); (try clear hb2); (try clear hk); (try clear hi)))
   go_ret
   exact ⟨_, by first | rfl | (simp [errW_none, errW_some] <;> rfl) | (simp [*, errW_none, errW_some] <;> rfl), (by first | exact Kd.V_nil _ _ _ _ _ | exact Kd.S_V (Kd.S_nil _ _ 0 _ _) | exact Kd.N_nil _ _ _ _ _ | exact Kd.V_nil _ _ _ _ _ | exact Kd.Q_nil _ _ _ _ _ | exact Kd.R_nil _ _ _ _ _), hh HB⟩
end Go.Proofs.Ytmadhaccjmakdaa.P
