/- lazyclaw46.LinkUnresolved returns true for every list of objects: no condition beside the statement's own. Part 1. -/
import Derived.Test.YthijephffgoieaaGreatDoorMU0
import Derived.Laws.StructEq
import Derived.Deep.AppendSrc
import Derived.Great.BuildSlice
import Derived.Laws.MakeOwn
set_option linter.unusedVariables false
set_option linter.unusedSimpArgs false
set_option maxHeartbeats 2000000
section
namespace Go.AM
open Go.RowKit
set_option linter.unusedVariables false
set_option linter.unusedSimpArgs false
variable {P : Program} {w : World} {I : Nat → Prop} {β : List (Option Loc)}

theorem wrap_in {x : Int} (h : inI x) : IntKind.i64.wrap x = x := IntWalk.i64_in x h
theorem wrap_u8 {x : Int} (h : 0 ≤ x ∧ x ≤ 255) : IntKind.u8.wrap x = x := by
  have e : IntKind.u8.wrap x = x % 256 := by simp [IntKind.wrap, IntKind.signed, IntKind.bits]
  rw [e]; omega
theorem eqG {op : BinOp} {t : TypeId} {x y : Operand} {a b : Value} (h1 : ¬ (a = .nilIface ∧ b = .nilIface)) (h2 : ¬ ∃ p q, a = .agg p ∧ b = .agg q) : (eqGuard op t x y a b).run P w = .ok () w := by
  unfold eqGuard
  cases a <;> cases b <;> first
    | exact absurd ⟨rfl, rfl⟩ h1
    | exact absurd ⟨_, _, rfl, rfl⟩ h2
    | (dsimp only; split <;> rfl)
theorem eq_bool {t : TypeId} (h : P.underlying t = some .bool) (a b : Bool) : (Op.equal t (.bool a) (.bool b)).run P w = .ok (a == b) w := by
  have e : Op.equal t (.bool a) (.bool b) = Op.equalIn (9999 + 1) t (.bool a) (.bool b) := rfl
  rw [e, Op.equalIn, Sem.run_bind, run_underlying h]
  rfl
set_option maxHeartbeats 1000000 in
theorem binV_sound {op : BinOp} {ty : TypeId} {x y : Operand} {a b v : Value} {p : Prop} (h : binV P ty op a b = some (p, v)) (hp : p) : (do eqGuard op ty x y a b; binOp op ty a b).run P w = .ok v w ∧ v.oneCell' = true := by
  unfold binV at h
  split at h
  all_goals first
    | (split at h
       · rename_i hk
         cases h
         subst hk
         refine ⟨?_, rfl⟩
         rw [Sem.run_bind, eqG (by simp) (by simp)]
         simp [binOp, Op.intCmp]
       · cases h)
    | cases h
  · refine ⟨?_, rfl⟩; rw [Sem.run_bind, eqG (by simp) (by simp)]; simp [binOp, Op.intArith, wrap_in hp]
  · refine ⟨?_, rfl⟩; rw [Sem.run_bind, eqG (by simp) (by simp)]; simp [binOp, Op.intArith, wrap_in hp]
  · refine ⟨?_, rfl⟩; rw [Sem.run_bind, eqG (by simp) (by simp)]; simp [binOp, Op.intArith, wrap_in hp]
  · refine ⟨?_, rfl⟩; rw [Sem.run_bind, eqG (by simp) (by simp)]; simp [binOp, Op.intArith, wrap_u8 hp]
  · refine ⟨?_, rfl⟩; rw [Sem.run_bind, eqG (by simp) (by simp)]; simp [binOp, Op.intArith, wrap_u8 hp]
  · refine ⟨?_, rfl⟩; rw [Sem.run_bind, eqG (by simp) (by simp)]; simp [binOp, Op.intDiv, hp]
  · refine ⟨?_, rfl⟩; rw [Sem.run_bind, eqG (by simp) (by simp)]; simp [binOp, Op.intDiv, hp.1, wrap_in hp.2]
  · refine ⟨?_, rfl⟩; rw [Sem.run_bind, eqG (by simp) (by simp)]
    rename_i a b
    have : ¬ (((a.size + b.size : Nat) : Int) > IntKind.i64.max) := by
      have h1 : IntKind.i64.max = 9223372036854775807 := by decide
      have h2 : ((a.size + b.size : Nat) : Int) ≤ maxI := hp
      rw [h1]; unfold maxI at h2; omega
    simp only [binOp, Op.stringOp, Result.andThen_ok, if_neg this, Sem.run_pure]
  · refine ⟨?_, rfl⟩; rw [Sem.run_bind, eqG (by simp) (by simp)]; simp [binOp, Op.stringOp]
  · refine ⟨?_, rfl⟩; rw [Sem.run_bind, eqG (by simp) (by simp)]; simp [binOp, Op.stringOp]
  · refine ⟨?_, rfl⟩; rw [Sem.run_bind, eqG (by simp) (by simp)]; simp [binOp, Op.stringOp]
  · refine ⟨?_, rfl⟩; rw [Sem.run_bind, eqG (by simp) (by simp)]; simp [binOp, Op.stringOp]
  · refine ⟨?_, rfl⟩; rw [Sem.run_bind, eqG (by simp) (by simp)]; simp [binOp, Op.stringOp]
  · refine ⟨?_, rfl⟩; rw [Sem.run_bind, eqG (by simp) (by simp)]; simp [binOp, Op.stringOp]
  · refine ⟨?_, rfl⟩; rw [Sem.run_bind, eqG (by simp) (by simp)]; simp [binOp, eq_bool (knT_bool hp)]
  · refine ⟨?_, rfl⟩; rw [Sem.run_bind, eqG (by simp) (by simp)]; simp [binOp, eq_bool (knT_bool hp)]
theorem eqT_eq {t : TypeId} {ks : List Kn} (h : eqT P t = some ks) : ∃ fs, P.underlying t = some (.struct fs) ∧ P.stoodInHeld t = false ∧ P.eqGuardType P.depth t = false ∧ flatF P 0 fs.toList = some ks := by
  unfold eqT at h
  split at h
  · rename_i fs hu
    split at h
    · rename_i hc
      exact ⟨fs, hu, hc.1, hc.2, h⟩
    · cases h
  · cases h
theorem scal_ag {t : TypeId} {kn : Kn} (h : knT P t = some kn) (hs : scal kn = true) : agT P t = some false := by
  unfold agT
  cases kn <;> simp only [scal, Bool.false_eq_true] at hs
  · rw [knT_str h]
  · rw [knT_int h]
  · rw [knT_bool h]
theorem keyEq_run {t : TypeId} {kn : Kn} {a b : Value} {r : Bool} (h : knT P t = some kn) (h1 : keyOk kn a = true) (h2 : keyEq kn a b = some r) (d : Nat) : (Op.equalIn (d + 1) t a b).run P w = .ok r w := by
  cases kn <;> cases a <;> simp only [keyOk, Bool.false_eq_true, decide_eq_true_eq] at h1 <;> cases b <;> simp only [keyEq, reduceCtorEq, Option.some.injEq] at h2
  · subst h2
    rw [run_equalIn_string w d t _ _ (knT_str h), beq_toListBytes]
  · subst h1
    split at h2
    · rename_i e
      subst e
      cases h2
      exact run_equalIn_int w d t _ _ _ _ (knT_int h)
    · cases h2
  · subst h2
    exact run_equalIn_bool' w d t _ _ (knT_bool h)
theorem flat_part {t : TypeId} {i : Nat} {us : Array Value} {u : Value} (h : agT P t = some false) (hu : us[i]? = some u) : (part t us i).run P w = .ok u w := by
  unfold part
  simp only [Sem.run_bind, run_isAgg h, Result.andThen_ok, Bool.false_eq_true, if_false, hu, Sem.run_pure]
theorem eqFields_run {us vs : Array Value} : ∀ {fs : List Field} {i : Nat} {ks : List Kn} {xs ys : List D} {b : Bool}, flatF P i fs = some ks → eqCells ks xs ys = some b → us.size = i + xs.length → vs.size = i + ys.length →
    (∀ (j : Nat) (x : D) (u : Value), xs[j]? = some x → us[i + j]? = some u → DRep w I x u) → (∀ (j : Nat) (x : D) (u : Value), ys[j]? = some x → vs[i + j]? = some u → DRep w I x u) → ∀ d, (Op.eqFields (d + 1) us vs fs).run P w = .ok b w
  | [], i, ks, xs, ys, b, hf, he, _, _, _, _, d => by
    cases hf
    match xs, ys, he with
    | [], [], he => rw [eqCells] at he; cases he; rfl
    | [], _ :: _, he => simp [eqCells] at he
    | _ :: _, _, he => simp [eqCells] at he
  | f :: fs, i, ks, xs, ys, b, hf, he, hu, hv, hx, hy, d => by
    unfold flatF at hf
    split at hf
    · rename_i hc
      obtain ⟨ho, hn⟩ := hc
      split at hf
      · rename_i kn l hk hl
        split at hf
        · rename_i hs
          cases hf
          match xs, ys, he, hu, hv, hx, hy with
          | [], _, he, _, _, _, _ => simp [eqCells] at he
          | .agg _ :: _, _, he, _, _, _, _ => simp [eqCells] at he
          | .lst _ :: _, _, he, _, _, _, _ => simp [eqCells] at he
          | .v _ :: _, [], he, _, _, _, _ => simp [eqCells] at he
          | .v _ :: _, .agg _ :: _, he, _, _, _, _ => simp [eqCells] at he
          | .v _ :: _, .lst _ :: _, he, _, _, _, _ => simp [eqCells] at he
          | .v x :: r, .v y :: q, he, hu, hv, hx, hy =>
            rw [eqCells] at he
            split at he
            · rename_i a c h1 h2 h3
              cases he
              have li : i < us.size := by simp at hu; omega
              have lj : i < vs.size := by simp at hv; omega
              have ui : us[i]? = some us[i] := Array.getElem?_eq_getElem li
              have vi : vs[i]? = some vs[i] := Array.getElem?_eq_getElem lj
              have ex : us[i] = x := by
                have := hx 0 _ _ rfl ui
                generalize us[i] = u at this
                cases this; rfl
              have ey : vs[i] = y := by
                have := hy 0 _ _ rfl vi
                generalize vs[i] = u at this
                cases this; rfl
              rw [ex] at ui
              rw [ey] at vi
              have hag := scal_ag hk hs
              rw [Op.eqFields, if_pos hn, ho]
              simp only [Sem.run_bind, flat_part hag ui, flat_part hag vi, Result.andThen_ok, keyEq_run (w := w) hk h1 h2 d]
              cases a
              · simp
              · simp only [Bool.not_true, Bool.false_eq_true, if_false, Bool.true_and]
                refine eqFields_run hl h3 (by simp at hu; omega) (by simp at hv; omega) (fun j x u h1 h2 => ?_) (fun j x u h1 h2 => ?_) d
                · exact hx (j + 1) x u (by simpa using h1) (by rw [show i + (j + 1) = i + 1 + j by omega]; exact h2)
                · exact hy (j + 1) x u (by simpa using h1) (by rw [show i + (j + 1) = i + 1 + j by omega]; exact h2)
            · cases he
        · cases hf
      · cases hf
    · cases hf
theorem eq_ptr {t e : TypeId} (h : P.underlying t = some (.pointer e)) (a : Addr) : (Op.equal t (.pointer (some a)) (.pointer none)).run P w = .ok false w := by
  have e' : Op.equal t (.pointer (some a)) (.pointer none) = Op.equalIn (9999 + 1) t (.pointer (some a)) (.pointer none) := rfl
  rw [e', Op.equalIn, Sem.run_bind, run_underlying h]
  rfl
theorem oBin_sound {op : BinOp} {ty : TypeId} {x y : A} {ox oy : Operand} {v z : Value} {o : Out} (hx : ARep w I β x v) (hy : ARep w I β y z) (ho : oBin P op ty x y = some o) (hp : o.p) :
    ∃ q, o = valP o.p q ∧ Reads P w I β (do eqGuard op ty ox oy v z; binOp op ty v z) q := by
  unfold oBin at ho
  split at ho
  · rename_i a b
    obtain ⟨rfl, _⟩ := rep_v hx
    obtain ⟨rfl, _⟩ := rep_v hy
    split at ho
    · rename_i p u hb
      cases ho
      obtain ⟨h1, h2⟩ := binV_sound (w := w) (x := ox) (y := oy) hb hp
      exact ⟨_, rfl, u, h1, .d (.v h2)⟩
    · cases ho
  · rename_i xs ys
    cases hx with
    | d hx =>
    cases hy with
    | d hy =>
    cases hx with
    | agg l1 q1 r1 =>
    cases hy with
    | agg l2 q2 r2 =>
    rename_i us vs
    split at ho
    · rename_i ks hks
      split at ho
      · rename_i b hb
        obtain ⟨fs, e1, e2, e3, e4⟩ := eqT_eq hks
        have hf : P.underlying ty = some (.struct (P.fieldsOf ty)) := by unfold Program.fieldsOf; rw [e1]
        have hff : P.fieldsOf ty = fs := by unfold Program.fieldsOf; rw [e1]
        have hrun : (Op.equalIn 10000 ty (.agg us) (.agg vs)).run P w = .ok b w := by
          rw [run_equalIn_struct w 9999 ty us vs hf e2, hff]
          exact eqFields_run (i := 0) e4 hb (by omega) (by omega) (fun j x u h1 h2 => r1 j x u h1 (by simpa using h2)) (fun j x u h1 h2 => r2 j x u h1 (by simpa using h2)) 9998
        split at ho
        · cases ho
          exact ⟨_, rfl, .bool b, by rw [Sem.run_bind, run_eqGuard_agg w _ _ _ _ _ _ e3, Result.andThen_ok, run_eql_struct, hrun]; rfl, .d (.v rfl)⟩
        · cases ho
          exact ⟨_, rfl, .bool (!b), by rw [Sem.run_bind, run_eqGuard_agg w _ _ _ _ _ _ e3, Result.andThen_ok, run_neq_struct, hrun]; rfl, .d (.v rfl)⟩
        · cases ho
      · cases ho
    · cases ho
  · split at ho
    · rename_i hpt
      obtain ⟨e, he⟩ : ∃ e, P.underlying ty = some (.pointer e) := by
        unfold ptT at hpt
        split at hpt
        · exact ⟨_, ‹_›⟩
        · cases hpt
      obtain ⟨rfl, _⟩ := rep_v hy
      cases hx with
      | ptr hb =>
      rename_i l
      have hq := fun a => eq_ptr (w := w) he a
      split at ho
      · cases ho
        exact ⟨_, rfl, .bool false, by rw [Sem.run_bind, eqG (by simp) (by simp)]; simp [binOp, hq], .d (.v rfl)⟩
      · cases ho
        exact ⟨_, rfl, .bool true, by rw [Sem.run_bind, eqG (by simp) (by simp)]; simp [binOp, hq], .d (.v rfl)⟩
      · cases ho
    · cases ho
  · cases ho
theorem oNilCmp_sound {op : BinOp} {ty : TypeId} {x : A} {ox oy : Operand} {v : Value} {o : Out} (hx : ARep w I β x v) (ho : oNilCmp P op ty x = some o) :
    ∃ q, o = val q ∧ Reads P w I β (do eqGuard op ty ox oy v (.slice none 0 0); binOp op ty v (.slice none 0 0)) q := by
  have key : ∀ {ad : Addr} {n cap : Nat} {o : Out}, slT P ty = true → oNilCmp.oNo op = some o → ∃ q, o = val q ∧ Reads P w I β (do eqGuard op ty ox oy (.slice (some ad) n cap) (.slice none 0 0); binOp op ty (.slice (some ad) n cap) (.slice none 0 0)) q := by
    intro ad n cap o hs ho
    obtain ⟨e, he⟩ : ∃ e, P.underlying ty = some (.slice e) := by
      unfold slT at hs
      split at hs
      · exact ⟨_, ‹_›⟩
      · cases hs
    have hq : (Op.equal ty (.slice (some ad) n cap) (.slice none 0 0)).run P w = .ok false w := by
      have e' : Op.equal ty (.slice (some ad) n cap) (.slice none 0 0) = Op.equalIn (9999 + 1) ty (.slice (some ad) n cap) (.slice none 0 0) := rfl
      rw [e', Op.equalIn, Sem.run_bind, run_underlying he]
      rfl
    unfold oNilCmp.oNo at ho
    split at ho
    · cases ho
      exact ⟨_, rfl, .bool false, by rw [Sem.run_bind, eqG (by simp) (by simp)]; simp [binOp, hq], .d (.v rfl)⟩
    · cases ho
      exact ⟨_, rfl, .bool true, by rw [Sem.run_bind, eqG (by simp) (by simp)]; simp [binOp, hq], .d (.v rfl)⟩
    · cases ho
  unfold oNilCmp at ho
  split at ho
  · rename_i hs
    split at ho
    · rename_i y ys
      cases hx with
      | d hx =>
        generalize hxs : y :: ys = xs at hx
        cases hx with
        | nil => cases hxs
        | lst => exact key hs ho
    · cases hx with
      | sl => exact key hs ho
    · cases ho
  · cases ho
theorem nilK_sl {y : Operand} (h : nilK y = .sl) : y = .const (.slice none 0 0) := by
  unfold nilK at h
  split at h
  · rfl
  · cases h
  · cases h
theorem nilK_ifc {y : Operand} (h : nilK y = .ifc) : y = .const .nilIface := by
  unfold nilK at h
  split at h
  · cases h
  · rfl
  · cases h
theorem oErrCmp_sound {op : BinOp} {ty : TypeId} {x : A} {ox : Operand} {v : Value} {o : Out} (hx : ARep w I β x v) (ho : oErrCmp P op ty x = some o) :
    ∃ q, o = val q ∧ Reads P w I β (do eqGuard op ty ox (.const .nilIface) v .nilIface; binOp op ty v .nilIface) q := by
  have key : ∀ {b : Bool} {o : Out}, oErrCmp.eqB op b = some o → (eqGuard op ty ox (.const .nilIface) v .nilIface).run P w = .ok () w → (Op.equal ty v .nilIface).run P w = .ok b w → (v = .nilIface ∨ ∃ t u, v = .iface t u) → ∃ q, o = val q ∧ Reads P w I β (do eqGuard op ty ox (.const .nilIface) v .nilIface; binOp op ty v .nilIface) q := by
    intro b o ho hg hq hv
    unfold oErrCmp.eqB at ho
    split at ho
    · cases ho
      exact ⟨_, rfl, .bool b, by rw [Sem.run_bind, hg]; rcases hv with rfl | ⟨t, u, rfl⟩ <;> simp [binOp, hq], .d (.v rfl)⟩
    · cases ho
      exact ⟨_, rfl, .bool (!b), by rw [Sem.run_bind, hg]; rcases hv with rfl | ⟨t, u, rfl⟩ <;> simp [binOp, hq], .d (.v rfl)⟩
    · cases ho
  unfold oErrCmp at ho
  split at ho
  · rename_i hs
    obtain ⟨ms, he⟩ : ∃ e, P.underlying ty = some (.interface e) := by
      unfold ifT at hs
      split at hs
      · exact ⟨_, ‹_›⟩
      · cases hs
    split at ho
    · cases hx with
      | er =>
        rename_i t u
        refine key ho (eqG (by simp) (by simp)) ?_ (.inr ⟨_, _, rfl⟩)
        have e' : Op.equal ty (.iface t u) .nilIface = Op.equalIn (9999 + 1) ty (.iface t u) .nilIface := rfl
        rw [e', Op.equalIn, Sem.run_bind, run_underlying he]
        rfl
    · obtain ⟨rfl, _⟩ := rep_v hx
      refine key ho ?_ ?_ (.inl rfl)
      · unfold eqGuard
        simp only [Bool.or_true, ↓reduceIte]
        generalize (match op with | .eql => true | .neq => true | _ => false) = q
        cases q <;> simp
      · have e' : Op.equal ty .nilIface .nilIface = Op.equalIn (9999 + 1) ty .nilIface .nilIface := rfl
        rw [e', Op.equalIn, Sem.run_bind, run_underlying he]
        rfl
    · cases ho
  · cases ho
theorem oUn_sound {op : UnOp} {x : A} {v : Value} {o : Out} (hx : ARep w I β x v) (ho : oUn op x = some o) (hp : o.p) : ∃ q, o = valP o.p q ∧ Reads P w I β (Op.unary op v) q := by
  unfold oUn at ho
  split at ho <;> cases ho
  · obtain rfl := rep_bool hx
    exact ⟨_, rfl, _, by simp [Op.unary], .d (.v rfl)⟩
  · obtain rfl := rep_int hx
    have := wrap_in hp
    refine ⟨_, rfl, .int .i64 (0 - _), ?_, .d (.v rfl)⟩
    simp only [Op.unary, Op.intArith, Sem.run_pure, this]
theorem oConv_sound {src dst : TypeId} {x : A} {v : Value} {o : Out} (hx : ARep w I β x v) (ho : oConv P src dst x = some o) (hp : o.p) : ∃ q, o = valP o.p q ∧ Reads P w I β (convert src dst v) q := by
  unfold oConv at ho
  split at ho
  · rename_i k n
    obtain rfl := rep_int hx
    split at ho
    · rename_i h1 h2
      cases ho
      obtain ⟨d, hd⟩ := knT_some h1
      refine ⟨_, rfl, .int .i64 n, ?_, .d (.v rfl)⟩
      unfold convert
      simp only [Sem.run_bind, run_underlying hd, run_underlying (knT_int h2), Result.andThen_ok, Conv.intToInt, Sem.run_pure, wrap_in hp]
    · cases ho
  · rename_i s
    obtain rfl := rep_str hx
    split at ho
    · rename_i h1 h2
      cases ho
      obtain ⟨d, hd⟩ := knT_some h1
      refine ⟨_, rfl, .string s, ?_, .d (.v rfl)⟩
      unfold convert
      simp only [Sem.run_bind, run_underlying hd, run_underlying (knT_str h2), Result.andThen_ok, Sem.run_pure]
    · cases ho
  · cases ho

/-- A bound in memory. -/
theorem bnd_rep {t : Nat → Option A} {a : Act} (h : ∀ (k : Nat) (x : A), t k = some x → ∃ u, a.tmps[k]? = some u ∧ ARep w I β x u) {d n : Nat} {o : Option Operand} (hb : bnd t d o = some n) :
    (o = none ∧ n = d) ∨ ∃ k, o.map a.eval = some (.int k n) := by
  unfold bnd at hb
  split at hb
  · cases hb; exact .inl ⟨rfl, rfl⟩
  · rename_i x
    split at hb
    · rename_i k q he
      split at hb
      · rename_i h0
        cases hb
        have := rep_int (ev_rep h he)
        refine .inr ⟨k, ?_⟩
        simp only [Option.map_some, this, Int.toNat_of_nonneg h0]
      · cases hb
    · cases hb
theorem sliceBound_run {k : IntKind} {n y : Nat} {c : BoundsCode} (h : n ≤ y) : (Instr.sliceBound (.int k n) y c).run P w = .ok n w := by
  have : (0 : Int) ≤ n ∧ (n : Int) ≤ y := ⟨by omega, by omega⟩
  simp [Instr.sliceBound, asIntOf, this]
theorem sliceBounds_run {s : Bool} {len cap l h m : Nat} {lo hi mx : Option Value} (hl : (lo = none ∧ l = 0) ∨ ∃ k, lo = some (.int k l)) (hh : (hi = none ∧ mx = none ∧ h = len) ∨ ∃ k, hi = some (.int k h)) (hm : (mx = none ∧ m = cap) ∨ ∃ k, mx = some (.int k m))
    (h1 : l ≤ h) (h2 : h ≤ m) (h3 : m ≤ cap) : (Instr.sliceBounds s len cap lo hi mx).run P w = .ok (l, h, m) w := by
  unfold Instr.sliceBounds
  rcases hm with ⟨rfl, rfl⟩ | ⟨km, rfl⟩
  · rcases hh with ⟨rfl, _, rfl⟩ | ⟨kh, rfl⟩
    · rcases hl with ⟨rfl, rfl⟩ | ⟨kl, rfl⟩
      · simp [Sem.run_bind]
      · simp [Sem.run_bind, sliceBound_run h1]
    · rcases hl with ⟨rfl, rfl⟩ | ⟨kl, rfl⟩
      · simp [Sem.run_bind, sliceBound_run h2]
      · simp [Sem.run_bind, sliceBound_run h2, sliceBound_run h1]
  · rcases hh with ⟨_, h4, _⟩ | ⟨kh, rfl⟩
    · cases h4
    · rcases hl with ⟨rfl, rfl⟩ | ⟨kl, rfl⟩
      · simp [Sem.run_bind, sliceBound_run h3, sliceBound_run h2]
      · simp [Sem.run_bind, sliceBound_run h3, sliceBound_run h2, sliceBound_run h1]
end Go.AM
end
section
namespace Go.AM
open Go.RowKit
set_option linter.unusedVariables false
set_option linter.unusedSimpArgs false

def FI (I : Nat → Prop) (β : List (Option Loc)) (σ : List Blk) (ks : List Nat) : Nat → Prop := fun r => I r ∨ ∃ b ∈ ks, Froz β σ b r
section
variable {C : Ctx} {w : World} {I : Nat → Prop} {β : List (Option Loc)} {σ : List Blk}
theorem FI_nil : FI I β σ [] = I := by
  funext r; simp [FI]
theorem FI_cons (b : Nat) (bs : List Nat) : FI (fun r => I r ∨ Froz β σ b r) β (σ.set b .dead) bs = FI I β σ (b :: bs) := by
  funext r
  apply propext
  have hs : ∀ c, Froz β (σ.set b .dead) c r ↔ (c ≠ b ∧ Froz β σ c r) := by
    intro c
    unfold Froz
    constructor
    · rintro ⟨l, k, h1, h2, h3, h4⟩
      rw [List.getElem?_set] at h2
      split at h2
      · split at h2
        · cases h2; cases h3
        · cases h2
      · rename_i hne
        exact ⟨fun e => hne e.symm, l, k, h1, h2, h3, h4⟩
    · rintro ⟨hne, l, k, h1, h2, h3, h4⟩
      exact ⟨l, k, h1, by rw [List.getElem?_set, if_neg (fun e => hne e.symm)]; exact h2, h3, h4⟩
  constructor
  · rintro ((h | h) | ⟨c, hc, h⟩)
    · exact .inl h
    · exact .inr ⟨b, List.mem_cons_self, h⟩
    · exact .inr ⟨c, List.mem_cons_of_mem _ hc, ((hs c).1 h).2⟩
  · rintro (h | ⟨c, hc, h⟩)
    · exact .inl (.inl h)
    · by_cases e : c = b
      · subst e; exact .inl (.inr h)
      · exact .inr ⟨c, (List.mem_cons.1 hc).resolve_left e, (hs c).2 ⟨e, h⟩⟩
theorem length_updσ : ∀ (u : List (Nat × Blk)) (σ : List Blk), (updσ σ u).length = σ.length
  | [], _ => rfl
  | (b, k) :: r, σ => by rw [updσ, length_updσ r, List.length_set]
theorem HRel.kills (K : Nat) : ∀ (ks : List Nat) {I : Nat → Prop} {σ : List Blk}, HRel C w I β σ → HRel C w (FI I β σ ks) β (updσ σ (killsU ks)) ∧ Ext K w I (Own β σ) β w (FI I β σ ks) (Own β (updσ σ (killsU ks))) β
  | [], I, σ, h => by
    rw [FI_nil]
    exact ⟨h, .refl ..⟩
  | b :: bs, I, σ, h => by
    obtain ⟨h1, e1⟩ := h.kill b K
    obtain ⟨h2, e2⟩ := HRel.kills K bs h1
    rw [FI_cons] at h2 e2
    exact ⟨h2, e1.trans e2⟩
theorem DRep.imono {I' : Nat → Prop} (hI : ∀ r, I r → I' r) {x : D} {v : Value} (h : DRep w I x v) : DRep w I' x v := h.mono (fun _ _ => rfl) hI
theorem ARep.imono {I' : Nat → Prop} (hI : ∀ r, I r → I' r) {x : A} {v : Value} (h : ARep w I β x v) : ARep w I' β x v := h.mono (fun _ _ => rfl) hI (fun _ _ h => h) (fun _ h => h)
theorem FI_mono {ks ks' : List Nat} (h : ∀ b ∈ ks, b ∈ ks') : ∀ r, FI I β σ ks r → FI I β σ ks' r := by
  rintro r (h1 | ⟨b, hb, h1⟩)
  · exact .inl h1
  · exact .inr ⟨b, h b hb, h1⟩

mutual
theorem toD_rep (h : HRel C w I β σ) : ∀ {x : A} {v : Value} {z : D}, ARep w I β x v → x.toD σ = some z → DRep w (FI I β σ x.kills) z v
  | .d y, v, z, hx, hz => by
    simp only [A.toD, Option.some.injEq] at hz
    subst hz
    cases hx with
    | d hx => exact hx.imono fun r hr => .inl hr
  | .nl, v, z, hx, hz => by
    simp only [A.toD, Option.some.injEq] at hz
    subst hz
    cases hx
    exact .nil
  | .sl b o n, v, z, hx, hz => by
    rw [A.toD] at hz
    split at hz
    · rename_i k xs hs
      replace hs := look_some hs
      split at hz
      · rename_i hle
        cases hz
        cases hx with
        | sl0 => rw [List.take_zero]; exact .nil
        | sl hb hc hm hcap =>
          rename_i cap l
          obtain ⟨hk, hsz, f, hf⟩ := h.blk b l _ hb hs
          have hlen : ((xs.drop o).take n).length = n := by simp; omega
          have hget : ∀ (j : Nat) (x : D), ((xs.drop o).take n)[j]? = some x → j < n ∧ xs[o + j]? = some x := by
            intro j x hj
            have hjn : j < n := by
              have := (List.getElem?_eq_some_iff.1 hj).1
              omega
            rw [List.getElem?_take_of_lt hjn, List.getElem?_drop] at hj
            exact ⟨hjn, hj⟩
          rcases Nat.eq_zero_or_pos n with rfl | hn
          · rw [List.take_zero]; exact .nil
          · have e : DRep w (FI I β σ (A.sl b o n).kills) (.lst ((xs.drop o).take n)) (.slice (some ⟨l.r, l.o + o * l.sz, none⟩) ((xs.drop o).take n).length cap) := by
              refine .lst l.sz (fun j i => f (o + j) i) ?_ rfl (by omega) (by omega) (fun j x hj => by rw [hk]; exact hsz _ x (hget j x hj).2) (fun j x i c hj hi => ?_) (fun j x i c hj hi => ?_)
              · exact .inr ⟨b, by simp [A.kills], l, _, hb, hs, rfl, rfl⟩
              · obtain ⟨p1, p2, _⟩ := hf _ x i c (hget j x hj).2 hi
                refine ⟨?_, p2⟩
                rw [Addr.add_lit]
                have e1 : l.o + o * l.sz + (j * l.sz + i) = l.o + ((o + j) * k + i) := by rw [hk, Nat.add_mul]; omega
                rw [e1]; exact p1
              · exact (hf _ x i c (hget j x hj).2 hi).2.2.imono fun r hr => .inl hr
            rw [hlen] at e
            exact e
      · cases hz
    · cases hz
  | .agg cs, v, z, hx, hz => by
    rw [A.toD] at hz
    split at hz
    · rename_i zs hzs
      cases hz
      cases hx with
      | agg hl h1 h2 =>
        rename_i us
        have := toDL_rep h (cs := cs) (zs := zs) hzs
        obtain ⟨h3, h4⟩ := this
        refine .agg (by omega) (fun i c u hc hu => ?_) (fun i c u hc hu => ?_)
        · obtain ⟨hi, _⟩ := List.getElem?_eq_some_iff.1 hc
          exact h1 i _ u (List.getElem?_eq_getElem (by omega)) hu
        · obtain ⟨hi, _⟩ := List.getElem?_eq_some_iff.1 hc
          have hci : cs[i]? = some cs[i] := List.getElem?_eq_getElem (by omega)
          exact h4 i _ c u hci hc (h2 i _ u hci hu)
    · cases hz
  | .ptr _ _, _, _, _, hz => by simp [A.toD] at hz
  | .ep _ _ _, _, _, _, hz => by simp [A.toD] at hz
  | .ro _, _, _, _, hz => by simp [A.toD] at hz
  | .mp _, _, _, _, hz => by simp [A.toD] at hz
  | .fn _ _ _, _, _, _, hz => by simp [A.toD] at hz
  | .tup _, _, _, _, hz => by simp [A.toD] at hz
theorem toDL_rep (h : HRel C w I β σ) : ∀ {cs : List A} {zs : List D}, A.toDL σ cs = some zs → cs.length = zs.length ∧ ∀ (i : Nat) (c : A) (z : D) (u : Value), cs[i]? = some c → zs[i]? = some z → ARep w I β c u → DRep w (FI I β σ (A.killsL cs)) z u
  | [], zs, hz => by
    simp only [A.toDL, Option.some.injEq] at hz
    subst hz
    exact ⟨rfl, fun i c z u hc => by simp at hc⟩
  | x :: r, zs, hz => by
    rw [A.toDL] at hz
    split at hz
    · rename_i z zs' h1 h2
      cases hz
      obtain ⟨h3, h4⟩ := toDL_rep h h2
      refine ⟨by simp [h3], fun i c z' u hc hz' hu => ?_⟩
      cases i with
      | zero =>
        simp only [List.getElem?_cons_zero, Option.some.injEq] at hc hz'
        subst hc; subst hz'
        exact (toD_rep h hu h1).imono (FI_mono fun b hb => by simp [A.killsL, hb])
      | succ i => exact (h4 i c z' u (by simpa using hc) (by simpa using hz') hu).imono (FI_mono fun b hb => by simp [A.killsL, hb])
    · cases hz
end

/-- The world with nothing but new blocks. -/
theorem HRel.grow {w' : World} {I' : Nat → Prop} (h : HRel C w I β σ) (K : Nat) (hos : w'.os = w.os) (htp : w'.tape = w.tape) (hou : w'.output = w.output) (hsz : w.heap.size ≤ w'.heap.size) (hkeep : ∀ r, r < w.heap.size → w'.heap[r]? = w.heap[r]?)
    (hI : ∀ r, I r → I' r) (hI' : ∀ r, I' r → I r ∨ (w.heap.size ≤ r ∧ r < w'.heap.size)) : HRel C w' I' β σ ∧ Ext K w I (Own β σ) β w' I' (Own β σ) β := by
  have hcell : ∀ a : Addr, a.block < w.heap.size → w'.cell? a = w.cell? a := fun a ha => cell_of_heap (hkeep _ ha)
  have hc : ∀ a : Addr, (w.cell? a).isSome = true → (w'.cell? a).isSome = true := fun a ha => by
    obtain ⟨u, hu⟩ := Option.isSome_iff_exists.1 ha
    rw [hcell a (World.block_lt_of_cell? w a hu)]
    exact ha
  refine ⟨⟨h.len, fun b l k h1 h2 => ?_, fun b l k h1 h2 h3 => ?_, h.nowh, h.dist, fun r hr => ?_, C.stab w w' (fun k hk => hkeep k (Nat.lt_of_lt_of_le hk h.size)) hos h.env, Nat.le_trans h.size hsz⟩, hos, htp, hou, hsz, fun r hr _ => hkeep r hr, hc, hI, fun r hr => (hI' r hr).imp id fun x => .inr x.1, fun r hr => .inl hr, fun _ _ _ h => h⟩
  · by_cases hlv : k.live = true
    · exact (h.blk b l k h1 h2).mono (fun a ha => hcell a (h.imm _ ha)) hI (fun _ _ h => h) hc (hkeep _ (h.own b l k h1 h2 hlv).2.1)
    · cases k <;> simp [Blk.live] at hlv
      trivial
  · obtain ⟨p1, p2, p3, p4⟩ := h.own b l k h1 h2 h3
    refine ⟨p1, Nat.lt_of_lt_of_le p2 hsz, fun hi => ?_, fun o => (frozen_of_heap (hkeep _ p2)).trans (p4 o)⟩
    rcases hI' _ hi with h4 | h4
    · exact p3 h4
    · omega
  · rcases hI' r hr with h4 | h4
    · exact Nat.lt_of_lt_of_le (h.imm r h4) hsz
    · exact h4.2

/-- What has no place yet has none behind an operation, but for what the operation makes. -/
def Keeps (nb : Nat) (o : Out) (β β' : List (Option Loc)) : Prop := ∀ b, β[b]? = some none → b ≠ nb ∨ o.new nb = [] → β'[b]? = some none
theorem keep_set {b nb : Nat} {x : Option Loc} (h : β[b]? = some none) (hb : b ≠ nb) : (β.set nb x)[b]? = some none := by rw [List.getElem?_set, if_neg (fun e => hb e.symm)]; exact h
/-- What an operation comes to in memory. -/
def SV (C : Ctx) (m : Sem Value) (w : World) (I : Nat → Prop) (β : List (Option Loc)) (σ : List Blk) (nb : Nat) (o : Out) : Prop :=
  ∃ u w' I' β', m.run C.P w = .ok u w' ∧ ARep w' I' β' (o.v nb) u ∧ HRel C w' I' β' (putσ σ o nb) ∧ Ext σ.length w I (Own β σ) β w' I' (Own β' (putσ σ o nb)) β' ∧ Keeps nb o β β'
theorem Reads.sv {m : Sem Value} {x : A} {p : Prop} (h : HRel C w I β σ) (r : Reads C.P w I β m x) (nb : Nat) : SV C m w I β σ nb (valP p x) := by
  obtain ⟨u, h1, h2⟩ := r
  exact ⟨u, w, I, β, h1, h2, h, .refl .., fun _ hb _ => hb⟩

/-- A new block of cells. -/
theorem newRow_sv {x : A} {v : Value} {ty : TypeId} {nb : Nat} (h : HRel C w I β σ) (hx : ARep w I β x v) (ht : x.isTup = false) (hσ : σ[nb]? = some .dead) (hβ : β[nb]? = some none) :
    SV C (do pure (.pointer (some (← newVar ty v)))) w I β σ nb (newB (fun b => .ptr b 0) (.cells x.cells)) := by
  obtain ⟨hl, hc⟩ := hx.cells ht
  have hlt : nb < β.length := (List.getElem?_eq_some_iff.1 hβ).1
  have hlt' : nb < σ.length := (List.getElem?_eq_some_iff.1 hσ).1
  have hIn : ∀ r, I r → r ≠ w.heap.size := fun r hr e => by have := h.imm r hr; omega
  have hcell : ∀ a : Addr, (w.cell? a).isSome = true → ((w.alloc (.cells v.cells ty)).cell? a).isSome = true := fun a ha => by
    obtain ⟨u, hu⟩ := Option.isSome_iff_exists.1 ha
    rw [World.cell?_alloc_lt _ _ _ (World.block_lt_of_cell? w a hu)]; exact ha
  obtain ⟨h1, h2⟩ := h.one (w' := w.alloc (.cells v.cells ty)) (β' := β.set nb (some ⟨w.heap.size, 0, 0⟩)) (σ' := σ.set nb (.cells x.cells)) (b0 := nb) (k0 := .cells x.cells) (l0 := ⟨w.heap.size, 0, 0⟩)
    (by simp) (by simp) (fun b k hb hk => .inl (by rwa [List.getElem?_set, if_neg (fun e => hb e.symm)] at hk)) (by rw [List.getElem?_set_self hlt'])
    (fun b hb => by rw [List.getElem?_set, if_neg (fun e => hb e.symm)]) (by rw [List.getElem?_set_self hlt]) (.inl hβ)
    rfl rfl rfl (by simp) (fun r hr hr' => Below.heap_alloc _ _ _ hr') hcell (fun hi => hIn _ hi rfl)
    (fun b l k hb hbl hk hlv e => by
      rw [List.getElem?_set, if_neg (fun e => hb e.symm)] at hk
      have := (h.own b l k hbl hk hlv).2.1
      rw [e] at this
      exact Nat.lt_irrefl _ this) (.inr (Nat.le_refl _)) h.size (by simp) (fun o => World.frozen?_alloc_new _ _ _ _)
    ⟨fun i => v.cells.getD i undef, fun i a ha => by
      obtain ⟨hi, _⟩ := List.getElem?_eq_some_iff.1 ha
      have hu : v.cells[i]? = some v.cells[i] := Array.getElem?_eq_getElem (by omega)
      obtain ⟨p1, p2⟩ := hc i a _ ha hu
      have e : v.cells.getD i undef = v.cells[i] := by rw [Array.getD_eq_getD_getElem?, hu]; rfl
      dsimp only
      rw [e]
      refine ⟨?_, p2, p1.mono (fun a ha => World.cell?_alloc_lt _ _ _ (h.imm _ ha)) (fun _ h => h) (fun b l hb => ?_) hcell⟩
      · show (w.alloc (.cells v.cells ty)).cell? ⟨w.heap.size, 0 + i, none⟩ = _
        rw [Nat.zero_add, World.cell?_alloc_new]; exact hu
      · rw [List.getElem?_set]
        split
        · rename_i e; subst e; rw [hβ] at hb; cases hb
        · exact hb⟩
  refine ⟨.pointer (some ⟨w.heap.size, 0, none⟩), _, _, _, ?_, ?_, h1, h2, fun b hb hn => keep_set hb (hn.resolve_right (by simp [newB]))⟩
  · simp [newVar, newRow]
  · have := ARep.ptr (w := w.alloc (.cells v.cells ty)) (I := I) (β := β.set nb (some ⟨w.heap.size, 0, 0⟩)) (b := nb) (off := 0) (l := ⟨w.heap.size, 0, 0⟩) (by rw [List.getElem?_set_self hlt])
    exact this
end
end Go.AM
end
section
namespace Go.AM
open Go.RowKit
set_option linter.unusedVariables false
set_option linter.unusedSimpArgs false
section
variable {C : Ctx} {w : World} {I : Nat → Prop} {β : List (Option Loc)} {σ : List Blk}

theorem setCells_heap (b : Nat) : ∀ (vs : List Value) (o : Nat) (w : World), (∀ r, r ≠ b → (w.setCells b o vs).heap[r]? = w.heap[r]?) ∧ (w.setCells b o vs).heap.size = w.heap.size ∧ (w.setCells b o vs).os = w.os ∧ (w.setCells b o vs).tape = w.tape ∧ (w.setCells b o vs).output = w.output ∧
      ∀ a : Addr, (w.cell? a).isSome = true → ((w.setCells b o vs).cell? a).isSome = true
  | [], o, w => ⟨fun _ _ => rfl, rfl, rfl, rfl, rfl, fun _ h => h⟩
  | v :: vs, o, w => by
    obtain ⟨h1, h2, h3, h4, h5, h6⟩ := setCells_heap b vs (o + 1) (w.setCell ⟨b, o, none⟩ v)
    refine ⟨fun r hr => ?_, by rw [World.setCells, h2, World.size_setCell], by rw [World.setCells, h3]; rfl, by rw [World.setCells, h4]; rfl, by rw [World.setCells, h5]; rfl, fun a ha => ?_⟩
    · rw [World.setCells, h1 r hr, Below.heap_setCell _ _ _ _ hr]
    · obtain ⟨u, hu⟩ := Option.isSome_iff_exists.1 ha
      obtain ⟨u', hu'⟩ := cell?_setCell_some (p := ⟨b, o, none⟩) (x := v) hu
      exact h6 a (by rw [hu']; rfl)

theorem getElem?_putAt {α : Type} {cs xs : List α} {off i : Nat} (h : off + xs.length ≤ cs.length) : (putAt cs off xs)[i]? = if off ≤ i ∧ i < off + xs.length then xs[i - off]? else cs[i]? := by
  unfold putAt
  have hl : (cs.take off).length = off := by simp; omega
  rw [List.append_assoc, List.getElem?_append, hl]
  split
  · rename_i h1
    rw [List.getElem?_take_of_lt h1, if_neg (by omega)]
  · rename_i h1
    rw [List.getElem?_append]
    split
    · rename_i h2
      rw [if_pos (by omega)]
    · rename_i h2
      rw [if_neg (by omega), List.getElem?_drop]
      congr 1
      omega
theorem length_putAt {α : Type} {cs xs : List α} {off : Nat} (h : off + xs.length ≤ cs.length) : (putAt cs off xs).length = cs.length := by
  simp [putAt]; omega

/-- A store into a block that is owned: the cells at offset p. -/
theorem store_step {b nb : Nat} {l : Loc} {k k' : Blk} {p : Nat} {us : List Value} {ty : TypeId} {v : Value} (h : HRel C w I β σ) (hb : β[b]? = some (some l)) (hs : σ[b]? = some k) (hlv : k.live = true)
    (hv : v.cells.toList = us) (hsz : szT C.P ty = some us.length) (h1 : ∀ u ∈ us, u.oneCell' = true) (hc : ∀ j, j < us.length → (w.cell? ⟨l.r, l.o + p + j, none⟩).isSome = true)
    (hk : ∀ w' : World, (∀ a : Addr, I a.block → w'.cell? a = w.cell? a) → (∀ a : Addr, (w.cell? a).isSome = true → (w'.cell? a).isSome = true) → (∀ i, p ≤ i → i < p + us.length → w'.cell? ⟨l.r, l.o + i, none⟩ = us[i - p]?) →
      (∀ i, ¬ (p ≤ i ∧ i < p + us.length) → w'.cell? ⟨l.r, l.o + i, none⟩ = w.cell? ⟨l.r, l.o + i, none⟩) → BRel w' I β k' l) :
    ∃ w', (Instr.storeAt ty (.pointer (some ⟨l.r, l.o + p, none⟩)) v).run C.P w = .ok () w' ∧ HRel C w' I β (σ.set b k') ∧ Ext σ.length w I (Own β σ) β w' I (Own β (σ.set b k')) β := by
  obtain ⟨o1, o2, o3, o4⟩ := h.own b l k hb hs hlv
  obtain ⟨f1, f2, f3, f4, f5, f6⟩ := setCells_heap l.r us (l.o + p) w
  have hlt : b < σ.length := (List.getElem?_eq_some_iff.1 hs).1
  have hI : ∀ a : Addr, I a.block → (w.setCells l.r (l.o + p) us).cell? a = w.cell? a := fun a ha => cell_of_heap (f1 _ (fun e => o3 (e ▸ ha)))
  have hrun : (Instr.storeAt ty (.pointer (some ⟨l.r, l.o + p, none⟩)) v).run C.P w = .ok () (w.setCells l.r (l.o + p) us) := by
    have hst := run_storeCells_cells (P := C.P) l.r (l.o + p) us 0 w (fun j hj => by simpa using hc j hj) (fun j _ => o4 _) h1
    have hn : ¬ v.cells.size ≠ us.length := by rw [← hv, Array.length_toList]; simp
    simp only [Nat.add_zero] at hst
    simp only [Instr.storeAt, Instr.sureAddr, storeVar, Sem.run_bind, Sem.run_pure, Result.andThen_ok, run_sizeOf hsz, if_neg hn, hv, hst]
  obtain ⟨g1, g2⟩ := h.one (w' := w.setCells l.r (l.o + p) us) (β' := β) (σ' := σ.set b k') (b0 := b) (k0 := k') (l0 := l) (by simp) rfl
    (fun c q hcb hq => .inl (by rwa [List.getElem?_set, if_neg (fun e => hcb e.symm)] at hq)) (by rw [List.getElem?_set_self hlt]) (fun _ _ => rfl) hb (.inr hb) f3 f4 f5 (by omega) (fun r hr _ => f1 r hr) f6 o3
    (fun c l' q hcb hcl hq hqv e => hcb (by
      rw [List.getElem?_set, if_neg (fun e => hcb e.symm)] at hq
      exact h.dist c b l' l q k hcl hq hqv hb hs hlv e)) (.inl ⟨b, l, k, hb, hs, hlv, rfl⟩) o1 (by omega) (fun o => by rw [World.frozen?_setCells]; exact o4 o)
    (hk _ hI f6 (fun i hi hi' => by
      have := World.cell?_setCells_in l.r us (l.o + p) w hc (i - p) (by omega)
      rw [show l.o + p + (i - p) = l.o + i by omega] at this
      rw [this, List.getElem?_eq_getElem (by omega)]) (fun i hi => World.cell?_setCells_out l.r us (l.o + p) w _ (fun _ _ => by show l.o + i < l.o + p ∨ l.o + p + us.length ≤ l.o + i; omega)))
  exact ⟨_, hrun, g1, g2⟩

theorem undef_rep : ARep w I β (.tup []) undef := .tup rfl (fun i c u hc => by simp at hc)

def SU (C : Ctx) (m : Sem Unit) (w : World) (I : Nat → Prop) (β : List (Option Loc)) (σ : List Blk) (nb : Nat) (o : Out) : Prop :=
  ∃ w' I' β', m.run C.P w = .ok () w' ∧ ARep w' I' β' (o.v nb) undef ∧ HRel C w' I' β' (putσ σ o nb) ∧ Ext σ.length w I (Own β σ) β w' I' (Own β' (putσ σ o nb)) β' ∧ Keeps nb o β β'

theorem updσ_cons (σ : List Blk) (b : Nat) (k : Blk) (r : List (Nat × Blk)) : updσ σ ((b, k) :: r) = updσ (σ.set b k) r := rfl

theorem updσ_append : ∀ (u u' : List (Nat × Blk)) (σ : List Blk), updσ σ (u ++ u') = updσ (updσ σ u) u'
  | [], _, _ => rfl
  | (b, k) :: r, u', σ => by rw [List.cons_append, updσ, updσ, updσ_append r u']
theorem kills_get {b : Nat} : ∀ {ks : List Nat} {σ : List Blk}, b ∉ ks → (updσ σ (killsU ks))[b]? = σ[b]?
  | [], _, _ => rfl
  | c :: ks, σ, h => by
    rw [List.mem_cons, not_or] at h
    rw [killsU, updσ, kills_get h.2, List.getElem?_set, if_neg (fun e => h.1 e.symm)]
theorem oStore_sound {ty : TypeId} {x y : A} {v z : Value} {o : Out} (nb : Nat) (h : HRel C w I β σ) (hx : ARep w I β x v) (hy : ARep w I β y z) (ho : oStore C.P σ ty x y = some o) (hp : o.p) : SU C (Instr.storeAt ty v z) w I β σ nb o := by
  unfold oStore at ho
  split at ho
  · rename_i b off n hn
    cases hx with
    | ptr hb =>
      rename_i l
      split at ho
      · rename_i cs hs
        replace hs := look_some hs
        split at ho
        · rename_i hle
          obtain ⟨hl1, hl2, hl3⟩ := hle
          cases ho
          obtain ⟨q1, q2⟩ := hy.cells hl3
          obtain ⟨f, hf⟩ := h.blk b l _ hb hs
          have hus : z.cells.toList.length = n := by rw [Array.length_toList]; omega
          obtain ⟨w', e1, e2, e3⟩ := store_step (p := off) (us := z.cells.toList) (k' := .cells (putAt cs off y.cells)) (ty := ty) (v := z) (nb := nb) h hb hs rfl rfl (by rw [hn, hus])
            (fun u hu => by
              obtain ⟨i, hi, rfl⟩ := List.mem_iff_getElem.1 hu
              have hi' : i < y.cells.length := by rw [Array.length_toList] at hi; omega
              exact (q2 i _ _ (List.getElem?_eq_getElem hi') (by rw [← Array.getElem?_toList]; exact List.getElem?_eq_getElem hi)).2)
            (fun j hj => by
              obtain ⟨p1, _⟩ := hf (off + j) _ (List.getElem?_eq_getElem (by omega))
              rw [Nat.add_assoc, p1]; rfl)
            (fun w' hw hc hin hout => by
              refine ⟨fun i => if off ≤ i ∧ i < off + z.cells.toList.length then z.cells.toList.getD (i - off) undef else f i, fun i a ha => ?_⟩
              rw [getElem?_putAt (by omega)] at ha
              split at ha
              · rename_i hr
                have hr' : off ≤ i ∧ i < off + z.cells.toList.length := by omega
                have hz : z.cells.toList[i - off]? = some z.cells.toList[i - off] := List.getElem?_eq_getElem (by omega)
                obtain ⟨r1, r2⟩ := q2 (i - off) a _ ha (by rw [← Array.getElem?_toList]; exact hz)
                dsimp only
                rw [if_pos hr', List.getD_eq_getElem?_getD, hz]
                refine ⟨by rw [hin i hr'.1 hr'.2]; exact hz, r2, r1.mono hw (fun _ h => h) (fun _ _ h => h) hc⟩
              · rename_i hr
                have hr' : ¬ (off ≤ i ∧ i < off + z.cells.toList.length) := by omega
                obtain ⟨r1, r2, r3⟩ := hf i a ha
                dsimp only
                rw [if_neg hr']
                exact ⟨by rw [hout i hr']; exact r1, r2, r3.mono hw (fun _ h => h) (fun _ _ h => h) hc⟩)
          exact ⟨w', I, β, e1, undef_rep, e2, e3, fun _ hb _ => hb⟩
        · cases ho
      · cases ho
  · rename_i b i off n hn
    cases hx with
    | ep hb =>
      rename_i l
      split at ho
      · rename_i k xs d hs hd
        replace hs := look_some hs
        have key : ∀ (e e' : D) (q : Prop), xs[i]? = some e → e'.cells = putAt e.cells off d.cells → d.cells.length = n → off + n ≤ e.cells.length → b ∉ y.kills →
            SU C (Instr.storeAt ty (.pointer (some ⟨l.r, l.o + (i * l.sz + off), none⟩)) z) w I β σ nb ⟨q, fun _ => .tup [], killsU y.kills ++ [(b, .arr k (xs.set i e'))], fun _ => []⟩ := by
          intro e e' q he hcells hl1 hl2 hbk
          obtain ⟨hil, _⟩ := List.getElem?_eq_some_iff.1 he
          obtain ⟨q1, q2⟩ := (toD_rep h hy hd).cells
          obtain ⟨h1, x1⟩ := h.kills σ.length y.kills
          have hs1 : (updσ σ (killsU y.kills))[b]? = some (.arr k xs) := by rw [kills_get hbk]; exact hs
          obtain ⟨hk, hsz, f, hf⟩ := h1.blk b l _ hb hs1
          have hus : z.cells.toList.length = n := by rw [Array.length_toList]; omega
          have hek := hsz i e he
          obtain ⟨w', e1, e2, e3⟩ := store_step (p := i * l.sz + off) (us := z.cells.toList) (k' := .arr k (xs.set i e')) (ty := ty) (v := z) (nb := nb) h1 hb hs1 rfl rfl (by rw [hn, hus])
            (fun u hu => by
              obtain ⟨j, hj, rfl⟩ := List.mem_iff_getElem.1 hu
              have hj' : j < d.cells.length := by rw [Array.length_toList] at hj; omega
              exact (q2 j _ _ (List.getElem?_eq_getElem hj') (by rw [← Array.getElem?_toList]; exact List.getElem?_eq_getElem hj)).2)
            (fun j hj => by
              obtain ⟨p1, _⟩ := hf i e (off + j) _ he (List.getElem?_eq_getElem (by omega))
              rw [show l.o + (i * l.sz + off) + j = l.o + (i * k + (off + j)) by rw [hk]; omega, p1]; rfl)
            (fun w' hw hc hin hout => by
              refine ⟨hk, fun j t ht => ?_, fun j c => if j = i ∧ off ≤ c ∧ c < off + n then z.cells.toList.getD (c - off) undef else f j c, fun j t c a ht ha => ?_⟩
              · by_cases hij : i = j
                · subst hij
                  rw [List.getElem?_set_self hil] at ht
                  cases ht
                  rw [hcells, length_putAt (by omega)]; exact hek
                · rw [List.getElem?_set, if_neg hij] at ht
                  exact hsz j t ht
              · dsimp only
                by_cases hji : j = i
                · subst hji
                  rw [List.getElem?_set_self hil] at ht
                  cases ht
                  rw [hcells, getElem?_putAt (by omega), hl1] at ha
                  have hcl : c < k := by
                    split at ha
                    · omega
                    · have := (List.getElem?_eq_some_iff.1 ha).1; omega
                  split at ha
                  · rename_i hr
                    have hz : z.cells.toList[c - off]? = some z.cells.toList[c - off] := List.getElem?_eq_getElem (by omega)
                    obtain ⟨r1, r2⟩ := q2 (c - off) a _ ha (by rw [← Array.getElem?_toList]; exact hz)
                    rw [if_pos ⟨rfl, hr⟩, List.getD_eq_getElem?_getD, hz]
                    refine ⟨?_, r2, r1.mono hw (fun _ h => h)⟩
                    have g0 : j * l.sz = j * k := by rw [hk]
                    have g1 : j * l.sz + off ≤ j * k + c := by omega
                    have g2 : j * k + c < j * l.sz + off + z.cells.toList.length := by omega
                    have g3 : j * k + c - (j * l.sz + off) = c - off := by omega
                    rw [hin (j * k + c) g1 g2, g3]
                    exact hz
                  · rename_i hr
                    rw [if_neg (fun hh => hr hh.2)]
                    obtain ⟨r1, r2, r3⟩ := hf j e c a he ha
                    exact ⟨by rw [hout (j * k + c) (by rw [hk]; omega)]; exact r1, r2, r3.mono hw (fun _ h => h)⟩
                · rw [List.getElem?_set, if_neg (fun e => hji e.symm)] at ht
                  rw [if_neg (fun hh => hji hh.1)]
                  obtain ⟨r1, r2, r3⟩ := hf j t c a ht ha
                  have hck : c < k := by
                    have := (List.getElem?_eq_some_iff.1 ha).1
                    rw [hsz j t ht] at this; exact this
                  refine ⟨?_, r2, r3.mono hw (fun _ h => h)⟩
                  rw [hout (j * k + c) ?_]
                  · exact r1
                  · rw [hk]
                    rintro ⟨a1, a2⟩
                    rcases Nat.lt_or_gt_of_ne hji with hlt | hlt
                    · have : (j + 1) * k ≤ i * k := Nat.mul_le_mul_right _ hlt
                      rw [Nat.add_mul] at this
                      omega
                    · have : (i + 1) * k ≤ j * k := Nat.mul_le_mul_right _ hlt
                      rw [Nat.add_mul] at this
                      omega)
          refine ⟨w', FI I β σ y.kills, β, e1, undef_rep, ?_, ?_, fun _ hb _ => hb⟩
          · show HRel C w' _ β (updσ σ (killsU y.kills ++ _))
            rw [updσ_append]
            exact e2
          · show Ext σ.length w I (Own β σ) β w' _ (Own β (updσ σ (killsU y.kills ++ _))) β
            rw [updσ_append]
            rw [length_updσ] at e3
            exact x1.trans e3
        split at ho
        · rename_i cs he
          split at ho
          · rename_i hle
            cases ho
            have := key (.agg cs) (.agg (putAt cs off d.cells)) (b ∉ y.kills) he rfl hle.1 hle.2 hp
            exact this
          · cases ho
        · rename_i e he0 he
          cases ho
          obtain ⟨p1, p2, p3, p4, p5⟩ := hp
          subst p3
          refine key e d _ he ?_ (by omega) (by omega) p5
          have : e.cells.drop 1 = [] := List.drop_eq_nil_of_le (by omega)
          simp only [putAt, List.take_zero, List.nil_append, Nat.zero_add, p2, this, List.append_nil]
        · cases ho
      · cases ho
  · cases ho
end
end Go.AM
end
section
namespace Go.AM
open Go.RowKit
set_option linter.unusedVariables false
set_option linter.unusedSimpArgs false
section
variable {C : Ctx} {P : Program} {w : World} {I : Nat → Prop} {β : List (Option Loc)} {σ : List Blk}

/-- Cells of the machine and of memory, side by side. -/
def CellsR (w : World) (I : Nat → Prop) (β : List (Option Loc)) (cs : List A) (us : Array Value) : Prop := cs.length = us.size ∧ ∀ (i : Nat) (c : A) (u : Value), cs[i]? = some c → us[i]? = some u → ARep w I β c u ∧ u.oneCell' = true

theorem fill_rep {pl : Plc} : ∀ {ps : List (Nat × A)} {vs : List (Nat × Value)} {cs cs' : List A} {us : Array Value}, CellsR w I β cs us → ps.length = vs.length → (∀ (i : Nat) (p : Nat × A) (q : Nat × Value), ps[i]? = some p → vs[i]? = some q → p.1 = q.1 ∧ ARep w I β p.2 q.2) →
    fillA pl cs ps = some cs' → ∃ us', Instr.fill pl.at us vs = some us' ∧ CellsR w I β cs' us'
  | [], [], cs, cs', us, hc, _, _, h => by
    simp only [fillA, Option.some.injEq] at h
    subst h
    exact ⟨us, by simp [Instr.fill], hc⟩
  | (i, x) :: ps, [], _, _, _, _, hl, _, _ => by simp at hl
  | [], q :: vs, _, _, _, _, hl, _, _ => by simp at hl
  | (i, x) :: ps, (j, v) :: vs, cs, cs', us, hc, hl, hr, h => by
    obtain ⟨rfl, hv⟩ := hr 0 _ _ rfl rfl
    rw [fillA] at h
    split at h
    · rename_i off size hpl
      split at h
      · rename_i hle
        obtain ⟨h1, h2, h3⟩ := hle
        obtain ⟨c1', c2⟩ := hv.cells h3
        have c1 : x.cells.length = v.cells.size := c1'
        have hc1 := hc.1
        have hg := Great.foldl_set off v.cells.toList 0 us
        have hnew : CellsR w I β (putAt cs off x.cells) (v.cells.zipIdx.foldl (fun cs (y : Value × Nat) => cs.setIfInBounds (off + y.2) y.1) us) := by
          rw [← Array.foldl_toList, Array.toList_zipIdx]
          refine ⟨by rw [length_putAt (by omega), hg.1]; exact hc.1, fun k c u hk hu => ?_⟩
          rw [hg.2 k] at hu
          rw [getElem?_putAt (by omega)] at hk
          have hlen : v.cells.toList.length = x.cells.length := by rw [Array.length_toList]; omega
          split at hk
          · rename_i hin
            rw [if_pos ⟨by omega, by omega, by rw [← hc.1]; omega⟩] at hu
            refine c2 (k - off) c u hk ?_
            rw [← Array.getElem?_toList]
            simpa using hu
          · rename_i hin
            rw [if_neg (by omega)] at hu
            exact hc.2 k c u hk hu
        obtain ⟨us', g1, g2⟩ := fill_rep hnew (by simpa using hl) (fun i p q hp hq => hr (i + 1) p q (by simpa using hp) (by simpa using hq)) h
        refine ⟨us', ?_, g2⟩
        rw [Instr.fill]
        rw [hpl]
        dsimp only
        rw [if_neg (by rw [← hc.1]; simp; omega)]
        exact g1
      · cases h
    · cases h

theorem oBuild_sound {ty : TypeId} {ps : List (Nat × A)} {vs : Array (Nat × Value)} {o : Out} (hl : ps.length = vs.size) (hr : ∀ (i : Nat) (p : Nat × A) (q : Nat × Value), ps[i]? = some p → vs[i]? = some q → p.1 = q.1 ∧ ARep w I β p.2 q.2) (ho : oBuild P ty ps = some o) :
    ∃ z, o = val z ∧ Reads P w I β (Instr.build ty vs) z := by
  unfold oBuild at ho
  split at ho
  · rename_i z pl hz hpl
    split at ho
    · rename_i x hx
      split at ho
      · rename_i cs hcs
        cases ho
        obtain ⟨c1, c2⟩ := constA_rep (w := w) (I := I) (β := β) hx
        obtain ⟨us, g1, g2⟩ := fill_rep (w := w) (I := I) (β := β) (vs := vs.toList) (c1.cells c2) (by simpa using hl) (fun i p q hp hq => hr i p q hp (by rw [← Array.getElem?_toList]; exact hq)) hcs
        refine ⟨_, rfl, .agg us, ?_, mkAgg_rep g2.1 g2.2⟩
        refine run_build w ty vs us ?_
        unfold Program.built
        have hz' : ∃ it, P.info? ty = some it ∧ it.zero = some z := by
          unfold zeroT at hz
          rwa [Option.bind_eq_some_iff] at hz
        obtain ⟨it, e1, e2⟩ := hz'
        unfold plcT at hpl
        split at hpl
        · rename_i n e hu
          rw [Option.map_eq_some_iff] at hpl
          obtain ⟨ie, e3, rfl⟩ := hpl
          rw [e1, hu]
          dsimp only
          rw [e2, e3]
          exact g1
        · rename_i fs hu
          rw [Option.map_eq_some_iff] at hpl
          obtain ⟨l, e3, rfl⟩ := hpl
          rw [e1, hu]
          dsimp only
          rw [e2, e3]
          have : (fun x => l.toArray[x]?) = (Plc.row l).at := by funext x; simp [Plc.at]
          show Instr.fill (fun x => l.toArray[x]?) _ _ = _
          rw [this]; exact g1
        · cases hpl
      · cases ho
    · cases ho
  · cases ho

theorem oSlice_sound {t : Nat → Option A} {a : Act} (ht : ∀ (k : Nat) (x : A), t k = some x → ∃ u, a.tmps[k]? = some u ∧ ARep w I β x u) (h : HRel C w I β σ) {ty : TypeId} {lo hi mx : Option Operand} {x : A} {v : Value} {o : Out} (hx : ARep w I β x v) (ho : oSlice P t σ ty lo hi mx x = some o) (hp : o.p) :
    ∃ q, o = valP o.p q ∧ Reads P w I β (Instr.sliceAt ty v (lo.map a.eval) (hi.map a.eval) (mx.map a.eval)) q := by
  have low : ∀ {n : Nat}, bnd t 0 lo = some n → (lo.map a.eval = none ∧ n = 0) ∨ ∃ k, lo.map a.eval = some (.int k n) := fun hb => (bnd_rep ht hb).imp (fun h => ⟨by rw [h.1]; rfl, h.2⟩) id
  unfold oSlice at ho
  split at ho
  · rename_i xs
    split at ho
    · rename_i e l h m he hl hh hm
      split at ho
      rotate_left
      · cases ho
      rename_i k hsz
      cases ho
      obtain ⟨p0, p1, p2, p3, p4⟩ : (mx.isNone || hi.isSome) = true ∧ l ≤ h ∧ h ≤ m ∧ m ≤ xs.length ∧ ∀ z ∈ xs, z.cells.length = k := hp
      refine ⟨_, rfl, ?_⟩
      have hv : ∃ base cap, v = .slice base xs.length cap ∧ xs.length ≤ cap := by
        cases hx with
        | d hx =>
          cases hx with
          | nil => exact ⟨_, _, rfl, Nat.zero_le _⟩
          | lst sz f h1 h2 h3 => exact ⟨_, _, rfl, h3⟩
      obtain ⟨base, cap, rfl, hcap⟩ := hv
      have hb : ∃ m', (Instr.sliceBounds true xs.length cap (lo.map a.eval) (hi.map a.eval) (mx.map a.eval)).run P w = .ok (l, h, m') w ∧ h ≤ m' := by
        rcases bnd_rep ht hm with ⟨e1, e2⟩ | ⟨km, e1⟩
        · refine ⟨cap, sliceBounds_run (low hl) ?_ (.inl ⟨by rw [e1]; rfl, rfl⟩) p1 (by omega) (Nat.le_refl _), by omega⟩
          rcases bnd_rep ht hh with ⟨e3, e4⟩ | ⟨kh, e3⟩
          · exact .inl ⟨by rw [e3]; rfl, by rw [e1]; rfl, e4⟩
          · exact .inr ⟨kh, e3⟩
        · rcases bnd_rep ht hh with ⟨e3, e4⟩ | ⟨kh, e3⟩
          · rw [e3] at p0
            cases mx <;> simp at p0 e1
          · exact ⟨m, sliceBounds_run (low hl) (.inr ⟨kh, e3⟩) (.inr ⟨km, e1⟩) p1 p2 (by omega), p2⟩
      obtain ⟨m', hb, hm'⟩ := hb
      rcases Nat.eq_or_lt_of_le p1 with rfl | hlt
      · -- nothing of it
        rw [Nat.sub_self, List.take_zero]
        refine ⟨.slice (if m' = l then base else base.map (·.add (l * k))) (l - l) (m' - l), ?_, ?_⟩
        · simp [Instr.sliceAt, Instr.slice, run_underlying (elT_eq he), hb, run_sizeOf hsz]
        · rw [Nat.sub_self]; exact .d .nil
      · have hne : ¬ m' = l := by omega
        cases hx with
        | d hx =>
          generalize hn : xs.length = n at hx
          cases hx with
          | nil => simp at p3; omega
          | lst sz f hI hs hc hmx hsz' hcell hrep =>
            rename_i ad
            have hx0 := hsz' l _ (List.getElem?_eq_getElem (by omega))
            have hkz := p4 xs[l] (List.getElem_mem _)
            rw [hx0] at hkz
            subst hkz
            refine ⟨.slice (some (ad.add (l * sz))) (h - l) (m' - l), ?_, ?_⟩
            · simp [Instr.sliceAt, Instr.slice, run_underlying (elT_eq he), hb, run_sizeOf hsz, hne]
            · have hlen : ((xs.drop l).take (h - l)).length = h - l := by simp; omega
              have hget : ∀ (j : Nat) (x : D), ((xs.drop l).take (h - l))[j]? = some x → xs[l + j]? = some x := by
                intro j x hj
                have hjn : j < h - l := by
                  have := (List.getElem?_eq_some_iff.1 hj).1
                  omega
                rwa [List.getElem?_take_of_lt hjn, List.getElem?_drop] at hj
              have := DRep.lst (w := w) (I := I) (xs := (xs.drop l).take (h - l)) (ad := ad.add (l * sz)) (cap := m' - l) sz (fun j i => f (l + j) i) (by simpa [Addr.add] using (by split <;> exact hI)) (by simp only [Addr.add]; split <;> first | exact hs | rfl) (by omega) (by omega)
                (fun j x hj => hsz' _ x (hget j x hj)) (fun j x i c hj hi => by
                  rw [Addr.add_add]
                  have := hcell (l + j) x i c (hget j x hj) hi
                  rwa [show (l + j) * sz + i = l * sz + (j * sz + i) by rw [Nat.add_mul]; omega] at this) (fun j x i c hj hi => hrep _ x i c (hget j x hj) hi)
              rw [hlen] at this
              exact .d this
    · cases ho
  · rename_i b off n
    split at ho
    · rename_i e l h k xs he hl hh hs
      replace hs := look_some hs
      split at ho
      · rename_i hsz
        cases ho
        obtain ⟨p1, p2⟩ : l ≤ h ∧ h ≤ n := hp
        refine ⟨_, rfl, ?_⟩
        have hhi : (hi.map a.eval = none ∧ (none : Option Operand).map a.eval = none ∧ h = n) ∨ ∃ k, hi.map a.eval = some (.int k h) := by
          rcases bnd_rep ht hh with ⟨e3, e4⟩ | ⟨kh, e3⟩
          · exact .inl ⟨by rw [e3]; rfl, rfl, e4⟩
          · exact .inr ⟨kh, e3⟩
        cases hx with
        | sl hb hc hm hcap =>
          rename_i cap q
          have hk := (‹HRel C w I β σ›.blk b q _ hb hs).1
          have hr : (Instr.sliceBounds true n cap (lo.map a.eval) (hi.map a.eval) none).run P w = .ok (l, h, cap) w := sliceBounds_run (low hl) hhi (.inl ⟨rfl, rfl⟩) p1 (by omega) (Nat.le_refl _)
          by_cases hcl : cap = l
          · subst hcl
            refine ⟨.slice (some ⟨q.r, q.o + off * q.sz, none⟩) (h - cap) (cap - cap), ?_, ?_⟩
            · simp [Instr.sliceAt, Instr.slice, run_underlying (elT_eq he), hr, run_sizeOf hsz]
            · have e1 : h - cap = 0 := by omega
              have e2 : cap - cap = 0 := by omega
              rw [e1, e2]; exact .sl0
          · refine ⟨.slice (some ((⟨q.r, q.o + off * q.sz, none⟩ : Addr).add (l * k))) (h - l) (cap - l), ?_, ?_⟩
            · simp [Instr.sliceAt, Instr.slice, run_underlying (elT_eq he), hr, run_sizeOf hsz, hcl]
            · have e1 : q.o + off * q.sz + l * k = q.o + (off + l) * q.sz := by rw [hk, Nat.add_mul]; omega
              rw [Addr.add_lit, e1]
              refine .sl hb (by omega) (by omega) (fun i hi => ?_)
              have := hcap (l * q.sz + i) (by
                have h1 : (cap - l) * q.sz = cap * q.sz - l * q.sz := Nat.sub_mul ..
                have h2 : l * q.sz ≤ cap * q.sz := Nat.mul_le_mul_right _ (by omega)
                omega)
              rwa [show q.o + (off * q.sz + (l * q.sz + i)) = q.o + ((off + l) * q.sz + i) by rw [Nat.add_mul]; omega] at this
        | sl0 =>
          rename_i ba
          have e1 : h = 0 := by omega
          have e2 : l = 0 := by omega
          subst e1; subst e2
          have hr : (Instr.sliceBounds true 0 0 (lo.map a.eval) (hi.map a.eval) none).run P w = .ok (0, 0, 0) w := sliceBounds_run (low hl) hhi (.inl ⟨rfl, rfl⟩) (Nat.le_refl _) (Nat.le_refl _) (Nat.le_refl _)
          refine ⟨.slice ba 0 0, ?_, .sl0⟩
          simp [Instr.sliceAt, Instr.slice, run_underlying (elT_eq he), hr, run_sizeOf hsz]
      · cases ho
    · cases ho
  · rename_i s
    split at ho
    · rename_i l h hk hl hh
      cases ho
      obtain ⟨p1, p2⟩ : l ≤ h ∧ h ≤ s.size := hp
      obtain rfl := rep_str hx
      refine ⟨_, rfl, .string (s.extract l h), ?_, .d (.v rfl)⟩
      have hhi : (hi.map a.eval = none ∧ (none : Option Operand).map a.eval = none ∧ h = s.size) ∨ ∃ k, hi.map a.eval = some (.int k h) := by
        rcases bnd_rep ht hh with ⟨e3, e4⟩ | ⟨kh, e3⟩
        · exact .inl ⟨by rw [e3]; rfl, rfl, e4⟩
        · exact .inr ⟨kh, e3⟩
      have hr : (Instr.sliceBounds false s.size s.size (lo.map a.eval) (hi.map a.eval) none).run P w = .ok (l, h, s.size) w := sliceBounds_run (low hl) hhi (.inl ⟨rfl, rfl⟩) p1 p2 (Nat.le_refl _)
      simp [Instr.sliceAt, Instr.slice, run_underlying (knT_str hk), hr]
    · cases ho
  · cases ho
end
end Go.AM
end
section
namespace Go.AM
open Go.RowKit
set_option linter.unusedVariables false
set_option linter.unusedSimpArgs false
section
variable {C : Ctx} {P : Program} {w : World} {I : Nat → Prop} {β : List (Option Loc)} {σ : List Blk}

theorem elB_eq {e k by' : Nat} (h : elB P e = some (k, by')) : ∃ i z, P.info? e = some i ∧ i.zero = some z ∧ z.cells.size = k ∧ i.size = k ∧ i.bytes = by' := by
  unfold elB at h
  split at h
  · rename_i i hi
    split at h
    · rename_i z hz
      split at h
      · rename_i hs
        simp only [Option.some.injEq, Prod.mk.injEq] at h
        exact ⟨i, z, hi, hz, hs.trans h.1, h.1, h.2⟩
      · cases h
    · cases h
  · cases h
theorem elB_sz {e k by' : Nat} (h : elB P e = some (k, by')) : szT P e = some k := by
  obtain ⟨i, z, h1, _, _, h4, _⟩ := elB_eq h
  simp [szT, h1, h4]

theorem listD_rep (h : HRel C w I β σ) : ∀ {ps : List (Nat × A)} {vs : List (Nat × Value)} {i : Nat} {ds : List D}, ps.length = vs.length → (∀ (i : Nat) (p : Nat × A) (q : Nat × Value), ps[i]? = some p → vs[i]? = some q → p.1 = q.1 ∧ ARep w I β p.2 q.2) → listD σ i ps = some ds →
    ∃ us : List Value, vs = (us.zipIdx i).map (fun x => (x.2, x.1)) ∧ us.length = ds.length ∧ ∀ (j : Nat) (z : D) (u : Value), ds[j]? = some z → us[j]? = some u → DRep w (FI I β σ (killsP ps)) z u
  | [], [], i, ds, _, _, hd => by
    simp only [listD, Option.some.injEq] at hd
    subst hd
    exact ⟨[], rfl, rfl, fun j z u hz => by simp at hz⟩
  | (a, x) :: ps, [], _, _, hl, _, _ => by simp at hl
  | [], q :: vs, _, _, hl, _, _ => by simp at hl
  | (a, x) :: ps, (b, v) :: vs, i, ds, hl, hr, hd => by
    obtain ⟨hab, hv⟩ := hr 0 _ _ rfl rfl
    have hab' : a = b := hab
    subst hab'
    rw [listD] at hd
    split at hd
    · rename_i hai
      subst hai
      split at hd
      · rename_i z zs h1 h2
        cases hd
        obtain ⟨us, e1, e2, e3⟩ := listD_rep h (by simpa using hl) (fun i p q hp hq => hr (i + 1) p q (by simpa using hp) (by simpa using hq)) h2
        refine ⟨v :: us, ?_, by simp [e2], fun j z' u hz hu => ?_⟩
        · rw [List.zipIdx_cons, List.map_cons, e1]
        · cases j with
          | zero =>
            simp only [List.getElem?_cons_zero, Option.some.injEq] at hz hu
            subst hz; subst hu
            exact (toD_rep h hv h1).imono (FI_mono fun b hb => by simp [killsP, hb])
          | succ j => exact (e3 j z' u (by simpa using hz) (by simpa using hu)).imono (FI_mono fun b hb => by simp [killsP, hb])
      · cases hd
    · cases hd

theorem oBuildSlice_sound {ty len : Nat} {ps : List (Nat × A)} {vs : Array (Nat × Value)} {o : Out} (nb : Nat) (h : HRel C w I β σ) (hl : ps.length = vs.size) (hr : ∀ (i : Nat) (p : Nat × A) (q : Nat × Value), ps[i]? = some p → vs[i]? = some q → p.1 = q.1 ∧ ARep w I β p.2 q.2)
    (ho : oBuildSlice C.P σ ty len ps = some o) (hp : o.p) : SV C (Instr.buildSlice ty len vs) w I β σ nb o := by
  unfold oBuildSlice at ho
  split at ho
  · rename_i e he
    split at ho
    · split at ho
      · rename_i kb hk
        cases ho
        obtain ⟨k, by'⟩ := kb
        have hps : ps = [] := hp
        subst hps
        have hvs : vs = #[] := Array.eq_empty_of_size_eq_zero (by simpa using hl.symm)
        subst hvs
        obtain ⟨h2, x2⟩ := h.grow (w' := w.alloc (.cells #[] e)) (I' := I) σ.length rfl rfl rfl (by simp) (fun r hr => Below.heap_alloc _ _ _ hr) (fun _ h => h) (fun q hq => .inl hq)
        refine ⟨.slice (some ⟨w.heap.size, 0, none⟩) 0 0, _, I, β, ?_, .nl, h2, x2, fun _ hb _ => hb⟩
        simp [Instr.buildSlice, run_underlying (elT_eq he), run_sizeOf (elB_sz hk), Instr.fill, newRow, Array.range_zero']
      · cases ho
    · rename_i n
      split at ho
      · rename_i ds k by' hds hk
        cases ho
        obtain ⟨p1, p2, p3, p4⟩ : ds.length = n + 1 ∧ 0 < k ∧ (n + 1) * k ≤ 16777216 ∧ ∀ x ∈ ds, x.cells.length = k := hp
        obtain ⟨i, z, i1, i2, i3, i4, i5⟩ := elB_eq hk
        obtain ⟨us, e1, e2, e3⟩ := listD_rep h (vs := vs.toList) (by simpa using hl) (fun i p q hp hq => hr i p q hp (by rw [← Array.getElem?_toList]; exact hq)) hds
        have hus : ∀ v ∈ us, v.cells.size = k := by
          intro v hv
          obtain ⟨j, hj, rfl⟩ := List.mem_iff_getElem.1 hv
          have hdj : ds[j]? = some ds[j] := List.getElem?_eq_getElem (by omega)
          have := (e3 j _ _ hdj (List.getElem?_eq_getElem hj)).cells.1
          rw [← this]
          exact p4 _ (List.getElem_mem _)
        obtain ⟨r, r1, r2, r3⟩ := Great.fill_dense p2 us 0 ((Array.range ((n + 1) * k)).map (z.cells[· % z.cells.size]!)) hus (by simp; rw [e2, p1]; exact Nat.le_refl _)
        have hrun : (Instr.buildSlice ty (n + 1) vs).run C.P w = .ok (.slice (some ⟨w.heap.size, 0, none⟩) (n + 1) (n + 1)) (w.alloc (.cells r e)) := by
          refine run_buildSlice w ty e (n + 1) vs r i z (elT_eq he) i1 i2 (by rw [i4]; omega) ?_ ?_
          · rw [i4]
            intro h0
            rcases Nat.mul_eq_zero.1 h0 with h0 | h0 <;> omega
          · rw [i4, e1]; exact r1
        obtain ⟨h1, x1⟩ := h.kills σ.length (killsP ps)
        obtain ⟨h2, x2⟩ := h1.grow (w' := w.alloc (.cells r e)) (I' := fun q => FI I β σ (killsP ps) q ∨ q = w.heap.size) σ.length rfl rfl rfl (by simp) (fun r hr => Below.heap_alloc _ _ _ hr) (fun _ h => .inl h) (fun q hq => hq.imp id fun e => by subst e; exact ⟨Nat.le_refl _, by simp⟩)
        refine ⟨_, _, _, β, hrun, ?_, h2, x1.trans x2, fun _ hb _ => hb⟩
        have hrep : DRep (w.alloc (.cells r e)) (fun q => FI I β σ (killsP ps) q ∨ q = w.heap.size) (.lst ds) (.slice (some ⟨w.heap.size, 0, none⟩) ds.length (n + 1)) := by
          have hcells : ∀ (j : Nat) (x : D) (i : Nat) (c : D), ds[j]? = some x → x.cells[i]? = some c → ∃ u, r[j * k + i]? = some u ∧ u.oneCell' = true ∧ DRep w (FI I β σ (killsP ps)) c u := by
            intro j x i c hj hi
            obtain ⟨hjl, hje⟩ := List.getElem?_eq_some_iff.1 hj
            have hik : i < k := by
              have := (List.getElem?_eq_some_iff.1 hi).1
              rw [p4 x (hje ▸ List.getElem_mem _)] at this
              exact this
            have huj : us[j]? = some us[j] := List.getElem?_eq_getElem (by omega)
            obtain ⟨c1, c2⟩ := (e3 j x _ hj huj).cells
            have hik' : i < us[j].cells.size := by rw [hus _ (List.getElem_mem _)]; exact hik
            have hu : us[j].cells[i]? = some us[j].cells[i] := Array.getElem?_eq_getElem hik'
            have hlt : j * k + i < us.length * k := by
              have : (j + 1) * k ≤ us.length * k := Nat.mul_le_mul_right _ (by omega)
              rw [Nat.add_mul] at this; omega
            refine ⟨_, ?_, (c2 i c _ hi hu).2, (c2 i c _ hi hu).1⟩
            rw [r3 (j * k + i), if_pos ⟨by rw [Nat.zero_mul]; exact Nat.zero_le _, by rw [Nat.zero_add]; exact hlt⟩]
            have d1 : (j * k + i) / k = j := by rw [Nat.mul_comm, Nat.mul_add_div p2, Nat.div_eq_of_lt hik]; omega
            have d2 : (j * k + i) % k = i := by rw [Nat.mul_comm, Nat.mul_add_mod, Nat.mod_eq_of_lt hik]
            rw [d1, d2, Nat.sub_zero, huj]
            exact hu
          have hn1 : n + 1 ≤ 16777216 := Nat.le_trans (Nat.le_mul_of_pos_right (n + 1) p2) p3
          refine .lst k (fun j i => r.getD (j * k + i) undef) (.inr rfl) rfl (by omega) (by omega) (fun j x hj => p4 x (List.mem_of_getElem? hj)) (fun j x i c hj hi => ?_) (fun j x i c hj hi => ?_)
          · obtain ⟨u, g1, g2, g3⟩ := hcells j x i c hj hi
            rw [Addr.add_lit, Nat.zero_add, World.cell?_alloc_new]
            rw [Array.getD_eq_getD_getElem?, g1]
            exact ⟨rfl, g2⟩
          · obtain ⟨u, g1, g2, g3⟩ := hcells j x i c hj hi
            rw [Array.getD_eq_getD_getElem?, g1]
            exact g3.mono (fun a ha => World.cell?_alloc_lt _ _ _ (h1.imm _ ha)) (fun _ h => .inl h)
        rw [p1] at hrep
        exact .d hrep
      · cases ho
  · cases ho

theorem HRel.empty (h : HRel C w I β σ) : HRel C w I [] [] :=
  ⟨rfl, fun b l k hb => by simp at hb, fun b l k hb => by simp at hb, fun b k hb => by simp at hb, fun b b' l l' k k' hb => by simp at hb, h.imm, h.env, h.size⟩

theorem oMake_sound {ty : TypeId} {x y : A} {v z : Value} {o : Out} {nb : Nat} (h : HRel C w I β σ) (hx : ARep w I β x v) (hy : ARep w I β y z) (ho : oMake C.P ty x y = some o) (hp : o.p) (hσ : σ[nb]? = some .dead) (hβ : β[nb]? = some none) : SV C (Instr.makeSlice ty v z) w I β σ nb o := by
  unfold oMake at ho
  split at ho
  · rename_i n m
    obtain rfl := rep_int hx
    obtain rfl := rep_int hy
    split at ho
    · rename_i e he
      split at ho
      · rename_i zv k by' hz hk
        split at ho
        · rename_i a ha
          split at ho
          · rename_i d hd
            cases ho
            obtain ⟨p1, p2, p3, p4, p5⟩ : 0 ≤ n ∧ n ≤ m ∧ (by' : Int) * m ≤ 281474976710656 ∧ m ≤ 9223372036854775807 ∧ d.cells.length = k := hp
            obtain ⟨i, z', i1, i2, i3, i4, i5⟩ := elB_eq hk
            have hzz : z' = zv := by
              unfold zeroT at hz
              rw [i1] at hz
              simp only [Option.bind_some] at hz
              rw [i2] at hz; exact Option.some.inj hz
            subst hzz
            have hdr := toD_rep h.empty (constA_rep (w := w) (I := I) (β := []) ha).1 hd
            have hdr' : DRep w I d z' := hdr.imono fun r hr => by
              rcases hr with hr | ⟨b, _, l, q, hq, _⟩
              · exact hr
              · simp at hq
            obtain ⟨c1, c2⟩ := hdr'.cells
            have hrun := run_make (P := C.P) w ty e i z' (elT_eq he) i1 i2 .i64 .i64 n m p1 p2 (by rw [i5]; exact p3) p4
            rw [i4] at hrun
            have hlt : nb < β.length := (List.getElem?_eq_some_iff.1 hβ).1
            have hlt' : nb < σ.length := (List.getElem?_eq_some_iff.1 hσ).1
            have hcell : ∀ a : Addr, (w.cell? a).isSome = true → ((w.alloc (.cells (madeCells z'.cells (m.toNat * k)) e)).cell? a).isSome = true := fun a ha => by
              obtain ⟨u, hu⟩ := Option.isSome_iff_exists.1 ha
              rw [World.cell?_alloc_lt _ _ _ (World.block_lt_of_cell? w a hu)]; exact ha
            have hmc : ∀ q, q < m.toNat * k → (madeCells z'.cells (m.toNat * k))[q]? = some (z'.cells[q % z'.cells.size]!) := by
              intro q hq
              simp [madeCells, hq]
            obtain ⟨g1, g2⟩ := h.one (w' := w.alloc (.cells (madeCells z'.cells (m.toNat * k)) e)) (β' := β.set nb (some ⟨w.heap.size, 0, k⟩)) (σ' := σ.set nb (.arr k (List.replicate n.toNat d))) (b0 := nb) (k0 := .arr k (List.replicate n.toNat d)) (l0 := ⟨w.heap.size, 0, k⟩)
              (by simp) (by simp) (fun b k hb hk => .inl (by rwa [List.getElem?_set, if_neg (fun e => hb e.symm)] at hk)) (by rw [List.getElem?_set_self hlt'])
              (fun b hb => by rw [List.getElem?_set, if_neg (fun e => hb e.symm)]) (by rw [List.getElem?_set_self hlt]) (.inl hβ)
              rfl rfl rfl (by simp) (fun r hr hr' => Below.heap_alloc _ _ _ hr') hcell (fun hi => Nat.lt_irrefl _ (h.imm _ hi))
              (fun b l k hb hbl hk hlv e => by
                rw [List.getElem?_set, if_neg (fun e => hb e.symm)] at hk
                have := (h.own b l k hbl hk hlv).2.1
                rw [e] at this
                exact Nat.lt_irrefl _ this) (.inr (Nat.le_refl _)) h.size (by simp) (fun o => World.frozen?_alloc_new _ _ _ _)
              ⟨rfl, fun j x hj => by rw [List.getElem?_replicate] at hj; split at hj <;> cases hj; exact p5, fun j i => z'.cells.getD i undef, fun j x i c hj hi => by
                rw [List.getElem?_replicate] at hj
                split at hj
                · rename_i hjn
                  cases hj
                  have hik : i < k := by have := (List.getElem?_eq_some_iff.1 hi).1; omega
                  have hu : z'.cells[i]? = some z'.cells[i] := Array.getElem?_eq_getElem (by omega)
                  obtain ⟨r1, r2⟩ := c2 i c _ hi hu
                  have hq : j * k + i < m.toNat * k := by
                    have : (j + 1) * k ≤ m.toNat * k := Nat.mul_le_mul_right _ (by omega)
                    rw [Nat.add_mul] at this; omega
                  have hmod : (j * k + i) % z'.cells.size = i := by rw [i3, Nat.mul_comm, Nat.mul_add_mod, Nat.mod_eq_of_lt hik]
                  dsimp only
                  rw [Array.getD_eq_getD_getElem?, hu]
                  refine ⟨?_, r2, r1.mono (fun a ha => World.cell?_alloc_lt _ _ _ (h.imm _ ha)) (fun _ h => h)⟩
                  show (w.alloc _).cell? ⟨w.heap.size, 0 + (j * k + i), none⟩ = _
                  rw [Nat.zero_add, World.cell?_alloc_new, hmc _ hq, hmod]
                  rw [getElem!_pos z'.cells i (by omega)]
                  rfl
                · cases hj⟩
            refine ⟨_, _, _, _, hrun, ?_, g1, g2, fun b hb hn => keep_set hb (hn.resolve_right (by simp))⟩
            have := ARep.sl (w := w.alloc (.cells (madeCells z'.cells (m.toNat * k)) e)) (I := I) (β := β.set nb (some ⟨w.heap.size, 0, k⟩)) (b := nb) (off := 0) (len := n.toNat) (cap := m.toNat) (l := ⟨w.heap.size, 0, k⟩) (by rw [List.getElem?_set_self hlt]) (by omega) (by omega) (fun q hq => by
              show ((w.alloc _).cell? ⟨w.heap.size, 0 + (0 * k + q), none⟩).isSome = true
              rw [Nat.zero_mul, Nat.zero_add, Nat.zero_add, World.cell?_alloc_new, hmc _ hq]; rfl)
            simpa using this
          · cases ho
        · cases ho
      · cases ho
    · cases ho
  · cases ho

/-- The cells of a list that is appended. -/
theorem lst_src {ty e' : TypeId} {x : A} {v : Value} {ys : List D} {k : Nat} (h : HRel C w I β σ) (hx : ARep w I β x v) (hd : x.toD σ = some (.lst ys)) (hk : P.underlying ty = some (.slice e')) (hys : ∀ z ∈ ys, z.cells.length = k) :
    ∃ news : List Value, Src P k ty v ys.length news w ∧ news.length = ys.length * k ∧ ∀ (j : Nat) (x : D) (i : Nat) (c : D), ys[j]? = some x → x.cells[i]? = some c → ∃ u, news[j * k + i]? = some u ∧ u.oneCell' = true ∧ DRep w I c u := by
  have emp : ∀ (a : Option Addr) (c : Nat), Src P k ty (.slice a 0 c) 0 [] w := by
    intro a c
    cases a with
    | none => exact Src.ofNil w hk c
    | some a => exact Src.ofSlice w hk a 0 c [] (by simp) (fun j u h => by simp at h) (fun u h => by cases h)
  have gen : ∀ (ad : Addr) (cap : Nat) (f : Nat → Nat → Value), (∀ (j : Nat) (x : D) (i : Nat) (c : D), ys[j]? = some x → x.cells[i]? = some c → w.cell? (ad.add (j * k + i)) = some (f j i) ∧ (f j i).oneCell' = true ∧ DRep w I c (f j i)) →
      ∃ news : List Value, Src P k ty (.slice (some ad) ys.length cap) ys.length news w ∧ news.length = ys.length * k ∧ ∀ (j : Nat) (x : D) (i : Nat) (c : D), ys[j]? = some x → x.cells[i]? = some c → ∃ u, news[j * k + i]? = some u ∧ u.oneCell' = true ∧ DRep w I c u := by
    intro ad cap f hf
    have hcell : ∀ q, q < ys.length * k → ∃ (x : D) (c : D), ys[q / k]? = some x ∧ x.cells[q % k]? = some c ∧ q / k * k + q % k = q := by
      intro q hq
      have hk0 : 0 < k := by
        rcases Nat.eq_zero_or_pos k with h0 | h0
        · subst h0; simp at hq
        · exact h0
      have h1 : q / k < ys.length := (Nat.div_lt_iff_lt_mul hk0).2 hq
      have h2 := hys _ (List.getElem_mem h1)
      have h3 : q % k < (ys[q / k]).cells.length := by rw [h2]; exact Nat.mod_lt _ hk0
      exact ⟨_, _, List.getElem?_eq_getElem h1, List.getElem?_eq_getElem h3, Nat.div_add_mod' q k⟩
    refine ⟨(List.range (ys.length * k)).map fun q => f (q / k) (q % k), Src.ofSlice w hk ad ys.length cap _ (by simp) (fun q u hu => ?_) (fun u hu => ?_), by simp, fun j x i c hj hi => ?_⟩
    · rw [List.getElem?_map, Option.map_eq_some_iff] at hu
      obtain ⟨q', hq', rfl⟩ := hu
      obtain ⟨hlt, he⟩ := List.getElem?_eq_some_iff.1 hq'
      simp only [List.getElem_range] at he
      subst he
      obtain ⟨x, c, h1, h2, h3⟩ := hcell q (by simpa using hlt)
      have := (hf _ x _ c h1 h2).1
      rwa [h3] at this
    · obtain ⟨q, hq, rfl⟩ := List.mem_map.1 hu
      obtain ⟨x, c, h1, h2, h3⟩ := hcell q (List.mem_range.1 hq)
      exact (hf _ x _ c h1 h2).2.1
    · obtain ⟨hjl, hje⟩ := List.getElem?_eq_some_iff.1 hj
      have hik : i < k := by
        have := (List.getElem?_eq_some_iff.1 hi).1
        rwa [hys x (hje ▸ List.getElem_mem _)] at this
      have hlt : j * k + i < ys.length * k := by
        have : (j + 1) * k ≤ ys.length * k := Nat.mul_le_mul_right _ hjl
        rw [Nat.add_mul] at this; omega
      have d1 : (j * k + i) / k = j := by rw [Nat.mul_comm, Nat.mul_add_div (by omega), Nat.div_eq_of_lt hik]; omega
      have d2 : (j * k + i) % k = i := by rw [Nat.mul_comm, Nat.mul_add_mod, Nat.mod_eq_of_lt hik]
      refine ⟨f j i, ?_, (hf j x i c hj hi).2⟩
      rw [List.getElem?_map, List.getElem?_range hlt]
      simp [d1, d2]
  cases x with
  | d y =>
    simp only [A.toD, Option.some.injEq] at hd
    subst hd
    cases hx with
    | d hx =>
      cases hx with
      | nil => exact ⟨[], emp _ _, by simp, fun j x i c hj => by simp at hj⟩
      | lst sz f hI hs hc hm hsz hcell hrep =>
        rename_i ad cap
        refine gen ad cap f (fun j x i c hj hi => ?_)
        have e : sz = k := by rw [← hsz j x hj]; exact hys x (List.mem_of_getElem? hj)
        subst e
        exact ⟨(hcell j x i c hj hi).1, (hcell j x i c hj hi).2, hrep j x i c hj hi⟩
  | nl =>
    simp only [A.toD, Option.some.injEq, D.lst.injEq] at hd
    subst hd
    cases hx
    exact ⟨[], emp _ _, by simp, fun j x i c hj => by simp at hj⟩
  | sl b o n =>
    rw [A.toD] at hd
    split at hd
    · rename_i k' xs hs
      replace hs := look_some hs
      split at hd
      · rename_i hle
        simp only [Option.some.injEq, D.lst.injEq] at hd
        subst hd
        cases hx with
        | sl0 => exact ⟨[], emp _ _, by simp, fun j x i c hj => by simp at hj⟩
        | sl hb hc hm hcap =>
          rename_i cap l
          obtain ⟨hk', hsz, f, hf⟩ := h.blk b l _ hb hs
          have hlen : ((xs.drop o).take n).length = n := by simp; omega
          have hget : ∀ (j : Nat) (x : D), ((xs.drop o).take n)[j]? = some x → j < n ∧ xs[o + j]? = some x := by
            intro j x hj
            have hjn : j < n := by
              have := (List.getElem?_eq_some_iff.1 hj).1
              omega
            rw [List.getElem?_take_of_lt hjn, List.getElem?_drop] at hj
            exact ⟨hjn, hj⟩
          have := gen ⟨l.r, l.o + o * l.sz, none⟩ cap (fun j i => f (o + j) i) (fun j x i c hj hi => by
            obtain ⟨_, h1⟩ := hget j x hj
            have e : k' = k := by rw [← hsz _ x h1]; exact hys x (List.mem_of_getElem? hj)
            subst e
            obtain ⟨p1, p2, p3⟩ := hf _ x i c h1 hi
            refine ⟨?_, p2, p3⟩
            rw [Addr.add_lit]
            have e1 : l.o + o * l.sz + (j * k' + i) = l.o + ((o + j) * k' + i) := by rw [hk', Nat.add_mul]; omega
            rw [e1]; exact p1)
          rw [hlen] at this ⊢
          exact this
      · cases hd
    · cases hd
  | agg cs => rw [A.toD] at hd; split at hd <;> cases hd
  | ptr => simp [A.toD] at hd
  | ep => simp [A.toD] at hd
  | ro => simp [A.toD] at hd
  | mp => simp [A.toD] at hd
  | fn => simp [A.toD] at hd
  | tup => simp [A.toD] at hd
  | er => simp [A.toD] at hd
  | any => simp [A.toD] at hd
end
end Go.AM
end
section
namespace Go.AM
open Go.RowKit
set_option linter.unusedVariables false
set_option linter.unusedSimpArgs false
section
variable {C : Ctx} {w : World} {I : Nat → Prop} {β : List (Option Loc)} {σ σ' : List Blk}

/-- Elements side by side with their cells. -/
def RowR (w : World) (I : Nat → Prop) (k : Nat) (ys : List D) (us : List Value) : Prop := us.length = ys.length * k ∧ (∀ z ∈ ys, z.cells.length = k) ∧ ∀ (j : Nat) (x : D) (i : Nat) (c : D), ys[j]? = some x → x.cells[i]? = some c → ∃ u, us[j * k + i]? = some u ∧ u.oneCell' = true ∧ DRep w I c u
theorem RowR.append {k : Nat} {ys zs : List D} {us vs : List Value} (h : RowR w I k ys us) (g : RowR w I k zs vs) : RowR w I k (ys ++ zs) (us ++ vs) := by
  refine ⟨by rw [List.length_append, List.length_append, h.1, g.1, Nat.add_mul], fun z hz => (List.mem_append.1 hz).elim (h.2.1 z) (g.2.1 z), fun j x i c hj hi => ?_⟩
  rw [List.getElem?_append] at hj
  split at hj
  · rename_i hlt
    obtain ⟨u, h1, h2⟩ := h.2.2 j x i c hj hi
    exact ⟨u, by rw [List.getElem?_append_left (List.getElem?_eq_some_iff.1 h1).1]; exact h1, h2⟩
  · rename_i hge
    obtain ⟨u, h1, h2⟩ := g.2.2 _ x i c hj hi
    have e : (j - ys.length) * k = j * k - ys.length * k := Nat.sub_mul ..
    have e2 : ys.length * k ≤ j * k := Nat.mul_le_mul_right _ (by omega)
    refine ⟨u, ?_, h2⟩
    rw [List.getElem?_append_right (by rw [h.1]; omega), h.1]
    rwa [show j * k + i - ys.length * k = (j - ys.length) * k + i by omega]

theorem append_grow {ty yt rt e k by' n cap nb : Nat} {base : Option Addr} {v2 : Value} {olds news : List Value} {zs ys : List D} (h : HRel C w I β σ) (he : elT C.P ty = some e) (hk : elB C.P e = some (k, by'))
    (hold : (Builtin.firstCells k n (.slice base n cap)).run C.P w.drew = .ok olds.toArray w.drew) (ho : RowR w I k zs olds) (hzn : zs.length = n) (hs : Src C.P k yt v2 ys.length news w) (hn : RowR w I k ys news)
    (hg : cap < n + ys.length) (h63 : n + ys.length ≤ 9223372036854775807) (hb : (n + ys.length) * by' ≤ 140737488355328)
    (hlen : σ'.length = σ.length) (hσ : ∀ (b : Nat) (k : Blk), b ≠ nb → σ'[b]? = some k → σ[b]? = some k ∨ k = .dead) (hσ0 : σ'[nb]? = some (.arr k (zs ++ ys))) (hβ : β[nb]? = some none) :
    ∃ u w' β', (Builtin.append_ #[ty, yt] rt #[.slice base n cap, v2]).run C.P w = .ok u w' ∧ ARep w' I β' (.sl nb 0 (n + ys.length)) u ∧ HRel C w' I β' σ' ∧ Ext σ.length w I (Own β σ) β w' I (Own β' σ') β' ∧ ∀ b, β[b]? = some none → b ≠ nb → β'[b]? = some none := by
  obtain ⟨i, z, i1, i2, i3, i4, i5⟩ := elB_eq hk
  have hfit : Builtin.nextslicecap (n + ys.length) cap * i.bytes ≤ 281474976710656 := growslice_fits hg (by rw [i5]; exact hb)
  have hrun := run_append_grow_src (P := C.P) w ty yt rt e i z (elT_eq he) i1 i2 base n cap olds (by rw [i4]; exact hold) v2 ys.length news (by rw [i4]; exact hs) hg (by omega) hfit
  have hrow := ho.append hn
  have hcap := grownCap_ge w (n + ys.length) cap e
  generalize grownCap w (n + ys.length) cap e = gc at hrun hcap
  have hlt : nb < β.length := (List.getElem?_eq_some_iff.1 hβ).1
  have hzc : (Builtin.zeroCells z.cells (gc - (n + ys.length))).size = (gc - (n + ys.length)) * k := by simp [Builtin.zeroCells, i3]
  generalize Builtin.zeroCells z.cells (gc - (n + ys.length)) = zc at hrun hzc
  have hsize : ((olds ++ news).toArray ++ zc).size = gc * k := by
    rw [Array.size_append, List.size_toArray, hrow.1, hzc, List.length_append, hzn, ← Nat.add_mul]
    congr 1; omega
  have hold' : ∀ a : Addr, a.block < w.heap.size → (w.drew.alloc (.cells ((olds ++ news).toArray ++ zc) e)).cell? a = w.cell? a := fun a ha => by
    rw [World.cell?_alloc_lt _ _ _ (by simpa using ha)]; rfl
  have hcell : ∀ a : Addr, (w.cell? a).isSome = true → ((w.drew.alloc (.cells ((olds ++ news).toArray ++ zc) e)).cell? a).isSome = true := fun a ha => by
    obtain ⟨u, hu⟩ := Option.isSome_iff_exists.1 ha
    rw [hold' a (World.block_lt_of_cell? w a hu)]; exact ha
  obtain ⟨g1, g2⟩ := h.one (w' := w.drew.alloc (.cells ((olds ++ news).toArray ++ zc) e)) (β' := β.set nb (some ⟨w.heap.size, 0, k⟩)) (σ' := σ') (b0 := nb) (k0 := .arr k (zs ++ ys)) (l0 := ⟨w.heap.size, 0, k⟩)
    hlen (by simp) hσ hσ0 (fun b hb => by rw [List.getElem?_set, if_neg (fun e => hb e.symm)]) (by rw [List.getElem?_set_self hlt]) (.inl hβ)
    rfl rfl rfl (by simp) (fun r hr hr' => Below.heap_alloc w.drew _ _ hr') hcell (fun hi => Nat.lt_irrefl _ (h.imm _ hi))
    (fun b l q hb hbl hq hlv e => by
      rcases hσ b q hb hq with h4 | rfl
      · have := (h.own b l q hbl h4 hlv).2.1
        rw [e] at this
        exact Nat.lt_irrefl _ this
      · cases hlv) (.inr (Nat.le_refl _)) h.size (by simp) (fun o => World.frozen?_alloc_new w.drew _ _ _)
    ⟨rfl, fun j x hj => hrow.2.1 x (List.mem_of_getElem? hj), fun j i => (olds ++ news).getD (j * k + i) undef, fun j x i c hj hi => by
      obtain ⟨u, r1, r2, r3⟩ := hrow.2.2 j x i c hj hi
      have hi' := (List.getElem?_eq_some_iff.1 r1).1
      dsimp only
      rw [List.getD_eq_getElem?_getD, r1]
      refine ⟨?_, r2, r3.mono (fun a ha => hold' a (h.imm _ ha)) (fun _ h => h)⟩
      rw [Nat.zero_add]
      have := World.cell?_alloc_new w.drew ((olds ++ news).toArray ++ zc) e (j * k + i)
      rw [World.size_drew] at this
      rw [this, Array.getElem?_append_left (by simpa using hi')]
      simpa using r1⟩
  refine ⟨_, _, _, hrun, ?_, g1, g2, fun b hb hn => keep_set hb hn⟩
  have := ARep.sl (w := w.drew.alloc (.cells ((olds ++ news).toArray ++ zc) e)) (I := I) (β := β.set nb (some ⟨w.heap.size, 0, k⟩)) (b := nb) (off := 0) (len := n + ys.length) (cap := gc) (l := ⟨w.heap.size, 0, k⟩) (by rw [List.getElem?_set_self hlt]) hcap h63 (fun q hq => by
    have := World.cell?_alloc_new w.drew ((olds ++ news).toArray ++ zc) e q
    rw [World.size_drew] at this
    show ((w.drew.alloc _).cell? ⟨w.heap.size, 0 + (0 * k + q), none⟩).isSome = true
    rw [Nat.zero_mul, Nat.zero_add, Nat.zero_add, this, Array.getElem?_eq_getElem (by rw [hsize]; exact hq)]; rfl)
  rw [Nat.zero_mul, Nat.zero_add] at this
  exact this

theorem HRel.setEmpty {nb k : Nat} (h : HRel C w I β σ) (hβ : β[nb]? = some none) (hlen : σ'.length = σ.length) (hσ : ∀ (b : Nat) (k : Blk), b ≠ nb → σ'[b]? = some k → σ[b]? = some k ∨ k = .dead) (hσ0 : σ'[nb]? = some (.arr k [])) (K : Nat) :
    HRel C w I β σ' ∧ Ext K w I (Own β σ) β w I (Own β σ') β := by
  have key : ∀ (b : Nat) (l : Loc) (q : Blk), β[b]? = some (some l) → σ'[b]? = some q → q.live = true → σ[b]? = some q := by
    intro b l q hb hq hlv
    rcases hσ b q (fun e => by subst e; rw [hβ] at hb; cases hb) hq with h1 | rfl
    · exact h1
    · cases hlv
  refine ⟨⟨by rw [hlen]; exact h.len, fun b l q hb hq => ?_, fun b l q hb hq hlv => h.own b l q hb (key b l q hb hq hlv) hlv, fun b q hb hq => ?_, fun b b' l l' q q' h1 h2 h3 h1' h2' h3' he => h.dist b b' l l' q q' h1 (key b l q h1 h2 h3) h3 h1' (key b' l' q' h1' h2' h3') h3' he, h.imm, h.env, h.size⟩, rfl, rfl, rfl, Nat.le_refl _, fun _ _ _ => rfl, fun _ h => h, fun _ h => h, fun _ h => .inl h, fun r hr => ?_, fun _ _ _ h => h⟩
  · by_cases hlv : q.live = true
    · exact h.blk b l q hb (key b l q hb hq hlv)
    · cases q <;> simp [Blk.live] at hlv
      trivial
  · by_cases e : b = nb
    · subst e
      rw [hσ0] at hq
      exact .inr (.inr ⟨k, (Option.some.inj hq).symm⟩)
    · rcases hσ b q e hq with h1 | rfl
      · exact h.nowh b q hb h1
      · exact .inl rfl
  · obtain ⟨b, l, q, h1, h2, h3, rfl⟩ := hr
    exact .inl ⟨b, l, q, h1, key b l q h1 h2 h3, h3, rfl⟩

/-- Onto nothing. -/
theorem append_nil {ty yt rt e k by' nb : Nat} {base : Option Addr} {v2 : Value} {news : List Value} {ys : List D} (h : HRel C w I β σ) (he : elT C.P ty = some e) (hk : elB C.P e = some (k, by'))
    (hs : Src C.P k yt v2 ys.length news w) (hn : RowR w I k ys news) (h63 : ys.length ≤ 9223372036854775807) (hb : ys.length * by' ≤ 140737488355328)
    (hlen : σ'.length = σ.length) (hσ : ∀ (b : Nat) (k : Blk), b ≠ nb → σ'[b]? = some k → σ[b]? = some k ∨ k = .dead) (hσ0 : σ'[nb]? = some (.arr k ys)) (hβ : β[nb]? = some none) :
    ∃ u w' β', (Builtin.append_ #[ty, yt] rt #[.slice base 0 0, v2]).run C.P w = .ok u w' ∧ ARep w' I β' (.sl nb 0 ys.length) u ∧ HRel C w' I β' σ' ∧ Ext σ.length w I (Own β σ) β w' I (Own β' σ') β' ∧ ∀ b, β[b]? = some none → b ≠ nb → β'[b]? = some none := by
  rcases Nat.eq_zero_or_pos ys.length with h0 | h0
  · obtain ⟨i, z, i1, i2, i3, i4, i5⟩ := elB_eq hk
    have hys : ys = [] := List.eq_nil_of_length_eq_zero h0
    subst hys
    obtain ⟨g1, g2⟩ := h.setEmpty hβ hlen hσ hσ0 σ.length
    refine ⟨.slice base 0 0, w, β, ?_, .sl0, g1, g2, fun _ hb _ => hb⟩
    have hnews : news = [] := List.eq_nil_of_length_eq_zero (by rw [hn.1]; simp)
    subst hnews
    have hc := hs.cells
    have hl := hs.len w
    simp only [List.length_nil] at hc hl
    rcases hs.kind with ⟨e', hk'⟩ | hk' <;> cases base <;> simp [Builtin.append_, run_underlying (elT_eq he), run_underlying hk', run_sizeOf (elB_sz hk), hl, hc, storeCells]
  · have := append_grow (rt := rt) (zs := []) (olds := []) (n := 0) (cap := 0) (base := base) (σ' := σ') (nb := nb) h he hk (by
      cases base with
      | none => exact run_firstCells_none w.drew k 0 0 0
      | some a => exact run_firstCells_some w.drew k 0 a 0 0 [] (by simp) (fun j u h => by simp at h)) ⟨by simp, (fun z hz => nomatch hz), (fun j x i c hj => by simp at hj)⟩ rfl hs hn (by omega) (by omega) (by simpa using hb) hlen hσ (by simpa using hσ0) hβ
    simpa using this

theorem oAppend_sound {ty yt rt nb : Nat} {x y : A} {v1 v2 : Value} {o : Out} (h : HRel C w I β σ) (hx : ARep w I β x v1) (hy : ARep w I β y v2) (ho : oAppend C.P σ ty yt x y = some o) (hp : o.p) (hσ : σ[nb]? = some .dead) (hβ : β[nb]? = some none) :
    SV C (Builtin.append_ #[ty, yt] rt #[v1, v2]) w I β σ nb o := by
  have hlt' : nb < σ.length := (List.getElem?_eq_some_iff.1 hσ).1
  unfold oAppend at ho
  split at ho
  · rename_i e ys he hyt hyd
    obtain ⟨e', hyt⟩ := knT_slice hyt
    split at ho
    · rename_i k by' hk
      split at ho
      · cases ho
        obtain ⟨p1, p2, p3⟩ : ys.length * by' ≤ 140737488355328 ∧ ys.length ≤ 9223372036854775807 ∧ ∀ z ∈ ys, z.cells.length = k := hp
        obtain ⟨news, n1, n2, n3⟩ := lst_src h hy hyd hyt p3
        cases hx
        obtain ⟨u, w', β', a1, a2, a3, a4, a5⟩ := append_nil (rt := rt) (σ' := σ.set nb (.arr k ys)) (nb := nb) h he hk n1 ⟨n2, p3, n3⟩ p2 p1 (by simp) (fun b k hb hk => .inl (by rwa [List.getElem?_set, if_neg (fun e => hb e.symm)] at hk)) (by rw [List.getElem?_set_self hlt']) hβ
        exact ⟨u, w', I, β', a1, a2, a3, a4, fun b hb hn => a5 b hb (hn.resolve_right (by simp))⟩
      · rename_i xs
        split at ho
        · cases ho
          obtain ⟨news, n1, n2, n3⟩ := lst_src (k := k) h hy hyd hyt (fun z hz => nomatch hz)
          have hnews : news = [] := List.eq_nil_of_length_eq_zero (by rw [n2]; simp)
          subst hnews
          have hc := n1.cells
          have hl := n1.len w
          simp only [List.length_nil] at hc hl
          have hself : σ.set nb .dead = σ := by
            apply List.ext_getElem?
            intro i
            rw [List.getElem?_set]
            split
            · rename_i e; subst e; rw [hσ]; try rw [if_pos hlt']
            · rfl
          refine ⟨v1, w, I, β, ?_, hx, ?_, ?_, fun _ hb _ => hb⟩
          · cases hx with
            | d hx =>
              cases hx with
              | nil => rename_i a cap; rcases n1.kind with ⟨e', hk'⟩ | hk' <;> cases a <;> simp [Builtin.append_, run_underlying (elT_eq he), run_underlying hk', run_sizeOf (elB_sz hk), hl, hc, storeCells]
              | lst sz f hI hs hcap hm hsz hcell hrep => rename_i a cap; rcases n1.kind with ⟨e', hk'⟩ | hk' <;> simp [Builtin.append_, run_underlying (elT_eq he), run_underlying hk', run_sizeOf (elB_sz hk), hl, hc, storeCells, hcap]
          · show HRel C w I β (setAll _ nb [.dead])
            simp only [setAll, updσ, hself]; exact h
          · show Ext σ.length w I (Own β σ) β w I (Own β (setAll _ nb [.dead])) β
            simp only [setAll, updσ, hself]; exact .refl ..
        · cases ho
      · rename_i b off n
        split at ho
        · rename_i k' xs hs
          replace hs := look_some hs
          cases ho
          obtain ⟨p0, p1, p2, p3, p4⟩ : k' = k ∧ (n + ys.length) * by' ≤ 140737488355328 ∧ n + ys.length ≤ 9223372036854775807 ∧ off + n ≤ xs.length ∧ ∀ z ∈ ys, z.cells.length = k := hp
          subst p0
          obtain ⟨news, n1, n2, n3⟩ := lst_src h hy hyd hyt p4
          have hbn : b ≠ nb := by
            intro e
            subst e
            rw [hσ] at hs; cases hs
          have hset : ((σ.set b .dead).set nb (.arr k' ((xs.drop off).take n ++ ys)))[nb]? = some (.arr k' ((xs.drop off).take n ++ ys)) := List.getElem?_set_self (by simpa using hlt')
          have hoth : ∀ (c : Nat) (q : Blk), c ≠ nb → ((σ.set b .dead).set nb (.arr k' ((xs.drop off).take n ++ ys)))[c]? = some q → (σ[c]? = some q ∧ c ≠ b) ∨ q = .dead := by
            intro c q hc hq
            rw [List.getElem?_set, if_neg (fun e => hc e.symm), List.getElem?_set] at hq
            split at hq
            · split at hq
              · exact .inr (Option.some.inj hq).symm
              · cases hq
            · rename_i hne
              exact .inl ⟨hq, fun e => hne e.symm⟩
          have hoth' : ∀ (c : Nat) (q : Blk), c ≠ nb → ((σ.set b .dead).set nb (.arr k' ((xs.drop off).take n ++ ys)))[c]? = some q → σ[c]? = some q ∨ q = .dead := fun c q hc hq => (hoth c q hc hq).imp And.left id
          cases hx with
          | sl0 =>
            obtain ⟨u, w', β', a1, a2, a3, a4, a5⟩ := append_nil (rt := rt) (σ' := (σ.set b .dead).set nb (.arr k' ((xs.drop off).take 0 ++ ys))) (nb := nb) h he hk n1 ⟨n2, p4, n3⟩ (by omega) (by simpa using p1) (by simp) hoth' (by rw [hset]; simp) hβ
            refine ⟨u, w', I, β', a1, ?_, a3, a4, fun b hb hn => a5 b hb (hn.resolve_right (by simp))⟩
            show ARep w' I β' (.sl nb 0 (0 + ys.length)) u
            rw [Nat.zero_add]; exact a2
          | sl hb hc hm hcap =>
            rename_i cap l
            obtain ⟨hk', hsz, f, hf⟩ := h.blk b l _ hb hs
            have hlen : ((xs.drop off).take n).length = n := by simp; omega
            have hget : ∀ (j : Nat) (x : D), ((xs.drop off).take n)[j]? = some x → j < n ∧ xs[off + j]? = some x := by
              intro j x hj
              have hjn : j < n := by
                have := (List.getElem?_eq_some_iff.1 hj).1
                omega
              rw [List.getElem?_take_of_lt hjn, List.getElem?_drop] at hj
              exact ⟨hjn, hj⟩
            by_cases hroom : n + ys.length ≤ cap
            · -- there is room
              obtain ⟨o1, o2, o3, o4⟩ := h.own b l _ hb hs rfl
              obtain ⟨i, z, i1, i2, i3, i4, i5⟩ := elB_eq hk
              have hcj : ∀ j, j < news.length → (w.cell? ⟨l.r, l.o + off * l.sz + n * k' + j, none⟩).isSome = true := by
                intro j hj
                have h1 : (n + ys.length) * k' ≤ cap * k' := Nat.mul_le_mul_right _ hroom
                rw [Nat.add_mul] at h1
                rw [n2] at hj
                have hq : n * k' + j < cap * l.sz := by rw [hk']; omega
                have := hcap (n * k' + j) hq
                rwa [show l.o + (off * l.sz + (n * k' + j)) = l.o + off * l.sz + n * k' + j by omega] at this
              have hrun := run_append_room_src (P := C.P) w ty yt rt e i (elT_eq he) i1 l.r (l.o + off * l.sz) n cap v2 ys.length news (by rw [i4]; exact n1) hroom (by rw [i4]; exact hcj) (fun j _ => o4 _)
              rw [i4] at hrun
              obtain ⟨f1, f2, f3, f4, f5, f6⟩ := setCells_heap l.r news (l.o + off * l.sz + n * k') w
              have hI : ∀ a : Addr, I a.block → (w.setCells l.r (l.o + off * l.sz + n * k') news).cell? a = w.cell? a := fun a ha => cell_of_heap (f1 _ (fun e => o3 (e ▸ ha)))
              have hlt : nb < β.length := (List.getElem?_eq_some_iff.1 hβ).1
              obtain ⟨g1, g2⟩ := h.one (w' := w.setCells l.r (l.o + off * l.sz + n * k') news) (β' := β.set nb (some ⟨l.r, l.o + off * l.sz, k'⟩)) (σ' := (σ.set b .dead).set nb (.arr k' ((xs.drop off).take n ++ ys))) (b0 := nb) (k0 := .arr k' ((xs.drop off).take n ++ ys)) (l0 := ⟨l.r, l.o + off * l.sz, k'⟩)
                (by simp) (by simp) hoth' hset (fun b hb => by rw [List.getElem?_set, if_neg (fun e => hb e.symm)]) (by rw [List.getElem?_set_self hlt]) (.inl hβ)
                f3 f4 f5 (by omega) (fun r hr _ => f1 r hr) f6 o3
                (fun c l' q hcb hcl hq hqv e => by
                  rcases hoth c q hcb hq with ⟨h4, h5⟩ | rfl
                  · exact h5 (h.dist c b l' l q _ hcl h4 hqv hb hs rfl e)
                  · cases hqv) (.inl ⟨b, l, _, hb, hs, rfl, rfl⟩) o1 (by rw [f2]; exact o2) (fun o => by rw [World.frozen?_setCells]; exact o4 o)
                ⟨rfl, fun j x hj => by
                  rcases List.mem_append.1 (List.mem_of_getElem? hj) with h1 | h1
                  · obtain ⟨q, hq, rfl⟩ := List.mem_iff_getElem.1 h1
                    exact hsz _ _ (hget q _ (List.getElem?_eq_getElem hq)).2
                  · exact p4 x h1, fun j i => if j < n then f (off + j) i else news.getD ((j - n) * k' + i) undef, fun j x i c hj hi => by
                  rw [List.getElem?_append, hlen] at hj
                  dsimp only
                  split at hj
                  · rename_i hjn
                    rw [if_pos hjn]
                    obtain ⟨_, h1⟩ := hget j x hj
                    obtain ⟨p1, p2, p3⟩ := hf _ x i c h1 hi
                    have hik : i < k' := by
                      have := (List.getElem?_eq_some_iff.1 hi).1
                      rwa [hsz _ x h1] at this
                    have hjk : j * k' + i < n * k' := by
                      have : (j + 1) * k' ≤ n * k' := Nat.mul_le_mul_right _ hjn
                      rw [Nat.add_mul] at this; omega
                    refine ⟨?_, p2, p3.mono hI (fun _ h => h)⟩
                    rw [World.cell?_setCells_out l.r news _ w _ (fun _ _ => by
                      left
                      show l.o + off * l.sz + (j * k' + i) < l.o + off * l.sz + n * k'
                      omega)]
                    have e1 : l.o + off * l.sz + (j * k' + i) = l.o + ((off + j) * k' + i) := by rw [hk', Nat.add_mul]; omega
                    show w.cell? ⟨l.r, l.o + off * l.sz + (j * k' + i), none⟩ = _
                    rw [e1]; exact p1
                  · rename_i hjn
                    rw [if_neg hjn]
                    obtain ⟨u, r1, r2, r3⟩ := n3 _ x i c hj hi
                    rw [List.getD_eq_getElem?_getD, r1]
                    refine ⟨?_, r2, r3.mono hI (fun _ h => h)⟩
                    obtain ⟨hlt2, hval⟩ := List.getElem?_eq_some_iff.1 r1
                    have h2 := World.cell?_setCells_in l.r news (l.o + off * l.sz + n * k') w hcj ((j - n) * k' + i) hlt2
                    have e0 : (j - n) * k' = j * k' - n * k' := Nat.sub_mul ..
                    have e2 : n * k' ≤ j * k' := Nat.mul_le_mul_right _ (by omega)
                    rw [show l.o + off * l.sz + n * k' + ((j - n) * k' + i) = l.o + off * l.sz + (j * k' + i) by omega, hval] at h2
                    exact h2⟩
              refine ⟨_, _, I, _, hrun, ?_, g1, g2, fun b hb hn => keep_set hb (hn.resolve_right (by simp))⟩
              have := ARep.sl (w := w.setCells l.r (l.o + off * l.sz + n * k') news) (I := I) (β := β.set nb (some ⟨l.r, l.o + off * l.sz, k'⟩)) (b := nb) (off := 0) (len := n + ys.length) (cap := cap) (l := ⟨l.r, l.o + off * l.sz, k'⟩) (by rw [List.getElem?_set_self hlt]) hroom p2 (fun q hq => by
                refine f6 _ ?_
                have := hcap q (by rw [hk']; exact hq)
                show (w.cell? ⟨l.r, l.o + off * l.sz + (0 * k' + q), none⟩).isSome = true
                rwa [show l.o + (off * l.sz + q) = l.o + off * l.sz + (0 * k' + q) by omega] at this)
              rw [Nat.zero_mul, Nat.add_zero] at this
              exact this
            · -- there is none
              have hod : RowR w I k' ((xs.drop off).take n) ((List.range (n * k')).map fun q => f (off + q / k') (q % k')) := by
                refine ⟨by simp [hlen], fun z hz => ?_, fun j x i c hj hi => ?_⟩
                · obtain ⟨q, hq, rfl⟩ := List.mem_iff_getElem.1 hz
                  exact hsz _ _ (hget q _ (List.getElem?_eq_getElem hq)).2
                · obtain ⟨hjn, h1⟩ := hget j x hj
                  have hik : i < k' := by
                    have := (List.getElem?_eq_some_iff.1 hi).1
                    rwa [hsz _ x h1] at this
                  have hjk : j * k' + i < n * k' := by
                    have : (j + 1) * k' ≤ n * k' := Nat.mul_le_mul_right _ hjn
                    rw [Nat.add_mul] at this; omega
                  have d1 : (j * k' + i) / k' = j := by rw [Nat.mul_comm, Nat.mul_add_div (by omega), Nat.div_eq_of_lt hik]; omega
                  have d2 : (j * k' + i) % k' = i := by rw [Nat.mul_comm, Nat.mul_add_mod, Nat.mod_eq_of_lt hik]
                  refine ⟨f (off + j) i, ?_, (hf _ x i c h1 hi).2⟩
                  rw [List.getElem?_map, List.getElem?_range hjk]
                  simp [d1, d2]
              have hfc : (Builtin.firstCells k' n (.slice (some ⟨l.r, l.o + off * l.sz, none⟩) n cap)).run C.P w.drew = .ok ((List.range (n * k')).map fun q => f (off + q / k') (q % k')).toArray w.drew := by
                refine run_firstCells_some w.drew k' n _ n cap _ (by simp) (fun q u hu => ?_)
                rw [List.getElem?_map, Option.map_eq_some_iff] at hu
                obtain ⟨q', hq', rfl⟩ := hu
                obtain ⟨hlt, hqe⟩ := List.getElem?_eq_some_iff.1 hq'
                simp only [List.getElem_range] at hqe
                subst hqe
                have hq : q < n * k' := by simpa using hlt
                have hk0 : 0 < k' := by
                  rcases Nat.eq_zero_or_pos k' with h0 | h0
                  · subst h0; simp at hq
                  · exact h0
                have h1 : q / k' < n := (Nat.div_lt_iff_lt_mul hk0).2 hq
                have h2 : xs[off + q / k']? = some xs[off + q / k'] := List.getElem?_eq_getElem (by omega)
                have h3 : q % k' < xs[off + q / k'].cells.length := by rw [hsz _ _ h2]; exact Nat.mod_lt _ hk0
                obtain ⟨r1, _⟩ := hf _ _ (q % k') _ h2 (List.getElem?_eq_getElem h3)
                rw [Addr.add_lit]
                have e3 : q / k' * k' + q % k' = q := Nat.div_add_mod' q k'
                have e4 : (off + q / k') * k' = off * k' + q / k' * k' := Nat.add_mul ..
                show w.cell? _ = _
                rw [show l.o + off * l.sz + q = l.o + ((off + q / k') * k' + q % k') by rw [hk']; omega]
                exact r1
              obtain ⟨u, w', β', a1, a2, a3, a4, a5⟩ := append_grow (rt := rt) (σ' := (σ.set b .dead).set nb (.arr k' ((xs.drop off).take n ++ ys))) (nb := nb) h he hk hfc hod hlen n1 ⟨n2, p4, n3⟩ (by omega) p2 p1 (by simp) hoth' hset hβ
              exact ⟨u, w', I, β', a1, a2, a3, a4, fun b hb hn => a5 b hb (hn.resolve_right (by simp))⟩
        · cases ho
      · cases ho
    · cases ho
  · cases ho
end
end Go.AM
end
