/- lazyclaw46.LinkUnresolved returns true for every list of objects: no condition beside the statement's own. Part 2. -/
import Derived.Test.YthijephffgoieaaGreatDoorMU1
import Derived.MapKept
import Derived.Orders
set_option linter.unusedVariables false
set_option linter.unusedSimpArgs false
set_option maxHeartbeats 2000000
section
namespace Go.AM
open Go.RowKit
open Go.MapKept (IsKey run_checkKey run_findKey run_setObj_map heap_set bytes_beq)
set_option linter.unusedVariables false
set_option linter.unusedSimpArgs false
section
variable {C : Ctx} {w : World} {I : Nat → Prop} {β : List (Option Loc)} {σ : List Blk} {P : Program}

theorem mpT_eq {t kt e : TypeId} {kk : KK} (h : mpT P t = some (kt, kk, e)) : P.underlying t = some (.map kt e) ∧ kkT P kt = some kk := by
  unfold mpT at h
  split at h
  · rename_i k e' hu
    split at h
    · rename_i kn' hk
      cases h
      exact ⟨hu, hk⟩
    · cases h
  · cases h
theorem kkT_eq {t : TypeId} {kk : KK} (h : kkT P t = some kk) : (∃ kn, kk = .one kn ∧ knT P t = some kn ∧ scal kn = true) ∨ ∃ ks, kk = .row ks ∧ eqT P t = some ks := by
  unfold kkT at h
  split at h
  · rename_i kn hk
    split at h
    · rename_i hs
      cases h
      exact .inl ⟨kn, rfl, hk, hs⟩
    · split at h
      · rename_i ks hks
        cases h
        exact .inr ⟨ks, rfl, hks⟩
      · cases h
  · cases h
theorem keyOk_is {kt : TypeId} {kn : Kn} {kv : Value} (hk : knT P kt = some kn) (h : keyOk kn kv = true) : ∃ d, P.underlying kt = some d ∧ IsKey d kv ∧ kv.oneCell' = true ∧ (∀ n, Instr.sameBits n kv kv = true) ∧ ∀ q r, keyEq kn kv q = some r → Instr.sameNow d kv q = some r ∧ (r = true → q = kv) := by
  cases kn <;> cases kv <;> simp only [keyOk, decide_eq_true_eq, Bool.false_eq_true] at h
  · refine ⟨_, knT_str hk, trivial, rfl, fun n => ?_, fun q r hq => ?_⟩
    · cases n <;> simp [Instr.sameBits, bytes_beq]
    · cases q <;> simp only [keyEq, reduceCtorEq, Option.some.injEq] at hq
      subst hq
      exact ⟨rfl, fun e => by rw [(bytes_beq _ _).1 e]⟩
  · subst h
    refine ⟨_, knT_int hk, rfl, rfl, fun n => ?_, fun q r hq => ?_⟩
    · cases n <;> simp [Instr.sameBits]
    · cases q <;> simp only [keyEq, reduceCtorEq] at hq
      split at hq
      · rename_i e
        subst e
        cases hq
        exact ⟨by simp [Instr.sameNow], fun e => by rw [eq_of_beq e]⟩
      · cases hq
  · refine ⟨_, knT_bool hk, trivial, rfl, fun n => ?_, fun q r hq => ?_⟩
    · cases n <;> simp [Instr.sameBits]
    · cases q <;> simp only [keyEq, reduceCtorEq, Option.some.injEq] at hq
      subst hq
      exact ⟨rfl, fun e => by rw [eq_of_beq e]⟩
/-! Keys that are structs of scalars. -/
theorem keysOk_get : ∀ {ks : List Kn} {xs : List D}, keysOk ks xs = true → ks.length = xs.length ∧ ∀ (i : Nat) (x : D), xs[i]? = some x → ∃ kn u, ks[i]? = some kn ∧ x = .v u ∧ keyOk kn u = true
  | [], [], _ => ⟨rfl, fun i x h => by simp at h⟩
  | [], _ :: _, h => by simp [keysOk] at h
  | _ :: _, [], h => by simp [keysOk] at h
  | kn :: ks, .v u :: r, h => by
    rw [keysOk, Bool.and_eq_true] at h
    obtain ⟨h1, h2⟩ := keysOk_get h.2
    refine ⟨by simp [h1], fun i x hi => ?_⟩
    cases i with
    | zero => simp at hi; subst hi; exact ⟨kn, u, rfl, rfl, h.1⟩
    | succ i =>
      obtain ⟨kn', u', g1, g2⟩ := h2 i x (by simpa using hi)
      exact ⟨kn', u', by simpa using g1, g2⟩
  | _ :: _, .agg _ :: _, h => by simp [keysOk] at h
  | _ :: _, .lst _ :: _, h => by simp [keysOk] at h
theorem scal_keep {kn : Kn} {a b : Value} (h1 : keyOk kn a = true) (h : keyEq kn a b = some true) : a = b := by
  cases kn <;> cases a <;> simp only [keyOk, Bool.false_eq_true, decide_eq_true_eq] at h1 <;> cases b <;> simp only [keyEq, reduceCtorEq, Option.some.injEq] at h
  · rw [(bytes_beq _ _).1 h]
  · subst h1
    split at h
    · rename_i e; subst e; rw [eq_of_beq (Option.some.inj h)]
    · cases h
  · rw [eq_of_beq h]
theorem eqCells_eq : ∀ {ks : List Kn} {xs ys : List D}, eqCells ks xs ys = some true → xs = ys
  | [], [], [], _ => rfl
  | [], [], _ :: _, h => by simp [eqCells] at h
  | [], _ :: _, _, h => by simp [eqCells] at h
  | _ :: _, [], _, h => by simp [eqCells] at h
  | _ :: _, .agg _ :: _, _, h => by simp [eqCells] at h
  | _ :: _, .lst _ :: _, _, h => by simp [eqCells] at h
  | _ :: _, .v _ :: _, [], h => by simp [eqCells] at h
  | _ :: _, .v _ :: _, .agg _ :: _, h => by simp [eqCells] at h
  | _ :: _, .v _ :: _, .lst _ :: _, h => by simp [eqCells] at h
  | kn :: ks, .v x :: r, .v y :: q, h => by
    rw [eqCells] at h
    split at h
    · rename_i a c h1 h2 h3
      simp only [Option.some.injEq, Bool.and_eq_true] at h
      obtain ⟨rfl, rfl⟩ := h
      rw [scal_keep h1 h2, eqCells_eq h3]
    · cases h
theorem sameBits_agg {us : Array Value} (h : ∀ u ∈ us.toList, Instr.sameBits 9999 u u = true) : Instr.sameBits 10000 (.agg us) (.agg us) = true := by
  show (us.size == us.size && (us.toList.zip us.toList).all fun (x, y) => Instr.sameBits 9999 x y) = true
  rw [beq_self_eq_true, Bool.true_and, List.all_eq_true]
  rintro ⟨x, y⟩ hxy
  obtain ⟨i, hi⟩ := List.mem_iff_getElem?.1 hxy
  rw [List.getElem?_zip_eq_some] at hi
  obtain ⟨h1, h2⟩ := hi
  rw [h1] at h2
  cases h2
  exact h x (List.mem_of_getElem? h1)
theorem checkKey_flat {us : Array Value} {n : Nat} {e : Bool} : ∀ {fs : List Field} {i : Nat} {ks : List Kn}, flatF P i fs = some ks → (∀ j kn, ks[j]? = some kn → ∃ u, us[i + j]? = some u ∧ keyOk kn u = true) →
    (forIn (m := Sem) fs PUnit.unit fun f _ => do
      if f.name ≠ "_" then
        Instr.checkKey e (n + 1) f.type (← part f.type us f.offset)
        pure (ForInStep.yield PUnit.unit)
      else pure (ForInStep.yield PUnit.unit)).run P w = .ok PUnit.unit w
  | [], i, ks, hf, _ => rfl
  | f :: fs, i, ks, hf, hu => by
    unfold flatF at hf
    split at hf
    · rename_i hc
      obtain ⟨ho, hn⟩ := hc
      split at hf
      · rename_i kn l hk hl
        split at hf
        · rename_i hs
          cases hf
          obtain ⟨u, hu0, hok⟩ := hu 0 kn rfl
          rw [Nat.add_zero] at hu0
          obtain ⟨d, hd, hik, _⟩ := keyOk_is hk hok
          rw [List.forIn_cons]
          simp only [hn, ne_eq, not_false_eq_true, if_true, Sem.run_bind, ho, flat_part (w := w) (scal_ag hk hs) hu0, Result.andThen_ok, run_checkKey hd hik, Sem.run_pure]
          exact checkKey_flat hl fun j kn hj => by
            obtain ⟨u, h1, h2⟩ := hu (j + 1) kn (by simpa using hj)
            exact ⟨u, by rw [show i + 1 + j = i + (j + 1) by omega]; exact h1, h2⟩
        · cases hf
      · cases hf
    · cases hf

/-- What a key is good for. -/
structure KeyIs (P : Program) (w : World) (I : Nat → Prop) (kt : TypeId) (kk : KK) (kd : D) (kv : Value) : Prop where
  check : ∀ e, (Instr.checkKey e 10000 kt kv).run P w = .ok () w
  bits : Instr.sameBits 10000 kv kv = true
  same : ∀ (q : D) (qv : Value), keyEqD kk kd q = some true → DRep w I q qv → qv = kv
  find : ∀ {es : List (D × A)} {arr : List MapEntry} {r : Option (Nat × A)}, arr.length = es.length → (∀ (j : Nat) (k : D) (a : A) (e : MapEntry), es[j]? = some (k, a) → arr[j]? = some e → DRep w I k e.key) → mfind kk kd es 0 = some r →
    (r = none ∧ (Instr.findKey kt kv arr).run P w = .ok none w) ∨ ∃ j a e, r = some (j, a) ∧ (∃ q, es[j]? = some (q, a)) ∧ arr[j]? = some e ∧ e.key = kv ∧ (Instr.findKey kt kv arr).run P w = .ok (some (j, e.val)) w
theorem mfind_now {kn : Kn} {d : TypeDesc} {kv : Value} (hq : ∀ q r, keyEq kn kv q = some r → Instr.sameNow d kv q = some r ∧ (r = true → q = kv)) : ∀ {es : List (D × A)} {arr : List MapEntry} {i : Nat} {r : Option (Nat × A)}, arr.length = es.length → (∀ (j : Nat) (k : D) (a : A) (e : MapEntry), es[j]? = some (k, a) → arr[j]? = some e → DRep w I k e.key) → mfind (.one kn) (.v kv) es i = some r →
    (r = none ∧ Instr.findNow d kv arr i = some none) ∨ ∃ j a e, r = some (i + j, a) ∧ (∃ q, es[j]? = some (q, a)) ∧ arr[j]? = some e ∧ e.key = kv ∧ Instr.findNow d kv arr i = some (some (i + j, e.val))
  | [], [], i, r, _, _, h => by
    rw [mfind] at h
    cases h
    exact .inl ⟨rfl, rfl⟩
  | [], _ :: _, i, r, hl, _, _ => by simp at hl
  | _ :: _, [], i, r, hl, _, _ => by simp at hl
  | (k, a) :: es, e :: arr, i, r, hl, hr, h => by
    have h0 := hr 0 k a e rfl rfl
    cases k with
    | v q =>
      have hkey : e.key = q := by cases h0; rfl
      rw [mfind, keyEqD] at h
      split at h
      · rename_i hk
        cases h
        obtain ⟨h1, h2⟩ := hq q true hk
        rw [← hkey] at h1 h2
        refine .inr ⟨0, a, e, rfl, ⟨_, rfl⟩, rfl, h2 rfl, ?_⟩
        simp only [Instr.findNow, h1, Nat.add_zero]
      · rename_i hk
        obtain ⟨h1, _⟩ := hq q false hk
        rw [← hkey] at h1
        rcases mfind_now hq (es := es) (arr := arr) (i := i + 1) (by simpa using hl) (fun j k a e h1 h2 => hr (j + 1) k a e (by simpa using h1) (by simpa using h2)) h with ⟨g1, g2⟩ | ⟨j, a', e', g1, ⟨q', g2⟩, g3, g4, g5⟩
        · exact .inl ⟨g1, by simp only [Instr.findNow, h1]; exact g2⟩
        · refine .inr ⟨j + 1, a', e', by rw [g1]; congr 2; omega, ⟨q', by simpa using g2⟩, by simpa using g3, g4, ?_⟩
          simp only [Instr.findNow, h1]
          rw [g5]; congr 3; omega
      · cases h
    | _ => simp [mfind, keyEqD] at h
theorem mfind_ask {ks : List Kn} {kt : TypeId} {xs : List D} {kv : Value} (hq : ∀ (q : D) (qv : Value) (r : Bool), keyEqD (.row ks) (.agg xs) q = some r → DRep w I q qv → (Op.equal kt kv qv).run P w = .ok r w ∧ (r = true → qv = kv)) : ∀ {es : List (D × A)} {arr : List MapEntry} {i : Nat} {r : Option (Nat × A)}, arr.length = es.length → (∀ (j : Nat) (k : D) (a : A) (e : MapEntry), es[j]? = some (k, a) → arr[j]? = some e → DRep w I k e.key) → mfind (.row ks) (.agg xs) es i = some r →
    (r = none ∧ (Instr.findAsking kt kv arr i).run P w = .ok none w) ∨ ∃ j a e, r = some (i + j, a) ∧ (∃ q, es[j]? = some (q, a)) ∧ arr[j]? = some e ∧ e.key = kv ∧ (Instr.findAsking kt kv arr i).run P w = .ok (some (i + j, e.val)) w
  | [], [], i, r, _, _, h => by
    rw [mfind] at h
    cases h
    exact .inl ⟨rfl, rfl⟩
  | [], _ :: _, i, r, hl, _, _ => by simp at hl
  | _ :: _, [], i, r, hl, _, _ => by simp at hl
  | (k, a) :: es, e :: arr, i, r, hl, hr, h => by
    have h0 := hr 0 k a e rfl rfl
    rw [mfind] at h
    split at h
    · rename_i hk
      cases h
      obtain ⟨h1, h2⟩ := hq k e.key true hk h0
      refine .inr ⟨0, a, e, rfl, ⟨_, rfl⟩, rfl, h2 rfl, ?_⟩
      simp only [Instr.findAsking, Sem.run_bind, h1, Result.andThen_ok, if_true, Sem.run_pure, Nat.add_zero]
    · rename_i hk
      obtain ⟨h1, _⟩ := hq k e.key false hk h0
      have hstep : (Instr.findAsking kt kv (e :: arr) i).run P w = (Instr.findAsking kt kv arr (i + 1)).run P w := by
        simp only [Instr.findAsking, Sem.run_bind, h1, Result.andThen_ok, Bool.false_eq_true, if_false]
      rw [hstep]
      rcases mfind_ask hq (es := es) (arr := arr) (i := i + 1) (by simpa using hl) (fun j k a e h1 h2 => hr (j + 1) k a e (by simpa using h1) (by simpa using h2)) h with ⟨g1, g2⟩ | ⟨j, a', e', g1, ⟨q', g2⟩, g3, g4, g5⟩
      · exact .inl ⟨g1, g2⟩
      · refine .inr ⟨j + 1, a', e', by rw [g1]; congr 2; omega, ⟨q', by simpa using g2⟩, by simpa using g3, g4, ?_⟩
        rw [g5]; congr 3; omega
    · cases h
theorem key_is {kt : TypeId} {kk : KK} {kd : D} {kv : Value} (hk : kkT P kt = some kk) (hok : keyOkD kk kd = true) (hr : DRep w I kd kv) : KeyIs P w I kt kk kd kv := by
  rcases kkT_eq hk with ⟨kn, rfl, h1, h2⟩ | ⟨ks, rfl, h1⟩
  · cases kd with
    | v x =>
      have e : kv = x := by cases hr; rfl
      subst e
      obtain ⟨d, hd, hik, _, hsb, hq⟩ := keyOk_is h1 hok
      refine ⟨fun e => run_checkKey hd hik e 9999, hsb _, fun q qv hq' hqr => ?_, fun {es arr r} hl hrep hf => ?_⟩
      · cases q with
        | v y =>
          have e : qv = y := by cases hqr; rfl
          rw [e]
          exact (hq y true hq').2 rfl
        | _ => simp [keyEqD] at hq'
      · rcases mfind_now hq hl hrep hf with ⟨g1, g2⟩ | ⟨j, a, e, g1, g2, g3, g4, g5⟩
        · exact .inl ⟨g1, run_findKey hd g2⟩
        · rw [Nat.zero_add] at g1 g5
          exact .inr ⟨j, a, e, g1, g2, g3, g4, run_findKey hd g5⟩
    | _ => simp [keyOkD] at hok
  · cases kd with
    | agg xs =>
      cases hr with
      | agg l1 q1 r1 =>
        rename_i us
        obtain ⟨fs, e1, e2, e3, e4⟩ := eqT_eq h1
        obtain ⟨k1, k2⟩ := keysOk_get (show keysOk ks xs = true from hok)
        have hcell : ∀ (j : Nat) (kn : Kn), ks[j]? = some kn → ∃ u, us[0 + j]? = some u ∧ keyOk kn u = true := by
          intro j kn hj
          have hjl := (List.getElem?_eq_some_iff.1 hj).1
          obtain ⟨kn', u, g1, g2, g3⟩ := k2 j _ (List.getElem?_eq_getElem (by omega))
          rw [hj] at g1
          cases g1
          have huj : us[j]? = some us[j] := Array.getElem?_eq_getElem (by omega)
          have := r1 j _ _ (List.getElem?_eq_getElem (by omega)) huj
          rw [g2] at this
          refine ⟨u, ?_, g3⟩
          rw [Nat.zero_add, huj]
          generalize us[j] = z at this
          cases this; rfl
        have hq : ∀ (q : D) (qv : Value) (r : Bool), keyEqD (.row ks) (.agg xs) q = some r → DRep w I q qv → (Op.equal kt (.agg us) qv).run P w = .ok r w ∧ (r = true → qv = .agg us) := by
          intro q qv r hq hqr
          cases q with
          | agg ys =>
            cases hqr with
            | agg l2 q2 r2 =>
              rename_i vs
              have hf : P.underlying kt = some (.struct (P.fieldsOf kt)) := by unfold Program.fieldsOf; rw [e1]
              have hff : P.fieldsOf kt = fs := by unfold Program.fieldsOf; rw [e1]
              refine ⟨?_, fun hr => ?_⟩
              · show (Op.equalIn 10000 kt (.agg us) (.agg vs)).run P w = .ok r w
                rw [run_equalIn_struct w 9999 kt us vs hf e2, hff]
                exact eqFields_run (i := 0) e4 hq (by omega) (by omega) (fun j x u h1 h2 => r1 j x u h1 (by simpa using h2)) (fun j x u h1 h2 => r2 j x u h1 (by simpa using h2)) 9998
              · subst hr
                have hxy := eqCells_eq hq
                subst hxy
                congr 1
                apply Array.ext
                · omega
                · intro i h1 h2
                  have hxi : xs[i]? = some xs[i] := List.getElem?_eq_getElem (by omega)
                  have a1 := r1 i _ _ hxi (Array.getElem?_eq_getElem h2)
                  have a2 := r2 i _ _ hxi (Array.getElem?_eq_getElem h1)
                  obtain ⟨_, u, _, g2, _⟩ := k2 i _ hxi
                  rw [g2] at a1 a2
                  generalize us[i] = z1 at a1
                  generalize vs[i] = z2 at a2
                  cases a1; cases a2; rfl
          | _ => simp [keyEqD] at hq
        refine ⟨fun e => ?_, sameBits_agg fun u hu => ?_, fun q qv hq' hqr => (hq q qv true hq' hqr).2 rfl, fun {es arr r} hl hrep hf => ?_⟩
        · have := checkKey_flat (w := w) (us := us) (n := 9998) (e := e) e4 hcell
          show (Instr.checkKey e (9999 + 1) kt (.agg us)).run P w = _
          unfold Instr.checkKey
          simp only [Sem.run_bind, run_underlying e1, Result.andThen_ok]
          rw [← Array.forIn_toList]
          rw [this]
          rfl
        · obtain ⟨j, hj⟩ := List.mem_iff_getElem?.1 hu
          have hjl : j < ks.length := by
            have := (List.getElem?_eq_some_iff.1 hj).1
            rw [Array.length_toList] at this; omega
          obtain ⟨u', g1, g2⟩ := hcell j _ (List.getElem?_eq_getElem hjl)
          rw [Nat.zero_add] at g1
          rw [Array.getElem?_toList, g1] at hj
          cases hj
          obtain ⟨kn, hkn⟩ : ∃ kn, keyOk kn u = true := ⟨_, g2⟩
          cases kn <;> cases u <;> simp only [keyOk, Bool.false_eq_true] at hkn <;> simp [Instr.sameBits, bytes_beq]
        · rcases mfind_ask hq hl hrep hf with ⟨g1, g2⟩ | ⟨j, a, e, g1, g2, g3, g4, g5⟩
          · refine .inl ⟨g1, ?_⟩
            unfold Instr.findKey
            simp only [Sem.run_bind, run_underlying e1, Result.andThen_ok]
            cases arr with
            | nil => rfl
            | cons x l => simp only [Instr.findNow, Instr.sameNow]; exact g2
          · rw [Nat.zero_add] at g1 g5
            refine .inr ⟨j, a, e, g1, g2, g3, g4, ?_⟩
            unfold Instr.findKey
            simp only [Sem.run_bind, run_underlying e1, Result.andThen_ok]
            cases arr with
            | nil => simp at g3
            | cons x l => simp only [Instr.findNow, Instr.sameNow]; exact g5
    | _ => simp [keyOkD] at hok
theorem zA_run {e : TypeId} {x : A} (h : zA P e = some x) (w : World) : ∃ z, (zeroValue e).run P w = .ok z w ∧ ARep w I β x z := by
  unfold zA at h
  split at h
  · rename_i z hz
    have hz' : ∃ it, P.info? e = some it ∧ it.zero = some z := by
      unfold zeroT at hz
      rwa [Option.bind_eq_some_iff] at hz
    obtain ⟨it, e1, e2⟩ := hz'
    exact ⟨z, by simp [zeroValue, typeInfo, e1, e2], (constA_rep h).1⟩
  · cases h
theorem withOk_rep {x : A} {v : Value} (h : ARep w I β x v) (ok b : Bool) : ARep w I β (withOk ok x b) (if ok = true then .tuple #[v, .bool b] else v) := by
  cases ok
  · exact h
  · refine .tup rfl (fun i c u hc hu => ?_)
    match i with
    | 0 => simp at hc hu; subst hc; subst hu; exact h
    | 1 => simp at hc hu; subst hc; subst hu; exact .d (.v rfl)
    | i + 2 => simp at hc
theorem oLookup_sound {ty : TypeId} {ok : Bool} {x k : A} {v kv : Value} {o : Out} (h : HRel C w I β σ) (hx : ARep w I β x v) (hk : ARep w I β k kv) (ho : oLookup P σ ty ok x k = some o) : ∃ y, o = val y ∧ Reads P w I β (Instr.lookup ty v kv ok) y := by
  unfold oLookup at ho
  split at ho
  · rename_i kt kk e kd hm
    obtain ⟨hu, hkn⟩ := mpT_eq hm
    replace hk : DRep w I kd kv := by cases hk; assumption
    split at ho
    · rename_i hok
      have KI := key_is hkn hok hk
      split at ho
      · rename_i b
        cases hx with
        | mp hb =>
          rename_i l
          split at ho
          · rename_i es hs
            replace hs := look_some hs
            obtain ⟨arr, g1, g2, g3⟩ := h.blk b l _ hb hs
            split at ho
            · rename_i i a hf
              cases ho
              rcases KI.find (by rw [Array.length_toList]; exact g2) (fun j k a e h1 h2 => (g3 j k a e h1 (by simpa using h2)).1) hf with ⟨r1, _⟩ | ⟨j, a', e', r1, ⟨q, r2⟩, r3, r4, r5⟩
              · cases r1
              · cases r1
                refine ⟨_, rfl, _, ?_, withOk_rep (g3 i q a e' r2 (by simpa using r3)).2.1 ok true⟩
                simp [Instr.lookup, run_underlying hu, getObj_map g1, KI.check, r5, Result.andThen]
            · rename_i hf
              split at ho
              · rename_i z hz
                cases ho
                obtain ⟨zv, hz1, hz2⟩ := zA_run (I := I) (β := β) hz w
                rcases KI.find (by rw [Array.length_toList]; exact g2) (fun j k a e h1 h2 => (g3 j k a e h1 (by simpa using h2)).1) hf with ⟨_, r2⟩ | ⟨j, a', e', r1, _⟩
                · refine ⟨_, rfl, _, ?_, withOk_rep hz2 ok false⟩
                  simp [Instr.lookup, run_underlying hu, getObj_map g1, KI.check, r2, hz1, Result.andThen]
                · cases r1
              · cases ho
            · cases ho
          · cases ho
      · split at ho
        · rename_i z hz
          cases ho
          obtain ⟨zv, hz1, hz2⟩ := zA_run (I := I) (β := β) hz w
          obtain ⟨rfl, _⟩ := rep_v hx
          refine ⟨_, rfl, _, ?_, withOk_rep hz2 ok false⟩
          have hf : (Instr.findKey kt kv ([] : List MapEntry)).run P w = .ok none w := by
            rcases KI.find (es := []) (arr := []) rfl (fun j k a e h => by simp at h) rfl with ⟨_, r2⟩ | ⟨j, a', e', r1, _⟩
            · exact r2
            · cases r1
          simp [Instr.lookup, run_underlying hu, KI.check, hf, hz1, Result.andThen]
        · cases ho
      · cases ho
    · cases ho
  · cases ho
theorem map_cell {r : Nat} {es : Array MapEntry} {clock : Nat} (h : w.heap[r]? = some (.map es clock)) {a : Addr} (ha : a.block = r) : w.cell? a = none := by
  unfold World.cell?
  rw [ha, h]
theorem setMap_step {b : Nat} {l : Loc} {es es' : List (D × A)} {arr arr' : Array MapEntry} {clock : Nat} (h : HRel C w I β σ) (hb : β[b]? = some (some l)) (hs : σ[b]? = some (.map es)) (g1 : w.heap[l.r]? = some (.map arr clock)) (hsz : arr'.size = es'.length)
    (hent : ∀ (i : Nat) (k : D) (a : A) (e : MapEntry), es'[i]? = some (k, a) → arr'[i]? = some e → DRep w I k e.key ∧ ARep w I β a e.val ∧ e.born = i) :
    HRel C { w with heap := w.heap.setIfInBounds l.r (.map arr' es'.length) } I β (σ.set b (.map es')) ∧ Ext σ.length w I (Own β σ) β { w with heap := w.heap.setIfInBounds l.r (.map arr' es'.length) } I (Own β (σ.set b (.map es'))) β ∧
    (∀ a : Addr, I a.block → ({ w with heap := w.heap.setIfInBounds l.r (.map arr' es'.length) } : World).cell? a = w.cell? a) ∧ (∀ a : Addr, (w.cell? a).isSome = true → (({ w with heap := w.heap.setIfInBounds l.r (.map arr' es'.length) } : World).cell? a).isSome = true) := by
  obtain ⟨o1, o2, o3, o4⟩ := h.own b l _ hb hs rfl
  have hlt : b < σ.length := (List.getElem?_eq_some_iff.1 hs).1
  obtain ⟨p1, p2⟩ := heap_set (o' := .map arr' es'.length) g1
  have hcells : ∀ a : Addr, a.block ≠ l.r → ({ w with heap := w.heap.setIfInBounds l.r (.map arr' es'.length) } : World).cell? a = w.cell? a := fun a ha => cell_of_heap (p2 _ ha)
  have hcell : ∀ a : Addr, (w.cell? a).isSome = true → (({ w with heap := w.heap.setIfInBounds l.r (.map arr' es'.length) } : World).cell? a).isSome = true := fun a ha => by
    by_cases e : a.block = l.r
    · rw [map_cell g1 e] at ha; cases ha
    · rw [hcells a e]; exact ha
  have hI : ∀ a : Addr, I a.block → ({ w with heap := w.heap.setIfInBounds l.r (.map arr' es'.length) } : World).cell? a = w.cell? a := fun a ha => hcells a (fun e => o3 (e ▸ ha))
  obtain ⟨q1, q2⟩ := h.one (w' := { w with heap := w.heap.setIfInBounds l.r (.map arr' es'.length) }) (β' := β) (σ' := σ.set b (.map es')) (b0 := b) (k0 := .map es') (l0 := l) (by simp) rfl
    (fun c q hcb hq => .inl (by rwa [List.getElem?_set, if_neg (fun e => hcb e.symm)] at hq)) (by rw [List.getElem?_set_self hlt]) (fun _ _ => rfl) hb (.inr hb) rfl rfl rfl (by simp) (fun r hr _ => p2 r hr) hcell o3
    (fun c l' q hcb hcl hq hqv e => hcb (by
      rw [List.getElem?_set, if_neg (fun e => hcb e.symm)] at hq
      exact h.dist c b l' l q _ hcl hq hqv hb hs rfl e)) (.inl ⟨b, l, _, hb, hs, rfl, rfl⟩) o1 (by simpa using o2) (fun o => by unfold World.frozen?; dsimp only; rw [p1])
    ⟨arr', p1, hsz, fun i k a e h1 h2 => by
      obtain ⟨r1, r2, r3⟩ := hent i k a e h1 h2
      exact ⟨r1.mono hI (fun _ h => h), r2.mono hI (fun _ h => h) (fun _ _ h => h) hcell, r3⟩⟩
  exact ⟨q1, q2, hI, hcell⟩
theorem oMapUpdate_sound {ty : TypeId} {x k y : A} {v kv z : Value} {o : Out} (nb : Nat) (h : HRel C w I β σ) (hx : ARep w I β x v) (hk : ARep w I β k kv) (hy : ARep w I β y z) (ho : oMapUpdate C.P σ ty x k y = some o) : SU C (Instr.mapUpdate ty v kv z) w I β σ nb o := by
  unfold oMapUpdate at ho
  split at ho
  · rename_i kt kk e kd hm
    obtain ⟨hu, hkn⟩ := mpT_eq hm
    replace hk : DRep w I kd kv := by cases hk; assumption
    split at ho
    · rename_i hok
      have KI := key_is hkn hok hk
      split at ho
      · rename_i b
        cases hx with
        | mp hb =>
          rename_i l
          split at ho
          · rename_i es hs
            replace hs := look_some hs
            obtain ⟨arr, g1, g2, g3⟩ := h.blk b l _ hb hs
            split at ho
            · rename_i i a hf
              cases ho
              rcases KI.find (by rw [Array.length_toList]; exact g2) (fun j k a e h1 h2 => (g3 j k a e h1 (by simpa using h2)).1) hf with ⟨r1, _⟩ | ⟨j, a', e', r1, ⟨q, r2⟩, r3, r4, r5⟩
              · cases r1
              · cases r1
                have hj : arr[i]? = some e' := by simpa using r3
                have hmod : ∀ (j : Nat) (e : MapEntry), (arr.modify i fun e => { e with key := kv, val := z })[j]? = some e → ∃ e0, arr[j]? = some e0 ∧ e = if j = i then { e0 with key := kv, val := z } else e0 := by
                  intro j e he
                  rw [Array.getElem?_modify] at he
                  split at he
                  · rename_i hij
                    subst hij
                    rw [Option.map_eq_some_iff] at he
                    obtain ⟨e0, h1, h2⟩ := he
                    exact ⟨e0, h1, by rw [if_pos rfl]; exact h2.symm⟩
                  · rename_i hij
                    exact ⟨e, he, by rw [if_neg (fun e => hij e.symm)]⟩
                have hks : (Instr.keyThatStays (((arr[i]?).map (·.key)).getD kv) kv).run C.P w = .ok kv w := by
                  rw [hj]
                  simp [Instr.keyThatStays, r4, KI.bits]
                obtain ⟨q1, q2, _, _⟩ := setMap_step (arr' := arr.modify i fun e => { e with key := kv, val := z }) (es' := es.set i (kd, y)) h hb hs g1 (by simp [g2]) (fun j k' a' e h1 h2 => by
                  obtain ⟨e0, t1, t2⟩ := hmod j e h2
                  rw [List.getElem?_set] at h1
                  split at h1
                  · rename_i hij
                    subst hij
                    split at h1
                    · cases h1
                      rw [if_pos rfl] at t2
                      subst t2
                      rw [hj] at t1
                      cases t1
                      exact ⟨hk, hy, (g3 i q a e' r2 hj).2.2⟩
                    · cases h1
                  · rename_i hij
                    rw [if_neg (fun e => hij e.symm)] at t2
                    subst t2
                    exact g3 j k' a' e h1 t1)
                refine ⟨_, I, β, ?_, undef_rep, q1, q2, fun _ hb _ => hb⟩
                rw [List.length_set]
                simp only [Instr.mapUpdate, Sem.run_bind, run_underlying hu, Result.andThen_ok, getObj_map g1, KI.check, r5, hks, run_setObj_map _ g1]
            · rename_i hf
              cases ho
              rcases KI.find (by rw [Array.length_toList]; exact g2) (fun j k a e h1 h2 => (g3 j k a e h1 (by simpa using h2)).1) hf with ⟨_, r2⟩ | ⟨j, a', e', r1, _⟩
              · obtain ⟨q1, q2, _, _⟩ := setMap_step (arr' := arr.push { key := kv, val := z, born := es.length }) (es' := es ++ [(kd, y)]) h hb hs g1 (by simp [g2]) (fun j k' a' e h1 h2 => by
                  rw [Array.getElem?_push] at h2
                  rw [List.getElem?_append] at h1
                  split at h2
                  · rename_i hje
                    cases h2
                    rw [if_neg (by omega), hje, g2, Nat.sub_self] at h1
                    cases h1
                    exact ⟨hk, hy, by dsimp only; omega⟩
                  · have hjl := (Array.getElem?_eq_some_iff.1 h2).1
                    rw [if_pos (by omega)] at h1
                    exact g3 j k' a' e h1 h2)
                refine ⟨_, I, β, ?_, undef_rep, q1, q2, fun _ hb _ => hb⟩
                rw [List.length_append, List.length_singleton]
                simp only [Instr.mapUpdate, Sem.run_bind, run_underlying hu, Result.andThen_ok, getObj_map g1, KI.check, r2, run_setObj_map _ g1]
              · cases r1
            · cases ho
          · cases ho
      · cases ho
    · cases ho
  · cases ho

/-! Ranges over strings. -/
theorem sit_cell {r : Nat} {s : ByteArray} {pos : Nat} (h : w.heap[r]? = some (.stringIter s pos)) {a : Addr} (ha : a.block = r) : w.cell? a = none := by
  unfold World.cell?
  rw [ha, h]
theorem alloc_new (w : World) (o : Obj) : (w.alloc o).heap[w.heap.size]? = some o := by
  show (w.heap.push o)[w.heap.size]? = _
  simp
theorem oRange_sound {ty : TypeId} {x : A} {v : Value} {o : Out} {nb : Nat} (h : HRel C w I β σ) (hx : ARep w I β x v) (ho : oRange C.P ty x = some o) (hσ : σ[nb]? = some .dead) (hβ : β[nb]? = some none) : SV C (Instr.range ty v) w I β σ nb o := by
  unfold oRange at ho
  split at ho
  · rename_i s
    obtain rfl := rep_str hx
    split at ho
    · rename_i hk
      cases ho
      have hu := knT_str hk
      have hlt : nb < β.length := (List.getElem?_eq_some_iff.1 hβ).1
      have hlt' : nb < σ.length := (List.getElem?_eq_some_iff.1 hσ).1
      have hcell : ∀ a : Addr, (w.cell? a).isSome = true → ((w.alloc (.stringIter s 0)).cell? a).isSome = true := fun a ha => by
        obtain ⟨u, hu⟩ := Option.isSome_iff_exists.1 ha
        rw [World.cell?_alloc_lt _ _ _ (World.block_lt_of_cell? w a hu)]; exact ha
      have hnew : (w.alloc (.stringIter s 0)).heap[w.heap.size]? = some (.stringIter s 0) := alloc_new w _
      obtain ⟨g1, g2⟩ := h.one (w' := w.alloc (.stringIter s 0)) (β' := β.set nb (some ⟨w.heap.size, 0, 0⟩)) (σ' := σ.set nb (.sit s 0)) (b0 := nb) (k0 := .sit s 0) (l0 := ⟨w.heap.size, 0, 0⟩)
        (by simp) (by simp) (fun b k hb hk => .inl (by rwa [List.getElem?_set, if_neg (fun e => hb e.symm)] at hk)) (by rw [List.getElem?_set_self hlt'])
        (fun b hb => by rw [List.getElem?_set, if_neg (fun e => hb e.symm)]) (by rw [List.getElem?_set_self hlt]) (.inl hβ)
        rfl rfl rfl (by simp) (fun r hr hr' => Below.heap_alloc _ _ _ hr') hcell (fun hi => Nat.lt_irrefl _ (h.imm _ hi))
        (fun b l k hb hbl hk hlv e => by
          rw [List.getElem?_set, if_neg (fun e => hb e.symm)] at hk
          have := (h.own b l k hbl hk hlv).2.1
          rw [e] at this
          exact Nat.lt_irrefl _ this) (.inr (Nat.le_refl _)) h.size (by simp) (fun o => by unfold World.frozen?; rw [hnew])
        ⟨hnew, rfl⟩
      refine ⟨.pointer (some ⟨w.heap.size, 0, none⟩), _, I, _, ?_, .ptr (l := ⟨w.heap.size, 0, 0⟩) (by rw [List.getElem?_set_self hlt]), g1, g2, fun b hb hn => keep_set hb (hn.resolve_right (by simp [newB]))⟩
      simp [Instr.range, run_underlying hu]
    · cases ho
  · cases ho
theorem run_setObj_sit {r : Nat} {s : ByteArray} {pos : Nat} (o : Obj) (h : w.heap[r]? = some (.stringIter s pos)) {P : Program} : (setObj r o).run P w = .ok () { w with heap := w.heap.setIfInBounds r o } := by
  simp [setObj, Sem.run, h]
theorem oNext_sound {x : A} {v : Value} {o : Out} {ty : TypeId} (nb : Nat) (h : HRel C w I β σ) (hx : ARep w I β x v) (ho : oNext σ x = some o) : SV C (Instr.next v true ty) w I β σ nb o := by
  unfold oNext at ho
  split at ho
  · rename_i b
    cases hx with
    | ptr hb =>
      rename_i l
      split at ho
      · rename_i s pos hs
        replace hs := look_some hs
        obtain ⟨g1, g0⟩ := h.blk b l _ hb hs
        have hg : (getObj l.r).run C.P w = .ok (.stringIter s pos) w := by simp [getObj, Sem.run, g1]
        have e0 : l.o + 0 = 0 := by omega
        rw [e0]
        split at ho
        · rename_i hpos
          cases ho
          obtain ⟨o1, o2, o3, o4⟩ := h.own b l _ hb hs rfl
          have hlt : b < σ.length := (List.getElem?_eq_some_iff.1 hs).1
          generalize hO : Obj.stringIter s (pos + (Utf8.decode s pos).2) = ob
          have p1 : ({ w with heap := w.heap.setIfInBounds l.r ob } : World).heap[l.r]? = some ob := by
            have := (Array.getElem?_eq_some_iff.1 g1).1
            simp [Array.getElem?_setIfInBounds, this]
          have p2 : ∀ r, r ≠ l.r → ({ w with heap := w.heap.setIfInBounds l.r ob } : World).heap[r]? = w.heap[r]? := fun r hr => by
            show (w.heap.setIfInBounds l.r ob)[r]? = _
            rw [Array.getElem?_setIfInBounds, if_neg (fun e => hr e.symm)]
          have hcells : ∀ a : Addr, a.block ≠ l.r → ({ w with heap := w.heap.setIfInBounds l.r ob } : World).cell? a = w.cell? a := fun a ha => cell_of_heap (p2 _ ha)
          have hcell : ∀ a : Addr, (w.cell? a).isSome = true → (({ w with heap := w.heap.setIfInBounds l.r ob } : World).cell? a).isSome = true := fun a ha => by
            by_cases e : a.block = l.r
            · rw [sit_cell g1 e] at ha; cases ha
            · rw [hcells a e]; exact ha
          obtain ⟨q1, q2⟩ := h.one (w' := { w with heap := w.heap.setIfInBounds l.r ob }) (β' := β) (σ' := σ.set b (.sit s (pos + (Utf8.decode s pos).2))) (b0 := b) (k0 := .sit s (pos + (Utf8.decode s pos).2)) (l0 := l) (by simp) rfl
            (fun c q hcb hq => .inl (by rwa [List.getElem?_set, if_neg (fun e => hcb e.symm)] at hq)) (by rw [List.getElem?_set_self hlt]) (fun _ _ => rfl) hb (.inr hb) rfl rfl rfl (by simp) (fun r hr _ => p2 r hr) hcell o3
            (fun c l' q hcb hcl hq hqv e => hcb (by
              rw [List.getElem?_set, if_neg (fun e => hcb e.symm)] at hq
              exact h.dist c b l' l q _ hcl hq hqv hb hs rfl e)) (.inl ⟨b, l, _, hb, hs, rfl, rfl⟩) o1 (by simpa using o2) (fun o => by unfold World.frozen?; rw [p1, ← hO])
            ⟨by rw [p1, hO], g0⟩
          refine ⟨.tuple #[.bool true, .int .i64 pos, .int .i32 (Utf8.decode s pos).1], _, I, β, ?_, .tup rfl (fun i c u hc hu => ?_), q1, q2, fun _ hb _ => hb⟩
          · simp only [Instr.next, Sem.run_bind, hg, Result.andThen_ok, if_pos hpos, hO, run_setObj_sit ob g1]
            rfl
          · match i with
            | 0 => simp at hc hu; subst hc; subst hu; exact .d (.v rfl)
            | 1 => simp at hc hu; subst hc; subst hu; exact .d (.v rfl)
            | 2 => simp at hc hu; subst hc; subst hu; exact .d (.v rfl)
            | i + 3 => simp at hc
        · rename_i hpos
          cases ho
          refine Reads.sv h ⟨.tuple #[.bool false], ?_, .tup rfl (fun i c u hc hu => ?_)⟩ nb
          · simp only [Instr.next, Sem.run_bind, hg, Result.andThen_ok, if_neg hpos]
            rfl
          · match i with
            | 0 => simp at hc hu; subst hc; subst hu; exact .d (.v rfl)
            | i + 1 => simp at hc
      · cases ho
  · cases ho
theorem zeroCells_get {zc : Array Value} {n q : Nat} (h : q < n * zc.size) : (Builtin.zeroCells zc n)[q]? = zc[q % zc.size]? := by
  have hs : 0 < zc.size := by
    rcases Nat.eq_zero_or_pos zc.size with e | e
    · rw [e] at h; omega
    · exact e
  unfold Builtin.zeroCells
  simp [h, Nat.mod_lt q hs]
theorem oClear_sound {ty rt : TypeId} {tl : List TypeId} {x : A} {v : Value} {o : Out} (nb : Nat) (h : HRel C w I β σ) (hx : ARep w I β x v) (ho : oClear C.P σ ty x = some o) (hp : o.p) : SV C (Builtin.clear_ (ty :: tl).toArray rt #[v]) w I β σ nb o := by
  unfold oClear at ho
  split at ho
  · rename_i e he
    have hu := elT_eq he
    have nop : ∀ a cap, v = .slice a 0 cap → SV C (Builtin.clear_ (ty :: tl).toArray rt #[v]) w I β σ nb (val (.tup [])) := by
      rintro a cap rfl
      refine Reads.sv h ⟨.tuple #[], ?_, .tup rfl (fun i c u hc => by simp at hc)⟩ nb
      cases a <;> simp [Builtin.clear_, run_underlying hu, Result.andThen]
    split at ho
    · cases ho
      cases hx; exact nop _ 0 rfl
    · cases ho
      cases hx with
      | d hx =>
        generalize hxs : ([] : List D) = xs at hx
        cases hx with
        | nil => exact nop _ _ rfl
        | lst => subst hxs; exact nop _ _ rfl
    · rename_i b off n
      split at ho
      · cases ho
        cases hx with
        | sl hb hc hm hcap => exact nop _ _ rfl
        | sl0 => exact nop _ _ rfl
      · rename_i n
        split at ho
        · rename_i k' xs d k by' hs hd hk
          cases ho
          obtain ⟨p1, p2, p3⟩ : k' = k ∧ off + (n + 1) ≤ xs.length ∧ d.cells.length = k := hp
          subst p1
          cases hx with
          | sl hb hc hm hcap =>
            rename_i cap l
            replace hs := look_some hs
            obtain ⟨o1, o2, o3, o4⟩ := h.own b l _ hb hs rfl
            obtain ⟨hlk, hsz, f, hf⟩ := h.blk b l _ hb hs
            have hlt : b < σ.length := (List.getElem?_eq_some_iff.1 hs).1
            obtain ⟨i, zv, i1, i2, i3, i4, i5⟩ := elB_eq hk
            have hdr : DRep w I d zv := by
              unfold zD at hd
              have hzt : zeroT C.P e = some zv := by unfold zeroT; rw [i1]; exact i2
              rw [hzt] at hd
              dsimp only at hd
              split at hd
              · rename_i a ha
                have := toD_rep h.empty (constA_rep (w := w) (I := I) (β := []) ha).1 hd
                exact this.imono fun r hr => by
                  rcases hr with hr | ⟨b, _, l, q, hq, _⟩
                  · exact hr
                  · simp at hq
              · cases hd
            obtain ⟨c1, c2⟩ := hdr.cells
            have hzrun : (zeroValue e).run C.P w = .ok zv w := by simp [zeroValue, typeInfo, i1, i2]
            have hus : (Builtin.zeroCells zv.cells (n + 1)).toList.length = (n + 1) * k' := by rw [Array.length_toList, size_zeroCells, i3]
            generalize hU : (Builtin.zeroCells zv.cells (n + 1)).toList = us at hus
            have hget : ∀ j i, j < n + 1 → i < k' → us[j * k' + i]? = zv.cells[i]? := fun j i hj hi => by
              rw [← hU, Array.getElem?_toList, zeroCells_get (by rw [i3]; have : (j + 1) * k' ≤ (n + 1) * k' := Nat.mul_le_mul_right _ hj; rw [Nat.add_mul] at this; omega), i3, Nat.mul_comm, Nat.mul_add_mod, Nat.mod_eq_of_lt hi]
            have hcl : ∀ q, q < xs.length * k' → (w.cell? ⟨l.r, l.o + q, none⟩).isSome = true := fun q hq => by
              have hk0 : 0 < k' := Nat.pos_of_ne_zero fun e => by rw [e, Nat.mul_zero] at hq; omega
              have hj : q / k' < xs.length := Nat.div_lt_of_lt_mul (by rw [Nat.mul_comm]; exact hq)
              have hx := List.getElem?_eq_getElem hj
              have hl := hsz _ _ hx
              have hi : q % k' < xs[q / k'].cells.length := by rw [hl]; exact Nat.mod_lt _ hk0
              have := (hf _ _ (q % k') _ hx (List.getElem?_eq_getElem hi)).1
              rw [show q / k' * k' + q % k' = q by rw [Nat.mul_comm]; exact Nat.div_add_mod q k'] at this
              rw [this]; rfl
            have hle : off * k' + us.length ≤ xs.length * k' := by
              rw [hus, ← Nat.add_mul]; exact Nat.mul_le_mul_right _ p2
            obtain ⟨f1, f2, f3, f4, f5, f6⟩ := setCells_heap l.r us (l.o + off * k') w
            have hI : ∀ a : Addr, I a.block → (w.setCells l.r (l.o + off * k') us).cell? a = w.cell? a := fun a ha => cell_of_heap (f1 _ (fun e => o3 (e ▸ ha)))
            have hc' : ∀ j, j < us.length → (w.cell? ⟨l.r, l.o + off * k' + j, none⟩).isSome = true := fun j hj => by rw [Nat.add_assoc]; exact hcl _ (by omega)
            have h1 : ∀ u ∈ us, u.oneCell' = true := fun u hu => by
              obtain ⟨q, hq, rfl⟩ := List.mem_iff_getElem.1 hu
              have hk0 : 0 < k' := Nat.pos_of_ne_zero fun e => by rw [e, Nat.mul_zero] at hus; omega
              have hqk : q % k' < k' := Nat.mod_lt _ hk0
              have hg := hget (q / k') (q % k') (Nat.div_lt_of_lt_mul (by rw [Nat.mul_comm, ← hus]; exact hq)) hqk
              rw [show q / k' * k' + q % k' = q by rw [Nat.mul_comm]; exact Nat.div_add_mod q k', List.getElem?_eq_getElem hq] at hg
              exact (c2 (q % k') _ _ (List.getElem?_eq_getElem (by omega)) hg.symm).2
            have hrun : (Builtin.clear_ (ty :: tl).toArray rt #[.slice (some ⟨l.r, l.o + off * l.sz, none⟩) (n + 1) cap]).run C.P w = .ok (.tuple #[]) (w.setCells l.r (l.o + off * k') us) := by
              have hst := run_storeCells_cells (P := C.P) l.r (l.o + off * k') us 0 w (fun j hj => by simpa using hc' j hj) (fun j _ => o4 _) h1
              simp only [Nat.add_zero] at hst
              simp [Builtin.clear_, run_underlying hu, hzrun, hU, hlk, hst, Result.andThen]
            obtain ⟨g1, g2⟩ := h.one (w' := w.setCells l.r (l.o + off * k') us) (β' := β) (σ' := σ.set b (.arr k' (xs.take off ++ List.replicate (n + 1) d ++ xs.drop (off + (n + 1))))) (b0 := b) (k0 := .arr k' (xs.take off ++ List.replicate (n + 1) d ++ xs.drop (off + (n + 1)))) (l0 := l) (by simp) rfl
              (fun c q hcb hq => .inl (by rwa [List.getElem?_set, if_neg (fun e => hcb e.symm)] at hq)) (by rw [List.getElem?_set_self hlt]) (fun _ _ => rfl) hb (.inr hb) f3 f4 f5 (by omega) (fun r hr _ => f1 r hr) f6 o3
              (fun c l' q hcb hcl hq hqv e => hcb (by
                rw [List.getElem?_set, if_neg (fun e => hcb e.symm)] at hq
                exact h.dist c b l' l q _ hcl hq hqv hb hs rfl e)) (.inl ⟨b, l, _, hb, hs, rfl, rfl⟩) o1 (by omega) (fun o => by rw [World.frozen?_setCells]; exact o4 o)
              (by
                have hnth : ∀ (j : Nat) (x : D), (xs.take off ++ List.replicate (n + 1) d ++ xs.drop (off + (n + 1)))[j]? = some x → (off ≤ j ∧ j < off + (n + 1) ∧ x = d) ∨ ((j < off ∨ off + (n + 1) ≤ j) ∧ xs[j]? = some x) := by
                  intro j x hj
                  have hto : (xs.take off).length = off := by simp; omega
                  rw [List.getElem?_append] at hj
                  split at hj
                  · rename_i hjl
                    rw [List.length_append, hto, List.length_replicate] at hjl
                    rw [List.getElem?_append] at hj
                    split at hj
                    · rename_i hj2
                      rw [hto] at hj2
                      rw [List.getElem?_take_of_lt hj2] at hj
                      exact .inr ⟨.inl hj2, hj⟩
                    · rename_i hj2
                      rw [hto] at hj hj2
                      rw [List.getElem?_replicate] at hj
                      split at hj <;> cases hj
                      exact .inl ⟨by omega, by omega, rfl⟩
                  · rename_i hjl
                    rw [List.length_append, hto, List.length_replicate] at hj hjl
                    rw [List.getElem?_drop] at hj
                    exact .inr ⟨.inr (by omega), by rw [← hj]; congr 1; omega⟩
                refine ⟨hlk, fun j x hj => ?_, fun j i => if off ≤ j ∧ j < off + (n + 1) then zv.cells.getD i undef else f j i, fun j x i c hj hi => ?_⟩
                · rcases hnth j x hj with ⟨_, _, rfl⟩ | ⟨_, hx⟩
                  · exact p3
                  · exact hsz j x hx
                · rcases hnth j x hj with ⟨q1, q2, rfl⟩ | ⟨q1, hx⟩
                  · have hik : i < k' := by have := (List.getElem?_eq_some_iff.1 hi).1; omega
                    have hzc : zv.cells[i]? = some zv.cells[i] := Array.getElem?_eq_getElem (by omega)
                    obtain ⟨r1, r2⟩ := c2 i c _ hi hzc
                    dsimp only
                    rw [if_pos ⟨q1, q2⟩, Array.getD_eq_getD_getElem?, hzc]
                    refine ⟨?_, r2, r1.mono hI (fun _ h => h)⟩
                    have hin := World.cell?_setCells_in l.r us (l.o + off * k') w hc' ((j - off) * k' + i) (by
                      rw [hus]
                      have : (j - off + 1) * k' ≤ (n + 1) * k' := Nat.mul_le_mul_right _ (by omega)
                      rw [Nat.add_mul] at this; omega)
                    rw [show l.o + off * k' + ((j - off) * k' + i) = l.o + (j * k' + i) by
                      have : off * k' + (j - off) * k' = j * k' := by rw [← Nat.add_mul]; congr 1; omega
                      omega] at hin
                    rw [hin]
                    have := hget (j - off) i (by omega) hik
                    rw [hzc] at this
                    rw [List.getElem?_eq_some_iff] at this
                    obtain ⟨hh, e'⟩ := this
                    rw [← e']; rfl
                  · obtain ⟨r1, r2, r3⟩ := hf j x i c hx hi
                    dsimp only
                    rw [if_neg (by omega)]
                    refine ⟨?_, r2, r3.mono hI (fun _ h => h)⟩
                    rw [World.cell?_setCells_out l.r us (l.o + off * k') w _ (fun _ _ => ?_)]
                    · exact r1
                    · show l.o + (j * k' + i) < l.o + off * k' ∨ l.o + off * k' + us.length ≤ l.o + (j * k' + i)
                      have hik : i < k' := by have := (List.getElem?_eq_some_iff.1 hi).1; have := hsz j x hx; omega
                      rcases q1 with q1 | q1
                      · have : (j + 1) * k' ≤ off * k' := Nat.mul_le_mul_right _ q1
                        rw [Nat.add_mul] at this
                        exact .inl (by omega)
                      · have : (off + (n + 1)) * k' ≤ j * k' := Nat.mul_le_mul_right _ q1
                        rw [Nat.add_mul] at this
                        exact .inr (by omega))
            exact ⟨_, _, I, β, hrun, .tup rfl (fun i c u hc => by simp at hc), g1, g2, fun _ hb _ => hb⟩
        · cases ho
    · cases ho
  · cases ho
end
end Go.AM
end
section
namespace Go.AM
open Go.RowKit
set_option linter.unusedVariables false
set_option linter.unusedSimpArgs false
section
variable {C : Ctx} {w : World} {I : Nat → Prop} {β : List (Option Loc)} {σ : List Blk}

theorem exec_v {P : Program} {m : Sem Value} {u : Value} {w' : World} (h : m.run P w = .ok u w') : (do pure (Next.value (← m)) : Sem Next).run P w = .ok (.value u) w' := by
  rw [Sem.run_bind, h]; rfl
theorem exec_u {P : Program} {m : Sem Unit} {w' : World} (h : m.run P w = .ok () w') : (do m; pure Next.skip : Sem Next).run P w = .ok .skip w' := by
  rw [Sem.run_bind, h]; rfl
/-- What an operation comes to. -/
def OpS (C : Ctx) (m : Sem Next) (w : World) (I : Nat → Prop) (β : List (Option Loc)) (σ : List Blk) (nb : Nat) (o : Out) : Prop :=
  ∃ u w' I' β', (m.run C.P w = .ok (.value u) w' ∨ (m.run C.P w = .ok .skip w' ∧ u = undef)) ∧ ARep w' I' β' (o.v nb) u ∧ HRel C w' I' β' (putσ σ o nb) ∧ Ext σ.length w I (Own β σ) β w' I' (Own β' (putσ σ o nb)) β' ∧ Keeps nb o β β'
theorem SV.op {m : Sem Value} {nb : Nat} {o : Out} (h : SV C m w I β σ nb o) : OpS C (do pure (Next.value (← m))) w I β σ nb o := by
  obtain ⟨u, w', I', β', h1, h2, h3, h4⟩ := h
  exact ⟨u, w', I', β', .inl (exec_v h1), h2, h3, h4⟩
theorem SU.op {m : Sem Unit} {nb : Nat} {o : Out} (h : SU C m w I β σ nb o) : OpS C (do m; pure Next.skip) w I β σ nb o := by
  obtain ⟨w', I', β', h1, h2, h3, h4⟩ := h
  exact ⟨undef, w', I', β', .inr ⟨exec_u h1, rfl⟩, h2, h3, h4⟩
theorem pure_op {u : Value} {x : A} {p : Prop} {nb : Nat} (h : HRel C w I β σ) (hx : ARep w I β x u) : OpS C (pure (.value u)) w I β σ nb (valP p x) :=
  ⟨u, w, I, β, .inl rfl, hx, h, .refl .., fun _ hb _ => hb⟩
theorem evL_map {t : Nat → Option A} {a : Act} (h : ∀ (k : Nat) (x : A), t k = some x → ∃ u, a.tmps[k]? = some u ∧ ARep w I β x u) {os : Array Operand} {xs : List A} (he : evL t os.toList = some xs) : xs.length = (os.map a.eval).size ∧ ∀ (i : Nat) (x : A) (u : Value), xs[i]? = some x → (os.map a.eval)[i]? = some u → ARep w I β x u := by
  obtain ⟨h1, h2⟩ := evL_rep h he
  refine ⟨by simpa using h1, fun i x u hx hu => ?_⟩
  rw [Array.getElem?_map, Option.map_eq_some_iff] at hu
  obtain ⟨o, ho, rfl⟩ := hu
  exact h2 i x o hx (by rwa [Array.getElem?_toList])
theorem evP_map {t : Nat → Option A} {a : Act} (h : ∀ (k : Nat) (x : A), t k = some x → ∃ u, a.tmps[k]? = some u ∧ ARep w I β x u) {os : Array (Nat × Operand)} {xs : List (Nat × A)} (he : evP t os.toList = some xs) :
    xs.length = (os.map fun (i, x) => (i, a.eval x)).size ∧ ∀ (i : Nat) (p : Nat × A) (q : Nat × Value), xs[i]? = some p → (os.map fun (i, x) => (i, a.eval x))[i]? = some q → p.1 = q.1 ∧ ARep w I β p.2 q.2 := by
  obtain ⟨h1, h2⟩ := evP_rep h he
  refine ⟨by simpa using h1, fun i p q hp hq => ?_⟩
  rw [Array.getElem?_map, Option.map_eq_some_iff] at hq
  obtain ⟨o, ho, rfl⟩ := hq
  exact h2 i p o hp (by rwa [Array.getElem?_toList])
theorem on1_some {x : Option A} {f : A → Option Out} {o : Out} (h : on1 x f = some o) : ∃ a, x = some a ∧ f a = some o := by
  cases x with
  | none => cases h
  | some a => exact ⟨a, rfl, h⟩
theorem on2_some {x y : Option A} {f : A → A → Option Out} {o : Out} (h : on2 x y f = some o) : ∃ a b, x = some a ∧ y = some b ∧ f a b = some o := by
  cases x with
  | none => cases h
  | some a =>
    cases y with
    | none => cases h
    | some b => exact ⟨a, b, rfl, rfl, h⟩

theorem on3_some {x y z : Option A} {f : A → A → A → Option Out} {o : Out} (h : on3 x y z f = some o) : ∃ a b c, x = some a ∧ y = some b ∧ z = some c ∧ f a b c = some o := by
  cases x with
  | none => cases h
  | some a =>
    cases y with
    | none => cases h
    | some b =>
      cases z with
      | none => cases h
      | some c => exact ⟨a, b, c, rfl, rfl, rfl, h⟩
theorem two_of {xs : List A} {us : Array Value} {x y : A} (h : [x, y].length = us.size) : ∃ u v, us = #[u, v] := by
  match us, h with
  | ⟨[u, v]⟩, _ => exact ⟨u, v, rfl⟩

theorem oBuiltin_sound {b : Builtin} {xs : List A} {tys : Array TypeId} {rt : TypeId} {consts : Array Bool} {us : Array Value} {o : Out} {nb : Nat} (h : HRel C w I β σ) (hl : xs.length = us.size) (hr : ∀ (i : Nat) (x : A) (u : Value), xs[i]? = some x → us[i]? = some u → ARep w I β x u)
    (ho : oBuiltin C.P σ b xs tys.toList = some o) (hp : o.p) (hn : o.new nb ≠ [] → σ[nb]? = some .dead ∧ β[nb]? = some none) : OpS C (builtin b tys rt consts us) w I β σ nb o := by
  unfold oBuiltin at ho
  split at ho
  · split at ho
    · rename_i x ty tl hty
      obtain ⟨u, rfl⟩ : ∃ u, us = #[u] := by
        match us, hl with
        | ⟨[u]⟩, _ => exact ⟨u, rfl⟩
      obtain ⟨z, rfl, hz⟩ := oLen_sound (yt := rt) (tys := tl) h (hr 0 x u rfl rfl) ho
      have e : tys = (ty :: tl).toArray := by rw [← hty]
      rw [e]
      exact (hz.sv h nb).op
    · cases ho
  · split at ho
    · rename_i x y ty yt hty
      obtain ⟨u, v, rfl⟩ : ∃ u v, us = #[u, v] := by
        match us, hl with
        | ⟨[u, v]⟩, _ => exact ⟨u, v, rfl⟩
      have e : tys = #[ty, yt] := by
        have : tys.toList.toArray = [ty, yt].toArray := by rw [hty]
        simpa using this
      rw [e]
      have hne : o.new nb ≠ [] := by
        unfold oAppend at ho
        split at ho
        · split at ho
          · split at ho
            · cases ho; simp
            · split at ho
              · cases ho; simp
              · cases ho
            · split at ho
              · cases ho; simp
              · cases ho
            · cases ho
          · cases ho
        · cases ho
      obtain ⟨n1, n2⟩ := hn hne
      exact (oAppend_sound (rt := rt) h (hr 0 x u rfl rfl) (hr 1 y v rfl rfl) ho hp n1 n2).op
    · cases ho
  · split at ho
    · rename_i k a k' b
      cases ho
      obtain ⟨u, v, rfl⟩ : ∃ u v, us = #[u, v] := by
        match us, hl with
        | ⟨[u, v]⟩, _ => exact ⟨u, v, rfl⟩
      obtain rfl := rep_int (hr 0 _ u rfl rfl)
      obtain rfl := rep_int (hr 1 _ v rfl rfl)
      refine ⟨_, w, I, β, .inl (exec_v (m := Builtin.min_ tys rt _) ?_), .d (.v rfl), h, .refl .., fun _ hb _ => hb⟩
      simp [Builtin.min_, Builtin.min2]
    · cases ho
  · split at ho
    · rename_i k a k' b
      cases ho
      obtain ⟨u, v, rfl⟩ : ∃ u v, us = #[u, v] := by
        match us, hl with
        | ⟨[u, v]⟩, _ => exact ⟨u, v, rfl⟩
      obtain rfl := rep_int (hr 0 _ u rfl rfl)
      obtain rfl := rep_int (hr 1 _ v rfl rfl)
      refine ⟨_, w, I, β, .inl (exec_v (m := Builtin.max_ tys rt _) ?_), .d (.v rfl), h, .refl .., fun _ hb _ => hb⟩
      simp [Builtin.max_, Builtin.max2]
    · cases ho
  · split at ho
    · rename_i x ty tl hty
      obtain ⟨u, rfl⟩ : ∃ u, us = #[u] := by
        match us, hl with
        | ⟨[u]⟩, _ => exact ⟨u, rfl⟩
      have e : tys = (ty :: tl).toArray := by rw [← hty]
      rw [e]
      exact (oClear_sound nb h (hr 0 x u rfl rfl) ho hp).op
    · cases ho
  · cases ho

theorem opEval_sound {t : Nat → Option A} {a : Act} {o : Oper} {out : Out} {nb : Nat} (ht : ∀ (k : Nat) (x : A), t k = some x → ∃ u, a.tmps[k]? = some u ∧ ARep w I β x u) (h : HRel C w I β σ)
    (ho : opEval C.P t σ o.op = some out) (hp : out.p) (hn : out.new nb ≠ [] → σ[nb]? = some .dead ∧ β[nb]? = some none) : OpS C (execOp a.eval o) w I β σ nb out := by
  unfold opEval at ho
  unfold execOp
  split at ho
  · rename_i x hop
    obtain ⟨v, h1, h2⟩ := on1_some ho
    cases h2
    rw [hop]
    exact pure_op h (ev_rep ht h1)
  · rename_i x hop
    obtain ⟨v, h1, h2⟩ := on1_some ho
    cases h2
    rw [hop]
    exact pure_op h (ev_rep ht h1)
  · rename_i c x y hop
    obtain ⟨vc, h1, ho⟩ := on1_some ho
    obtain ⟨vx, vy, h2, h3, ho⟩ := on2_some ho
    obtain ⟨z, rfl, u, hu, hz⟩ := oPick_sound (P := C.P) (ev_rep ht h1) (ev_rep ht h2) (ev_rep ht h3) ho
    rw [hop]
    dsimp only
    refine ⟨u, w, I, β, .inl ?_, hz, h, .refl .., fun _ hb _ => hb⟩
    simp only [Sem.run_bind] at hu ⊢
    cases hb : (asBool (a.eval c)).run C.P w with
    | ok b w1 =>
      rw [hb] at hu
      simp only [Result.andThen_ok, Sem.run_pure, Result.ok.injEq] at hu ⊢
      obtain ⟨rfl, rfl⟩ := hu
      exact ⟨rfl, rfl⟩
    | halt e w1 => rw [hb] at hu; cases hu
  · rename_i ty hop
    rw [hop]
    unfold oAlloc at ho
    split at ho
    · rename_i z hz
      split at ho
      · rename_i v hv
        cases ho
        obtain ⟨n1, n2⟩ := hn (by simp [newB])
        obtain ⟨c1, c2⟩ := constA_rep (w := w) (I := I) (β := β) hv
        obtain ⟨u, w', I', β', g1, g2⟩ := newRow_sv (ty := ty) h c1 c2 n1 n2
        refine SV.op ⟨u, w', I', β', ?_, g2⟩
        have hz' : ∃ it, C.P.info? ty = some it ∧ it.zero = some z := by
          unfold zeroT at hz
          rwa [Option.bind_eq_some_iff] at hz
        obtain ⟨it, e1, e2⟩ := hz'
        have : (zeroValue ty).run C.P w = .ok z w := by simp [zeroValue, typeInfo, e1, e2]
        simp only [Instr.alloc, Sem.run_bind, this, Result.andThen_ok]
        simpa [Sem.run_bind] using g1
      · cases ho
    · cases ho
  · rename_i ty x hop
    rw [hop]
    obtain ⟨v, h1, ho⟩ := on1_some ho
    split at ho
    · rename_i htp
      cases ho
      obtain ⟨n1, n2⟩ := hn (by simp [newB])
      exact (newRow_sv (ty := ty) h (ev_rep ht h1) htp n1 n2).op
    · cases ho
  · rename_i ty parts hop
    rw [hop]
    split at ho
    · rename_i ps hps
      obtain ⟨e1, e2⟩ := evP_map ht hps
      obtain ⟨z, rfl, hz⟩ := oBuild_sound e1 e2 ho
      exact (hz.sv h nb).op
    · cases ho
  · rename_i ty len parts hop
    rw [hop]
    split at ho
    · rename_i ps hps
      obtain ⟨e1, e2⟩ := evP_map ht hps
      exact (oBuildSlice_sound nb h e1 e2 ho hp).op
    · cases ho
  · rename_i ty x hop
    rw [hop]
    obtain ⟨v, h1, ho⟩ := on1_some ho
    obtain ⟨z, rfl, hz⟩ := oLoad_sound (P := C.P) h (ev_rep ht h1) ho
    exact (hz.sv h nb).op
  · rename_i ty x y hop
    rw [hop]
    obtain ⟨v, z, h1, h2, ho⟩ := on2_some ho
    exact (oStore_sound nb h (ev_rep ht h1) (ev_rep ht h2) ho hp).op
  · rename_i x hop
    rw [hop]
    obtain ⟨v, h1, ho⟩ := on1_some ho
    have hx := ev_rep ht h1
    obtain ⟨rfl, hv⟩ := oNil_sound hx ho
    have := pure_op (p := True) (nb := nb) h hx
    dsimp only
    rcases hv with ⟨ad, hv⟩ | ⟨f, us, vs, hv⟩ <;> rw [hv] at this ⊢ <;> exact this
  · rename_i op ty x y yt hop
    rw [hop]
    split at ho
    · rename_i hy
      obtain rfl := nilK_sl hy
      obtain ⟨v, h1, ho⟩ := on1_some ho
      obtain ⟨q, rfl, hq⟩ := oNilCmp_sound (P := C.P) (ox := x) (oy := .const (.slice none 0 0)) (ev_rep ht h1) ho
      exact (hq.sv h nb).op
    · rename_i hy
      obtain rfl := nilK_ifc hy
      obtain ⟨v, h1, ho⟩ := on1_some ho
      obtain ⟨q, rfl, hq⟩ := oErrCmp_sound (P := C.P) (ox := x) (ev_rep ht h1) ho
      exact (hq.sv h nb).op
    · obtain ⟨v, z, h1, h2, ho⟩ := on2_some ho
      obtain ⟨q, e, hq⟩ := oBin_sound (ox := x) (oy := y) (ev_rep ht h1) (ev_rep ht h2) ho hp
      rw [e]
      exact (hq.sv h nb).op
  · rename_i op ty x hop
    rw [hop]
    obtain ⟨v, h1, ho⟩ := on1_some ho
    obtain ⟨q, e, hq⟩ := oUn_sound (P := C.P) (ev_rep ht h1) ho hp
    rw [e]
    exact (hq.sv h nb).op
  · rename_i src dst x hop
    rw [hop]
    obtain ⟨v, h1, ho⟩ := on1_some ho
    obtain ⟨q, e, hq⟩ := oConv_sound (P := C.P) (ev_rep ht h1) ho hp
    rw [e]
    exact (hq.sv h nb).op
  · rename_i f first cap hop
    rw [hop]
    split at ho
    · rename_i x y h1 h2
      cases ho
      obtain ⟨e1, e2⟩ := evL_map ht h1
      obtain ⟨e3, e4⟩ := evL_map ht h2
      exact (Reads.sv (m := Instr.makeFunc f (first.map a.eval) (cap.map a.eval)) (p := True) h ⟨_, rfl, .fn e1 e3 e2 e4⟩ nb).op
    · cases ho
  · rename_i ty hop
    rw [hop]
    cases ho
    obtain ⟨n1, n2⟩ := hn (by simp [newB])
    have hlt : nb < β.length := (List.getElem?_eq_some_iff.1 n2).1
    have hlt' : nb < σ.length := (List.getElem?_eq_some_iff.1 n1).1
    have hcell : ∀ a : Addr, (w.cell? a).isSome = true → ((w.alloc (.map #[] 0)).cell? a).isSome = true := fun a ha => by
      obtain ⟨u, hu⟩ := Option.isSome_iff_exists.1 ha
      rw [World.cell?_alloc_lt _ _ _ (World.block_lt_of_cell? w a hu)]; exact ha
    obtain ⟨g1, g2⟩ := h.one (w' := w.alloc (.map #[] 0)) (β' := β.set nb (some ⟨w.heap.size, 0, 0⟩)) (σ' := σ.set nb (.map [])) (b0 := nb) (k0 := .map []) (l0 := ⟨w.heap.size, 0, 0⟩)
      (by simp) (by simp) (fun b k hb hk => .inl (by rwa [List.getElem?_set, if_neg (fun e => hb e.symm)] at hk)) (by rw [List.getElem?_set_self hlt'])
      (fun b hb => by rw [List.getElem?_set, if_neg (fun e => hb e.symm)]) (by rw [List.getElem?_set_self hlt]) (.inl n2)
      rfl rfl rfl (by simp) (fun r hr hr' => Below.heap_alloc _ _ _ hr') hcell (fun hi => Nat.lt_irrefl _ (h.imm _ hi))
      (fun b l k hb hbl hk hlv e => by
        rw [List.getElem?_set, if_neg (fun e => hb e.symm)] at hk
        have := (h.own b l k hbl hk hlv).2.1
        rw [e] at this
        exact Nat.lt_irrefl _ this) (.inr (Nat.le_refl _)) h.size (by simp) (fun o => by unfold World.frozen?; rw [alloc_new])
      ⟨#[], alloc_new _ _, rfl, fun i k a e hk => by simp at hk⟩
    refine SV.op ⟨.map (some w.heap.size), _, I, _, ?_, .mp (l := ⟨w.heap.size, 0, 0⟩) (by rw [List.getElem?_set_self hlt]), g1, g2, fun b hb hn => keep_set hb (hn.resolve_right (by simp [newB]))⟩
    simp [Instr.makeMap]
  · rename_i ty x k ok hop
    rw [hop]
    obtain ⟨v, z, h1, h2, ho⟩ := on2_some ho
    obtain ⟨q, rfl, hq⟩ := oLookup_sound (P := C.P) h (ev_rep ht h1) (ev_rep ht h2) ho
    exact (hq.sv h nb).op
  · rename_i ty x k y hop
    rw [hop]
    obtain ⟨v, z, u, h1, h2, h3, ho⟩ := on3_some ho
    exact (oMapUpdate_sound nb h (ev_rep ht h1) (ev_rep ht h2) (ev_rep ht h3) ho).op
  · rename_i ty x k y hop
    rw [hop]
    obtain ⟨v, z, u, h1, h2, h3, ho⟩ := on3_some ho
    exact (oMapUpdate_sound nb h (ev_rep ht h1) (ev_rep ht h2) (ev_rep ht h3) ho).op
  · rename_i ty x y hop
    rw [hop]
    obtain ⟨v, z, h1, h2, ho⟩ := on2_some ho
    have hne : out.new nb ≠ [] := by
      unfold oMake at ho
      repeat' (split at ho)
      all_goals first | cases ho | skip
      all_goals simp
    obtain ⟨n1, n2⟩ := hn hne
    exact (oMake_sound h (ev_rep ht h1) (ev_rep ht h2) ho hp n1 n2).op
  · rename_i ty x lo hi mx hop
    rw [hop]
    obtain ⟨v, h1, ho⟩ := on1_some ho
    obtain ⟨q, e, hq⟩ := oSlice_sound (P := C.P) ht h (ev_rep ht h1) ho hp
    rw [e]
    exact (hq.sv h nb).op
  · rename_i s x f hop
    rw [hop]
    obtain ⟨v, h1, ho⟩ := on1_some ho
    obtain ⟨z, rfl, hz⟩ := oFieldAddr_sound (P := C.P) (ev_rep ht h1) ho
    exact (hz.sv h nb).op
  · rename_i s x f hop
    rw [hop]
    obtain ⟨v, h1, ho⟩ := on1_some ho
    obtain ⟨z, rfl, hz⟩ := oField_sound (P := C.P) (ev_rep ht h1) ho
    exact (hz.sv h nb).op
  · rename_i ty x i hop
    rw [hop]
    obtain ⟨v, z, h1, h2, ho⟩ := on2_some ho
    obtain ⟨q, e, hq⟩ := oIndexAddr_sound (P := C.P) h (ev_rep ht h1) (ev_rep ht h2) ho hp
    rw [e]
    exact (hq.sv h nb).op
  · rename_i ty x i hop
    rw [hop]
    obtain ⟨v, z, h1, h2, ho⟩ := on2_some ho
    obtain ⟨q, rfl, hq⟩ := oIndex_sound (P := C.P) (ev_rep ht h1) (ev_rep ht h2) ho
    exact (hq.sv h nb).op
  · rename_i x i hop
    rw [hop]
    obtain ⟨v, h1, ho⟩ := on1_some ho
    obtain ⟨z, rfl, hz⟩ := oExtract_sound (P := C.P) (ev_rep ht h1) ho
    exact (hz.sv h nb).op
  · rename_i ty x hop
    rw [hop]
    obtain ⟨v, h1, ho⟩ := on1_some ho
    have hne : out.new nb ≠ [] := by
      unfold oRange at ho
      split at ho
      · split at ho <;> cases ho
        simp [newB]
      · cases ho
    obtain ⟨n1, n2⟩ := hn hne
    exact (oRange_sound h (ev_rep ht h1) ho n1 n2).op
  · rename_i x hop
    rw [hop]
    obtain ⟨v, h1, ho⟩ := on1_some ho
    exact (oNext_sound (ty := o.type) nb h (ev_rep ht h1) ho).op
  · rename_i b args argTypes hop
    rw [hop]
    split at ho
    · rename_i xs hxs
      obtain ⟨e1, e2⟩ := evL_map ht hxs
      have := oBuiltin_sound (rt := o.type) (consts := args.map fun | .const _ => true | _ => false) h e1 e2 ho hp hn
      obtain ⟨u, w', I', β', g1, g2⟩ := this
      refine ⟨u, w', I', β', ?_, g2⟩
      exact g1
    · cases ho
  · cases ho
end
end Go.AM
end
section
namespace Go.AM
open Go.RowKit
set_option linter.unusedVariables false
set_option linter.unusedSimpArgs false

/-- The blocks that a value names. -/
def rd : A → List Nat
  | .ptr b _ => [b]
  | .ep b _ _ => [b]
  | .sl b _ _ => [b]
  | .mp b => [b]
  | .agg cs => A.killsL cs
  | _ => []
def rd1 : Option A → List Nat
  | some x => rd x
  | none => []
def rdL : List A → List Nat
  | [] => []
  | x :: r => rd x ++ rdL r
/-- What of a value is read when it is stored. -/
def rdV : Option A → Option A → List Nat
  | some (.ptr _ _), _ => []
  | _, y => rd1 y
def rdM : List A → List Nat
  | [] => []
  | .mp b :: r => b :: rdM r
  | _ :: r => rdM r
def rdB (b : Builtin) (xs : List A) : List Nat := match b with
  | .len => rdM xs
  | _ => rdL xs
/-- The blocks that an operation may read. -/
def opReads (t : Nat → Option A) (o : Op) : List Nat := match o with
  | .buildSlice _ _ parts => match evP t parts.toList with
    | some ps => killsP ps
    | none => []
  | .load _ x => rd1 (ev t x)
  | .store _ x y => rd1 (ev t x) ++ rdV (ev t x) (ev t y)
  | .next x _ => rd1 (ev t x)
  | .slice _ x _ _ _ => rd1 (ev t x)
  | .indexAddr _ x _ => rd1 (ev t x)
  | .lookup _ x _ _ => rd1 (ev t x)
  | .mapUpdate _ x _ _ => rd1 (ev t x)
  | .insert _ x _ _ => rd1 (ev t x)
  | .call { callee := .builtin b, args, argTypes } => match evL t args.toList with
    | some xs => rdB b xs
    | none => []
  | _ => []

section
variable {P : Program} {σ σ' : List Blk}
mutual
theorem toD_congr : ∀ {x : A}, (∀ b ∈ x.kills, look σ b = look σ' b) → x.toD σ = x.toD σ'
  | .sl b o n, h => by rw [A.toD, A.toD, h b (by simp [A.kills])]
  | .agg cs, h => by rw [A.toD, A.toD, toDL_congr (cs := cs) h]
  | .d _, _ => rfl
  | .nl, _ => rfl
  | .ptr _ _, _ => rfl
  | .ep _ _ _, _ => rfl
  | .ro _, _ => rfl
  | .mp _, _ => rfl
  | .fn _ _ _, _ => rfl
  | .tup _, _ => rfl
  | .er, _ => rfl
  | .any, _ => rfl
theorem toDL_congr : ∀ {cs : List A}, (∀ b ∈ A.killsL cs, look σ b = look σ' b) → A.toDL σ cs = A.toDL σ' cs
  | [], _ => rfl
  | x :: r, h => by rw [A.toDL, A.toDL, toD_congr (x := x) (fun b hb => h b (by simp [A.killsL, hb])), toDL_congr (cs := r) (fun b hb => h b (by simp [A.killsL, hb]))]
end
theorem kills_rd (x : A) : ∀ b ∈ x.kills, b ∈ rd x := by
  intro b hb
  cases x <;> simp_all [A.kills, rd]
theorem listD_congr : ∀ {ps : List (Nat × A)} {i : Nat}, (∀ b ∈ killsP ps, look σ b = look σ' b) → listD σ i ps = listD σ' i ps
  | [], _, _ => rfl
  | (j, x) :: r, i, h => by rw [listD, listD, toD_congr (x := x) (fun b hb => h b (by simp [killsP, hb])), listD_congr (ps := r) (fun b hb => h b (by simp [killsP, hb]))]
theorem oAppend_congr {ty yt : TypeId} {x y : A} (h : ∀ b ∈ rd x ++ rd y, look σ b = look σ' b) : oAppend P σ ty yt x y = oAppend P σ' ty yt x y := by
  unfold oAppend
  rw [toD_congr (x := y) (fun b hb => h b (List.mem_append.2 (.inr (kills_rd y b hb))))]
  cases x with
  | sl b o n => simp only [h b (by simp [rd])]
  | d z => cases z <;> rfl
  | _ => rfl
theorem oClear_congr {ty : TypeId} {x : A} (h : ∀ b ∈ rd x, look σ b = look σ' b) : oClear P σ ty x = oClear P σ' ty x := by
  unfold oClear
  cases x with
  | sl b o n => simp only [h b (by simp [rd])]
  | d y =>
    cases y with
    | lst xs => cases xs <;> rfl
    | _ => rfl
  | _ => rfl
theorem oNext_congr {x : A} (h : ∀ b ∈ rd x, look σ b = look σ' b) : oNext σ x = oNext σ' x := by
  unfold oNext
  cases x with
  | ptr b o => cases o <;> simp only [h b (by simp [rd])]
  | _ => rfl
theorem oLen_congr {ty : TypeId} {x : A} (h : ∀ b ∈ rdM [x], look σ b = look σ' b) : oLen P σ ty x = oLen P σ' ty x := by
  unfold oLen
  cases x with
  | mp b => simp only [h b (by simp [rdM])]
  | _ => rfl
theorem oLoad_congr {ty : TypeId} {x : A} (h : ∀ b ∈ rd x, look σ b = look σ' b) : oLoad P σ ty x = oLoad P σ' ty x := by
  unfold oLoad
  cases x with
  | ptr b o => simp only [h b (by simp [rd])]
  | ep b i o => simp only [h b (by simp [rd])]
  | _ => rfl
theorem oStore_congr {ty : TypeId} {x y : A} (h : ∀ b ∈ rd x ++ rdV (some x) (some y), look σ b = look σ' b) : oStore P σ ty x y = oStore P σ' ty x y := by
  unfold oStore
  cases x with
  | ptr b o => cases szT P ty with
    | none => rfl
    | some n => simp only [h b (by simp [rd])]
  | ep b i o =>
    rw [toD_congr (x := y) (fun b hb => h b (List.mem_append.2 (.inr (kills_rd y b hb))))]
    cases szT P ty with
    | none => rfl
    | some n => simp only [h b (by simp [rd])]
  | _ => rfl
theorem oSlice_congr {t : Nat → Option A} {ty : TypeId} {lo hi mx : Option Operand} {x : A} (h : ∀ b ∈ rd x, look σ b = look σ' b) : oSlice P t σ ty lo hi mx x = oSlice P t σ' ty lo hi mx x := by
  unfold oSlice
  cases x with
  | sl b o n => simp only [h b (by simp [rd])]
  | d y =>
    cases y with
    | v z => cases z <;> rfl
    | _ => rfl
  | _ => rfl
theorem oIndexAddr_congr {ty : TypeId} {x y : A} (h : ∀ b ∈ rd x, look σ b = look σ' b) : oIndexAddr P σ ty x y = oIndexAddr P σ' ty x y := by
  unfold oIndexAddr
  cases x with
  | sl b o n => simp only [h b (by simp [rd])]
  | d y => cases y <;> rfl
  | _ => rfl
theorem oLookup_congr {ty : TypeId} {ok : Bool} {x k : A} (h : ∀ b ∈ rd x, look σ b = look σ' b) : oLookup P σ ty ok x k = oLookup P σ' ty ok x k := by
  unfold oLookup
  cases x with
  | mp b => simp only [h b (by simp [rd])]
  | d y =>
    cases y with
    | v z =>
      cases z with
      | map o => cases o <;> rfl
      | _ => rfl
    | _ => rfl
  | _ => rfl
theorem oMapUpdate_congr {ty : TypeId} {x k v : A} (h : ∀ b ∈ rd x, look σ b = look σ' b) : oMapUpdate P σ ty x k v = oMapUpdate P σ' ty x k v := by
  unfold oMapUpdate
  cases x with
  | mp b => simp only [h b (by simp [rd])]
  | _ => rfl
theorem opEval_congr {t : Nat → Option A} {o : Op} (h : ∀ b ∈ opReads t o, look σ b = look σ' b) : opEval P t σ o = opEval P t σ' o := by
  cases o with
  | load ty x =>
    simp only [opEval, opReads] at h ⊢
    cases hx : ev t x with
    | none => rfl
    | some v => rw [hx] at h; simp only [on1]; exact oLoad_congr h
  | store ty x y =>
    simp only [opEval, opReads] at h ⊢
    cases hx : ev t x with
    | none => rfl
    | some v =>
      cases hy : ev t y with
      | none => rfl
      | some z => rw [hx, hy] at h; simp only [on2]; exact oStore_congr h
  | buildSlice ty len parts =>
    simp only [opEval, opReads] at h ⊢
    cases hx : evP t parts.toList with
    | none => rfl
    | some ps =>
      rw [hx] at h
      simp only [oBuildSlice]
      rw [listD_congr (ps := ps) h]
  | next x b =>
    cases b with
    | false => rfl
    | true =>
      simp only [opEval, opReads] at h ⊢
      cases hx : ev t x with
      | none => rfl
      | some v => rw [hx] at h; simp only [on1]; exact oNext_congr h
  | slice ty x lo hi mx =>
    simp only [opEval, opReads] at h ⊢
    cases hx : ev t x with
    | none => rfl
    | some v => rw [hx] at h; simp only [on1]; exact oSlice_congr h
  | indexAddr ty x i =>
    simp only [opEval, opReads] at h ⊢
    cases hx : ev t x with
    | none => rfl
    | some v =>
      cases hy : ev t i with
      | none => rfl
      | some z => rw [hx] at h; simp only [on2]; exact oIndexAddr_congr h
  | call c =>
    obtain ⟨callee, args, argTypes⟩ := c
    cases callee with
    | builtin b =>
      simp only [opEval, opReads] at h ⊢
      cases hx : evL t args.toList with
      | none => rfl
      | some xs =>
        rw [hx] at h
        dsimp only at h ⊢
        cases b <;> try rfl
        · simp only [oBuiltin]
          split
          · exact oAppend_congr (by simpa [rdB, rdL] using h)
          · rfl
        · simp only [oBuiltin]
          split
          · exact oClear_congr (by simpa [rdB, rdL] using h)
          · rfl
        · simp only [oBuiltin]
          split
          · exact oLen_congr (by simpa [rdB] using h)
          · rfl
    | _ => rfl
  | lookup ty x i ok =>
    simp only [opEval, opReads] at h ⊢
    cases hx : ev t x with
    | none => rfl
    | some v =>
      cases hy : ev t i with
      | none => rfl
      | some z => rw [hx] at h; simp only [on2]; exact oLookup_congr h
  | mapUpdate ty x i y =>
    simp only [opEval, opReads] at h ⊢
    cases hx : ev t x with
    | none => rfl
    | some v =>
      cases hy : ev t i with
      | none => rfl
      | some z =>
        cases hz : ev t y with
        | none => rfl
        | some u => rw [hx] at h; simp only [on3]; exact oMapUpdate_congr h
  | insert ty x i y =>
    simp only [opEval, opReads] at h ⊢
    cases hx : ev t x with
    | none => rfl
    | some v =>
      cases hy : ev t i with
      | none => rfl
      | some z =>
        cases hz : ev t y with
        | none => rfl
        | some u => rw [hx] at h; simp only [on3]; exact oMapUpdate_congr h
  | makeMap t r => cases r <;> rfl
  | _ => rfl
end

/-- Blocks that have no place yet. -/
theorem look_slots (σ : List Blk) (n b : Nat) : look (σ ++ List.replicate n .dead) b = look σ b := by
  unfold look
  rw [List.getElem?_append]
  by_cases h : b < σ.length
  · rw [if_pos h]
  · rw [if_neg h, List.getElem?_replicate, List.getElem?_eq_none (by omega)]
    by_cases h2 : b - σ.length < n
    · rw [if_pos h2]
    · rw [if_neg h2]
theorem HRel.slots {C : Ctx} {w : World} {I : Nat → Prop} (K : Nat) : ∀ (n : Nat) {β : List (Option Loc)} {σ : List Blk}, HRel C w I β σ → HRel C w I (β ++ List.replicate n none) (σ ++ List.replicate n .dead) ∧ Ext K w I (Own β σ) β w I (Own (β ++ List.replicate n none) (σ ++ List.replicate n .dead)) (β ++ List.replicate n none)
  | 0, β, σ, h => by simpa using ⟨h, Ext.refl K w I (Own β σ) β⟩
  | n + 1, β, σ, h => by
    obtain ⟨h1, e1⟩ := h.slot K
    obtain ⟨h2, e2⟩ := HRel.slots K n h1
    rw [List.append_assoc, List.append_assoc] at h2 e2
    exact ⟨h2, e1.trans e2⟩
theorem updσ_slots : ∀ (u : List (Nat × Blk)) (σ ds : List Blk), ∃ ds', updσ (σ ++ ds) u = updσ σ u ++ ds' ∧ ds'.length = ds.length
  | [], σ, ds => ⟨ds, rfl, rfl⟩
  | (b, k) :: r, σ, ds => by
    rw [updσ, updσ, List.set_append]
    split
    · exact updσ_slots r _ ds
    · rename_i h
      obtain ⟨ds', h1, h2⟩ := updσ_slots r σ (ds.set (b - σ.length) k)
      refine ⟨ds', ?_, by simpa using h2⟩
      rw [h1, List.set_eq_of_length_le (by omega)]
theorem setAll_slots : ∀ (ks a ds : List Blk), ds.length = ks.length → setAll (a ++ ds) a.length ks = a ++ ks
  | [], a, ds, h => by
    have : ds = [] := List.eq_nil_of_length_eq_zero h
    subst this; rfl
  | k :: ks, a, [], h => by simp at h
  | k :: ks, a, d :: ds, h => by
    rw [setAll, List.set_append, if_neg (Nat.lt_irrefl _), Nat.sub_self, List.set_cons_zero]
    have := setAll_slots ks (a ++ [k]) ds (by simpa using h)
    rw [List.length_append] at this
    simp only [List.append_assoc, List.singleton_append] at this
    exact this

def putT (n : Nat) (t : List (Nat × A)) (dst : Option Nat) (v : A) : List (Nat × A) := match dst with
  | some d => if d < n then (d, v) :: t else t
  | none => t
def St.put (s : St) (dst : Option Nat) (v : A) : St := ⟨putT s.n s.t dst v, s.σ, s.n⟩
/-- The state behind an operation. -/
def St.app (s : St) (dst : Option Nat) (o : Out) : St := ⟨putT s.n s.t dst (o.v s.σ.length), updσ s.σ o.upd ++ o.new s.σ.length, s.n⟩

theorem TRel.put {w : World} {I : Nat → Prop} {β : List (Option Loc)} {t : List (Nat × A)} {a : Act} {n : Nat} (h : TRel w I β t a.tmps) (hn : a.tmps.size = n) {dst : Option Nat} {v : A} {u : Value} (hv : ARep w I β v u) : TRel w I β (putT n t dst v) (a.put dst u).tmps := by
  intro k x hk
  cases dst with
  | none => exact h k x hk
  | some d =>
    simp only [putT] at hk
    show ∃ u', (a.tmps.setIfInBounds d u)[k]? = some u' ∧ _
    split at hk
    · rename_i hd
      rw [getT] at hk
      split at hk
      · rename_i e
        subst e
        cases hk
        exact ⟨u, by simp [Array.getElem?_setIfInBounds, hn, hd], hv⟩
      · rename_i e
        obtain ⟨u', h1, h2⟩ := h k x hk
        exact ⟨u', by rw [Array.getElem?_setIfInBounds, if_neg e]; exact h1, h2⟩
    · rename_i hd
      obtain ⟨u', h1, h2⟩ := h k x hk
      refine ⟨u', ?_, h2⟩
      have : k < a.tmps.size := (Array.getElem?_eq_some_iff.1 h1).1
      rw [Array.getElem?_setIfInBounds, if_neg (by omega)]
      exact h1
theorem Act.put_size (a : Act) (dst : Option Nat) (u : Value) : (a.put dst u).tmps.size = a.tmps.size := by cases dst <;> simp [Act.put]
theorem Act.put_defers (a : Act) (dst : Option Nat) (u : Value) : (a.put dst u).defers = a.defers := by cases dst <;> rfl

theorem Rel.step {C : Ctx} {s : St} {a : Act} {w : World} {I : Nat → Prop} {β : List (Option Loc)} {o : Oper} {out : Out} (r : Rel C s a w I β) (ho : opEval C.P (getT s.t) s.σ o.op = some out) (hp : out.p) :
    ∃ u w' I' β', ((execOp a.eval o).run C.P w = .ok (.value u) w' ∨ ((execOp a.eval o).run C.P w = .ok .skip w' ∧ u = undef)) ∧ Rel C (s.app o.dst out) (a.put o.dst u) w' I' β' ∧ Ext s.σ.length w I (Own β s.σ) β w' I' (Own β' (s.app o.dst out).σ) β' := by
  obtain ⟨h1, e1⟩ := r.heap.slots s.σ.length (out.new s.σ.length).length
  have ho' : opEval C.P (getT s.t) (s.σ ++ List.replicate (out.new s.σ.length).length .dead) o.op = some out := by
    rw [← ho]; exact opEval_congr fun b _ => look_slots _ _ _
  have ht : ∀ (k : Nat) (x : A), getT s.t k = some x → ∃ u, a.tmps[k]? = some u ∧ ARep w I (β ++ List.replicate (out.new s.σ.length).length none) x u :=
    r.tmps.ext r.heap e1 (Nat.le_refl _)
  have hlen := r.heap.len
  obtain ⟨u, w', I', β', g1, g2, g3, g4, _⟩ := opEval_sound (a := a) (nb := s.σ.length) ht h1 ho' hp (fun hne => by
    have : 0 < (out.new s.σ.length).length := List.length_pos_iff.2 hne
    rw [List.getElem?_append_right (Nat.le_refl _), List.getElem?_append_right (by omega), hlen, Nat.sub_self, List.getElem?_replicate, List.getElem?_replicate, if_pos this, if_pos this]
    exact ⟨rfl, rfl⟩)
  have hσ : putσ (s.σ ++ List.replicate (out.new s.σ.length).length .dead) out s.σ.length = (s.app o.dst out).σ := by
    obtain ⟨ds', d1, d2⟩ := updσ_slots out.upd s.σ (List.replicate (out.new s.σ.length).length .dead)
    have := setAll_slots (out.new s.σ.length) (updσ s.σ out.upd) ds' (by simpa using d2)
    rw [length_updσ] at this
    show setAll (updσ (s.σ ++ _) out.upd) s.σ.length _ = _
    rw [d1, this]; rfl
  rw [hσ] at g3 g4
  have e2 : Ext s.σ.length w I _ _ w' I' _ β' := g4.le (by simp)
  have e3 := e1.trans e2
  refine ⟨u, w', I', β', g1, ⟨(Act.put_size a _ _).trans r.size, (Act.put_defers a _ _).trans r.defers, ?_, g3⟩, e3⟩
  exact TRel.put (r.tmps.ext r.heap e3 (Nat.le_refl _)) r.size g2
end Go.AM
end
section
namespace Go.AM
open Go.RowKit
set_option linter.unusedVariables false
set_option linter.unusedSimpArgs false

/-- Whether an operation is wanted. -/
inductive Gd where
  | yes | no | ask (b : Bool) | stuck
def guardOf (ops : Array Oper) (t : Nat → Option A) (g : Option (Nat × Bool)) : Gd := match g with
  | none => .yes
  | some (j, want) => match (ops[j]?).bind (·.dst) with
    | some d => match t d with
      | some (.d (.v (.bool b))) => .ask (b == want)
      | some (.tup []) => .no
      | _ => .stuck
    | none => .stuck
/-- What the operations that are left come to. -/
def AOps (C : Ctx) (K : Nat) (ops : Array Oper) (Q : Exit → St → Prop) (rest : List Oper) (s : St) : Prop :=
  ∀ l : List Nat, l.map (fun i => ops[i]?) = rest.map some → ∀ (w0 : World) (I0 O0 : Nat → Prop) (β0 : List (Option Loc)) (a : Act) (w : World) (I : Nat → Prop) (β : List (Option Loc)), Rel C s a w I β → Ext K w0 I0 O0 β0 w I (Own β s.σ) β →
    wpOps C.P ops (fun e a' w' => ∃ s' I' β', Q e s' ∧ Rel C s' a' w' I' β' ∧ Ext K w0 I0 O0 β0 w' I' (Own β' s'.σ) β') l a w
/-- A function that the model enters. -/
def callable (P : Program) (f : FuncId) : Bool := match P.funcs[f]? with
  | some fn => fn.body.isSome && fn.name != "runtime.NumGoroutine"
  | none => false
/-- A function's contract: from blocks σ, arguments args, to a result and blocks σ', of which the first K stand where they stood. -/
def Fn (C : Ctx) (K : Nat) (f : FuncId) (args : List A) (σ : List Blk) (r : A) (σ' : List Blk) : Prop :=
  callable C.P f = true ∧ ∀ (w : World) (I : Nat → Prop) (β : List (Option Loc)) (vs : Array Value), HRel C w I β σ → args.length = vs.size → (∀ (i : Nat) (x : A) (v : Value), args[i]? = some x → vs[i]? = some v → ARep w I β x v) →
    Calls C.P f vs w fun e w' => ∃ v I' β', e = .returned v ∧ ARep w' I' β' r v ∧ HRel C w' I' β' σ' ∧ Ext K w I (Own β σ) β w' I' (Own β' σ') β'

section
variable {C : Ctx} {K : Nat} {Q : Exit → St → Prop} {ops : Array Oper} {s : St} {o : Oper} {rest : List Oper}
theorem AOps.nil (h : Q .normal s) : AOps C K ops Q [] s := by
  intro l hl w0 I0 O0 β0 a w I β r e0
  have : l = [] := by cases l <;> simp_all
  subst this
  exact ⟨s, I, β, h, r, e0⟩
theorem AOps.reg {id : Nat} (h : AOps C K ops Q ops.toList s) : AW C K (.region id ops false) Q s := by
  intro a w I β r
  refine wp_region (h _ ?_ w I (Own β s.σ) β a w I β r (.refl ..))
  apply List.ext_getElem?
  intro i
  rw [List.getElem?_map, List.getElem?_map]
  by_cases hi : i < ops.size
  · rw [List.getElem?_range hi, Array.getElem?_toList]
    simp [hi]
  · rw [List.getElem?_eq_none (by simpa using hi), List.getElem?_eq_none (by simpa using hi)]
    rfl
theorem wanted_yes {a : Act} {w : World} {I : Nat → Prop} {β : List (Option Loc)} (ht : TRel w I β s.t a.tmps) (hg : guardOf ops (getT s.t) o.guard = .yes ∨ guardOf ops (getT s.t) o.guard = .ask true) : Region.wanted o (yielded ops a.tmps) = true := by
  unfold guardOf at hg
  unfold Region.wanted
  cases hq : o.guard with
  | none => rfl
  | some jw =>
    obtain ⟨j, want⟩ := jw
    rw [hq] at hg
    dsimp only at hg ⊢
    unfold yielded
    cases hd : (ops[j]?).bind (·.dst) with
    | none => rw [hd] at hg; rcases hg with hg | hg <;> cases hg
    | some d =>
      rw [hd] at hg
      dsimp only at hg
      cases hx : getT s.t d with
      | none => rw [hx] at hg; rcases hg with hg | hg <;> cases hg
      | some x =>
        rw [hx] at hg
        obtain ⟨u, h1, h2⟩ := ht d x hx
        split at hg
        · rename_i b he
          cases he
          obtain rfl := rep_bool h2
          rcases hg with hg | hg
          · cases hg
          · simp only [Gd.ask.injEq] at hg
            simp only [Option.bind_some, h1]
            simpa using hg
        · rcases hg with hg | hg <;> cases hg
        · rcases hg with hg | hg <;> cases hg
theorem wanted_no {a : Act} {w : World} {I : Nat → Prop} {β : List (Option Loc)} (ht : TRel w I β s.t a.tmps) (hg : guardOf ops (getT s.t) o.guard = .no ∨ guardOf ops (getT s.t) o.guard = .ask false) : Region.wanted o (yielded ops a.tmps) = false := by
  unfold guardOf at hg
  unfold Region.wanted
  cases hq : o.guard with
  | none => rw [hq] at hg; rcases hg with hg | hg <;> cases hg
  | some jw =>
    obtain ⟨j, want⟩ := jw
    rw [hq] at hg
    dsimp only at hg ⊢
    unfold yielded
    cases hd : (ops[j]?).bind (·.dst) with
    | none => rw [hd] at hg; rcases hg with hg | hg <;> cases hg
    | some d =>
      rw [hd] at hg
      dsimp only at hg
      cases hx : getT s.t d with
      | none => rw [hx] at hg; rcases hg with hg | hg <;> cases hg
      | some x =>
        rw [hx] at hg
        obtain ⟨u, h1, h2⟩ := ht d x hx
        split at hg
        · rename_i b he
          cases he
          obtain rfl := rep_bool h2
          rcases hg with hg | hg
          · cases hg
          · simp only [Gd.ask.injEq] at hg
            simp only [Option.bind_some, h1]
            simpa using hg
        · rename_i he
          cases he
          cases h2 with
          | tup hl _ =>
            rename_i us
            simp only [Option.bind_some, h1]
            rfl
        · rcases hg with hg | hg <;> cases hg
theorem AOps.skip (hg : guardOf ops (getT s.t) o.guard = .no ∨ guardOf ops (getT s.t) o.guard = .ask false) (h : AOps C K ops Q rest (s.put o.dst (.tup []))) : AOps C K ops Q (o :: rest) s := by
  intro l hl w0 I0 O0 β0 a w I β r e0
  cases l with
  | nil => simp at hl
  | cons i l =>
    simp only [List.map_cons, List.cons.injEq] at hl
    rw [wpOps, hl.1]
    dsimp only
    rw [if_neg (by rw [wanted_no r.tmps hg]; simp)]
    have r' : Rel C (s.put o.dst (.tup [])) (a.put o.dst undef) w I β := ⟨(Act.put_size a _ _).trans r.size, (Act.put_defers a _ _).trans r.defers, TRel.put r.tmps r.size undef_rep, r.heap⟩
    exact h l hl.2 w0 I0 O0 β0 _ w I β r' e0
theorem AOps.op {out : Out} (hg : guardOf ops (getT s.t) o.guard = .yes ∨ guardOf ops (getT s.t) o.guard = .ask true) (ho : opEval C.P (getT s.t) s.σ o.op = some out) (hp : out.p) (h : AOps C K ops Q rest (s.app o.dst out)) : AOps C K ops Q (o :: rest) s := by
  intro l hl w0 I0 O0 β0 a w I β r e0
  cases l with
  | nil => simp at hl
  | cons i l =>
    simp only [List.map_cons, List.cons.injEq] at hl
    rw [wpOps, hl.1]
    dsimp only
    rw [if_pos (wanted_yes r.tmps hg)]
    left
    obtain ⟨u, w', I', β', g1, g2, g3⟩ := r.step (o := o) ho hp
    have hlen := r.heap.len
    have hK' : Ext K w I (Own β s.σ) β w' I' (Own β' (s.app o.dst out).σ) β' := { g3 with loc := fun b l _ hb => g3.loc b l (by have := (List.getElem?_eq_some_iff.1 hb).1; omega) hb }
    have key := h l hl.2 w0 I0 O0 β0 _ w' I' β' g2 (e0.trans hK')
    unfold Oper.wp
    rcases g1 with g1 | ⟨g1, rfl⟩ <;> rw [g1] <;> exact key
end
end Go.AM
end
section
namespace Go.AM
open Go.RowKit
set_option linter.unusedVariables false
set_option linter.unusedSimpArgs false

/-- What is called, with which arguments. -/
def callOf (t : Nat → Option A) (o : Op) : Option (FuncId × List A) := match o with
  | .call { callee := .value x, args, .. } => match ev t x, evL t args.toList with
    | some (.fn (.func f) first cap), some as_ => some (f, first ++ as_ ++ cap)
    | _, _ => none
  | _ => none
def isCall : Op → Bool
  | .call { callee := .value _, .. } => true
  | _ => false
/-- An argument as_ plain data, where it owns nothing. -/
def argA (σ : List Blk) (x : A) : A := match x with
  | .d _ => x
  | .fn _ _ _ => x
  | .ptr _ _ => x
  | .mp _ => x
  | x => match x.kills, x.toD σ with
    | [], some z => .d z
    | _, _ => x
def pureA : A → Bool
  | .d _ => true
  | .fn _ [] [] => true
  | _ => false
section
variable {C : Ctx} {K : Nat} {Q : Exit → St → Prop} {ops : Array Oper} {s : St} {o : Oper} {rest : List Oper}
variable {w : World} {I : Nat → Prop} {β : List (Option Loc)} {σ : List Blk}

theorem argA_rep (h : HRel C w I β σ) {x : A} {v : Value} (hx : ARep w I β x v) : ARep w I β (argA σ x) v := by
  have key : ARep w I β (match x.kills, x.toD σ with
    | [], some z => .d z
    | _, _ => x) v := by
    split
    · rename_i z hk hz
      have := toD_rep h hx hz
      rw [hk, FI_nil] at this
      exact .d this
    · exact hx
  cases x <;> first | exact hx | exact key

/-- What enters a function. -/
theorem call_run {a : Act} {f : FuncId} {as_ : List A} (ht : ∀ (k : Nat) (x : A), getT s.t k = some x → ∃ u, a.tmps[k]? = some u ∧ ARep w I β x u) (hc : callOf (getT s.t) o.op = some (f, as_)) (hf : callable C.P f = true) :
    ∃ vs : Array Value, (execOp a.eval o).run C.P w = .ok (.enter f vs) w ∧ as_.length = vs.size ∧ ∀ (i : Nat) (x : A) (v : Value), as_[i]? = some x → vs[i]? = some v → ARep w I β x v := by
  unfold callOf at hc
  split at hc
  · rename_i x args tys hop
    split at hc
    · rename_i g first cap xs h1 h2
      cases hc
      have hx := ev_rep ht h1
      obtain ⟨e1, e2⟩ := evL_map ht h2
      generalize hv : a.eval x = v at hx
      cases hx with
      | fn l1 l2 r1 r2 =>
        rename_i us vs
        refine ⟨us ++ args.map a.eval ++ vs, ?_, ?_, ?_⟩
        · unfold execOp
          rw [hop]
          dsimp only
          unfold callable at hf
          split at hf
          · rename_i fn hfn
            rw [Bool.and_eq_true] at hf
            have hb : fn.body.isNone = false := by
              cases hb : fn.body with
              | none => rw [hb] at hf; simp at hf
              | some _ => rfl
            have hn : (fn.name == "runtime.NumGoroutine") = false := by
              have := hf.2
              simp only [bne, Bool.not_eq_true'] at this
              exact this
            simp only [resolve, hv, Deferred.ofValue, Sem.run_bind, Sem.run_pure, Result.andThen_ok, invoke, callFunc, run_program, hfn, hn, hb, Bool.false_eq_true, if_false]
          · cases hf
        · simp [l1, l2, e1]
        · intro i x v hx hv
          rw [List.append_assoc] at hx
          rw [Array.append_assoc] at hv
          rw [List.getElem?_append] at hx
          rw [Array.getElem?_append] at hv
          rw [← l1] at hv
          split at hx
          · rename_i hlt
            rw [if_pos hlt] at hv
            exact r1 i x v hx hv
          · rename_i hlt
            rw [if_neg hlt] at hv
            rw [List.getElem?_append] at hx
            rw [Array.getElem?_append] at hv
            rw [← e1] at hv
            split at hx
            · rename_i hlt2
              rw [if_pos hlt2] at hv
              exact e2 _ x v hx hv
            · rename_i hlt2
              rw [if_neg hlt2] at hv
              exact r2 _ x v hx hv
    · cases hc
  · cases hc

/-- A call of a function that neither gets nor gives blocks. -/
theorem AOps.call {f : FuncId} {as_ : List A} {r : A} (hg : guardOf ops (getT s.t) o.guard = .yes ∨ guardOf ops (getT s.t) o.guard = .ask true) (hc : callOf (getT s.t) o.op = some (f, as_)) (hf : Fn C 0 f (as_.map (argA s.σ)) [] r [])
    (hp : ∀ x ∈ as_.map (argA s.σ), pureA x = true) (hr : r.bnd 0 = true) (h : AOps C K ops Q rest (s.put o.dst r)) : AOps C K ops Q (o :: rest) s := by
  intro l hl w0 I0 O0 β0 a w I β rl e0
  cases l with
  | nil => simp at hl
  | cons i l =>
    simp only [List.map_cons, List.cons.injEq] at hl
    rw [wpOps, hl.1]
    dsimp only
    rw [if_pos (wanted_yes rl.tmps hg)]
    left
    obtain ⟨vs, g1, g2, g3⟩ := call_run (w := w) rl.tmps hc hf.1
    unfold Oper.wp
    rw [g1]
    show Calls C.P f vs w _
    have hargs : ∀ (i : Nat) (x : A) (v : Value), (as_.map (argA s.σ))[i]? = some x → vs[i]? = some v → ARep w I [] x v := by
      intro i x v hx hv
      have hpx := hp x (List.mem_of_getElem? hx)
      rw [List.getElem?_map, Option.map_eq_some_iff] at hx
      obtain ⟨y, hy, rfl⟩ := hx
      have := argA_rep rl.heap (g3 i y v hy hv)
      generalize argA s.σ y = z at this hpx
      cases z with
      | d q => cases this with | d hq => exact .d hq
      | fn fn x y =>
        unfold pureA at hpx
        split at hpx
        · rename_i he; cases he
        · rename_i he
          cases he
          cases this with
          | fn a1 a2 a3 a4 => exact .fn a1 a2 (fun i a u h => by simp at h) (fun i a u h => by simp at h)
        · cases hpx
      | _ => simp [pureA] at hpx
    refine (hf.2 w I [] vs rl.heap.empty (by simpa using g2) hargs).mono ?_
    rintro e w' ⟨v, I', β', rfl, h1, h2, h3⟩
    show wpOps _ _ _ _ _ _
    obtain ⟨g4, g5⟩ := rl.heap.grow (w' := w') (I' := I') s.σ.length h3.os h3.tape h3.output h3.size (fun q hq => h3.keep q hq (by rintro ⟨b, l, k, hb, _⟩; simp at hb)) h3.imm (fun q hq => by
      rcases h3.new q hq with h4 | ⟨b, l, k, hb, _⟩ | h4
      · exact .inl h4
      · simp at hb
      · exact .inr ⟨h4, h2.imm q hq⟩)
    have hv : ARep w' I' β r v := by
      have := ARep.ren (ρ := []) (β' := β) (fun b l hb hlt => by simp at hlt) h1 hr
      have e : r.ren [] = r := ren_of_bnd0 hr
      rwa [e] at this
    have r' : Rel C (s.put o.dst r) (a.put o.dst v) w' I' β := ⟨(Act.put_size a _ _).trans rl.size, (Act.put_defers a _ _).trans rl.defers, TRel.put (rl.tmps.ext rl.heap g5 (Nat.le_refl _)) rl.size hv, g4⟩
    refine h l hl.2 w0 I0 O0 β0 _ w' I' β r' (e0.trans ?_)
    exact { g5 with loc := fun _ _ _ h => h }
end
end Go.AM
end
section
namespace Go.AM
open Go.RowKit
set_option linter.unusedVariables false
set_option linter.unusedSimpArgs false

/-! What an operation looks at. -/
def tmpOf : Operand → List Nat
  | .tmp k => [k]
  | _ => []
def tmpsOf (os : List Operand) : List Nat := os.flatMap tmpOf
theorem ev_congr {t t' : Nat → Option A} {x : Operand} (h : ∀ k ∈ tmpOf x, t k = t' k) : ev t x = ev t' x := by
  cases x with
  | tmp k => exact h k (by simp [tmpOf])
  | _ => rfl
theorem evL_congr {t t' : Nat → Option A} : ∀ {os : List Operand}, (∀ k ∈ tmpsOf os, t k = t' k) → evL t os = evL t' os
  | [], _ => rfl
  | x :: r, h => by
    rw [evL, evL, ev_congr (t := t) (t' := t') (fun k hk => h k (by simp [tmpsOf]; exact .inl hk)), evL_congr (os := r) (fun k hk => h k (by simp only [tmpsOf, List.flatMap_cons, List.mem_append]; exact .inr hk))]
theorem evP_congr {t t' : Nat → Option A} : ∀ {os : List (Nat × Operand)}, (∀ k ∈ tmpsOf (os.map (·.2)), t k = t' k) → evP t os = evP t' os
  | [], _ => rfl
  | (i, x) :: r, h => by
    rw [evP, evP, ev_congr (t := t) (t' := t') (fun k hk => h k (by simp [tmpsOf]; exact .inl hk)), evP_congr (os := r) (fun k hk => h k (by simp only [tmpsOf, List.map_cons, List.flatMap_cons, List.mem_append]; exact .inr hk))]
theorem bnd_congr {t t' : Nat → Option A} {d : Nat} {o : Option Operand} (h : ∀ x, o = some x → ∀ k ∈ tmpOf x, t k = t' k) : bnd t d o = bnd t' d o := by
  cases o with
  | none => rfl
  | some x => rw [bnd, bnd, ev_congr (h x rfl)]
/-- The temporaries that an operation reads. -/
def opTmps (o : Op) : List Nat := match o with
  | .move x | .assign x | .box _ x | .load _ x | .nilCheck x | .unOp _ _ x | .convert _ _ x | .fieldAddr _ x _ | .field _ x _ | .extract x _ | .range _ x | .next x _ => tmpOf x
  | .pick c a b => tmpOf c ++ tmpOf a ++ tmpOf b
  | .build _ ps => tmpsOf (ps.toList.map (·.2))
  | .buildSlice _ _ ps => tmpsOf (ps.toList.map (·.2))
  | .store _ a v => tmpOf a ++ tmpOf v
  | .binOp _ _ a v _ => tmpOf a ++ tmpOf v
  | .makeSlice _ a v => tmpOf a ++ tmpOf v
  | .indexAddr _ a v => tmpOf a ++ tmpOf v
  | .index _ a v => tmpOf a ++ tmpOf v
  | .lookup _ a v _ => tmpOf a ++ tmpOf v
  | .mapUpdate _ a k v => tmpOf a ++ (tmpOf k ++ tmpOf v)
  | .insert _ a k v => tmpOf a ++ (tmpOf k ++ tmpOf v)
  | .makeFunc _ a b => tmpsOf a.toList ++ tmpsOf b.toList
  | .slice _ x l h m => tmpOf x ++ tmpsOf l.toList ++ tmpsOf h.toList ++ tmpsOf m.toList
  | .call { callee := .builtin _, args, .. } => tmpsOf args.toList
  | .call { callee := .value f, args, .. } => tmpOf f ++ tmpsOf args.toList
  | _ => []
theorem opEval_tmps {P : Program} {t t' : Nat → Option A} {σ : List Blk} {o : Op} (h : ∀ k ∈ opTmps o, t k = t' k) : opEval P t σ o = opEval P t' σ o ∧ opReads t o = opReads t' o := by
  have e1 : ∀ x : Operand, (∀ k ∈ tmpOf x, k ∈ opTmps o) → ev t x = ev t' x := fun x hx => ev_congr fun k hk => h k (hx k hk)
  cases o with
  | move x => simp only [opEval, opReads, e1 x (fun _ h => h)]; exact ⟨trivial, trivial⟩
  | assign x => simp only [opEval, opReads, e1 x (fun _ h => h)]; exact ⟨trivial, trivial⟩
  | box ty x => simp only [opEval, opReads, e1 x (fun _ h => h)]; exact ⟨trivial, trivial⟩
  | load ty x => simp only [opEval, opReads, e1 x (fun _ h => h)]; exact ⟨trivial, trivial⟩
  | nilCheck x => simp only [opEval, opReads, e1 x (fun _ h => h)]; exact ⟨trivial, trivial⟩
  | unOp _ _ x => simp only [opEval, opReads, e1 x (fun _ h => h)]; exact ⟨trivial, trivial⟩
  | convert _ _ x => simp only [opEval, opReads, e1 x (fun _ h => h)]; exact ⟨trivial, trivial⟩
  | fieldAddr _ x _ => simp only [opEval, opReads, e1 x (fun _ h => h)]; exact ⟨trivial, trivial⟩
  | field _ x _ => simp only [opEval, opReads, e1 x (fun _ h => h)]; exact ⟨trivial, trivial⟩
  | extract x _ => simp only [opEval, opReads, e1 x (fun _ h => h)]; exact ⟨trivial, trivial⟩
  | range _ x => simp only [opEval, opReads, e1 x (fun _ h => h)]; exact ⟨trivial, trivial⟩
  | next x b => cases b <;> simp only [opEval, opReads, e1 x (fun _ h => h)] <;> exact ⟨trivial, trivial⟩
  | pick c a b => simp only [opEval, opReads, e1 c (fun k hk => by simp [opTmps, hk]), e1 a (fun k hk => by simp [opTmps, hk]), e1 b (fun k hk => by simp [opTmps, hk])]; exact ⟨trivial, trivial⟩
  | store ty a v => simp only [opEval, opReads, e1 a (fun k hk => by simp [opTmps, hk]), e1 v (fun k hk => by simp [opTmps, hk])]; exact ⟨trivial, trivial⟩
  | binOp _ _ a v _ => simp only [opEval, opReads, e1 a (fun k hk => by simp [opTmps, hk]), e1 v (fun k hk => by simp [opTmps, hk])]; exact ⟨trivial, trivial⟩
  | makeSlice _ a v => simp only [opEval, opReads, e1 a (fun k hk => by simp [opTmps, hk]), e1 v (fun k hk => by simp [opTmps, hk])]; exact ⟨trivial, trivial⟩
  | indexAddr _ a v => simp only [opEval, opReads, e1 a (fun k hk => by simp [opTmps, hk]), e1 v (fun k hk => by simp [opTmps, hk])]; exact ⟨trivial, trivial⟩
  | index _ a v => simp only [opEval, opReads, e1 a (fun k hk => by simp [opTmps, hk]), e1 v (fun k hk => by simp [opTmps, hk])]; exact ⟨trivial, trivial⟩
  | lookup _ a v _ => simp only [opEval, opReads, e1 a (fun k hk => by simp [opTmps, hk]), e1 v (fun k hk => by simp [opTmps, hk])]; exact ⟨trivial, trivial⟩
  | mapUpdate _ a i v => simp only [opEval, opReads, e1 a (fun k hk => by simp [opTmps, hk]), e1 i (fun k hk => by simp [opTmps, hk]), e1 v (fun k hk => by simp [opTmps, hk])]; exact ⟨trivial, trivial⟩
  | insert _ a i v => simp only [opEval, opReads, e1 a (fun k hk => by simp [opTmps, hk]), e1 i (fun k hk => by simp [opTmps, hk]), e1 v (fun k hk => by simp [opTmps, hk])]; exact ⟨trivial, trivial⟩
  | build ty ps => simp only [opEval, opReads, evP_congr (t := t) (t' := t') (os := ps.toList) h]; exact ⟨trivial, trivial⟩
  | buildSlice ty n ps => simp only [opEval, opReads, evP_congr (t := t) (t' := t') (os := ps.toList) h]; exact ⟨trivial, trivial⟩
  | makeFunc f a b => simp only [opEval, opReads, evL_congr (t := t) (t' := t') (os := a.toList) (fun k hk => h k (List.mem_append.2 (.inl hk))), evL_congr (t := t) (t' := t') (os := b.toList) (fun k hk => h k (List.mem_append.2 (.inr hk)))]; exact ⟨trivial, trivial⟩
  | slice ty x l hi m =>
    have hl : ∀ y, l = some y → ∀ k ∈ tmpOf y, t k = t' k := fun y e k hk => h k (by subst e; simp [opTmps, tmpsOf, hk])
    have hh : ∀ y, hi = some y → ∀ k ∈ tmpOf y, t k = t' k := fun y e k hk => h k (by subst e; simp [opTmps, tmpsOf, hk])
    have hm : ∀ y, m = some y → ∀ k ∈ tmpOf y, t k = t' k := fun y e k hk => h k (by subst e; simp [opTmps, tmpsOf, hk])
    have hx := e1 x (fun k hk => by simp [opTmps, hk])
    refine ⟨?_, by simp only [opReads, hx]⟩
    simp only [opEval, hx]
    congr 1
    funext v
    unfold oSlice
    simp only [bnd_congr hl, bnd_congr hh, bnd_congr hm]
  | call c =>
    obtain ⟨callee, args, tys⟩ := c
    cases callee with
    | builtin b => simp only [opEval, opReads, evL_congr (t := t) (t' := t') (os := args.toList) h]; exact ⟨trivial, trivial⟩
    | value f => exact ⟨rfl, rfl⟩
    | invoke _ _ => exact ⟨rfl, rfl⟩
  | makeMap ty r => cases r <;> exact ⟨rfl, rfl⟩
  | _ => exact ⟨rfl, rfl⟩
theorem callOf_congr {t t' : Nat → Option A} {o : Op} (h : ∀ k ∈ opTmps o, t k = t' k) : callOf t o = callOf t' o := by
  cases o with
  | call c =>
    obtain ⟨callee, args, tys⟩ := c
    cases callee with
    | value f => simp only [callOf, ev_congr (t := t) (t' := t') (x := f) (fun k hk => h k (List.mem_append.2 (.inl hk))), evL_congr (t := t) (t' := t') (os := args.toList) (fun k hk => h k (List.mem_append.2 (.inr hk)))]
    | _ => rfl
  | _ => rfl
/-- The temporary that a guard reads. -/
def gdTmps (ops : Array Oper) (g : Option (Nat × Bool)) : List Nat := match g with
  | some (j, _) => match (ops[j]?).bind (·.dst) with
    | some d => [d]
    | none => []
  | none => []
theorem guard_congr {ops : Array Oper} {t t' : Nat → Option A} {g : Option (Nat × Bool)} (h : ∀ k ∈ gdTmps ops g, t k = t' k) : guardOf ops t g = guardOf ops t' g := by
  unfold guardOf
  unfold gdTmps at h
  cases g with
  | none => rfl
  | some jw =>
    obtain ⟨j, w⟩ := jw
    dsimp only at h ⊢
    cases hd : (ops[j]?).bind (·.dst) with
    | none => rfl
    | some d => rw [hd] at h; simp only [h d (by simp)]

/-! What came of each operation. -/
structure Ent where
  dst : Option Nat
  v : A
  rt : List Nat
  rb : List Nat
  ws : List (Nat × Blk)
  nw : Nat
def zipN (nb : Nat) : List Blk → List (Nat × Blk)
  | [] => []
  | k :: ks => (nb, k) :: zipN (nb + 1) ks
theorem setAll_zip : ∀ (ks : List Blk) (nb : Nat) (σ : List Blk), setAll σ nb ks = updσ σ (zipN nb ks)
  | [], _, _ => rfl
  | k :: ks, nb, σ => by rw [setAll, zipN, updσ, setAll_zip]
theorem putσ_ws (σ : List Blk) (o : Out) (nb : Nat) : putσ σ o nb = updσ σ (o.upd ++ zipN nb (o.new nb)) := by rw [putσ, setAll_zip, updσ_append]
theorem updσ_get {b : Nat} : ∀ {u : List (Nat × Blk)} {σ : List Blk}, (∀ e ∈ u, e.1 ≠ b) → (updσ σ u)[b]? = σ[b]?
  | [], _, _ => rfl
  | (c, k) :: r, σ, h => by
    rw [updσ, updσ_get (fun e he => h e (List.mem_cons_of_mem _ he)), List.getElem?_set, if_neg (h (c, k) List.mem_cons_self)]
/-- The place at b behind a row of writes depends on those that hit b. -/
theorem updσ_at {b : Nat} : ∀ {u : List (Nat × Blk)} {σ σ' : List Blk}, σ[b]? = σ'[b]? → σ.length = σ'.length → (updσ σ u)[b]? = (updσ σ' u)[b]?
  | [], _, _, h, _ => h
  | (c, k) :: r, σ, σ', h, hl => by
    rw [updσ, updσ]
    refine updσ_at ?_ (by simpa using hl)
    rw [List.getElem?_set, List.getElem?_set, hl, h]
theorem updσ_set_comm {b : Nat} {k : Blk} : ∀ {u : List (Nat × Blk)} {σ : List Blk}, (∀ e ∈ u, e.1 ≠ b) → updσ (σ.set b k) u = (updσ σ u).set b k
  | [], _, _ => rfl
  | (c, q) :: r, σ, h => by
    rw [updσ, updσ, List.set_comm _ _ (fun e => h (c, q) List.mem_cons_self e.symm), updσ_set_comm (fun e he => h e (List.mem_cons_of_mem _ he))]
theorem updσ_comm : ∀ {u v : List (Nat × Blk)} {σ : List Blk}, (∀ e ∈ u, ∀ f ∈ v, e.1 ≠ f.1) → updσ (updσ σ u) v = updσ (updσ σ v) u
  | [], _, _, _ => rfl
  | (c, k) :: r, v, σ, h => by
    rw [updσ, updσ, updσ_comm (u := r) (fun e he f hf => h e (List.mem_cons_of_mem _ he) f hf), updσ_set_comm (fun f hf e => h (c, k) List.mem_cons_self f hf e.symm)]
def putF (n : Nat) (t : Nat → Option A) (dst : Option Nat) (v : A) : Nat → Option A := fun k => match dst with
  | some d => if d < n then if d = k then some v else t k else t k
  | none => t k
theorem getT_put (n : Nat) (t : List (Nat × A)) (dst : Option Nat) (v : A) : getT (putT n t dst v) = putF n (getT t) dst v := by
  funext k
  cases dst with
  | none => rfl
  | some d =>
    simp only [putT, putF]
    split
    · rw [getT]
    · rfl
/-- What the operations that a mask names have done, in the text's order. -/
def runM (n : Nat) : List (Bool × Ent) → (Nat → Option A) × List Blk → (Nat → Option A) × List Blk
  | [], x => x
  | (true, e) :: r, x => runM n r (putF n x.1 e.dst e.v, updσ x.2 e.ws)
  | (false, _) :: r, x => runM n r x
theorem runM_append (n : Nat) : ∀ (l r : List (Bool × Ent)) (x : (Nat → Option A) × List Blk), runM n (l ++ r) x = runM n r (runM n l x)
  | [], _, _ => rfl
  | (true, e) :: l, r, x => by rw [List.cons_append, runM, runM, runM_append n l r]
  | (false, e) :: l, r, x => by rw [List.cons_append, runM, runM, runM_append n l r]
theorem runM_len (n : Nat) : ∀ (l : List (Bool × Ent)) (x : (Nat → Option A) × List Blk), (runM n l x).2.length = x.2.length
  | [], _ => rfl
  | (true, e) :: l, x => by rw [runM, runM_len n l, length_updσ]
  | (false, e) :: l, x => by rw [runM, runM_len n l]
def Ent.frees (e f : Ent) : Prop := (∀ d, e.dst = some d → f.dst ≠ some d) ∧ ∀ a ∈ e.ws, ∀ b ∈ f.ws, a.1 ≠ b.1
theorem putF_comm {n : Nat} {t : Nat → Option A} {a b : Option Nat} {x y : A} (h : ∀ d, a = some d → b ≠ some d) : putF n (putF n t a x) b y = putF n (putF n t b y) a x := by
  funext k
  cases a with
  | none => cases b <;> rfl
  | some d =>
    cases b with
    | none => rfl
    | some c =>
      have hdc : c ≠ d := fun e => h d rfl (by rw [e])
      simp only [putF]
      by_cases h1 : c < n <;> by_cases h2 : d < n <;> by_cases h3 : c = k <;> by_cases h4 : d = k <;> simp_all
/-- An operation that has come late stands where it stands in the text. -/
theorem runM_late (n : Nat) {e : Ent} : ∀ {l : List (Bool × Ent)} {x : (Nat → Option A) × List Blk}, (∀ f ∈ l, f.1 = true → e.frees f.2) → runM n l (putF n x.1 e.dst e.v, updσ x.2 e.ws) = (putF n (runM n l x).1 e.dst e.v, updσ (runM n l x).2 e.ws)
  | [], _, _ => rfl
  | (false, f) :: l, x, h => by
    rw [runM, runM]
    exact runM_late n fun g hg => h g (List.mem_cons_of_mem _ hg)
  | (true, f) :: l, x, h => by
    obtain ⟨h1, h2⟩ := h (true, f) List.mem_cons_self rfl
    rw [runM, runM, ← runM_late n fun g hg => h g (List.mem_cons_of_mem _ hg)]
    congr 1
    rw [putF_comm h1, updσ_comm h2]
/-- Two masks that agree on what writes a place. -/
theorem runM_t (n : Nat) {k : Nat} : ∀ {es : List Ent} {m m' : List Bool} {x x' : (Nat → Option A) × List Blk}, x.1 k = x'.1 k → m.length = es.length → m'.length = es.length → (∀ (i : Nat) (e : Ent) (a b : Bool), es[i]? = some e → m[i]? = some a → m'[i]? = some b → e.dst = some k → a = b) → (runM n (m.zip es) x).1 k = (runM n (m'.zip es) x').1 k
  | [], m, m', x, x', h, _, _, _ => by
    have e1 : m.zip ([] : List Ent) = [] := List.zip_nil_right
    have e2 : m'.zip ([] : List Ent) = [] := List.zip_nil_right
    rw [e1, e2]; exact h
  | e :: es, [], _, _, _, _, h1, _, _ => by simp at h1
  | e :: es, _ :: _, [], _, _, _, _, h2, _ => by simp at h2
  | e :: es, a :: m, b :: m', x, x', h, h1, h2, hw => by
    have hrec : ∀ (y y' : (Nat → Option A) × List Blk), y.1 k = y'.1 k → (runM n (m.zip es) y).1 k = (runM n (m'.zip es) y').1 k := fun y y' hy => runM_t n hy (by simpa using h1) (by simpa using h2) (fun i e a b he ha hb => hw (i + 1) e a b (by simpa using he) (by simpa using ha) (by simpa using hb))
    have h0 := hw 0 e a b rfl rfl rfl
    by_cases hd : e.dst = some k
    · obtain rfl := h0 hd
      cases a
      · exact hrec _ _ h
      · refine hrec _ _ ?_
        simp only [putF, hd]
        split
        · simp
        · exact h
    · have hp : ∀ y : (Nat → Option A) × List Blk, (putF n y.1 e.dst e.v) k = y.1 k := by
        intro y
        unfold putF
        cases hq : e.dst with
        | none => rfl
        | some d =>
          have : d ≠ k := fun e' => hd (by rw [hq, e'])
          simp only [this, if_false]
          split <;> rfl
      cases a <;> cases b
      · exact hrec _ _ h
      · exact hrec _ _ (h.trans (hp x').symm)
      · exact hrec _ _ ((hp x).trans h)
      · exact hrec _ _ ((hp x).trans (h.trans (hp x').symm))
theorem runM_σ (n : Nat) {b : Nat} : ∀ {es : List Ent} {m m' : List Bool} {x x' : (Nat → Option A) × List Blk}, x.2[b]? = x'.2[b]? → x.2.length = x'.2.length → m.length = es.length → m'.length = es.length → (∀ (i : Nat) (e : Ent) (a c : Bool), es[i]? = some e → m[i]? = some a → m'[i]? = some c → (∃ q ∈ e.ws, q.1 = b) → a = c) → (runM n (m.zip es) x).2[b]? = (runM n (m'.zip es) x').2[b]?
  | [], m, m', x, x', h, _, _, _, _ => by
    have e1 : m.zip ([] : List Ent) = [] := List.zip_nil_right
    have e2 : m'.zip ([] : List Ent) = [] := List.zip_nil_right
    rw [e1, e2]; exact h
  | e :: es, [], _, _, _, _, _, h1, _, _ => by simp at h1
  | e :: es, _ :: _, [], _, _, _, _, _, h2, _ => by simp at h2
  | e :: es, a :: m, c :: m', x, x', h, hl, h1, h2, hw => by
    have hrec : ∀ (y y' : (Nat → Option A) × List Blk), y.2[b]? = y'.2[b]? → y.2.length = y'.2.length → (runM n (m.zip es) y).2[b]? = (runM n (m'.zip es) y').2[b]? := fun y y' hy hl => runM_σ n hy hl (by simpa using h1) (by simpa using h2) (fun i e a b he ha hb => hw (i + 1) e a b (by simpa using he) (by simpa using ha) (by simpa using hb))
    have h0 := hw 0 e a c rfl rfl rfl
    by_cases hd : ∃ q ∈ e.ws, q.1 = b
    · obtain rfl := h0 hd
      cases a
      · exact hrec _ _ h hl
      · exact hrec _ _ (updσ_at h hl) (by rw [length_updσ, length_updσ]; exact hl)
    · have hp : ∀ y : (Nat → Option A) × List Blk, (updσ y.2 e.ws)[b]? = y.2[b]? := fun y => updσ_get fun q hq e' => hd ⟨q, hq, e'⟩
      cases a <;> cases c
      · exact hrec _ _ h hl
      · exact hrec _ _ (by rw [hp]; exact h) (by rw [length_updσ]; exact hl)
      · exact hrec _ _ (by rw [hp]; exact h) (by rw [length_updσ]; exact hl)
      · exact hrec _ _ (by rw [hp, hp]; exact h) (by rw [length_updσ, length_updσ]; exact hl)
end Go.AM
end
