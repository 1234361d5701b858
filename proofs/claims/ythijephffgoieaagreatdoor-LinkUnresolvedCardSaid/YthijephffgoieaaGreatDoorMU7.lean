/- lazyclaw46.LinkUnresolved returns true for every list of objects: no condition beside the statement's own. Part 7. -/
import Derived.Test.YthijephffgoieaaGreatDoorMU3
import Derived.Test.YthijephffgoieaaGreatDoorMU6
import Derived.KernelRfl
import Derived.Test.YthijephffgoieaaGreatDoorMU5
import Derived.Test.YthijephffgoieaaGreatDoorCards
import Derived.Test.YthijephffgoieaaGreatDoorTie
set_option linter.unusedVariables false
set_option linter.unusedSimpArgs false
set_option maxHeartbeats 2000000
section
namespace Go.AM
open Go.RowKit
set_option linter.unusedVariables false
set_option linter.unusedSimpArgs false

/-! Slots as_ a tree. -/
inductive Tri where
  | e
  | n (v : Option A) (l r : Tri)
  deriving Inhabited
/-- A slot read; told by the recursors themselves, for the kernel's sake. -/
noncomputable def Tri.get (t : Tri) : Nat → Option A :=
  @Tri.rec (fun _ => Nat → Option A) (fun _ => none) (fun v _ _ gl gr k => @Nat.rec (fun _ => Option A) v (fun j _ => @Bool.rec (fun _ => Option A) (gr (Nat.div j 2)) (gl (Nat.div j 2)) (Nat.beq (Nat.mod j 2) 0)) k) t
noncomputable def Tri.put (f : Nat) : Tri → Nat → A → Tri :=
  @Nat.rec (fun _ => Tri → Nat → A → Tri) (fun t _ _ => t) (fun _ ih t k x => @Tri.rec (fun _ => Tri)
      (@Nat.rec (fun _ => Tri) (.n (some x) .e .e) (fun j _ => @Bool.rec (fun _ => Tri) (.n none .e (ih .e (Nat.div j 2) x)) (.n none (ih .e (Nat.div j 2) x) .e) (Nat.beq (Nat.mod j 2) 0)) k)
      (fun v l r _ _ => @Nat.rec (fun _ => Tri) (.n (some x) l r) (fun j _ => @Bool.rec (fun _ => Tri) (.n v l (ih r (Nat.div j 2) x)) (.n v (ih l (Nat.div j 2) x) r) (Nat.beq (Nat.mod j 2) 0)) k) t) f
theorem Tri.get_n0 (v : Option A) (l r : Tri) : (Tri.n v l r).get 0 = v := rfl
theorem Tri.get_n1 (v : Option A) (l r : Tri) (k : Nat) : (Tri.n v l r).get (k + 1) = if k % 2 = 0 then l.get (k / 2) else r.get (k / 2) := by
  show @Bool.rec (fun _ => Option A) (r.get (k / 2)) (l.get (k / 2)) (Nat.beq (k % 2) 0) = _
  rcases Nat.mod_two_eq_zero_or_one k with h | h <;> rw [h] <;> rfl
theorem Tri.put_0 (f : Nat) (t : Tri) (x : A) : Tri.put (f + 1) t 0 x = match t with
    | .e => .n (some x) .e .e
    | .n _ l r => .n (some x) l r := by cases t <;> rfl
theorem Tri.put_1 (f : Nat) (t : Tri) (k : Nat) (x : A) : Tri.put (f + 1) t (k + 1) x = match t with
    | .e => if k % 2 = 0 then .n none (Tri.put f .e (k / 2) x) .e else .n none .e (Tri.put f .e (k / 2) x)
    | .n v l r => if k % 2 = 0 then .n v (Tri.put f l (k / 2) x) r else .n v l (Tri.put f r (k / 2) x) := by
  cases t with
  | e =>
    show @Bool.rec (fun _ => Tri) (.n none .e (Tri.put f .e (k / 2) x)) (.n none (Tri.put f .e (k / 2) x) .e) (Nat.beq (k % 2) 0) = _
    rcases Nat.mod_two_eq_zero_or_one k with h | h <;> rw [h] <;> rfl
  | n v l r =>
    show @Bool.rec (fun _ => Tri) (.n v l (Tri.put f r (k / 2) x)) (.n v (Tri.put f l (k / 2) x) r) (Nat.beq (k % 2) 0) = _
    rcases Nat.mod_two_eq_zero_or_one k with h | h <;> rw [h] <;> rfl
theorem Tri.get_e (k : Nat) : Tri.get .e k = none := by cases k <;> rfl
theorem Tri.get_put : ∀ (f : Nat) (t : Tri) (k : Nat) (x : A) (j : Nat), k + 1 < 2 ^ f → (Tri.put f t k x).get j = if k = j then some x else t.get j
  | 0, t, k, x, j, h => by simp at h
  | f + 1, t, 0, x, j, h => by
    rw [Tri.put_0]
    cases j with
    | zero => cases t <;> simp [Tri.get_n0]
    | succ j => cases t <;> simp [Tri.get_n1, Tri.get_e]
  | f + 1, t, k + 1, x, j, h => by
    have hp : 2 ^ (f + 1) = 2 ^ f * 2 := Nat.pow_succ 2 f
    have hk : k / 2 + 1 < 2 ^ f := by omega
    have ih := fun (t : Tri) (j : Nat) => Tri.get_put f t (k / 2) x j hk
    rw [Tri.put_1]
    cases j with
    | zero => rcases Nat.mod_two_eq_zero_or_one k with h2 | h2 <;> cases t <;> simp [Tri.get_n0, h2, Tri.get_e]
    | succ j =>
      by_cases he : k = j
      · subst he
        rw [if_pos rfl]
        rcases Nat.mod_two_eq_zero_or_one k with h2 | h2 <;> cases t <;> simp [Tri.get_n1, h2, ih]
      · rw [if_neg (show ¬ (k + 1 = j + 1) by omega)]
        rcases Nat.mod_two_eq_zero_or_one k with h2 | h2 <;> rcases Nat.mod_two_eq_zero_or_one j with h3 | h3 <;> cases t <;> simp [Tri.get_n1, h2, h3, ih, Tri.get_e] <;> omega
structure XS where
  t : Tri
  σ : List Blk
  n : Nat
  deriving Inhabited
noncomputable def XS.putT (s : XS) (dst : Option Nat) (v : A) : Tri := match dst with
  | some d => match Nat.blt d s.n with
    | true => s.t.put 16 d v
    | false => s.t
  | none => s.t
noncomputable def XS.put (s : XS) (dst : Option Nat) (v : A) : XS := ⟨s.putT dst v, s.σ, s.n⟩
noncomputable def XS.app (s : XS) (dst : Option Nat) (o : Out) : XS := ⟨s.putT dst (o.v s.σ.length), updσ s.σ o.upd ++ o.new s.σ.length, s.n⟩
/-- The runner's state beside the machine's. -/
structure Fit (x : XS) (s : St) : Prop where
  t : x.t.get = getT s.t
  σ : x.σ = s.σ
  n : x.n = s.n
  lt : x.n < 65535
theorem Fit.putT {x : XS} {s : St} (h : Fit x s) (dst : Option Nat) (v : A) : (x.putT dst v).get = getT (AM.putT s.n s.t dst v) := by
  have h16 : (2 : Nat) ^ 16 = 65536 := by decide
  rw [getT_put]
  funext k
  cases dst with
  | none => exact congrFun h.t k
  | some d =>
    rw [XS.putT]
    split
    · rename_i hd
      have hd : d < x.n := by rw [← Nat.blt_eq]; exact hd
      have := h.lt
      rw [Tri.get_put _ _ _ _ _ (by omega), h.t]
      unfold putF
      rw [← h.n]
      by_cases e : d = k
      · subst e; simp [hd]
      · rw [if_neg e]; simp [e]
    · rename_i hd
      have hd : ¬ d < x.n := fun e => by rw [← Nat.blt_eq, hd] at e; cases e
      rw [h.t]
      unfold putF
      rw [← h.n]
      by_cases e : d = k
      · subst e; simp [hd]
      · simp [e]
theorem Fit.put {x : XS} {s : St} (h : Fit x s) (dst : Option Nat) (v : A) : Fit (x.put dst v) (s.put dst v) := ⟨h.putT dst v, h.σ, h.n, h.lt⟩
theorem Fit.app {x : XS} {s : St} (h : Fit x s) (dst : Option Nat) (o : Out) : Fit (x.app dst o) (s.app dst o) := by
  refine ⟨?_, ?_, h.n, h.lt⟩
  · show (x.putT dst (o.v x.σ.length)).get = getT (AM.putT s.n s.t dst (o.v s.σ.length))
    rw [h.σ]; exact h.putT dst _
  · show updσ x.σ o.upd ++ o.new x.σ.length = updσ s.σ o.upd ++ o.new s.σ.length
    rw [h.σ]
noncomputable def putL : Nat → Tri → List A → Tri
  | _, t, [] => t
  | i, t, x :: r => putL (i + 1) (t.put 16 i x) r
theorem putL_get : ∀ (l : List A) (i : Nat) (t : Tri), i + l.length < 65535 → ∀ k, (putL i t l).get k = match getT (argT i l) k with
    | some x => some x
    | none => t.get k
  | [], i, t, h, k => by simp [putL, argT, getT]
  | x :: r, i, t, h, k => by
    have h16 : (2 : Nat) ^ 16 = 65536 := by decide
    rw [List.length_cons] at h
    rw [putL, putL_get r (i + 1) _ (by omega), argT, getT]
    by_cases e : i = k
    · rw [if_pos e]
      subst e
      have : getT (argT (i + 1) r) i = none := by
        cases hg : getT (argT (i + 1) r) i with
        | none => rfl
        | some y => have := (getT_argT _ _ _ _ hg).1; omega
      rw [this]
      simp only [Tri.get_put _ _ _ _ _ (by omega : i + 1 < 2 ^ 16), if_pos]
    · rw [if_neg e]
      cases getT (argT (i + 1) r) k with
      | some y => rfl
      | none => simp only [Tri.get_put _ _ _ _ _ (by omega : i + 1 < 2 ^ 16), if_neg e]
theorem Fit.init {args : List A} {σ : List Blk} {n : Nat} (h : args.length ≤ n) (hn : n < 65535) : Fit ⟨putL 0 .e args, σ, n⟩ ⟨argT 0 args, σ, n⟩ := by
  refine ⟨?_, rfl, rfl, hn⟩
  funext k
  show (putL 0 .e args).get k = _
  rw [putL_get _ _ _ (by omega)]
  cases hg : getT (argT 0 args) k <;> simp [Tri.get_e]

/-! Blocks that a value names. -/
mutual
def A.bs : A → List Nat
  | .ptr b _ => [b]
  | .ep b _ _ => [b]
  | .sl b _ _ => [b]
  | .mp b => [b]
  | .fn _ x y => A.bsL x ++ A.bsL y
  | .agg cs => A.bsL cs
  | .tup cs => A.bsL cs
  | _ => []
def A.bsL : List A → List Nat
  | [] => []
  | x :: r => x.bs ++ A.bsL r
end
def bsE : List (D × A) → List Nat
  | [] => []
  | (_, a) :: r => a.bs ++ bsE r
def Blk.bs : Blk → List Nat
  | .cells cs => A.bsL cs
  | .map es => bsE es
  | _ => []
/-- Where a number stands in a list. -/
def posN (b : Nat) : List Nat → Nat
  | [] => 0
  | c :: r => match decide (b = c) with
    | true => 0
    | false => posN b r + 1
theorem posN_spec {b : Nat} : ∀ {l : List Nat}, b ∈ l → posN b l < l.length ∧ l.getD (posN b l) 0 = b
  | c :: r, h => by
    rw [posN]
    by_cases e : b = c
    · subst e; simp
    · have h' : b ∈ r := (List.mem_cons.1 h).resolve_left e
      obtain ⟨h1, h2⟩ := posN_spec h'
      simp only [decide_eq_false e, List.length_cons]
      exact ⟨by omega, by simpa using h2⟩
mutual
def A.inv (ρ : List Nat) : A → A
  | .ptr b o => .ptr (posN b ρ) o
  | .ep b i o => .ep (posN b ρ) i o
  | .sl b o n => .sl (posN b ρ) o n
  | .mp b => .mp (posN b ρ)
  | .fn f x y => .fn f (A.invL ρ x) (A.invL ρ y)
  | .agg cs => .agg (A.invL ρ cs)
  | .tup cs => .tup (A.invL ρ cs)
  | x => x
def A.invL (ρ : List Nat) : List A → List A
  | [] => []
  | x :: r => x.inv ρ :: A.invL ρ r
end
def invE (ρ : List Nat) : List (D × A) → List (D × A)
  | [] => []
  | (k, a) :: r => (k, a.inv ρ) :: invE ρ r
def Blk.inv (ρ : List Nat) : Blk → Blk
  | .cells cs => .cells (A.invL ρ cs)
  | .map es => .map (invE ρ es)
  | x => x
def allIn (ρ : List Nat) : List Nat → Bool
  | [] => true
  | b :: r => memB b ρ && allIn ρ r
theorem allIn_spec {ρ : List Nat} : ∀ {l : List Nat}, allIn ρ l = true → ∀ b ∈ l, b ∈ ρ
  | c :: r, h, b, hb => by
    rw [allIn, Bool.and_eq_true] at h
    rcases List.mem_cons.1 hb with rfl | hb
    · exact memB_iff.1 h.1
    · exact allIn_spec h.2 b hb
mutual
theorem inv_ren {ρ : List Nat} : ∀ {x : A}, (∀ b ∈ x.bs, b ∈ ρ) → (x.inv ρ).bnd ρ.length = true ∧ (x.inv ρ).ren ρ = x
  | .d _, _ => ⟨rfl, rfl⟩
  | .nl, _ => ⟨rfl, rfl⟩
  | .ro _, _ => ⟨rfl, rfl⟩
  | .er, _ => ⟨rfl, rfl⟩
  | .any, _ => ⟨rfl, rfl⟩
  | .ptr b o, h => by
    obtain ⟨h1, h2⟩ := posN_spec (h b (by simp [A.bs]))
    rw [A.inv, A.bnd, A.ren, h2]; exact ⟨decide_eq_true h1, rfl⟩
  | .ep b i o, h => by
    obtain ⟨h1, h2⟩ := posN_spec (h b (by simp [A.bs]))
    rw [A.inv, A.bnd, A.ren, h2]; exact ⟨decide_eq_true h1, rfl⟩
  | .sl b o n, h => by
    obtain ⟨h1, h2⟩ := posN_spec (h b (by simp [A.bs]))
    rw [A.inv, A.bnd, A.ren, h2]; exact ⟨decide_eq_true h1, rfl⟩
  | .mp b, h => by
    obtain ⟨h1, h2⟩ := posN_spec (h b (by simp [A.bs]))
    rw [A.inv, A.bnd, A.ren, h2]; exact ⟨decide_eq_true h1, rfl⟩
  | .fn f x y, h => by
    obtain ⟨h1, h2⟩ := invL_ren (ρ := ρ) (l := x) fun b hb => h b (by simp [A.bs, hb])
    obtain ⟨h3, h4⟩ := invL_ren (ρ := ρ) (l := y) fun b hb => h b (by simp [A.bs, hb])
    rw [A.inv, A.bnd, A.ren, h1, h2, h3, h4]; exact ⟨rfl, rfl⟩
  | .agg cs, h => by
    obtain ⟨h1, h2⟩ := invL_ren (ρ := ρ) (l := cs) fun b hb => h b (by simp [A.bs, hb])
    rw [A.inv, A.bnd, A.ren, h1, h2]; exact ⟨rfl, rfl⟩
  | .tup cs, h => by
    obtain ⟨h1, h2⟩ := invL_ren (ρ := ρ) (l := cs) fun b hb => h b (by simp [A.bs, hb])
    rw [A.inv, A.bnd, A.ren, h1, h2]; exact ⟨rfl, rfl⟩
theorem invL_ren {ρ : List Nat} : ∀ {l : List A}, (∀ b ∈ A.bsL l, b ∈ ρ) → A.bndL ρ.length (A.invL ρ l) = true ∧ A.renL ρ (A.invL ρ l) = l
  | [], _ => ⟨rfl, rfl⟩
  | x :: r, h => by
    obtain ⟨h1, h2⟩ := inv_ren (ρ := ρ) (x := x) fun b hb => h b (by simp [A.bsL, hb])
    obtain ⟨h3, h4⟩ := invL_ren (ρ := ρ) (l := r) fun b hb => h b (by simp [A.bsL, hb])
    rw [A.invL, A.bndL, A.renL, h1, h2, h3, h4]; exact ⟨rfl, rfl⟩
end
theorem invE_ren {ρ : List Nat} : ∀ {l : List (D × A)}, (∀ b ∈ bsE l, b ∈ ρ) → ((invE ρ l).all fun e => e.2.bnd ρ.length) = true ∧ (invE ρ l).map (fun e => (e.1, e.2.ren ρ)) = l
  | [], _ => ⟨rfl, rfl⟩
  | (k, a) :: r, h => by
    obtain ⟨h1, h2⟩ := inv_ren (ρ := ρ) (x := a) fun b hb => h b (by simp [bsE, hb])
    obtain ⟨h3, h4⟩ := invE_ren (ρ := ρ) (l := r) fun b hb => h b (by simp [bsE, hb])
    rw [invE, List.all_cons, List.map_cons, h1, h2, h3, h4]; exact ⟨rfl, rfl⟩
theorem invB_ren {ρ : List Nat} {k : Blk} (h : ∀ b ∈ k.bs, b ∈ ρ) : (k.inv ρ).bnd ρ.length = true ∧ (k.inv ρ).ren ρ = k := by
  cases k with
  | dead => exact ⟨rfl, rfl⟩
  | arr n xs => exact ⟨rfl, rfl⟩
  | sit s pos => exact ⟨rfl, rfl⟩
  | cells cs =>
    obtain ⟨h1, h2⟩ := invL_ren (ρ := ρ) (l := cs) h
    rw [Blk.inv, Blk.bnd, Blk.ren, h1, h2]; exact ⟨rfl, rfl⟩
  | map es =>
    obtain ⟨h1, h2⟩ := invE_ren (ρ := ρ) (l := es) h
    rw [Blk.inv, Blk.bnd, Blk.ren, h1, h2]; exact ⟨rfl, rfl⟩
/-- What can be reached from blocks: at most n rounds. -/
def addN : List Nat → List Nat → List Nat
  | acc, [] => acc
  | acc, b :: r => match memB b acc with
    | true => addN acc r
    | false => addN (acc ++ [b]) r
def reachN (σ : List Blk) : Nat → List Nat → Nat → List Nat
  | 0, acc, _ => acc
  | n + 1, acc, i => match acc[i]? with
    | none => acc
    | some b => match σ[b]? with
      | some k => reachN σ n (addN acc k.bs) (i + 1)
      | none => acc
def nodupB : List Nat → Bool
  | [] => true
  | b :: r => !memB b r && nodupB r
theorem nodupB_spec : ∀ {l : List Nat}, nodupB l = true → l.Nodup
  | [], _ => List.nodup_nil
  | b :: r, h => by
    rw [nodupB, Bool.and_eq_true, Bool.not_eq_true'] at h
    refine List.nodup_cons.2 ⟨fun hb => ?_, nodupB_spec h.2⟩
    rw [memB_iff.2 hb] at h; cases h.1
/-- Blocks taken over in a new order. -/
def takeB (ρ : List Nat) (σ : List Blk) : List Nat → Option (List Blk)
  | [] => some []
  | b :: r => match σ[b]?, takeB ρ σ r with
    | some k, some ks => match allIn ρ k.bs with
      | true => some (k.inv ρ :: ks)
      | false => none
    | _, _ => none
theorem takeB_spec {ρ : List Nat} {σ : List Blk} : ∀ {bs : List Nat} {ks : List Blk}, takeB ρ σ bs = some ks → subS ρ σ bs ks ∧ bndS ρ.length ks = true
  | [], ks, h => by cases h; exact ⟨trivial, rfl⟩
  | b :: r, ks, h => by
    rw [takeB] at h
    split at h
    · rename_i k ks' h1 h2
      split at h
      · rename_i h3
        cases h
        obtain ⟨g1, g2⟩ := takeB_spec h2
        obtain ⟨p1, p2⟩ := invB_ren (allIn_spec h3)
        exact ⟨⟨p1, by rw [p2]; exact h1, g1⟩, by rw [bndS, p1, g2]; rfl⟩
      · cases h
    · cases h
theorem subS_len {ρ : List Nat} {σ : List Blk} {bs : List Nat} {ks : List Blk} (h : subS ρ σ bs ks) : bs.length = ks.length := (subS_get h).1
theorem killsU_nil : killsU [] = [] := rfl
/-- Arguments taken over. -/
def giveA (ρ : List Nat) (σ : List Blk) (x : A) : Option A := match argA σ x with
  | .d z => some (.d z)
  | y => match allIn ρ y.bs with
    | true => some (y.inv ρ)
    | false => none
def giveL (ρ : List Nat) (σ : List Blk) : List A → Option (List A)
  | [] => some []
  | x :: r => match giveA ρ σ x, giveL ρ σ r with
    | some y, some ys => some (y :: ys)
    | _, _ => none
theorem argA_cases (σ : List Blk) (x : A) : argA σ x = x ∨ ∃ z, argA σ x = .d z ∧ x.kills = [] ∧ x.toD σ = some z := by
  unfold argA
  split
  · exact .inl rfl
  · exact .inl rfl
  · exact .inl rfl
  · exact .inl rfl
  · split
    · rename_i z h1 h2; exact .inr ⟨z, rfl, h1, h2⟩
    · exact .inl rfl
theorem inv_not_d {ρ : List Nat} {y : A} (h : ∀ z, y ≠ .d z) : ∀ z, y.inv ρ ≠ .d z := by
  intro z hz
  cases y <;> simp [A.inv] at hz
  exact h z (by rw [hz])
theorem fit_inv {ρ : List Nat} {σ : List Blk} {x : A} (h : ∀ b ∈ x.bs, b ∈ ρ) (hx : ∀ z, x ≠ .d z) : fitP ρ σ x (x.inv ρ) ∧ fitK x (x.inv ρ) = [] := by
  have h1 := inv_ren h
  have h2 := inv_not_d (ρ := ρ) hx
  unfold fitP fitK
  generalize x.inv ρ = y at h1 h2
  cases y with
  | d z => exact absurd rfl (h2 z)
  | _ => exact ⟨h1, rfl⟩
theorem giveA_spec {ρ : List Nat} {σ : List Blk} {x y : A} (h : giveA ρ σ x = some y) : fitP ρ σ x y ∧ fitK x y = [] := by
  unfold giveA at h
  rcases argA_cases σ x with e | ⟨z, e, e1, e2⟩
  · rw [e] at h
    split at h
    · rename_i z
      cases h
      exact ⟨rfl, rfl⟩
    · rename_i hne
      split at h
      · rename_i ha
        cases h
        exact fit_inv (allIn_spec ha) (fun z hz => hne z hz)
      · cases h
  · rw [e] at h
    cases h
    exact ⟨e2, e1⟩
theorem giveL_spec {ρ : List Nat} {σ : List Blk} : ∀ {xs ys : List A}, giveL ρ σ xs = some ys → fitsP ρ σ xs ys ∧ fitsK xs ys = []
  | [], ys, h => by cases h; exact ⟨trivial, rfl⟩
  | x :: r, ys, h => by
    rw [giveL] at h
    split at h
    · rename_i y ys' h1 h2
      cases h
      obtain ⟨a1, a2⟩ := giveA_spec h1
      obtain ⟨b1, b2⟩ := giveL_spec h2
      exact ⟨⟨a1, b1⟩, by rw [fitsK, a2, b2]; rfl⟩
    · cases h
/-- Results handed back. -/
def backL (ρ : List Nat) : List A → Option (List A)
  | [] => some []
  | x :: r => match allIn ρ x.bs, backL ρ r with
    | true, some ys => some (x.inv ρ :: ys)
    | _, _ => none
theorem backL_spec {ρ : List Nat} {σ : List Blk} : ∀ {xs ys : List A}, backL ρ xs = some ys → fitsP ρ σ xs ys ∧ fitsK xs ys = [] ∧ A.bndL ρ.length ys = true
  | [], ys, h => by cases h; exact ⟨trivial, rfl, rfl⟩
  | x :: r, ys, h => by
    rw [backL] at h
    split at h
    · rename_i ys' h1 h2
      cases h
      obtain ⟨b1, b2, b3⟩ := backL_spec (σ := σ) h2
      have hi := inv_ren (allIn_spec h1)
      by_cases hd : ∃ z, x = .d z
      · obtain ⟨z, rfl⟩ := hd
        exact ⟨⟨rfl, b1⟩, by rw [fitsK, b2]; rfl, by rw [A.bndL, hi.1, b3]; rfl⟩
      · obtain ⟨a1, a2⟩ := fit_inv (σ := σ) (allIn_spec h1) (fun z hz => hd ⟨z, hz⟩)
        exact ⟨⟨a1, b1⟩, by rw [fitsK, a2, b2]; rfl, by rw [A.bndL, hi.1, b3]; rfl⟩
    · cases h
end Go.AM
end
section
namespace Go.AM
open Go.RowKit
set_option linter.unusedVariables false
set_option linter.unusedSimpArgs false

def inB64 (x : Int) : Bool := decide (-9223372036854775808 ≤ x) && decide (x ≤ 9223372036854775807)
theorem inB64_spec {x : Int} (h : inB64 x = true) : inI x := by
  rw [inB64, Bool.and_eq_true] at h
  exact ⟨of_decide_eq_true h.1, of_decide_eq_true h.2⟩
def binP (P : Program) (ty : TypeId) : BinOp → Value → Value → Bool
  | .add, .int .i64 a, .int .i64 b => inB64 (a + b)
  | .sub, .int .i64 a, .int .i64 b => inB64 (a - b)
  | .mul, .int .i64 a, .int .i64 b => inB64 (a * b)
  | .add, .int .u8 a, .int .u8 b => decide (0 ≤ a + b) && decide (a + b ≤ 255)
  | .sub, .int .u8 a, .int .u8 b => decide (0 ≤ a - b) && decide (a - b ≤ 255)
  | .rem, .int .i64 a, .int .i64 b => !decide (b = 0)
  | .quo, .int .i64 a, .int .i64 b => !decide (b = 0) && inB64 (a.tdiv b)
  | .add, .string a, .string b => decide (((a.size + b.size : Nat) : Int) ≤ 9223372036854775807)
  | .eql, .bool a, .bool b => decide (knT P ty = some .bool)
  | .neq, .bool a, .bool b => decide (knT P ty = some .bool)
  | _, _, _ => true
theorem binP_spec {P : Program} {ty : TypeId} {op : BinOp} {a b v : Value} {p : Prop} (h : binV P ty op a b = some (p, v)) (hb : binP P ty op a b = true) : p := by
  unfold binV at h
  split at h <;> first
    | (simp only [Option.some.injEq, Prod.mk.injEq] at h; obtain ⟨rfl, -⟩ := h; first | trivial | exact inB64_spec hb | (simp only [binP, Bool.and_eq_true, Bool.not_eq_true', decide_eq_false_iff_not, decide_eq_true_iff] at hb; first | exact hb | exact ⟨hb.1, inB64_spec hb.2⟩) | exact of_decide_eq_true hb)
    | (split at h <;> simp only [Option.some.injEq, Prod.mk.injEq, reduceCtorEq] at h; obtain ⟨rfl, -⟩ := h; trivial)
    | cases h
def allLen (n : Nat) : List D → Bool
  | [] => true
  | x :: r => decide (x.cells.length = n) && allLen n r
theorem allLen_spec {n : Nat} : ∀ {l : List D}, allLen n l = true → ∀ x ∈ l, x.cells.length = n
  | y :: r, h, x, hx => by
    rw [allLen, Bool.and_eq_true] at h
    rcases List.mem_cons.1 hx with rfl | hx
    · exact of_decide_eq_true h.1
    · exact allLen_spec h.2 x hx
def on1B (x : Option A) (f : A → Bool) : Bool := match x with
  | some a => f a
  | none => false
def on2B (x y : Option A) (f : A → A → Bool) : Bool := match x, y with
  | some a, some b => f a b
  | _, _ => false
def oBinP (P : Program) (op : BinOp) (ty : TypeId) : A → A → Bool
  | .d (.v a), .d (.v b) => binP P ty op a b
  | _, _ => true
theorem oBinP_spec {P : Program} {op : BinOp} {ty : TypeId} {x y : A} {o : Out} (h : oBin P op ty x y = some o) (hb : oBinP P op ty x y = true) : o.p := by
  unfold oBin at h
  split at h
  · split at h
    · rename_i hv; cases h; exact binP_spec hv hb
    · cases h
  · split at h
    · split at h
      · split at h <;> cases h <;> trivial
      · cases h
    · cases h
  · split at h
    · split at h <;> cases h <;> trivial
    · cases h
  · cases h
def oUnP (op : UnOp) : A → Bool
  | .d (.v (.int .i64 n)) => inB64 (0 - n)
  | _ => true
theorem oUnP_spec {op : UnOp} {x : A} {o : Out} (h : oUn op x = some o) (hb : oUnP op x = true) : o.p := by
  unfold oUn at h
  split at h
  · cases h; trivial
  · cases h; exact inB64_spec hb
  · cases h
def oConvP : A → Bool
  | .d (.v (.int k n)) => inB64 n
  | _ => true
theorem oConvP_spec {P : Program} {src dst : TypeId} {x : A} {o : Out} (h : oConv P src dst x = some o) (hb : oConvP x = true) : o.p := by
  unfold oConv at h
  split at h
  · split at h
    · cases h; exact inB64_spec hb
    · cases h
  · split at h
    · cases h; trivial
    · cases h
  · cases h
def oStoreP (σ : List Blk) (n : Option Nat) : A → A → Bool
  | .ep b i off, v => match n, look σ b, v.toD σ with
    | some n, some (.arr k xs), some z => match xs[i]? with
      | some (.agg cs) => !memB b v.kills
      | some e => decide (e.cells.length = 1) && decide (z.cells.length = 1) && decide (off = 0) && decide (n = 1) && !memB b v.kills
      | none => false
    | _, _, _ => false
  | _, _ => true
theorem not_memB {b : Nat} {l : List Nat} (h : (!memB b l) = true) : b ∉ l := fun hb => by rw [memB_iff.2 hb] at h; cases h
theorem oStoreP_spec {P : Program} {σ : List Blk} {ty : TypeId} {x v : A} {o : Out} (h : oStore P σ ty x v = some o) (hb : oStoreP σ (szT P ty) x v = true) : o.p := by
  unfold oStore at h
  split at h
  · split at h
    · split at h
      · cases h; trivial
      · cases h
    · cases h
  · rename_i b i off n hn
    rw [hn] at hb
    split at h
    · rename_i k xs z h1 h2
      simp only [oStoreP, h1, h2] at hb
      split at h
      · rename_i cs h3
        rw [h3] at hb
        split at h
        · cases h; exact not_memB hb
        · cases h
      · rename_i e hne h3
        rw [h3] at hb
        cases h
        cases e with
        | agg cs => exact absurd rfl (hne cs)
        | _ =>
          simp only [Bool.and_eq_true, decide_eq_true_iff] at hb
          exact ⟨hb.1.1.1.1, hb.1.1.1.2, hb.1.1.2, hb.1.2, not_memB hb.2⟩
      · cases h
    · cases h
  · cases h
def oBuildSliceP (P : Program) (σ : List Blk) (ty : TypeId) (len : Nat) (ps : List (Nat × A)) : Bool := match elT P ty with
  | some e => match len with
    | 0 => ps.isEmpty
    | _ + 1 => match listD σ 0 ps, elB P e with
      | some ds, some (n, _) => decide (ds.length = len) && decide (0 < n) && decide (len * n ≤ 16777216) && allLen n ds
      | _, _ => false
  | none => false
theorem oBuildSliceP_spec {P : Program} {σ : List Blk} {ty : TypeId} {len : Nat} {ps : List (Nat × A)} {o : Out} (h : oBuildSlice P σ ty len ps = some o) (hb : oBuildSliceP P σ ty len ps = true) : o.p := by
  unfold oBuildSlice at h
  unfold oBuildSliceP at hb
  split at h
  · rename_i e he
    rw [he] at hb
    dsimp only at hb
    split at h
    · split at h
      · cases h; exact List.isEmpty_iff.1 hb
      · cases h
    · split at h
      · rename_i ds n q h1 h2
        rw [h1, h2] at hb
        simp only [Bool.and_eq_true, decide_eq_true_iff] at hb
        cases h
        exact ⟨hb.1.1.1, hb.1.1.2, hb.1.2, allLen_spec hb.2⟩
      · cases h
  · cases h
def oMakeP (P : Program) (ty : TypeId) : A → A → Bool
  | .d (.v (.int .i64 n)), .d (.v (.int .i64 m)) => match elT P ty with
    | some e => match zeroT P e, elB P e with
      | some z, some (k, by') => match constA z with
        | some v => match v.toD [] with
          | some y => decide (0 ≤ n) && decide (n ≤ m) && decide ((by' : Int) * m ≤ 281474976710656) && decide (m ≤ 9223372036854775807) && decide (y.cells.length = k)
          | none => false
        | none => false
      | _, _ => false
    | none => false
  | _, _ => false
theorem oMakeP_spec {P : Program} {ty : TypeId} {x y : A} {o : Out} (h : oMake P ty x y = some o) (hb : oMakeP P ty x y = true) : o.p := by
  unfold oMake at h
  unfold oMakeP at hb
  split at h
  · dsimp only at hb
    split at h
    · rename_i he
      rw [he] at hb
      dsimp only at hb
      split at h
      · rename_i h1 h2
        rw [h1, h2] at hb
        dsimp only at hb
        split at h
        · rename_i h3
          rw [h3] at hb
          dsimp only at hb
          split at h
          · rename_i h4
            rw [h4] at hb
            simp only [Bool.and_eq_true, decide_eq_true_iff] at hb
            cases h
            exact ⟨hb.1.1.1.1, hb.1.1.1.2, hb.1.1.2, hb.1.2, hb.2⟩
          · cases h
        · cases h
      · cases h
    · cases h
  · cases h
def oSliceP (P : Program) (t : Nat → Option A) (σ : List Blk) (ty : TypeId) (lo hi mx : Option Operand) : A → Bool
  | .d (.lst xs) => match elT P ty, bnd t 0 lo, bnd t xs.length hi, bnd t xs.length mx with
    | some e, some l, some h, some m => match szT P e with
      | some k => (mx.isNone || hi.isSome) && decide (l ≤ h) && decide (h ≤ m) && decide (m ≤ xs.length) && allLen k xs
      | none => false
    | _, _, _, _ => false
  | .sl b o n => match bnd t 0 lo, bnd t n hi with
    | some l, some h => decide (l ≤ h) && decide (h ≤ n)
    | _, _ => false
  | .d (.v (.string s)) => match bnd t 0 lo, bnd t s.size hi with
    | some l, some h => decide (l ≤ h) && decide (h ≤ s.size)
    | _, _ => false
  | _ => false
theorem oSliceP_spec {P : Program} {t : Nat → Option A} {σ : List Blk} {ty : TypeId} {lo hi mx : Option Operand} {x : A} {o : Out} (h : oSlice P t σ ty lo hi mx x = some o) (hb : oSliceP P t σ ty lo hi mx x = true) : o.p := by
  unfold oSlice at h
  unfold oSliceP at hb
  split at h
  · dsimp only at hb
    split at h
    · rename_i h1 h2 h3 h4
      rw [h1, h2, h3, h4] at hb
      dsimp only at hb
      split at h
      · rename_i h5
        rw [h5] at hb
        simp only [Bool.and_eq_true, decide_eq_true_iff] at hb
        cases h
        exact ⟨hb.1.1.1.1, hb.1.1.1.2, hb.1.1.2, hb.1.2, allLen_spec hb.2⟩
      · cases h
    · cases h
  · dsimp only at hb
    split at h
    · rename_i h1 h2 h3 h4
      rw [h2, h3] at hb
      simp only [Bool.and_eq_true, decide_eq_true_iff] at hb
      split at h
      · cases h; exact hb
      · cases h
    · cases h
  · dsimp only at hb
    split at h
    · rename_i h1 h2 h3
      rw [h2, h3] at hb
      simp only [Bool.and_eq_true, decide_eq_true_iff] at hb
      cases h; exact hb
    · cases h
  · cases h
def oIndexAddrP (P : Program) (σ : List Blk) (ty : TypeId) (x y : A) : Bool := match intOf? y with
  | some n => match x with
    | .d (.lst xs) => match elT P ty, xs[n.toNat]? with
      | some e, some y => decide (szT P e = some y.cells.length)
      | _, _ => false
    | .sl b o len => decide (0 ≤ n) && decide (n < len)
    | .ptr b o => match arT P ty with
      | some (len, e) => decide (0 ≤ n) && decide (n < len) && decide (2 ≤ len)
      | none => false
    | _ => false
  | none => false
theorem oIndexAddrP_spec {P : Program} {σ : List Blk} {ty : TypeId} {x y : A} {o : Out} (h : oIndexAddr P σ ty x y = some o) (hb : oIndexAddrP P σ ty x y = true) : o.p := by
  unfold oIndexAddr at h
  unfold oIndexAddrP at hb
  split at h
  · rename_i n hn
    rw [hn] at hb
    dsimp only at hb
    split at h
    · dsimp only at hb
      split at h
      · rename_i h1
        rw [h1] at hb
        split at h
        · split at h
          · rename_i h2
            rw [h2] at hb
            have hb := of_decide_eq_true hb
            cases h; exact hb
          · cases h
        · cases h
      · cases h
    · dsimp only at hb
      split at h
      · split at h
        · simp only [Bool.and_eq_true, decide_eq_true_iff] at hb
          cases h; exact hb
        · cases h
      · cases h
    · dsimp only at hb
      split at h
      · rename_i h1
        rw [h1] at hb
        dsimp only at hb
        split at h
        · simp only [Bool.and_eq_true, decide_eq_true_iff] at hb
          cases h; exact ⟨hb.1.1, hb.1.2, hb.2⟩
        · cases h
      · cases h
    · cases h
  · cases h
def oAppendP (P : Program) (σ : List Blk) (ty : TypeId) (x y : A) : Bool := match elT P ty, y.toD σ with
  | some e, some (.lst ys) => match elB P e with
    | some (k, by') => match x with
      | .nl => decide (ys.length * by' ≤ 140737488355328) && decide (ys.length ≤ 9223372036854775807) && allLen k ys
      | .d (.lst _) => true
      | .sl b o n => match look σ b with
        | some (.arr k' xs) => decide (k' = k) && decide ((n + ys.length) * by' ≤ 140737488355328) && decide (n + ys.length ≤ 9223372036854775807) && decide (o + n ≤ xs.length) && allLen k ys
        | _ => false
      | _ => false
    | none => false
  | _, _ => false
theorem oAppendP_spec {P : Program} {σ : List Blk} {ty yt : TypeId} {x y : A} {o : Out} (h : oAppend P σ ty yt x y = some o) (hb : oAppendP P σ ty x y = true) : o.p := by
  unfold oAppend at h
  unfold oAppendP at hb
  split at h
  · rename_i h1 h2 h3
    rw [h1, h3] at hb
    dsimp only at hb
    split at h
    · rename_i h4
      rw [h4] at hb
      dsimp only at hb
      split at h
      · simp only [Bool.and_eq_true, decide_eq_true_iff] at hb
        cases h; exact ⟨hb.1.1, hb.1.2, allLen_spec hb.2⟩
      · split at h
        · cases h; trivial
        · cases h
      · dsimp only at hb
        split at h
        · rename_i h5
          rw [h5] at hb
          simp only [Bool.and_eq_true, decide_eq_true_iff] at hb
          cases h; exact ⟨hb.1.1.1.1, hb.1.1.1.2, hb.1.1.2, hb.1.2, allLen_spec hb.2⟩
        · cases h
      · cases h
    · cases h
  · cases h
def oClearP (P : Program) (σ : List Blk) (ty : TypeId) (x : A) : Bool := match elT P ty with
  | some e => match x with
    | .sl b o n => match n with
      | 0 => true
      | _ + 1 => match look σ b, zD P e, elB P e with
        | some (.arr k' xs), some z, some (k, _) => decide (k' = k) && decide (o + n ≤ xs.length) && decide (z.cells.length = k)
        | _, _, _ => false
    | _ => true
  | none => false
theorem oClearP_spec {P : Program} {σ : List Blk} {ty : TypeId} {x : A} {o : Out} (h : oClear P σ ty x = some o) (hb : oClearP P σ ty x = true) : o.p := by
  unfold oClear at h
  unfold oClearP at hb
  split at h
  · rename_i he
    rw [he] at hb
    dsimp only at hb
    split at h
    · cases h; trivial
    · cases h; trivial
    · dsimp only at hb
      split at h
      · cases h; trivial
      · dsimp only at hb
        split at h
        · rename_i h1 h2 h3
          rw [h1, h2, h3] at hb
          simp only [Bool.and_eq_true, decide_eq_true_iff] at hb
          cases h; exact ⟨hb.1.1, hb.1.2, hb.2⟩
        · cases h
    · cases h
  · cases h
def oBuiltinP (P : Program) (σ : List Blk) (b : Builtin) (xs : List A) (tys : List TypeId) : Bool := match b, xs, tys with
  | .append, [x, y], ty :: _ => oAppendP P σ ty x y
  | .clear, [x], ty :: _ => oClearP P σ ty x
  | _, _, _ => true
theorem oBuiltinP_spec {P : Program} {σ : List Blk} {b : Builtin} {xs : List A} {tys : List TypeId} {o : Out} (h : oBuiltin P σ b xs tys = some o) (hb : oBuiltinP P σ b xs tys = true) : o.p := by
  unfold oBuiltin at h
  split at h
  · split at h
    · unfold oLen at h
      split at h
      · split at h <;> cases h <;> trivial
      · split at h <;> cases h <;> trivial
      · split at h
        · split at h <;> cases h <;> trivial
        · cases h
      · cases h
    · cases h
  · split at h
    · exact oAppendP_spec h hb
    · cases h
  · split at h <;> cases h; trivial
  · split at h <;> cases h; trivial
  · split at h
    · exact oClearP_spec h hb
    · cases h
  · cases h
/-- What an operation asks for. -/
def opP (P : Program) (t : Nat → Option A) (σ : List Blk) (o : Op) : Bool := match o with
  | .buildSlice ty len parts => match evP t parts.toList with
    | some ps => oBuildSliceP P σ ty len ps
    | none => false
  | .store ty x y => on2B (ev t x) (ev t y) (oStoreP σ (szT P ty))
  | .binOp op ty x y _ => match nilK y with
    | .sl => true
    | .ifc => true
    | .no => on2B (ev t x) (ev t y) (oBinP P op ty)
  | .unOp op _ x => on1B (ev t x) (oUnP op)
  | .convert _ _ x => on1B (ev t x) oConvP
  | .makeSlice ty l c => on2B (ev t l) (ev t c) (oMakeP P ty)
  | .slice ty x lo hi mx => on1B (ev t x) (oSliceP P t σ ty lo hi mx)
  | .indexAddr ty x i => on2B (ev t x) (ev t i) (oIndexAddrP P σ ty)
  | .call { callee := .builtin b, args, argTypes } => match evL t args.toList with
    | some xs => oBuiltinP P σ b xs argTypes.toList
    | none => false
  | _ => true
theorem on1_p {x : Option A} {f : A → Option Out} {g : A → Bool} {o : Out} (h : on1 x f = some o) (hb : on1B x g = true) (hf : ∀ a, f a = some o → g a = true → o.p) : o.p := by
  obtain ⟨a, rfl, h1⟩ := on1_some h
  exact hf a h1 hb
theorem on2_p {x y : Option A} {f : A → A → Option Out} {g : A → A → Bool} {o : Out} (h : on2 x y f = some o) (hb : on2B x y g = true) (hf : ∀ a b, f a b = some o → g a b = true → o.p) : o.p := by
  obtain ⟨a, b, rfl, rfl, h1⟩ := on2_some h
  exact hf a b h1 hb
theorem on1_v {x : Option A} {f : A → Option Out} {o : Out} (h : on1 x f = some o) (hf : ∀ a, f a = some o → o.p) : o.p := by
  obtain ⟨a, _, h1⟩ := on1_some h
  exact hf a h1
theorem on2_v {x y : Option A} {f : A → A → Option Out} {o : Out} (h : on2 x y f = some o) (hf : ∀ a b, f a b = some o → o.p) : o.p := by
  obtain ⟨a, b, _, _, h1⟩ := on2_some h
  exact hf a b h1
theorem on3_v {x y z : Option A} {f : A → A → A → Option Out} {o : Out} (h : on3 x y z f = some o) (hf : ∀ a b c, f a b c = some o → o.p) : o.p := by
  obtain ⟨a, b, c, _, _, _, h1⟩ := on3_some h
  exact hf a b c h1
theorem oMapUpdate_p {P : Program} {σ : List Blk} {ty : TypeId} {x k v : A} {o : Out} (h : oMapUpdate P σ ty x k v = some o) : o.p := by
  unfold oMapUpdate at h
  split at h
  · split at h
    · split at h
      · split at h
        · split at h <;> cases h <;> trivial
        · cases h
      · cases h
    · cases h
  · cases h
theorem opP_spec {P : Program} {t : Nat → Option A} {σ : List Blk} {o : Op} {out : Out} (h : opEval P t σ o = some out) (hb : opP P t σ o = true) : out.p := by
  unfold opEval at h
  split at h
  · exact on1_v h fun a h => by cases h; trivial
  · exact on1_v h fun a h => by cases h; trivial
  · refine on1_v h fun a h => on2_v h fun b c h => ?_
    unfold oPick at h
    split at h <;> cases h; trivial
  · unfold oAlloc at h
    split at h
    · split at h <;> cases h; trivial
    · cases h
  · refine on1_v h fun a h => ?_
    split at h <;> cases h; trivial
  · split at h
    · unfold oBuild at h
      split at h
      · split at h
        · split at h <;> cases h; trivial
        · cases h
      · cases h
    · cases h
  · simp only [opP] at hb
    split at h
    · rename_i h1
      rw [h1] at hb
      exact oBuildSliceP_spec h hb
    · cases h
  · refine on1_v h fun a h => ?_
    unfold oLoad at h
    split at h
    · split at h
      · split at h <;> cases h; trivial
      · cases h
    · split at h
      · split at h
        · split at h <;> cases h; trivial
        · cases h
      · cases h
    · split at h <;> cases h; trivial
    · cases h
  · exact on2_p h hb fun a b h => oStoreP_spec h
  · refine on1_v h fun a h => ?_
    unfold oNil at h
    split at h <;> cases h <;> trivial
  · simp only [opP] at hb
    split at h
    · refine on1_v h fun a h => ?_
      unfold oNilCmp at h
      have key : ∀ {op : BinOp} {o : Out}, oNilCmp.oNo op = some o → o.p := fun h => by
        unfold oNilCmp.oNo at h
        split at h <;> cases h <;> trivial
      split at h
      · split at h
        · exact key h
        · exact key h
        · cases h
      · cases h
    · refine on1_v h fun a h => ?_
      unfold oErrCmp at h
      have key : ∀ {op : BinOp} {b : Bool} {o : Out}, oErrCmp.eqB op b = some o → o.p := fun h => by
        unfold oErrCmp.eqB at h
        split at h <;> cases h <;> trivial
      split at h
      · split at h
        · exact key h
        · exact key h
        · cases h
      · cases h
    · rename_i h1
      rw [h1] at hb
      exact on2_p h hb fun a b h => oBinP_spec h
  · exact on1_p h hb fun a h => oUnP_spec h
  · exact on1_p h hb fun a h => oConvP_spec h
  · split at h <;> cases h; trivial
  · cases h; trivial
  · refine on2_v h fun a b h => ?_
    unfold oLookup at h
    split at h
    · split at h
      · split at h
        · split at h
          · split at h
            · cases h; trivial
            · split at h <;> cases h; trivial
            · cases h
          · cases h
        · split at h <;> cases h; trivial
        · cases h
      · cases h
    · cases h
  · exact on3_v h fun a b c h => oMapUpdate_p h
  · exact on3_v h fun a b c h => oMapUpdate_p h
  · exact on2_p h hb fun a b h => oMakeP_spec h
  · exact on1_p h hb fun a h => oSliceP_spec h
  · refine on1_v h fun a h => ?_
    unfold oFieldAddr at h
    split at h
    · split at h
      · split at h <;> cases h <;> trivial
      · cases h
    · cases h
  · refine on1_v h fun a h => ?_
    unfold oField at h
    split at h
    · split at h
      · split at h <;> cases h; trivial
      · split at h <;> cases h; trivial
      · cases h
    · cases h
  · exact on2_p h hb fun a b h => oIndexAddrP_spec h
  · refine on2_v h fun a b h => ?_
    unfold oIndex at h
    split at h
    · split at h
      · split at h
        · split at h <;> cases h; trivial
        · cases h
      · cases h
    · split at h
      · split at h
        · split at h
          · split at h <;> cases h; trivial
          · cases h
        · cases h
      · cases h
    · cases h
  · refine on1_v h fun a h => ?_
    unfold oExtract at h
    split at h
    · split at h <;> cases h; trivial
    · cases h
  · refine on1_v h fun a h => ?_
    unfold oRange at h
    split at h
    · split at h <;> cases h; trivial
    · cases h
  · refine on1_v h fun a h => ?_
    unfold oNext at h
    split at h
    · split at h
      · split at h <;> cases h <;> trivial
      · cases h
    · cases h
  · simp only [opP] at hb
    split at h
    · rename_i h1
      rw [h1] at hb
      exact oBuiltinP_spec h hb
    · cases h
  · cases h
end Go.AM
end
section
namespace Go.AM
open Go.RowKit
set_option linter.unusedVariables false
set_option linter.unusedSimpArgs false

/-- A loop that ends within n rounds. -/
def LP (C : Ctx) (K : Nat) : Nat → Code → (Exit → St → Prop) → St → Prop
  | 0, _, _, _ => False
  | n + 1, c, Q, s => AW C K c (EThen (LP C K n c Q) Q) s
theorem LP.loop {C : Ctx} {K n : Nat} {c : Code} {Q : Exit → St → Prop} {s : St} (h : LP C K n c Q s) : AW C K (.loop c) Q s := by
  refine AW.loop (fun n s => LP C K n c Q s) n h ?_
  intro n s h
  cases n with
  | zero => exact h.elim
  | succ n =>
    refine AW.mono h ?_
    intro e s' h'
    cases e with
    | normal => exact ⟨n, Nat.lt_succ_self n, h'⟩
    | _ => exact h'

inductive XI where
  | code (c : Code)
  | blk (id : Nat)
  | scp
  | inl (n : Nat) (c : Code)
  | ops (ops : Array Oper) (rest : List Oper)
  | dops (ops : Array Oper) (rest : List Oper) (as_ : List Nat) (es : List Ent)
def XA (C : Ctx) (K : Nat) (Q : Exit → St → Prop) : List XI → Exit → St → Prop
  | [], e, s => Q e s
  | .code c :: k, .normal, s => AW C K c (XA C K Q k) s
  | .blk _ :: k, .normal, s => XA C K Q k .normal s
  | .scp :: _, .goto _, _ => False
  | .scp :: k, .normal, s => XA C K Q k .normal s
  | .blk id :: k, .exit id', s => if id' = id then XA C K Q k .normal s else XA C K Q k (.exit id') s
  | .inl n c :: k, .normal, s => LP C K n c (XA C K Q k) s
  | .ops ops rest :: k, .normal, s => AOps C K ops (XA C K Q k) rest s
  | .dops ops rest as_ es :: k, .normal, s => TG C ops (XA C K Q k .normal) rest as_ es s
  | _ :: k, e, s => XA C K Q k e s
def outX (id : Nat) : List XI → Option (List XI)
  | [] => none
  | .blk i :: k => match decide (id = i) with
    | true => some k
    | false => outX id k
  | _ :: k => outX id k
section
variable {C : Ctx} {K : Nat} {Q : Exit → St → Prop} {s : St}
theorem XA.out {id : Nat} : ∀ {k k' : List XI}, outX id k = some k' → XA C K Q k' .normal s → XA C K Q k (.exit id) s
  | [], _, h, _ => by cases h
  | .blk i :: k, k', h, hk => by
    rw [outX] at h
    rw [XA]
    by_cases e : id = i
    · rw [if_pos e]
      simp only [decide_eq_true e, Option.some.injEq] at h
      subst h; exact hk
    · rw [if_neg e]
      simp only [decide_eq_false e] at h
      exact XA.out h hk
  | .code c :: k, k', h, hk => XA.out (k := k) h hk
  | .inl n c :: k, k', h, hk => XA.out (k := k) h hk
  | .ops _ _ :: k, k', h, hk => XA.out (k := k) h hk
  | .dops _ _ _ _ :: k, k', h, hk => XA.out (k := k) h hk
  | .scp :: k, k', h, hk => XA.out (k := k) h hk
theorem XA.ret : ∀ {k : List XI}, Q .ret s → XA C K Q k .ret s
  | [], hk => hk
  | .blk i :: k, hk => XA.ret (k := k) hk
  | .code c :: k, hk => XA.ret (k := k) hk
  | .inl n c :: k, hk => XA.ret (k := k) hk
  | .ops _ _ :: k, hk => XA.ret (k := k) hk
  | .dops _ _ _ _ :: k, hk => XA.ret (k := k) hk
  | .scp :: k, hk => XA.ret (k := k) hk
end

/-! Results. -/
def resX (P : Program) (t : Nat → Option A) (σ : List Blk) : List ResultVar → Option (List A)
  | [] => some []
  | .tmp k :: r => match t k, resX P t σ r with
    | some x, some l => some (x :: l)
    | _, _ => none
  | .cell k ty :: r => match t k with
    | some (.ptr b off) => match oLoad P σ ty (.ptr b off), resX P t σ r with
      | some o, some l => some (o.v 0 :: l)
      | _, _ => none
    | _ => none
theorem resX_eq {P : Program} {x : XS} {s : St} (h : Fit x s) : ∀ rs, resX P x.t.get x.σ rs = resA P rs s
  | [] => rfl
  | .tmp k :: r => by rw [resX, resA, resX_eq h r, h.t]; rfl
  | .cell k ty :: r => by rw [resX, resA, resX_eq h r, h.t, h.σ]; rfl

/-- What comes out, or where it ended. -/
inductive RC (α : Type) where
  | ok (a : α)
  | bad (n : Nat) (o : Op) (xs : List A)
abbrev Run := List XI → XS → RC (Exit × XS)
/-- A body run: its results and blocks. -/
noncomputable def xcall (P : Program) (run : Run) (f : FuncId) (args : List A) (σc : List Blk) : RC (List A × List Blk) := match P.funcs[f]? with
  | some fn => match fn.body with
    | some c => match callable P f && decide (args.length ≤ fn.ntmps) && decide (fn.ntmps < 65535) with
      | true => match run [.code c] ⟨putL 0 .e args, σc, fn.ntmps⟩ with
        | .ok (e, x) => match e with
          | .normal => match resX P x.t.get x.σ fn.results.toList with
            | some l => .ok (l, x.σ)
            | none => .bad 1 (.ready f) args
          | .ret => match resX P x.t.get x.σ fn.results.toList with
            | some l => .ok (l, x.σ)
            | none => .bad 1 (.ready f) args
          | _ => .bad 2 (.ready f) args
        | .bad n o xs => .bad n o (.ptr f 0 :: xs)
      | false => .bad 3 (.ready f) args
    | none => .bad 4 (.ready f) args
  | none => .bad 5 (.ready f) args
def endPure (l : List A) (σ : List Blk) : Option A := match toR σ l with
  | some r => match r.bnd 0 with
    | true => some r
    | false => none
  | none => none
def listN (n : Nat) : List Nat := upF 0 n
def endFull (K : Nat) (l : List A) (σ : List Blk) : Option (List A × List Blk) :=
  match reachN σ (σ.length + 1) (addN (listN K) (A.bsL l)) 0 with
  | ρ => match nodupB ρ && decide (ρ.take K = listN K) && decide (K ≤ ρ.length), backL ρ l, takeB ρ σ ρ with
    | true, some l', some σ' => some (l', σ')
    | _, _, _ => none
inductive XO where
  | val (r : A)
  | out (ρ : List Nat) (K : Nat) (r : A) (σ' : List Blk)
abbrev Orc := FuncId → List A → List Blk → Option (A × List Blk)
noncomputable def xop (P : Program) (orc : Orc) (run : Run) (t : Nat → Option A) (σ : List Blk) (o : Op) : RC XO := match callOf t o with
  | some (f, as_) => match pureL (as_.map (argA σ)) with
    | true => match orc f (as_.map (argA σ)) [] with
      | some (r, σ') => match σ' with
        | [] => match r.bnd 0 with
          | true => .ok (.val r)
          | false => .bad 6 (.ready f) as_
        | k :: ks => match r.bnd (k :: ks).length && bndS (k :: ks).length (k :: ks) with
          | true => .ok (.out [] 0 r (k :: ks))
          | false => .bad 6 (.ready f) as_
      | none => match xcall P run f (as_.map (argA σ)) [] with
        | .ok (l, σ1) => match endPure l σ1 with
          | some r => .ok (.val r)
          | none => match endFull 0 l σ1 with
            | some (l', σ') => .ok (.out [] 0 (resT l') σ')
            | none => .bad 7 (.ready f) l
        | .bad n o xs => .bad n o xs
    | false => match reachN σ (σ.length + 1) (addN [] (A.bsL (as_.map (argA σ)))) 0 with
      | ρ => match nodupB ρ, giveL ρ σ as_, takeB ρ σ ρ with
        | true, some args, some σc => match orc f args σc with
          | some (r, σ') => match r.bnd σ'.length && bndS σ'.length σ' && Nat.ble σc.length σ'.length with
            | true => .ok (.out ρ ρ.length r σ')
            | false => .bad 6 (.ready f) as_
          | none => match xcall P run f args σc with
            | .ok (l, σ1) => match endFull ρ.length l σ1 with
              | some (l', σ') => .ok (.out ρ ρ.length (resT l') σ')
              | none => .bad 8 (.ready f) l
            | .bad n o xs => .bad n o xs
        | _, _, _ => .bad 9 (.ready f) as_
  | none => .bad 10 o []

/-- One step. -/
noncomputable def xstep (P : Program) (orc : Orc) (run : Run) : List XI → XS → RC (Exit × XS)
  | [], s => .ok (.normal, s)
  | .blk _ :: k, s => run k s
  | .scp :: k, s => run k s
  | .inl n c :: k, s => match n with
    | 0 => .bad 11 (.ready 0) []
    | n + 1 => run (.code c :: .inl n c :: k) s
  | .ops ops l :: k, s => match l with
    | [] => run k s
    | o :: rest => match guardOf ops s.t.get o.guard with
      | .stuck => .bad 12 o.op []
      | .no => run (.ops ops rest :: k) (s.put o.dst (.tup []))
      | .ask false => run (.ops ops rest :: k) (s.put o.dst (.tup []))
      | _ => match isCall o.op with
        | false => match opEval P s.t.get s.σ o.op with
          | some out => match opP P s.t.get s.σ o.op with
            | true => run (.ops ops rest :: k) (s.app o.dst out)
            | false => .bad 13 o.op []
          | none => .bad 14 o.op []
        | true => match xop P orc run s.t.get s.σ o.op with
          | .ok (.val r) => run (.ops ops rest :: k) (s.put o.dst r)
          | .ok (.out ρ K r σ') => run (.ops ops rest :: k) (s.app o.dst (callOut ρ [] K s.σ.length r σ'))
          | .bad n o xs => .bad n o xs
  | .dops ops l as_ es :: k, s => match l with
    | [] => run k s
    | o :: rest => match backOk es.length (onsOf o.after.toList), ancUp as_ (onsOf o.after.toList) with
      | false, _ => .bad 17 o.op []
      | true, an => match guardOf ops s.t.get o.guard with
        | .stuck => .bad 12 o.op []
        | .no => match checkPre an (skipE ops o) 0 es with
          | true => run (.dops ops rest (as_ ++ [an]) (es ++ [skipE ops o]) :: k) (s.put o.dst (.tup []))
          | false => .bad 19 o.op []
        | .ask false => match checkPre an (skipE ops o) 0 es with
          | true => run (.dops ops rest (as_ ++ [an]) (es ++ [skipE ops o]) :: k) (s.put o.dst (.tup []))
          | false => .bad 19 o.op []
        | _ => match isCall o.op with
          | false => match opEval P s.t.get s.σ o.op with
            | some out => match opP P s.t.get s.σ o.op && inB s.σ.length out.upd && checkPre an (opE' ops o s out) 0 es with
              | true => run (.dops ops rest (as_ ++ [an]) (es ++ [opE' ops o s out]) :: k) (s.app o.dst out)
              | false => .bad 15 o.op []
            | none => .bad 16 o.op []
          | true => match xop P orc run s.t.get s.σ o.op with
            | .ok (.val r) => match checkPre an (callE ops o r) 0 es with
              | true => run (.dops ops rest (as_ ++ [an]) (es ++ [callE ops o r]) :: k) (s.put o.dst r)
              | false => .bad 18 o.op []
            | .ok (.out ρ K r σ') => match inB s.σ.length (callOut ρ [] K s.σ.length r σ').upd && checkPre an (callSE' ops o s ρ K r σ') 0 es with
              | true => run (.dops ops rest (as_ ++ [an]) (es ++ [callSE' ops o s ρ K r σ']) :: k) (s.app o.dst (callOut ρ [] K s.σ.length r σ'))
              | false => .bad 18 o.op []
            | .bad n o xs => .bad n o xs
  | .code c :: k, s => match c with
    | .skip => run k s
    | .label _ => run k s
    | .seq a b => run (.code a :: .code b :: k) s
    | .block id c => run (.code c :: .blk id :: k) s
    | .scope c => run (.code c :: .scp :: k) s
    | .region _ ops false => run (.ops ops ops.toList :: k) s
    | .region _ ops true => run (.dops ops ops.toList [] [] :: k) s
    | .exit id => match outX id k with
      | some k' => run k' s
      | none => .bad 20 (.ready id) []
    | .ret => .ok (.ret, s)
    | .cond x a b => match ev s.t.get x with
      | some (.d (.v (.bool true))) => run (.code a :: k) s
      | some (.d (.v (.bool false))) => run (.code b :: k) s
      | _ => .bad 21 (.ready 0) []
    | .loop c => run (.inl 1000000 c :: k) s
    | _ => .bad 22 (.ready 0) []
where
  opE' (ops : Array Oper) (o : Oper) (s : XS) (out : Out) : Ent := ⟨o.dst, out.v s.σ.length, opTmps o.op ++ gdTmps ops o.guard, opReads s.t.get o.op, out.upd ++ zipN s.σ.length (out.new s.σ.length), (out.new s.σ.length).length⟩
  callSE' (ops : Array Oper) (o : Oper) (s : XS) (ρ : List Nat) (K : Nat) (r : A) (σ' : List Blk) : Ent :=
    ⟨o.dst, r.ren (rho2 ρ K s.σ.length σ'.length), opTmps o.op ++ gdTmps ops o.guard, ρ ++ [], (callOut ρ [] K s.σ.length r σ').upd ++ zipN s.σ.length ((callOut ρ [] K s.σ.length r σ').new s.σ.length), ((callOut ρ [] K s.σ.length r σ').new s.σ.length).length⟩
/-- The runner. -/
noncomputable def xr (P : Program) (orc : Orc) (f : Nat) : Run := @Nat.rec (fun _ => Run) (fun _ _ => .bad 0 (.ready 0) []) (fun _ ih => xstep P orc ih) f

def Snd (C : Ctx) (run : Run) : Prop := ∀ (k : List XI) (x x' : XS) (s : St) (e : Exit), Fit x s → run k x = .ok (e, x') → ∀ (K : Nat) (Q : Exit → St → Prop), (∀ s', Fit x' s' → Q e s') → XA C K Q k .normal s
def OrcOk (C : Ctx) (orc : Orc) : Prop := ∀ f args σc r σ', orc f args σc = some (r, σ') → Fn C σc.length f args σc r σ'

theorem listN_eq (n : Nat) : listN n = List.range n := by
  apply List.ext_getElem?
  intro i
  by_cases h : i < n
  · rw [List.getElem?_range h]
    have h1 : i < (listN n).length := by rw [listN, upF_len]; exact h
    rw [List.getElem?_eq_getElem h1]
    have := upF_get (n := n) (nb := 0) (i := i) (b := (listN n)[i]) (by rw [← List.getElem?_eq_getElem h1]; rfl)
    rw [this.1, Nat.zero_add]
  · rw [List.getElem?_eq_none (by rw [listN, upF_len]; omega), List.getElem?_eq_none (by simp; omega)]
section
variable {C : Ctx} {run : Run}
theorem XA.one {K : Nat} {Q : Exit → St → Prop} {c : Code} {s : St} (h : XA C K Q [.code c] .normal s) : AK C K Q [.code c] s := h
theorem xcall_spec (hs : Snd C run) {f : FuncId} {args : List A} {σc : List Blk} {l : List A} {σ1 : List Blk} (h : xcall C.P run f args σc = .ok (l, σ1)) :
    ∃ fn c, C.P.funcs[f]? = some fn ∧ callable C.P f = true ∧ fn.body = some c ∧ args.length ≤ fn.ntmps ∧ ∀ (K : Nat) (Q : Exit → St → Prop), (∀ s', (resA C.P fn.results.toList s' = some l ∧ s'.σ = σ1) → Q .normal s' ∧ Q .ret s') → AK C K Q [.code c] ⟨argT 0 args, σc, fn.ntmps⟩ := by
  unfold xcall at h
  split at h
  · rename_i fn h1
    split at h
    · rename_i c h2
      split at h
      · rename_i h3
        simp only [Bool.and_eq_true, decide_eq_true_iff] at h3
        refine ⟨fn, c, h1, h3.1.1, h2, h3.1.2, fun K Q hQ => ?_⟩
        split at h
        · rename_i e x h4
          have key : ∀ (hx : ∀ s', Fit x s' → Q e s'), AK C K Q [.code c] ⟨argT 0 args, σc, fn.ntmps⟩ := fun hx => XA.one (hs _ _ _ _ _ (Fit.init h3.1.2 h3.2) h4 K Q hx)
          split at h
          · split at h
            · rename_i l' h5
              cases h
              exact key fun s' hf => (hQ s' ⟨by rw [← resX_eq hf]; exact h5, hf.σ.symm⟩).1
            · cases h
          · split at h
            · rename_i l' h5
              cases h
              exact key fun s' hf => (hQ s' ⟨by rw [← resX_eq hf]; exact h5, hf.σ.symm⟩).2
            · cases h
          · cases h
        · cases h
      · cases h
    · cases h
  · cases h
theorem pure_spec (hs : Snd C run) {f : FuncId} {args : List A} {l : List A} {σ1 : List Blk} {r : A} (h : xcall C.P run f args [] = .ok (l, σ1)) (hr : endPure l σ1 = some r) : Fn C 0 f args [] r [] ∧ r.bnd 0 = true := by
  obtain ⟨fn, c, h1, h2, h3, h4, h5⟩ := xcall_spec hs h
  unfold endPure at hr
  split at hr
  · rename_i r' h6
    split at hr
    · rename_i h7
      cases hr
      refine ⟨Fn.body h1 h2 h3 h4 (h5 0 _ ?_), h7⟩
      rintro s' ⟨g1, rfl⟩
      constructor
      · show (match resA C.P fn.results.toList s' with
          | some l => toR s'.σ l = some r
          | none => False)
        rw [g1]; exact h6
      · show (match resA C.P fn.results.toList s' with
          | some l => toR s'.σ l = some r
          | none => False)
        rw [g1]; exact h6
    · cases hr
  · cases hr
theorem resT_bnd {n : Nat} {l : List A} (h : A.bndL n l = true) : (resT l).bnd n = true := by
  unfold resT
  split
  · rw [A.bndL, Bool.and_eq_true] at h; exact h.1
  · exact h
theorem full_spec (hs : Snd C run) {f : FuncId} {args : List A} {σc : List Blk} {l l' : List A} {σ1 σ' : List Blk} {K : Nat} (h : xcall C.P run f args σc = .ok (l, σ1)) (hr : endFull K l σ1 = some (l', σ')) : Fn C K f args σc (resT l') σ' ∧ (resT l').bnd σ'.length = true ∧ bndS σ'.length σ' = true ∧ K ≤ σ'.length := by
  obtain ⟨fn, c, h1, h2, h3, h4, h5⟩ := xcall_spec hs h
  unfold endFull at hr
  generalize reachN σ1 (σ1.length + 1) (addN (listN K) (A.bsL l)) 0 = ρ at hr
  dsimp only at hr
  split at hr
  · rename_i l2 σ2 g1 g2 g3
    cases hr
    simp only [Bool.and_eq_true, decide_eq_true_iff] at g1
    obtain ⟨p1, p2⟩ := takeB_spec g3
    have hlen := subS_len p1
    obtain ⟨q1, q2, q3⟩ := backL_spec (σ := σ1) g2
    rw [hlen] at p2 q3
    refine ⟨Fn.bodyS h1 h2 h3 h4 (h5 K _ ?_), resT_bnd q3, p2, by rw [← hlen]; exact g1.2⟩
    rintro s' ⟨e1, rfl⟩
    have key : PostR C.P fn.results.toList K l' σ' s' := by
      unfold PostR
      rw [e1]
      refine ⟨ρ, ?_, nodupB_spec g1.1.1, q1, ?_⟩
      · rw [idTo, g1.1.2, listN_eq]
      · rw [q2]; exact p1
    exact ⟨key, key⟩
  · cases hr
theorem pure_give {σ : List Blk} : ∀ {as_ : List A}, pureL (as_.map (argA σ)) = true → giveL [] σ as_ = some (as_.map (argA σ))
  | [], _ => rfl
  | x :: r, h => by
    rw [List.map_cons, pureL, Bool.and_eq_true] at h
    have hx : giveA [] σ x = some (argA σ x) := by
      unfold giveA
      generalize argA σ x = y at h
      cases y with
      | d z => rfl
      | fn f a b =>
        cases a <;> cases b <;> simp [pureA] at h
        rfl
      | _ => simp [pureA] at h
    rw [giveL, hx, pure_give h.2]; rfl
/-- What a call of the runner stands for. -/
def XOk (C : Ctx) (t : Nat → Option A) (σ : List Blk) (o : Op) : XO → Prop
  | .val r => ∃ f as_, callOf t o = some (f, as_) ∧ Fn C 0 f (as_.map (argA σ)) [] r [] ∧ (∀ x ∈ as_.map (argA σ), pureA x = true) ∧ r.bnd 0 = true
  | .out ρ K r σ' => ∃ f as_ args σc, callOf t o = some (f, as_) ∧ CallIn C σ f as_ ρ K args σc r σ' ∧ fitsK as_ args = []
theorem xop_spec (hs : Snd C run) {orc : Orc} (ho : OrcOk C orc) {t : Nat → Option A} {σ : List Blk} {o : Op} {q : XO} (h : xop C.P orc run t σ o = .ok q) : XOk C t σ o q := by
  unfold xop at h
  split at h
  · rename_i f as_ hc
    split at h
    · rename_i hp
      split at h
      · rename_i r σ' hr
        split at h
        · split at h
          · rename_i hb
            cases h
            exact ⟨f, as_, hc, ho _ _ _ _ _ hr, pureL_all hp, hb⟩
          · cases h
        · split at h
          · rename_i hb
            cases h
            rw [Bool.and_eq_true] at hb
            obtain ⟨g1, g2⟩ := giveL_spec (pure_give hp)
            exact ⟨f, as_, _, [], hc, ⟨List.nodup_nil, Nat.le_refl _, Nat.zero_le _, g1, trivial, hb.1, hb.2, ho _ _ _ _ _ hr⟩, g2⟩
          · cases h
      · split at h
        · rename_i l σ1 hx
          split at h
          · rename_i r hr
            cases h
            obtain ⟨h1, h2⟩ := pure_spec hs hx hr
            exact ⟨f, as_, hc, h1, pureL_all hp, h2⟩
          · split at h
            · rename_i l' σ' hf
              cases h
              obtain ⟨h1, h2, h3, h4⟩ := full_spec hs hx hf
              obtain ⟨g1, g2⟩ := giveL_spec (pure_give hp)
              exact ⟨f, as_, _, [], hc, ⟨List.nodup_nil, Nat.le_refl _, h4, g1, trivial, h2, h3, h1⟩, g2⟩
            · cases h
        · cases h
    · generalize reachN σ (σ.length + 1) (addN [] (A.bsL (as_.map (argA σ)))) 0 = ρ at h
      dsimp only at h
      split at h
      · rename_i args σc n1 n2 n3
        split at h
        · rename_i r σ' hr
          split at h
          · rename_i hb
            cases h
            rw [Bool.and_eq_true, Bool.and_eq_true] at hb
            obtain ⟨g1, g2⟩ := giveL_spec n2
            obtain ⟨k1, k2⟩ := takeB_spec n3
            have hlen := subS_len k1
            have h1 := ho _ _ _ _ _ hr
            have h4 := Nat.le_of_ble_eq_true hb.2
            rw [← hlen] at h1 h4
            exact ⟨f, as_, args, σc, hc, ⟨nodupB_spec n1, Nat.le_refl _, h4, g1, by rw [g2]; exact k1, hb.1.1, hb.1.2, h1⟩, g2⟩
          · cases h
        · split at h
          · rename_i l σ1 hx
            split at h
            · rename_i l' σ' hf
              cases h
              obtain ⟨h1, h2, h3, h4⟩ := full_spec hs hx hf
              obtain ⟨g1, g2⟩ := giveL_spec n2
              obtain ⟨k1, k2⟩ := takeB_spec n3
              exact ⟨f, as_, args, σc, hc, ⟨nodupB_spec n1, Nat.le_refl _, h4, g1, by rw [g2]; exact k1, h2, h3, h1⟩, g2⟩
            · cases h
          · cases h
      · cases h
  · cases h

theorem xstep_spec (hs : Snd C run) {orc : Orc} (ho : OrcOk C orc) : Snd C (xstep C.P orc run) := by
  intro k x x' s e hf h K Q hQ
  have go : ∀ {k : List XI} {y : XS} {s1 : St}, Fit y s1 → run k y = .ok (e, x') → XA C K Q k .normal s1 := fun hf h => hs _ _ _ _ _ hf h K Q hQ
  cases k with
  | nil => cases h; exact hQ s hf
  | cons it k =>
    cases it with
    | blk id => exact go (k := k) hf h
    | scp => exact go (k := k) hf h
    | inl n c =>
      cases n with
      | zero => cases h
      | succ n =>
        have := go (k := .code c :: .inl n c :: k) hf h
        refine AW.mono this ?_
        intro e s' h'
        cases e <;> exact h'
    | ops ops l =>
      cases l with
      | nil => exact AOps.nil (go (k := k) hf h)
      | cons o rest =>
        show AOps C K ops (XA C K Q k) (o :: rest) s
        have yes : (guardOf ops (getT s.t) o.guard = .yes ∨ guardOf ops (getT s.t) o.guard = .ask true) → (match isCall o.op with
        | false => match opEval C.P x.t.get x.σ o.op with
          | some out => match opP C.P x.t.get x.σ o.op with
            | true => run (.ops ops rest :: k) (x.app o.dst out)
            | false => .bad 13 o.op []
          | none => .bad 14 o.op []
        | true => match xop C.P orc run x.t.get x.σ o.op with
          | .ok (.val r) => run (.ops ops rest :: k) (x.put o.dst r)
          | .ok (.out ρ K r σ') => run (.ops ops rest :: k) (x.app o.dst (callOut ρ [] K x.σ.length r σ'))
          | .bad n o xs => .bad n o xs) = .ok (e, x') → AOps C K ops (XA C K Q k) (o :: rest) s := by
          intro hg h
          split at h
          · split at h
            · rename_i out ho'
              split at h
              · rename_i hp
                rw [hf.t, hf.σ] at ho' hp
                exact AOps.op hg ho' (opP_spec ho' hp) (go (k := .ops ops rest :: k) (hf.app o.dst out) h)
              · cases h
            · cases h
          · split at h
            · rename_i r hx
              rw [hf.t, hf.σ] at hx
              obtain ⟨f, as_, hc, h1, h2, h3⟩ := xop_spec hs ho hx
              exact AOps.call hg hc h1 h2 h3 (go (k := .ops ops rest :: k) (hf.put o.dst r) h)
            · rename_i ρ K' r σ' hx
              rw [hf.t, hf.σ] at hx
              obtain ⟨f, as_, args, σc, hc, h1, h2⟩ := xop_spec hs ho hx
              have := AOps.callS (K := K) (Q := XA C K Q k) (rest := rest) hg hc h1
              rw [h2] at this
              have hap := hf.app o.dst (callOut ρ [] K' x.σ.length r σ')
              rw [hf.σ] at hap h
              exact this (go (k := .ops ops rest :: k) hap h)
            · cases h
        rw [xstep] at h
        try dsimp only at h
        rw [hf.t] at h
        cases hgd : guardOf ops (getT s.t) o.guard with
        | stuck => rw [hgd] at h; cases h
        | no =>
          rw [hgd] at h
          exact AOps.skip (.inl hgd) (go (k := .ops ops rest :: k) (hf.put o.dst _) h)
        | yes => rw [hgd] at h; rw [← hf.t] at h; exact yes (.inl hgd) h
        | ask b =>
          cases b with
          | false =>
            rw [hgd] at h
            exact AOps.skip (.inr hgd) (go (k := .ops ops rest :: k) (hf.put o.dst _) h)
          | true => rw [hgd] at h; rw [← hf.t] at h; exact yes (.inr hgd) h
    | dops ops l as_ es =>
      cases l with
      | nil => exact go (k := k) hf h
      | cons o rest =>
        show TG C ops (XA C K Q k .normal) (o :: rest) as_ es s
        rw [TG]
        rw [xstep] at h
        try dsimp only at h
        split at h
        · cases h
        rename_i hb
        refine ⟨hb, ?_⟩
        have yes : (guardOf ops (getT s.t) o.guard = .yes ∨ guardOf ops (getT s.t) o.guard = .ask true) → (match isCall o.op with
          | false => match opEval C.P x.t.get x.σ o.op with
            | some out => match opP C.P x.t.get x.σ o.op && inB x.σ.length out.upd && checkPre (ancUp as_ (onsOf o.after.toList)) (xstep.opE' ops o x out) 0 es with
              | true => run (.dops ops rest (as_ ++ [ancUp as_ (onsOf o.after.toList)]) (es ++ [xstep.opE' ops o x out]) :: k) (x.app o.dst out)
              | false => .bad 15 o.op []
            | none => .bad 16 o.op []
          | true => match xop C.P orc run x.t.get x.σ o.op with
            | .ok (.val r) => match checkPre (ancUp as_ (onsOf o.after.toList)) (callE ops o r) 0 es with
              | true => run (.dops ops rest (as_ ++ [ancUp as_ (onsOf o.after.toList)]) (es ++ [callE ops o r]) :: k) (x.put o.dst r)
              | false => .bad 18 o.op []
            | .ok (.out ρ K r σ') => match inB x.σ.length (callOut ρ [] K x.σ.length r σ').upd && checkPre (ancUp as_ (onsOf o.after.toList)) (xstep.callSE' ops o x ρ K r σ') 0 es with
              | true => run (.dops ops rest (as_ ++ [ancUp as_ (onsOf o.after.toList)]) (es ++ [xstep.callSE' ops o x ρ K r σ']) :: k) (x.app o.dst (callOut ρ [] K x.σ.length r σ'))
              | false => .bad 18 o.op []
            | .bad n o xs => .bad n o xs) = .ok (e, x') → ∃ e s1, Did C ops o s e s1 ∧ checkPre (ancUp as_ (onsOf o.after.toList)) e 0 es = true ∧ TG C ops (XA C K Q k .normal) rest (as_ ++ [ancUp as_ (onsOf o.after.toList)]) (es ++ [e]) s1 := by
          intro hg h
          split at h
          · split at h
            · rename_i out ho'
              split at h
              · rename_i hp
                simp only [Bool.and_eq_true] at hp
                have e1 : xstep.opE' ops o x out = opE ops o s out := by rw [xstep.opE', opE, hf.t, hf.σ]
                rw [e1] at hp h
                rw [hf.t, hf.σ] at ho' hp
                exact ⟨_, _, .op hg ho' (opP_spec ho' hp.1.1) hp.1.2, hp.2, go (k := .dops ops rest _ _ :: k) (hf.app o.dst out) h⟩
              · cases h
            · cases h
          · split at h
            · rename_i r hx
              split at h
              · rename_i hp
                rw [hf.t, hf.σ] at hx
                obtain ⟨f, as', hc, h1, h2, h3⟩ := xop_spec hs ho hx
                exact ⟨_, _, .call hg hc h1 h2 h3, hp, go (k := .dops ops rest _ _ :: k) (hf.put o.dst r) h⟩
              · cases h
            · rename_i ρ K' r σ' hx
              split at h
              · rename_i hp
                simp only [Bool.and_eq_true] at hp
                have e1 : xstep.callSE' ops o x ρ K' r σ' = callSE ops o s ρ [] K' r σ' := by rw [xstep.callSE', callSE, hf.σ]
                rw [e1] at hp h
                rw [hf.t, hf.σ] at hx
                obtain ⟨f, as', args, σc, hc, h1, h2⟩ := xop_spec hs ho hx
                have hap := hf.app o.dst (callOut ρ [] K' x.σ.length r σ')
                rw [hf.σ] at hap h hp
                have := Did.callS (ops := ops) (o := o) (s := s) hg hc h1 (by rw [h2]; exact hp.1)
                rw [h2] at this
                exact ⟨_, _, this, hp.2, go (k := .dops ops rest _ _ :: k) hap h⟩
              · cases h
            · cases h
        rw [hf.t] at h
        cases hgd : guardOf ops (getT s.t) o.guard with
        | stuck => rw [hgd] at h; cases h
        | no =>
          rw [hgd] at h
          dsimp only at h
          split at h
          · rename_i hp
            exact ⟨_, _, .skip (.inl hgd), hp, go (k := .dops ops rest _ _ :: k) (hf.put o.dst _) h⟩
          · cases h
        | yes => rw [hgd] at h; rw [← hf.t] at h; exact yes (.inl hgd) h
        | ask b =>
          cases b with
          | false =>
            rw [hgd] at h
            dsimp only at h
            split at h
            · rename_i hp
              exact ⟨_, _, .skip (.inr hgd), hp, go (k := .dops ops rest _ _ :: k) (hf.put o.dst _) h⟩
            · cases h
          | true => rw [hgd] at h; rw [← hf.t] at h; exact yes (.inr hgd) h
    | code c =>
      show AW C K c (XA C K Q k) s
      cases c with
      | skip => exact AW.skip (go (k := k) hf h)
      | label l => exact AW.label (go (k := k) hf h)
      | seq a b =>
        refine AW.seq (AW.mono (go (k := .code a :: .code b :: k) hf h : AW C K a (XA C K Q (.code b :: k)) s) ?_)
        intro e s' h'
        cases e <;> exact h'
      | block id c =>
        refine AW.block (AW.mono (go (k := .code c :: .blk id :: k) hf h : AW C K c (XA C K Q (.blk id :: k)) s) ?_)
        intro e s' h'
        cases e <;> exact h'
      | region id ops draw =>
        cases draw with
        | false => exact AOps.reg (go (k := .ops ops ops.toList :: k) hf h)
        | true => exact AW.draw C.ord (go (k := .dops ops ops.toList [] [] :: k) hf h)
      | exit id =>
        rw [xstep] at h
        try dsimp only at h
        split at h
        · rename_i k' hk
          exact AW.exit (XA.out hk (go hf h))
        · cases h
      | ret => cases h; exact AW.ret (XA.ret (hQ s hf))
      | cond c a b =>
        rw [xstep] at h
        try dsimp only at h
        rw [hf.t] at h
        split at h
        · rename_i hc
          exact AW.cond hc (fun _ => go (k := .code a :: k) hf h) (fun e => by cases e)
        · rename_i hc
          exact AW.cond hc (fun e => by cases e) (fun _ => go (k := .code b :: k) hf h)
        · cases h
      | loop c => exact LP.loop (go (k := .inl 1000000 c :: k) hf h)
      | scope c =>
        have := go (k := .code c :: .scp :: k) hf h
        intro a w I β r
        refine wp_scope_straight (wp_mono (this a w I β r) ?_)
        rintro e a' w' ⟨s', I', β', q, r', x'⟩
        cases e with
        | goto l => exact q.elim
        | _ => exact ⟨s', I', β', q, r', x'⟩
      | goto l => cases h
      | refuse l => cases h
      | rangeFunc _ _ _ _ => cases h
theorem xr_spec {orc : Orc} (ho : OrcOk C orc) : ∀ f, Snd C (xr C.P orc f)
  | 0 => fun _ _ _ _ _ _ h => by cases h
  | f + 1 => xstep_spec (xr_spec ho f) ho
/-- A closed call: what the runner finds is the call's contract. -/
noncomputable def xrun (P : Program) (orc : Orc) (n : Nat) (f : FuncId) (args : List A) : Option A := match xcall P (xr P orc n) f args [] with
  | .ok (l, σ) => endPure l σ
  | .bad _ _ _ => none
theorem xrun_fn {orc : Orc} (ho : OrcOk C orc) (n : Nat) {f : FuncId} {args : List A} {r : A} (h : xrun C.P orc n f args = some r) : Fn C 0 f args [] r [] := by
  unfold xrun at h
  split at h
  · rename_i l σ hx
    exact (pure_spec (xr_spec ho n) hx h).1
  · cases h
theorem orc_none : OrcOk C (fun _ _ _ => none) := fun _ _ _ _ _ h => by cases h
end
end Go.AM
end
section
namespace Go.AM
open Go.RowKit Go.Proofs
set_option linter.unusedVariables false
set_option linter.unusedSimpArgs false
def mapO {α : Type} (f : D → Option α) : List D → Option (List α)
  | [] => some []
  | x :: r => match f x, mapO f r with
    | some a, some l => some (a :: l)
    | _, _ => none
theorem mapO_eq {α : Type} {f : D → Option α} {g : α → D} (hg : ∀ d x, f d = some x → d = g x) : ∀ {l : List D} {a : List α}, mapO f l = some a → l = a.map g
  | [], a, h => by cases h; rfl
  | x :: r, a, h => by
    rw [mapO] at h
    split at h
    · rename_i y l h1 h2
      cases h
      rw [List.map_cons, ← hg _ _ h1, ← mapO_eq hg h2]
    · cases h
def decK : Nat → D → Option Kind
  | 0, _ => none
  | n + 1, d => match d with
    | .agg [.lst l] => match mapO (decK n) l with
      | some a => some (.mk a)
      | none => none
    | _ => none
theorem decK_eq : ∀ (n : Nat) (d : D) (k : Kind), decK n d = some k → d = eK k
  | 0, d, k, h => by cases h
  | n + 1, d, k, h => by
    unfold decK at h
    split at h <;> try (cases h; done)
    rename_i l
    generalize ha : mapO (decK n) l = z at h
    cases z with
    | none => cases h
    | some a =>
      cases h
      have := mapO_eq (g := eK) (fun d x hx => decK_eq n d x hx) ha
      rw [this]
      exact eK_fold (.mk a)
def decT : Nat → D → Option Ty
  | 0, _ => none
  | n + 1, d => match d with
    | .agg [.v (.int .i64 op), .v (.string nm), .lst b, .lst ks] => match mapO (decK n) b, mapO (decT n) ks with
      | some b, some ks => some (.mk op nm.data.toList (.mk b) ks)
      | _, _ => none
    | _ => none
theorem decT_eq : ∀ (n : Nat) (d : D) (t : Ty), decT n d = some t → d = eT t
  | 0, d, k, h => by cases h
  | n + 1, d, t, h => by
    unfold decT at h
    split at h <;> try (cases h; done)
    rename_i op nm b ks
    generalize hb : mapO (decK n) b = z at h
    generalize hk : mapO (decT n) ks = z' at h
    cases z with
    | none => cases h
    | some b' =>
      cases z' with
      | none => cases h
      | some ks' =>
        cases h
        have h1 := mapO_eq (g := eK) (fun d x hx => decK_eq n d x hx) hb
        have h2 := mapO_eq (g := eT) (fun d x hx => decT_eq n d x hx) hk
        rw [h1, h2]
        exact eT_fold (.mk op nm.data.toList (.mk b') ks')
def smallT (t : Ty) : Bool := Nat.ble (tsz t) 1000
def funO (r : D) (l : List D) : Option D := match decT 20 r, mapO (decT 20) l with
  | some t, some ts => match smallT t && ts.all smallT && Nat.ble ts.length 900 with
    | true => some (eT (funAll t ts))
    | false => none
  | _, _ => none
theorem funO_eq {r : D} {l : List D} {d : D} (h : funO r l = some d) : ∃ t ts, r = eT t ∧ l = ts.map eT ∧ d = eT (funAll t ts) ∧ tsz t ≤ 1000 ∧ (∀ x ∈ ts, tsz x ≤ 1000) ∧ (ts.length + 1) * (1000 + 3) ≤ 1048576 := by
  unfold funO at h
  split at h
  · rename_i t ts h1 h2
    split at h
    · rename_i hb
      cases h
      simp only [Bool.and_eq_true, List.all_eq_true] at hb
      refine ⟨t, ts, decT_eq _ _ _ h1, mapO_eq (fun d x hx => decT_eq _ d x hx) h2, rfl, Nat.le_of_ble_eq_true hb.1.1, fun x hx => Nat.le_of_ble_eq_true (hb.1.2 x hx), ?_⟩
      have := Nat.le_of_ble_eq_true hb.2
      omega
    · cases h
  · cases h
def o137 (args : List A) (σ : List Blk) : Option (A × List Blk) := match args, σ with
  | [.d r, .d (.lst l)], [] => match funO r l with
    | some d => some (.d d, [])
    | none => none
  | [.d r, .sl 0 0 n], [.arr 4 xs] => match Nat.ble n xs.length with
    | true => match funO r (xs.take n) with
      | some d => some (.d d, [.arr 4 xs])
      | none => none
    | false => none
  | _, _ => none
theorem o137_ok {args : List A} {σ : List Blk} {r : A} {σ' : List Blk} (h : o137 args σ = some (r, σ')) : Fn CT σ.length 137 args σ r σ' := by
  unfold o137 at h
  split at h
  · split at h
    · rename_i d hd
      cases h
      obtain ⟨t, ts, rfl, rfl, rfl, h1, h2, h3⟩ := funO_eq hd
      exact Fun_fn t ts 1000 h2 h1 h3
    · cases h
  · split at h
    · rename_i hn
      split at h
      · rename_i d hd
        cases h
        obtain ⟨t, ts, rfl, h0, rfl, h1, h2, h3⟩ := funO_eq hd
        exact Fun_fnS t ts _ _ h0 (Nat.le_of_ble_eq_true hn) 1000 h2 h1 h3
      · cases h
    · cases h
  · cases h
def asciiB (s : List UInt8) : Bool := s.all fun c => Nat.blt c.toNat 128
def o133 (args : List A) (σ : List Blk) : Option (A × List Blk) := match args, σ with
  | [.d (.v (.string s))], [] => match (Nat.ble s.data.toList.length 1000 && Nat.ble (Lib.fields s.data.toList).length 1000) && asciiB s.data.toList with
    | true => some (.sl 0 0 ((Lib.fields s.data.toList).map fun l => Value.string ⟨l.toArray⟩).length, [.arr 1 (((Lib.fields s.data.toList).map fun l => Value.string ⟨l.toArray⟩).map D.v)])
    | false => none
  | _, _ => none
theorem ascii_get {l : List UInt8} (h : asciiB l = true) (j : Nat) (b : UInt8) (hb : l[j]? = some b) : b.toNat < 128 := by
  exact Nat.le_of_ble_eq_true (List.all_eq_true.1 h b (List.mem_of_getElem? hb))
theorem o133_ok {args : List A} {σ : List Blk} {r : A} {σ' : List Blk} (h : o133 args σ = some (r, σ')) : Fn CT σ.length 133 args σ r σ' := by
  unfold o133 at h
  split at h
  · rename_i s
    split at h
    · rename_i hb
      cases h
      rw [Bool.and_eq_true, Bool.and_eq_true] at hb
      have hsz : s.data.toList.length ≤ 1000 := Nat.le_of_ble_eq_true hb.1.1
      have hss : s.size = s.data.toList.length := Array.length_toList.symm
      have hlen : (Lib.fields s.data.toList).length ≤ 1000 := Nat.le_of_ble_eq_true hb.1.2
      refine Fn.newRow (us := [.string s]) (by kernel_rfl) (fun v hv => ?_) (by rw [List.length_map]; omega) (fun w hE => ?_)
      · obtain ⟨l, _, rfl⟩ := List.mem_map.1 hv
        rfl
      · refine (Tryz.strings_Fields s w (by omega) (ascii_get hb.2) hE.tab).mono ?_
        rintro e w' ⟨rfl, rfl⟩
        exact ⟨w.heap.size, 9, by simp, Nat.le_refl _, World.alloc_heap_new _ _, (Below.refl _ w).alloc (Nat.le_refl _) _⟩
    · cases h
  · cases h
def o136 (args : List A) (σ : List Blk) : Option (A × List Blk) := match args, σ with
  | [.d (.v (.string s)), .d (.v (.string sep))], [] => match Nat.beq sep.data.toList.length 0 && Nat.ble s.data.toList.length 1000 && asciiB s.data.toList with
    | true => some (.sl 0 0 ((Lib.charsB s).map Value.string).length, [.arr 1 (((Lib.charsB s).map Value.string).map D.v)])
    | false => none
  | _, _ => none
theorem o136_ok {args : List A} {σ : List Blk} {r : A} {σ' : List Blk} (h : o136 args σ = some (r, σ')) : Fn CT σ.length 136 args σ r σ' := by
  unfold o136 at h
  split at h
  · rename_i s sep
    split at h
    · rename_i hb
      cases h
      rw [Bool.and_eq_true, Bool.and_eq_true] at hb
      have hsz : s.data.toList.length ≤ 1000 := Nat.le_of_ble_eq_true hb.1.2
      have hse : sep.size = 0 := Array.length_toList.symm.trans (Nat.eq_of_beq_eq_true hb.1.1)
      have hss : s.size = s.data.toList.length := Array.length_toList.symm
      have hlen : (Lib.charsB s).length = s.size := Lib.charsUpTo_length s s.size
      refine Fn.newRow (us := [.string s, .string sep]) (by kernel_rfl) (fun v hv => ?_) (by rw [List.length_map]; omega) (fun w hE => ?_)
      · obtain ⟨l, _, rfl⟩ := List.mem_map.1 hv
        rfl
      · refine (Tryz.strings_Split_chars s sep w hse (by omega) (ascii_get hb.2)).mono ?_
        rintro e w' ⟨rfl, rfl⟩
        refine ⟨(w.iter s s.size).heap.size, 9, by simp [hlen], ?_, World.alloc_heap_new _ _, ?_⟩
        · unfold World.iter; simp
        · exact ((Below.refl _ w).alloc (Nat.le_refl _) _).alloc (by simp) _
    · cases h
  · cases h
def o19 (args : List A) (σ : List Blk) : Option (A × List Blk) := match args, σ with
  | [.d (.lst [])], [] => some (.d (.lst []), [])
  | _, _ => none
theorem o19_ok {args : List A} {σ : List Blk} {r : A} {σ' : List Blk} (h : o19 args σ = some (r, σ')) : Fn CT σ.length 19 args σ r σ' := by
  unfold o19 at h
  split at h
  · cases h
    refine ⟨by kernel_rfl, fun w I β vs hh hl hr => ?_⟩
    have hβ : β = [] := by have := hh.len; exact List.eq_nil_of_length_eq_zero this
    subst hβ
    obtain ⟨sv, rfl⟩ : ∃ u, vs = #[u] := by
      match vs, hl with
      | ⟨[u]⟩, _ => exact ⟨u, rfl⟩
    have h1 := hr 0 _ sv rfl rfl
    cases h1 with
    | d h1 =>
      have : ∃ a cap, sv = .slice a 0 cap := by
        generalize hd : D.lst [] = d at h1
        cases h1 with
        | v _ => cases hd
        | agg _ _ _ => cases hd
        | nil => exact ⟨_, _, rfl⟩
        | lst _ _ _ _ _ _ _ _ _ => cases hd; exact ⟨_, _, rfl⟩
      obtain ⟨a, cap, rfl⟩ := this
      cases a with
      | none =>
        refine (Tryz.slices_Clone_string_nil 0 cap w).mono ?_
        rintro e w' ⟨rfl, rfl⟩
        exact ⟨_, I, [], rfl, .d .nil, hh, .refl ..⟩
      | some a =>
        refine (Tryz.slices_Clone_string_zero a cap w).mono ?_
        rintro e w' ⟨v', rfl, ho, hne, hb⟩
        obtain ⟨g1, g2⟩ := hh.grow (w' := w') (I' := I) 0 hb.os hb.tape hb.output hb.size hb.block (fun _ h => h) (fun _ h => .inl h)
        refine ⟨v', I, [], rfl, .d ?_, g1, g2⟩
        rcases ho.2 with ⟨rfl, _⟩ | ⟨g, c, cur, rfl, _⟩
        · exact .nil
        · exact .nil
  · cases h
def exO : Orc := fun f args σ => match f with
  | 133 => o133 args σ
  | 136 => o136 args σ
  | 137 => o137 args σ
  | 19 => o19 args σ
  | _ => none
theorem exO_ok : OrcOk CT exO := by
  intro f args σ r σ' h
  unfold exO at h
  split at h
  · exact o133_ok h
  · exact o136_ok h
  · exact o137_ok h
  · exact o19_ok h
  · cases h
end Go.AM
end
section
namespace Go.AM
open Go.Proofs
theorem example_run : xrun Tryz.prog exO 1000000 8 [] = some (.d (bool true)) := by kernel_rfl
theorem example_fn : Fn CT 0 8 [] [] (.d (bool true)) [] := xrun_fn exO_ok 1000000 example_run
end Go.AM
end
section
namespace Go.AM
open Go.Proofs
set_option linter.unusedVariables false
set_option linter.unusedSimpArgs false
set_option maxRecDepth 100000
set_option maxHeartbeats 1000000
theorem LinkUnresolved_fn (l : List Ob) (hl : l.length ≤ 140737488355328) (hb : ∀ o ∈ l, obSz o ≤ 562949953421312) : Fn CT 0 4 [.d (.lst (l.map eOb))] [] (.d (bool true)) [] := by
  have hs := small_fn l hl hb
  have hex := example_fn
  cases e : smallL l
  · rw [e] at hs
    refine Fn.body Tryz.func4 (by kernel_rfl) rfl (Nat.le_of_ble_eq_true rfl) ?_; refine AK.of 999 60 ?_
    simp only [ams, tbs, enc, ctp, Region.binds, ↓reduceIte, Bool.false_eq_true, reduceCtorEq, Nat.reduceEqDiff, Nat.reduceLT, Nat.reduceLeDiff, Nat.reduceAdd, Nat.reduceSub, Nat.reduceMul, Nat.reduceShiftLeft, Nat.reduceShiftRight, Nat.reduceOr, Nat.reduceMod, Nat.reduceBEq, Nat.zero_add, Nat.add_zero, Int.natCast_nonneg, Int.toNat_natCast, true_implies, Int.reduceLE, Int.reduceLT, Int.reduceToNat, Int.toNat_zero, Int.le_refl]
    refine ⟨_, hs, rfl, ?_⟩
    refine AK.of 999 60 ?_; simp only [ams, tbs, enc, ctp, Region.binds, ↓reduceIte, Bool.false_eq_true, reduceCtorEq, Nat.reduceEqDiff, Nat.reduceLT, Nat.reduceLeDiff, Nat.reduceAdd, Nat.reduceSub, Nat.reduceMul, Nat.reduceShiftLeft, Nat.reduceShiftRight, Nat.reduceOr, Nat.reduceMod, Nat.reduceBEq, Nat.zero_add, Nat.add_zero, Int.natCast_nonneg, Int.toNat_natCast, true_implies, Int.reduceLE, Int.reduceLT, Int.reduceToNat, Int.toNat_zero, Int.le_refl, bbeq]
    refine ⟨_, hex, rfl, ?_⟩
    refine AK.of 999 60 ?_; simp only [ams, tbs, enc, ctp, Region.binds, ↓reduceIte, Bool.false_eq_true, reduceCtorEq, Nat.reduceEqDiff, Nat.reduceLT, Nat.reduceLeDiff, Nat.reduceAdd, Nat.reduceSub, Nat.reduceMul, Nat.reduceShiftLeft, Nat.reduceShiftRight, Nat.reduceOr, Nat.reduceMod, Nat.reduceBEq, Nat.zero_add, Nat.add_zero, Int.natCast_nonneg, Int.toNat_natCast, true_implies, Int.reduceLE, Int.reduceLT, Int.reduceToNat, Int.toNat_zero, Int.le_refl]
  · rw [e] at hs
    unfold smallL at e
    rw [Bool.and_eq_true, decide_eq_true_iff, decide_eq_true_iff] at e
    have ht : obTot l ≤ 1048576 := by
      have := e.2
      rw [List.take_of_length_le (by omega)] at this
      omega
    have hl' : l.length ≤ 1048576 := by omega
    have h1 := Unresolved_fn l hl' ht
    have h2 := rUnresolved_fn l hl' ht
    have hn : (uL (gnames l) (enames l)).length ≤ 1048576 := Nat.le_trans (uL_len _ _) (Nat.le_trans (enames_len l) ht)
    generalize uL (gnames l) (enames l) = u at *
    refine Fn.body Tryz.func4 (by kernel_rfl) rfl (Nat.le_of_ble_eq_true rfl) ?_; refine AK.of 999 60 ?_
    simp only [ams, tbs, enc, ctp, Region.binds, ↓reduceIte, Bool.false_eq_true, reduceCtorEq, Nat.reduceEqDiff, Nat.reduceLT, Nat.reduceLeDiff, Nat.reduceAdd, Nat.reduceSub, Nat.reduceMul, Nat.reduceShiftLeft, Nat.reduceShiftRight, Nat.reduceOr, Nat.reduceMod, Nat.reduceBEq, Nat.zero_add, Nat.add_zero, Int.natCast_nonneg, Int.toNat_natCast, true_implies, Int.reduceLE, Int.reduceLT, Int.reduceToNat, Int.toNat_zero, Int.le_refl]
    refine ⟨_, hs, rfl, ?_⟩
    refine AK.of 999 60 ?_; simp only [ams, tbs, enc, ctp, Region.binds, ↓reduceIte, Bool.false_eq_true, reduceCtorEq, Nat.reduceEqDiff, Nat.reduceLT, Nat.reduceLeDiff, Nat.reduceAdd, Nat.reduceSub, Nat.reduceMul, Nat.reduceShiftLeft, Nat.reduceShiftRight, Nat.reduceOr, Nat.reduceMod, Nat.reduceBEq, Nat.zero_add, Nat.add_zero, Int.natCast_nonneg, Int.toNat_natCast, true_implies, Int.reduceLE, Int.reduceLT, Int.reduceToNat, Int.toNat_zero, Int.le_refl, bbeq]
    refine ⟨_, h1, rfl, ?_⟩
    refine AK.of 999 60 ?_; simp only [ams, tbs, enc, ctp, Region.binds, ↓reduceIte, Bool.false_eq_true, reduceCtorEq, Nat.reduceEqDiff, Nat.reduceLT, Nat.reduceLeDiff, Nat.reduceAdd, Nat.reduceSub, Nat.reduceMul, Nat.reduceShiftLeft, Nat.reduceShiftRight, Nat.reduceOr, Nat.reduceMod, Nat.reduceBEq, Nat.zero_add, Nat.add_zero, Int.natCast_nonneg, Int.toNat_natCast, true_implies, Int.reduceLE, Int.reduceLT, Int.reduceToNat, Int.toNat_zero, Int.le_refl]
    refine ⟨_, h2, rfl, ?_⟩
    have hne : ((u.length : Int) != (u.length : Int)) = false := by simp
    refine AK.of 999 60 ?_; simp only [ams, tbs, enc, ctp, Region.binds, ↓reduceIte, Bool.false_eq_true, reduceCtorEq, Nat.reduceEqDiff, Nat.reduceLT, Nat.reduceLeDiff, Nat.reduceAdd, Nat.reduceSub, Nat.reduceMul, Nat.reduceShiftLeft, Nat.reduceShiftRight, Nat.reduceOr, Nat.reduceMod, Nat.reduceBEq, Nat.zero_add, Nat.add_zero, Int.natCast_nonneg, Int.toNat_natCast, true_implies, Int.reduceLE, Int.reduceLT, Int.reduceToNat, Int.toNat_zero, Int.le_refl, bbeq, hne]
    refine AK.loop (ι := Nat) (fun k => ⟨[(5, .d (int k)), (4, .d (.lst (u.map eStr))), (3, .d (.lst (u.map eStr)))], [], 35⟩) (fun k => k ≤ u.length) (fun k => u.length - k) 0 [] ⟨rfl, rfl, by decide, by simp [subT, getT, A.bnd, A.ren], by simp [subS]⟩ (Nat.zero_le _) ?_
    intro k hk
    rcases Nat.lt_or_ge k u.length with h5 | h5
    · have hx := List.getElem?_eq_getElem h5
      have hd : decide ((k : Int) < (u.length : Int)) = true := by simp; omega
      generalize u[k] = y at *
      have e : (y != y) = false := by simp
      have e' : (y == y) = true := by simp
      refine AK.of 999 60 ?_; simp only [ams, tbs, enc, ctp, Region.binds, ↓reduceIte, Bool.false_eq_true, reduceCtorEq, Nat.reduceEqDiff, Nat.reduceLT, Nat.reduceLeDiff, Nat.reduceAdd, Nat.reduceSub, Nat.reduceMul, Nat.reduceShiftLeft, Nat.reduceShiftRight, Nat.reduceOr, Nat.reduceMod, Nat.reduceBEq, Nat.zero_add, Nat.add_zero, Int.natCast_nonneg, Int.toNat_natCast, true_implies, Int.reduceLE, Int.reduceLT, Int.reduceToNat, Int.toNat_zero, Int.le_refl, hx, hd, e, e', eStr_eq, strs, List.getElem?_map, Bool.not_true]
      try exact ⟨(by constructor <;> omega), k + 1, [], by omega, by omega, rfl, rfl, by decide, by simp [subT, getT, A.bnd, A.ren], trivial⟩
    · have hd : decide ((k : Int) < (u.length : Int)) = false := by simp; omega
      refine AK.of 999 60 ?_; simp only [ams, tbs, enc, ctp, Region.binds, ↓reduceIte, Bool.false_eq_true, reduceCtorEq, Nat.reduceEqDiff, Nat.reduceLT, Nat.reduceLeDiff, Nat.reduceAdd, Nat.reduceSub, Nat.reduceMul, Nat.reduceShiftLeft, Nat.reduceShiftRight, Nat.reduceOr, Nat.reduceMod, Nat.reduceBEq, Nat.zero_add, Nat.add_zero, Int.natCast_nonneg, Int.toNat_natCast, true_implies, Int.reduceLE, Int.reduceLT, Int.reduceToNat, Int.toNat_zero, Int.le_refl, hd]
      refine ⟨_, hex, rfl, ?_⟩
      refine AK.of 999 60 ?_; simp only [ams, tbs, enc, ctp, Region.binds, ↓reduceIte, Bool.false_eq_true, reduceCtorEq, Nat.reduceEqDiff, Nat.reduceLT, Nat.reduceLeDiff, Nat.reduceAdd, Nat.reduceSub, Nat.reduceMul, Nat.reduceShiftLeft, Nat.reduceShiftRight, Nat.reduceOr, Nat.reduceMod, Nat.reduceBEq, Nat.zero_add, Nat.add_zero, Int.natCast_nonneg, Int.toNat_natCast, true_implies, Int.reduceLE, Int.reduceLT, Int.reduceToNat, Int.toNat_zero, Int.le_refl]
end Go.AM
end
section
namespace Go.Proofs.YthijephffgoieaaGreatDoor
namespace linkUnresolved
open Go.AM Go.ChangeShapes Go.WideShapes Go.ChangeAt Go.RowKit
set_option linter.unusedVariables false
set_option linter.unusedSimpArgs false
theorem contract {ds : List D} (ht : TyA Tryz.prog [22] ds) (hz : lle reachBytes ds) : Go.AM.Fn CT 0 4 (ds.map .d) [] (.d (bool true)) [] := by
  cases ht with
  | cons h hl =>
    cases hl
    obtain ⟨l, rfl, hok⟩ := dec_obs ot46 h
    obtain ⟨hz, -⟩ := hz
    rw [dle, List.length_map] at hz
    refine LinkUnresolved_fn l (Nat.le_trans hz.1 (by decide)) fun o ho => ?_
    have hd := lle_mem.1 hz.2 (eOb o) (List.mem_map_of_mem ho)
    simp only [eOb, dle, lle, List.length_map] at hd
    have hr : reachBytes ≤ 140737488355328 := by decide
    unfold obSz
    omega
set_option maxHeartbeats 1000000 in
set_option maxRecDepth 100000 in
theorem lifted (os : Os) (started : os.Started) (H : Type) (enc : TypeId × Value → H) :
    ReturnsInHanded {} Tryz.checked os 4 .any (fun w args => (Rows.linkUnresolvedSpec.pre enc Tryz.prog Tryz.f4 [] false w args ∧ laidMetH Tryz.prog laidL w) ∧ sizedMet enc Tryz.prog Tryz.f4 (OpenSpec.ofChange Rows.linkUnresolvedSpec) false w args)
      (Rows.linkUnresolvedSpec.post enc Tryz.prog Tryz.f4 false true false false) := by
  refine wrap_row (C := Tryz.checked) (X := fun w _ => laidMetH Tryz.prog laidL w) (Y := fun _ => True) (fun _ _ _ hh h => h.of_heap hh) ownK started (by kernel_rfl) Tryz.func4
    (ChangeSpec.witness_shaped (enc := enc) (C := Tryz.checked) (os := os) (X := fun w _ => laidMetH Tryz.prog laidL w) false (World.laidAll Tryz.prog os laidL) #[.slice none 0 0] 8 (door_os os) (door_shape os) (by kernel_rfl) (by kernel_rfl) (by kernel_rfl) (door_met os _)) ?_
  intro W base args ds gs before hval0 hW hsz0 hL hsh
  have hsz : (DataW.weightsEach Tryz.prog (Tryz.f4.params.toList ++ Rows.linkUnresolvedSpec.plain.varTypes Tryz.prog) (ds ++ gs)).all (· ≤ reachBytes) = true := hsz0
  have hval : ∀ (j : Nat) t v, Tryz.f4.params[j]? = some t → args[j]? = some v → Value.okWide Tryz.prog W .any base t v := hval0
  have hG := env_of hL hsh
  have hW' := hW
  obtain ⟨p, q, hA0, hV, rfl, hfz, hnd⟩ := hW
  have hA : DataW.TrodAll enc Tryz.prog W 0 (fun _ => true) true Tryz.f4.params.toList args.toList ds p := hA0
  rw [Tryz.params4] at hA hval hsz
  obtain ⟨rfl, rfl⟩ := trodVars_none hV
  have hA' := hA
  obtain ⟨v0, vs0, d0, ds0, p0, q0, hargs0, rfl, rfl, h0, r0⟩ := trodAll_cons hA
  obtain ⟨rfl, rfl, rfl⟩ := trodAll_nil r0
  obtain ⟨es, e1, e2, e3, e4, e5⟩ := open_args (bulk H) tyS1 tyS2 tyS3 (ts := [22]) (vs := args.toList) (by decide) (fun j t v h1 h2 => hval j t v (by simpa using h1) (by simpa using h2)) hA'
  have hz : lle reachBytes es := e5 reachBytes (by rw [List.append_nil] at hsz; exact hsz)
  refine (calls_true (contract e1 hz) hG hG.sz e2 e3).mono fun e W' ⟨he, bel⟩ => ?_
  subst he
  exact ⟨_, rfl, _, _, _, [], _, [], hW', trodAll_mk1 (shut_bool Tryz.underlying4 _), shut_args laidOut bel (ts := [22]) (by kernel_rfl) hA', rfl, bel.frame _, fun h => by cases h⟩
theorem closed : joinedFacts Tryz.prog 4 Tryz.f4 Rows.linkUnresolvedSpec Rows.linkUnresolvedRow = true := by
  unfold joinedFacts
  rw [laidOut]
  simp only [Bool.and_eq_true]
  repeat' apply And.intro
  all_goals (first | exact True.intro | (as_aux_lemma => kernel_rfl))
theorem wfT : Rows.linkUnresolvedRow.wfByText (OpenSpec.ofChange Rows.linkUnresolvedSpec) = true := by kernel_rfl
theorem goesT : false = Rows.linkUnresolvedRow.goesBy Tryz.pinned.checked.prog := by kernel_rfl
theorem row : Rows.LinkUnresolvedSaid :=
  OpenClaim.holds_of_wide 4 Tryz.f4 rfl rfl rfl rfl rfl rfl rfl ⟨rfl, rfl, rfl, rfl, rfl⟩ rfl rfl rfl rfl rfl (by kernel_rfl) Tryz.func4 closed
    (of_decide_eq_true (by kernel_rfl)) (by unfold Func.isWrapper; first | (rw [if_pos (by decide +kernel)]; kernel_rfl) | (rw [if_neg (by decide +kernel)]; exact ⟨rfl, rfl⟩))
    (fun os started H enc _ => lifted os started H enc)
end linkUnresolved
theorem linkUnresolved_card_holds : Rows.LinkUnresolvedCardSaid :=
  Claim7.holds_tied_plain_at .later [] [.data, .data, .data, .data, .sentinel, .sentinel, .listed, .data, .pinned] true (true, "8f09e2a18104b96e3dc3a5ce9b1f8d1c95c3700d3b4fb19dd89403212af5934c") true
    linkUnresolved.row (fun _ h => by cases h) linkUnresolved.wfT (fun _ h => by cases h) linkUnresolved_row_tie rfl ⟨rfl, rfl⟩ Go.AM.mainT rfl
    (fun f fn hf hfn => by
      obtain rfl : f = 4 := Option.some.inj ((show Tryz.prog.funcNamed "lazyc/lazyclaw46.LinkUnresolved" = some 4 by kernel_rfl).symm.trans hf) |>.symm
      obtain rfl : fn = Tryz.f4 := (Option.some.inj (Tryz.func4.symm.trans hfn)).symm
      exact ⟨Go.AM.looksT, fun j t ht => by
        rw [Tryz.params4] at ht
        have hm : t ∈ [22] := by simpa using Array.mem_of_getElem? ht
        have hall : ([22].all fun u => !Tryz.prog.wantsStandIn u) = true := by kernel_rfl
        exact (show Tryz.prog.wantsStandIn t = false by simpa using List.all_eq_true.1 hall t hm)⟩)
    linkUnresolved.goesT
#print axioms linkUnresolved_card_holds
end Go.Proofs.YthijephffgoieaaGreatDoor
end
