/- lazyclaw46.LinkUnresolved returns true for every list of objects: no condition beside the statement's own. Part 0. -/
import Derived.Control
import Derived.Calls
import Derived.Below
import Derived.Laws.IdiomCopy
import Derived.Laws.Cells
import Derived.Laws.Rows
import Derived.IntWalk
import Derived.DataElems
set_option linter.unusedVariables false
set_option linter.unusedSimpArgs false
set_option maxHeartbeats 2000000
section
namespace Go.AM
open Go.RowKit
set_option linter.unusedVariables false
set_option linter.unusedSimpArgs false

/-- Plain data: what lies in memory that is never written again. -/
inductive D where
  | v (x : Value)
  | lst (xs : List D)
  | agg (cs : List D)
  deriving Inhabited
def D.cells : D → List D
  | .agg cs => cs
  | .v x => [.v x]
  | .lst xs => [.lst xs]
/-- A value of the machine. -/
inductive A where
  | d (x : D)
  | nl
  | ptr (b off : Nat)
  | ep (b i off : Nat)
  | ro (cs : List D)
  | sl (b off len : Nat)
  | mp (b : Nat)
  | fn (f : Fn) (first cap : List A)
  | agg (cs : List A)
  | tup (vs : List A)
  | er
  | any
  deriving Inhabited
def A.cells : A → List A
  | .agg cs => cs
  | .d (.agg cs) => cs.map .d
  | x => [x]
/-- A block that the call owns. -/
inductive Blk where
  | dead
  | cells (cs : List A)
  | arr (k : Nat) (xs : List D)
  | map (es : List (D × A))
  | sit (s : ByteArray) (pos : Nat)
  deriving Inhabited
def Blk.live : Blk → Bool
  | .dead => false
  | _ => true
/-- Where a block of the machine lies: the block, the first cell, the cells of an element. -/
structure Loc where
  r : Nat
  o : Nat
  sz : Nat

inductive DRep (w : World) (I : Nat → Prop) : D → Value → Prop
  | v {x : Value} (h : x.oneCell' = true) : DRep w I (.v x) x
  | agg {cs : List D} {us : Array Value} (hl : cs.length = us.size) (h1 : ∀ (i : Nat) (c : D) (u : Value), cs[i]? = some c → us[i]? = some u → u.oneCell' = true) (h : ∀ (i : Nat) (c : D) (u : Value), cs[i]? = some c → us[i]? = some u → DRep w I c u) : DRep w I (.agg cs) (.agg us)
  | nil {a : Option Addr} {cap : Nat} : DRep w I (.lst []) (.slice a 0 cap)
  | lst {xs : List D} {ad : Addr} {cap : Nat} (sz : Nat) (f : Nat → Nat → Value) (hI : I ad.block) (hs : ad.spot = none) (hc : xs.length ≤ cap) (hm : xs.length ≤ 9223372036854775807) (hsz : ∀ (j : Nat) (x : D), xs[j]? = some x → x.cells.length = sz)
      (hcell : ∀ (j : Nat) (x : D) (i : Nat) (c : D), xs[j]? = some x → x.cells[i]? = some c → w.cell? (ad.add (j * sz + i)) = some (f j i) ∧ (f j i).oneCell' = true) (hrep : ∀ (j : Nat) (x : D) (i : Nat) (c : D), xs[j]? = some x → x.cells[i]? = some c → DRep w I c (f j i)) : DRep w I (.lst xs) (.slice (some ad) xs.length cap)

theorem DRep.mono {w w' : World} {I I' : Nat → Prop} (hw : ∀ a : Addr, I a.block → w'.cell? a = w.cell? a) (hI : ∀ k, I k → I' k) {x : D} {v : Value} (h : DRep w I x v) : DRep w' I' x v := by
  induction h with
  | v h => exact .v h
  | agg hl h1 h ih => exact .agg hl h1 ih
  | nil => exact .nil
  | lst sz f hb hs hc hm hsz hcell hrep ih =>
    refine .lst sz f (hI _ hb) hs hc hm hsz (fun j x i c hj hi => ?_) ih
    rw [hw _ (by simpa [Addr.add] using (by split <;> exact hb))]
    exact hcell j x i c hj hi

inductive ARep (w : World) (I : Nat → Prop) (β : List (Option Loc)) : A → Value → Prop
  | d {x : D} {v : Value} (h : DRep w I x v) : ARep w I β (.d x) v
  | nl {a : Option Addr} : ARep w I β .nl (.slice a 0 0)
  | ptr {b off : Nat} {l : Loc} (h : β[b]? = some (some l)) : ARep w I β (.ptr b off) (.pointer (some ⟨l.r, l.o + off, none⟩))
  | ep {b i off : Nat} {l : Loc} (h : β[b]? = some (some l)) : ARep w I β (.ep b i off) (.pointer (some ⟨l.r, l.o + (i * l.sz + off), none⟩))
  | ro {cs : List D} {ad : Addr} (f : Nat → Value) (hI : I ad.block) (hs : ad.spot = none) (hcell : ∀ (i : Nat) (c : D), cs[i]? = some c → w.cell? (ad.add i) = some (f i) ∧ (f i).oneCell' = true) (hrep : ∀ (i : Nat) (c : D), cs[i]? = some c → DRep w I c (f i)) : ARep w I β (.ro cs) (.pointer (some ad))
  | sl {b off len cap : Nat} {l : Loc} (h : β[b]? = some (some l)) (hc : len ≤ cap) (hm : len ≤ 9223372036854775807) (hcap : ∀ i, i < cap * l.sz → (w.cell? ⟨l.r, l.o + (off * l.sz + i), none⟩).isSome = true) : ARep w I β (.sl b off len) (.slice (some ⟨l.r, l.o + off * l.sz, none⟩) len cap)
  | sl0 {b off : Nat} {a : Option Addr} : ARep w I β (.sl b off 0) (.slice a 0 0)
  | mp {b : Nat} {l : Loc} (h : β[b]? = some (some l)) : ARep w I β (.mp b) (.map (some l.r))
  | fn {f : Fn} {first cap : List A} {us vs : Array Value} (h1 : first.length = us.size) (h2 : cap.length = vs.size) (h3 : ∀ (i : Nat) (a : A) (u : Value), first[i]? = some a → us[i]? = some u → ARep w I β a u) (h4 : ∀ (i : Nat) (a : A) (u : Value), cap[i]? = some a → vs[i]? = some u → ARep w I β a u) : ARep w I β (.fn f first cap) (.func f us vs)
  | agg {cs : List A} {us : Array Value} (hl : cs.length = us.size) (h1 : ∀ (i : Nat) (c : A) (u : Value), cs[i]? = some c → us[i]? = some u → u.oneCell' = true) (h : ∀ (i : Nat) (c : A) (u : Value), cs[i]? = some c → us[i]? = some u → ARep w I β c u) : ARep w I β (.agg cs) (.agg us)
  | tup {cs : List A} {us : Array Value} (hl : cs.length = us.size) (h : ∀ (i : Nat) (c : A) (u : Value), cs[i]? = some c → us[i]? = some u → ARep w I β c u) : ARep w I β (.tup cs) (.tuple us)

  | er {t : TypeId} {v : Value} : ARep w I β .er (.iface t v)
  | any {v : Value} (h : v.oneCell' = true) : ARep w I β .any v

theorem ARep.mono {w w' : World} {I I' : Nat → Prop} {β β' : List (Option Loc)} (hw : ∀ a : Addr, I a.block → w'.cell? a = w.cell? a) (hI : ∀ k, I k → I' k) (hβ : ∀ (b : Nat) (l : Loc), β[b]? = some (some l) → β'[b]? = some (some l)) (hc : ∀ a : Addr, (w.cell? a).isSome = true → (w'.cell? a).isSome = true)
    {x : A} {v : Value} (h : ARep w I β x v) : ARep w' I' β' x v := by
  induction h with
  | d h => exact .d (h.mono hw hI)
  | nl => exact .nl
  | ptr h => exact .ptr (hβ _ _ h)
  | ep h => exact .ep (hβ _ _ h)
  | ro f hb hs hcell hrep =>
    refine .ro f (hI _ hb) hs (fun i c hi => ?_) (fun i c hi => (hrep i c hi).mono hw hI)
    rw [hw _ (by simpa [Addr.add] using (by split <;> exact hb))]
    exact hcell i c hi
  | sl h h1 hm h2 => exact .sl (hβ _ _ h) h1 hm (fun i hi => hc _ (h2 i hi))
  | sl0 => exact .sl0
  | mp h => exact .mp (hβ _ _ h)
  | fn h1 h2 _ _ ih1 ih2 => exact .fn h1 h2 ih1 ih2
  | agg hl h1 _ ih => exact .agg hl h1 ih
  | tup hl _ ih => exact .tup hl ih
  | er => exact .er
  | any h => exact .any h

end Go.AM
end
section
namespace Go.AM
open Go.RowKit
set_option linter.unusedVariables false
set_option linter.unusedSimpArgs false

structure Ctx where
  P : Program
  N : Nat
  Env : World → Prop
  stab : ∀ w w' : World, (∀ k, k < N → w'.heap[k]? = w.heap[k]?) → w'.os = w.os → Env w → Env w'
  ord : P.follows .mixedOrders = true

def Own (β : List (Option Loc)) (σ : List Blk) (r : Nat) : Prop := ∃ (b : Nat) (l : Loc) (k : Blk), β[b]? = some (some l) ∧ σ[b]? = some k ∧ k.live = true ∧ l.r = r

def BRel (w : World) (I : Nat → Prop) (β : List (Option Loc)) : Blk → Loc → Prop
  | .dead, _ => True
  | .cells cs, l => ∃ f : Nat → Value, ∀ (i : Nat) (a : A), cs[i]? = some a → w.cell? ⟨l.r, l.o + i, none⟩ = some (f i) ∧ (f i).oneCell' = true ∧ ARep w I β a (f i)
  | .arr k xs, l => l.sz = k ∧ (∀ (j : Nat)  (x : D), xs[j]? = some x → x.cells.length = k) ∧ ∃ f : Nat → Nat → Value, ∀ (j : Nat) (x : D) (i : Nat) (c : D), xs[j]? = some x → x.cells[i]? = some c → w.cell? ⟨l.r, l.o + (j * k + i), none⟩ = some (f j i) ∧ (f j i).oneCell' = true ∧ DRep w I c (f j i)
  | .map es, l => ∃ arr : Array MapEntry, w.heap[l.r]? = some (.map arr es.length) ∧ arr.size = es.length ∧ ∀ (i : Nat) (k : D) (a : A) (e : MapEntry), es[i]? = some (k, a) → arr[i]? = some e → DRep w I k e.key ∧ ARep w I β a e.val ∧ e.born = i
  | .sit s pos, l => w.heap[l.r]? = some (.stringIter s pos) ∧ l.o = 0

structure HRel (C : Ctx) (w : World) (I : Nat → Prop) (β : List (Option Loc)) (σ : List Blk) : Prop where
  len : β.length = σ.length
  blk : ∀ (b : Nat) (l : Loc) (k : Blk), β[b]? = some (some l) → σ[b]? = some k → BRel w I β k l
  own : ∀ (b : Nat) (l : Loc) (k : Blk), β[b]? = some (some l) → σ[b]? = some k → k.live = true → C.N ≤ l.r ∧ l.r < w.heap.size ∧ ¬ I l.r ∧ ∀ o, w.frozen? ⟨l.r, o, none⟩ = false
  nowh : ∀ (b : Nat) (k : Blk), β[b]? = some none → σ[b]? = some k → k = .dead ∨ k = .cells [] ∨ ∃ n, k = .arr n []
  dist : ∀ (b b' : Nat) (l l' : Loc) (k k' : Blk), β[b]? = some (some l) → σ[b]? = some k → k.live = true → β[b']? = some (some l') → σ[b']? = some k' → k'.live = true → l.r = l'.r → b = b'
  imm : ∀ r, I r → r < w.heap.size
  env : C.Env w
  size : C.N ≤ w.heap.size

structure Ext (K : Nat) (w : World) (I O : Nat → Prop) (β : List (Option Loc)) (w' : World) (I' O' : Nat → Prop) (β' : List (Option Loc)) : Prop where
  os : w'.os = w.os
  tape : w'.tape = w.tape
  output : w'.output = w.output
  size : w.heap.size ≤ w'.heap.size
  keep : ∀ r, r < w.heap.size → ¬ O r → w'.heap[r]? = w.heap[r]?
  cell : ∀ a : Addr, (w.cell? a).isSome = true → (w'.cell? a).isSome = true
  imm : ∀ r, I r → I' r
  new : ∀ r, I' r → I r ∨ O r ∨ w.heap.size ≤ r
  own : ∀ r, O' r → O r ∨ w.heap.size ≤ r
  loc : ∀ (b : Nat) (l : Loc), b < K → β[b]? = some (some l) → β'[b]? = some (some l)

theorem Ext.refl (K : Nat) (w : World) (I O : Nat → Prop) (β : List (Option Loc)) : Ext K w I O β w I O β :=
  ⟨rfl, rfl, rfl, Nat.le_refl _, fun _ _ _ => rfl, fun _ h => h, fun _ h => h, fun _ h => .inl h, fun _ h => .inl h, fun _ _ _ h => h⟩
theorem Ext.le {K K' : Nat} {w w' : World} {I O I' O' : Nat → Prop} {β β' : List (Option Loc)} (h : Ext K w I O β w' I' O' β') (hk : K' ≤ K) : Ext K' w I O β w' I' O' β' :=
  { h with loc := fun b l hb => h.loc b l (by omega) }

theorem Ext.trans {K : Nat} {w w1 w2 : World} {I O I1 O1 I2 O2 : Nat → Prop} {β β1 β2 : List (Option Loc)} (h : Ext K w I O β w1 I1 O1 β1) (k : Ext K w1 I1 O1 β1 w2 I2 O2 β2) : Ext K w I O β w2 I2 O2 β2 where
  os := k.os.trans h.os
  tape := k.tape.trans h.tape
  output := k.output.trans h.output
  size := Nat.le_trans h.size k.size
  keep r hr ho := (k.keep r (Nat.lt_of_lt_of_le hr h.size) fun h1 => (h.own r h1).elim ho (fun h2 => by omega)).trans (h.keep r hr ho)
  cell a ha := k.cell a (h.cell a ha)
  imm r hr := k.imm r (h.imm r hr)
  new r hr := by
    have := h.size
    rcases k.new r hr with h1 | h1 | h1
    · exact h.new r h1
    · rcases h.own r h1 with h2 | h2
      · exact .inr (.inl h2)
      · exact .inr (.inr h2)
    · exact .inr (.inr (by omega))
  own r hr := by
    have := h.size
    rcases k.own r hr with h1 | h1
    · exact h.own r h1
    · exact .inr (by omega)
  loc b l hk hb := k.loc b l hk (h.loc b l hk hb)

theorem cell_of_heap {w w' : World} {a : Addr} (h : w'.heap[a.block]? = w.heap[a.block]?) : w'.cell? a = w.cell? a := by
  unfold World.cell?
  rw [h]

theorem HRel.not_own {C : Ctx} {w : World} {I : Nat → Prop} {β : List (Option Loc)} {σ : List Blk} (h : HRel C w I β σ) {r : Nat} (hr : I r) : ¬ Own β σ r := by
  rintro ⟨b, l, k, h1, h2, h3, rfl⟩
  exact (h.own b l k h1 h2 h3).2.2.1 hr

theorem HRel.cells_keep {C : Ctx} {K : Nat} {w w' : World} {I I' O' : Nat → Prop} {β β' : List (Option Loc)} {σ : List Blk} (h : HRel C w I β σ) (e : Ext K w I (Own β σ) β w' I' O' β') (a : Addr) (ha : I a.block) : w'.cell? a = w.cell? a :=
  cell_of_heap (e.keep _ (h.imm _ ha) (h.not_own ha))

theorem ARep.ext {C : Ctx} {K : Nat} {w w' : World} {I I' O' : Nat → Prop} {β β' : List (Option Loc)} {σ : List Blk} (h : HRel C w I β σ) (e : Ext K w I (Own β σ) β w' I' O' β') (hK : σ.length ≤ K) {x : A} {v : Value} (r : ARep w I β x v) : ARep w' I' β' x v :=
  r.mono (h.cells_keep e) e.imm (fun b l hb => e.loc b l (by have := h.len; have := (List.getElem?_eq_some_iff.1 hb).1; omega) hb) e.cell
theorem DRep.ext {C : Ctx} {K : Nat} {w w' : World} {I I' O' : Nat → Prop} {β β' : List (Option Loc)} {σ : List Blk} (h : HRel C w I β σ) (e : Ext K w I (Own β σ) β w' I' O' β') {x : D} {v : Value} (r : DRep w I x v) : DRep w' I' x v :=
  r.mono (h.cells_keep e) e.imm

structure St where
  t : List (Nat × A)
  σ : List Blk
  n : Nat
  deriving Inhabited
def getT : List (Nat × A) → Nat → Option A
  | [], _ => none
  | (k, a) :: r, i => if k = i then some a else getT r i
def TRel (w : World) (I : Nat → Prop) (β : List (Option Loc)) (t : List (Nat × A)) (tmps : Array Value) : Prop := ∀ (k : Nat) (x : A), getT t k = some x → ∃ u, tmps[k]? = some u ∧ ARep w I β x u
theorem TRel.ext {C : Ctx} {K : Nat} {w w' : World} {I I' O' : Nat → Prop} {β β' : List (Option Loc)} {σ : List Blk} (h : HRel C w I β σ) (e : Ext K w I (Own β σ) β w' I' O' β') (hK : σ.length ≤ K) {t : List (Nat × A)} {tmps : Array Value} (r : TRel w I β t tmps) : TRel w' I' β' t tmps :=
  fun k x hk => let ⟨u, h1, h2⟩ := r k x hk; ⟨u, h1, h2.ext h e hK⟩
structure Rel (C : Ctx) (s : St) (a : Act) (w : World) (I : Nat → Prop) (β : List (Option Loc)) : Prop where
  size : a.tmps.size = s.n
  defers : a.defers = []
  tmps : TRel w I β s.t a.tmps
  heap : HRel C w I β s.σ

/-- What a piece of code comes to from a state. -/
def AW (C : Ctx) (K : Nat) (c : Code) (Q : Exit → St → Prop) (s : St) : Prop :=
  ∀ (a : Act) (w : World) (I : Nat → Prop) (β : List (Option Loc)), Rel C s a w I β →
    c.wp C.P (fun e a' w' => ∃ s' I' β', Q e s' ∧ Rel C s' a' w' I' β' ∧ Ext K w I (Own β s.σ) β w' I' (Own β' s'.σ) β') a w

def EThen (next : St → Prop) (Q : Exit → St → Prop) : Exit → St → Prop
  | .normal, s => next s
  | e, s => Q e s
def EBlock (id : Nat) (Q : Exit → St → Prop) : Exit → St → Prop
  | .exit id', s => if id' = id then Q .normal s else Q (.exit id') s
  | e, s => Q e s

variable {C : Ctx} {K : Nat} {Q : Exit → St → Prop} {s : St}
theorem AW.mono {c : Code} {Q' : Exit → St → Prop} (h : AW C K c Q s) (hq : ∀ e s', Q e s' → Q' e s') : AW C K c Q' s :=
  fun a w I β r => wp_mono (h a w I β r) fun e a' w' ⟨s', I', β', q, x⟩ => ⟨s', I', β', hq _ _ q, x⟩
theorem AW.skip (h : Q .normal s) : AW C K .skip Q s := fun a w I β r => wp_skip ⟨s, I, β, h, r, .refl ..⟩
theorem AW.label {l : Nat} (h : Q .normal s) : AW C K (.label l) Q s := fun a w I β r => wp_label ⟨s, I, β, h, r, .refl ..⟩
theorem AW.exit {id : Nat} (h : Q (.exit id) s) : AW C K (.exit id) Q s := fun a w I β r => wp_exit ⟨s, I, β, h, r, .refl ..⟩
theorem AW.ret (h : Q .ret s) : AW C K .ret Q s := fun a w I β r => wp_ret ⟨s, I, β, h, r, .refl ..⟩
theorem AW.seq {x y : Code} (h : AW C K x (EThen (AW C K y Q) Q) s) : AW C K (.seq x y) Q s := by
  intro a w I β r
  refine wp_seq (wp_mono (h a w I β r) ?_)
  rintro e a1 w1 ⟨s1, I1, β1, q, r1, x1⟩
  cases e with
  | normal => exact wp_mono (q a1 w1 I1 β1 r1) fun e a' w' ⟨s', I', β', q', r', x'⟩ => ⟨s', I', β', q', r', x1.trans x'⟩
  | _ => exact ⟨s1, I1, β1, q, r1, x1⟩
theorem AW.block {id : Nat} {c : Code} (h : AW C K c (EBlock id Q) s) : AW C K (.block id c) Q s := by
  intro a w I β r
  refine wp_block (wp_mono (h a w I β r) ?_)
  rintro e a1 w1 ⟨s1, I1, β1, q, r1, x1⟩
  cases e with
  | exit id' =>
    unfold Exit.inBlock
    unfold EBlock at q
    dsimp only at q ⊢
    split
    · rename_i h1
      rw [if_pos h1] at q
      exact ⟨s1, I1, β1, q, r1, x1⟩
    · rename_i h1
      rw [if_neg h1] at q
      exact ⟨s1, I1, β1, q, r1, x1⟩
  | _ => exact ⟨s1, I1, β1, q, r1, x1⟩
/-- A loop: a relation of states that each round keeps with a smaller number. -/
theorem AW.loop {c : Code} (J : Nat → St → Prop) (n : Nat) (h0 : J n s) (round : ∀ n s, J n s → AW C K c (EThen (fun s' => ∃ m, m < n ∧ J m s') Q) s) : AW C K (.loop c) Q s := by
  intro a w I β r b k cs
  have key : ∀ n s a1 w1 I1 β1, J n s → Rel C s a1 w1 I1 β1 →
      ∃ e a' w', (∃ s' I' β', Q e s' ∧ Rel C s' a' w' I' β' ∧ Ext K w1 I1 (Own β1 s.σ) β1 w' I' (Own β' s'.σ) β') ∧ Arrives C.P (lone (b.at a1 (.code c :: .inLoop c :: k)) cs w1) b k cs e a' w' := by
    intro n
    induction n using Nat.strongRecOn with
    | _ n ih =>
      intro s a1 w1 I1 β1 hJ hr
      obtain ⟨e, a2, w2, ⟨s2, I2, β2, hq, hr2, hx2⟩, harr⟩ := round n s hJ a1 w1 I1 β1 hr b (.inLoop c :: k) cs
      cases e with
      | normal =>
        obtain ⟨m, hm, hJ2⟩ := hq
        obtain ⟨e3, a3, w3, ⟨s3, I3, β3, hq3, hr3, hx3⟩, harr3⟩ := ih m hm s2 a2 w2 I2 β2 hJ2 hr2
        exact ⟨e3, a3, w3, ⟨s3, I3, β3, hq3, hr3, hx2.trans hx3⟩, .of_steps (Steps.trans harr (.one step_inLoop)) harr3⟩
      | exit id => exact ⟨_, a2, w2, ⟨s2, I2, β2, hq, hr2, hx2⟩, .pass (x := .inLoop c) rfl (fun _ _ => .inl (by simp)) harr⟩
      | goto l => exact ⟨_, a2, w2, ⟨s2, I2, β2, hq, hr2, hx2⟩, .pass (x := .inLoop c) rfl (fun _ _ => .inl (by simp)) harr⟩
      | ret => exact ⟨_, a2, w2, ⟨s2, I2, β2, hq, hr2, hx2⟩, .pass (x := .inLoop c) rfl (fun _ _ => .inl (by simp)) harr⟩
      | panic ch => exact ⟨_, a2, w2, ⟨s2, I2, β2, hq, hr2, hx2⟩, .pass (x := .inLoop c) rfl (fun _ _ => .inl (by simp)) harr⟩
      | outgrown => exact ⟨_, a2, w2, ⟨s2, I2, β2, hq, hr2, hx2⟩, .pass (x := .inLoop c) rfl (fun _ _ => .inl (by simp)) harr⟩
  obtain ⟨e, a', w', hq, harr⟩ := key n s a w I β h0 r
  exact ⟨e, a', w', hq, .of_steps (.one step_loop) harr⟩
end Go.AM
end
section
namespace Go.AM
open Go.RowKit
set_option linter.unusedVariables false
set_option linter.unusedSimpArgs false

mutual
def A.ren (ρ : List Nat) : A → A
  | .d x => .d x
  | .nl => .nl
  | .ro cs => .ro cs
  | .ptr b o => .ptr (ρ.getD b 0) o
  | .ep b i o => .ep (ρ.getD b 0) i o
  | .sl b o n => .sl (ρ.getD b 0) o n
  | .mp b => .mp (ρ.getD b 0)
  | .fn f x y => .fn f (A.renL ρ x) (A.renL ρ y)
  | .agg cs => .agg (A.renL ρ cs)
  | .tup cs => .tup (A.renL ρ cs)
  | .er => .er
  | .any => .any
def A.renL (ρ : List Nat) : List A → List A
  | [] => []
  | x :: r => x.ren ρ :: A.renL ρ r
end
mutual
def A.bnd (n : Nat) : A → Bool
  | .d _ => true
  | .nl => true
  | .ro _ => true
  | .ptr b _ => decide (b < n)
  | .ep b _ _ => decide (b < n)
  | .sl b _ _ => decide (b < n)
  | .mp b => decide (b < n)
  | .fn _ x y => A.bndL n x && A.bndL n y
  | .agg cs => A.bndL n cs
  | .tup cs => A.bndL n cs
  | .er => true
  | .any => true
def A.bndL (n : Nat) : List A → Bool
  | [] => true
  | x :: r => x.bnd n && A.bndL n r
end
theorem A.renL_eq (ρ : List Nat) : ∀ l, A.renL ρ l = l.map (A.ren ρ)
  | [] => rfl
  | x :: r => by rw [A.renL, A.renL_eq ρ r, List.map_cons]
theorem A.bndL_iff {n : Nat} : ∀ {l : List A}, A.bndL n l = true ↔ ∀ x ∈ l, x.bnd n = true
  | [] => by simp [A.bndL]
  | x :: r => by simp [A.bndL, A.bndL_iff (l := r)]
mutual
theorem ren_of_bnd0 {ρ : List Nat} : ∀ {x : A}, x.bnd 0 = true → x.ren ρ = x
  | .d _, _ => rfl
  | .nl, _ => rfl
  | .ro _, _ => rfl
  | .ptr _ _, h => by simp [A.bnd] at h
  | .ep _ _ _, h => by simp [A.bnd] at h
  | .sl _ _ _, h => by simp [A.bnd] at h
  | .mp _, h => by simp [A.bnd] at h
  | .fn f x y, h => by
    rw [A.bnd, Bool.and_eq_true] at h
    rw [A.ren, renL_of_bnd0 h.1, renL_of_bnd0 h.2]
  | .agg cs, h => by rw [A.ren, renL_of_bnd0 h]
  | .tup cs, h => by rw [A.ren, renL_of_bnd0 h]
  | .er, _ => rfl
  | .any, _ => rfl
theorem renL_of_bnd0 {ρ : List Nat} : ∀ {l : List A}, A.bndL 0 l = true → A.renL ρ l = l
  | [], _ => rfl
  | x :: r, h => by
    rw [A.bndL, Bool.and_eq_true] at h
    rw [A.renL, ren_of_bnd0 h.1, renL_of_bnd0 h.2]
end
def Blk.ren (ρ : List Nat) : Blk → Blk
  | .dead => .dead
  | .cells cs => .cells (A.renL ρ cs)
  | .arr k xs => .arr k xs
  | .map es => .map (es.map fun e => (e.1, e.2.ren ρ))
  | .sit s pos => .sit s pos
def Blk.bnd (n : Nat) : Blk → Bool
  | .dead => true
  | .cells cs => A.bndL n cs
  | .arr _ _ => true
  | .map es => es.all fun e => e.2.bnd n
  | .sit _ _ => true

def pick (ρ : List Nat) (β : List (Option Loc)) : List (Option Loc) := ρ.map fun i => (β[i]?).join
theorem pick_some {ρ : List Nat} {β : List (Option Loc)} {b : Nat} {l : Loc} (hb : b < ρ.length) : (pick ρ β)[b]? = some (some l) ↔ β[ρ.getD b 0]? = some (some l) := by
  rw [pick, List.getElem?_map, List.getElem?_eq_getElem hb, List.getD_eq_getElem?_getD, List.getElem?_eq_getElem hb]
  simp only [Option.map_some, Option.getD_some]
  cases h : β[ρ[b]]? with
  | none => simp
  | some o => cases o <;> simp

theorem ARep.ren_back {w : World} {I : Nat → Prop} {β : List (Option Loc)} {ρ : List Nat} {x : A} {v : Value} (hb : x.bnd ρ.length = true) (h : ARep w I β (x.ren ρ) v) : ARep w I (pick ρ β) x v := by
  generalize hy : x.ren ρ = y at h
  induction h generalizing x with
  | d h => cases x <;> simp [A.ren] at hy; subst hy; exact .d h
  | nl => cases x <;> simp [A.ren] at hy; exact .nl
  | er => cases x <;> simp [A.ren] at hy; exact .er
  | any h => cases x <;> simp [A.ren] at hy; exact .any h
  | ptr h =>
    cases x <;> simp only [A.ren, A.ptr.injEq, reduceCtorEq] at hy
    obtain ⟨rfl, rfl⟩ := hy
    exact .ptr ((pick_some (by simpa [A.bnd] using hb)).2 h)
  | ep h =>
    cases x <;> simp only [A.ren, A.ep.injEq, reduceCtorEq] at hy
    obtain ⟨rfl, rfl, rfl⟩ := hy
    exact .ep ((pick_some (by simpa [A.bnd] using hb)).2 h)
  | ro f h1 h2 h3 h4 => cases x <;> simp [A.ren] at hy; subst hy; exact .ro f h1 h2 h3 h4
  | sl h h1 h2 h3 =>
    cases x <;> simp only [A.ren, A.sl.injEq, reduceCtorEq] at hy
    obtain ⟨rfl, rfl, rfl⟩ := hy
    exact .sl ((pick_some (by simpa [A.bnd] using hb)).2 h) h1 h2 h3
  | sl0 =>
    cases x <;> simp only [A.ren, A.sl.injEq, reduceCtorEq] at hy
    obtain ⟨rfl, rfl, rfl⟩ := hy
    exact .sl0
  | mp h =>
    cases x <;> simp only [A.ren, A.mp.injEq, reduceCtorEq] at hy
    subst hy
    exact .mp ((pick_some (by simpa [A.bnd] using hb)).2 h)
  | fn h1 h2 _ _ ih1 ih2 =>
    cases x <;> simp only [A.ren, A.renL_eq, A.fn.injEq, reduceCtorEq] at hy
    obtain ⟨rfl, rfl, rfl⟩ := hy
    rw [A.bnd, Bool.and_eq_true, A.bndL_iff, A.bndL_iff] at hb
    refine .fn (by simpa using h1) (by simpa using h2) (fun i a u ha hu => ih1 i _ u (by rw [List.getElem?_map, ha]; rfl) hu (hb.1 a (List.mem_of_getElem? ha)) rfl) (fun i a u ha hu => ih2 i _ u (by rw [List.getElem?_map, ha]; rfl) hu (hb.2 a (List.mem_of_getElem? ha)) rfl)
  | agg hl h1 _ ih =>
    cases x <;> simp only [A.ren, A.renL_eq, A.agg.injEq, reduceCtorEq] at hy
    subst hy
    rw [A.bnd, A.bndL_iff] at hb
    exact .agg (by simpa using hl) (fun i a u ha hu => h1 i (a.ren ρ) u (by rw [List.getElem?_map, ha]; rfl) hu) (fun i a u ha hu => ih i _ u (by rw [List.getElem?_map, ha]; rfl) hu (hb a (List.mem_of_getElem? ha)) rfl)
  | tup hl _ ih =>
    cases x <;> simp only [A.ren, A.renL_eq, A.tup.injEq, reduceCtorEq] at hy
    subst hy
    rw [A.bnd, A.bndL_iff] at hb
    exact .tup (by simpa using hl) (fun i a u ha hu => ih i _ u (by rw [List.getElem?_map, ha]; rfl) hu (hb a (List.mem_of_getElem? ha)) rfl)

theorem ARep.ren {w : World} {I : Nat → Prop} {β β' : List (Option Loc)} {ρ : List Nat} (hβ : ∀ (b : Nat) (l : Loc), β[b]? = some (some l) → b < ρ.length → β'[ρ.getD b 0]? = some (some l)) {x : A} {v : Value} (h : ARep w I β x v) : x.bnd ρ.length = true → ARep w I β' (x.ren ρ) v := by
  induction h with
  | d h => exact fun _ => .d h
  | nl => exact fun _ => .nl
  | er => exact fun _ => .er
  | any h => exact fun _ => .any h
  | ptr h => exact fun hb => .ptr (hβ _ _ h (by simpa [A.bnd] using hb))
  | ep h => exact fun hb => .ep (hβ _ _ h (by simpa [A.bnd] using hb))
  | ro f h1 h2 h3 h4 => exact fun _ => .ro f h1 h2 h3 h4
  | sl h h1 h2 h3 => exact fun hb => .sl (hβ _ _ h (by simpa [A.bnd] using hb)) h1 h2 h3
  | sl0 => exact fun _ => .sl0
  | mp h => exact fun hb => .mp (hβ _ _ h (by simpa [A.bnd] using hb))
  | fn h1 h2 _ _ ih1 ih2 =>
    intro hb
    rw [A.bnd, Bool.and_eq_true, A.bndL_iff, A.bndL_iff] at hb
    rw [A.ren, A.renL_eq, A.renL_eq]
    refine .fn (by simpa using h1) (by simpa using h2) (fun i a u ha hu => ?_) (fun i a u ha hu => ?_)
    · rw [List.getElem?_map, Option.map_eq_some_iff] at ha
      obtain ⟨a, ha, rfl⟩ := ha
      exact ih1 i a u ha hu (hb.1 a (List.mem_of_getElem? ha))
    · rw [List.getElem?_map, Option.map_eq_some_iff] at ha
      obtain ⟨a, ha, rfl⟩ := ha
      exact ih2 i a u ha hu (hb.2 a (List.mem_of_getElem? ha))
  | agg hl h1 _ ih =>
    intro hb
    rw [A.bnd, A.bndL_iff] at hb
    rw [A.ren, A.renL_eq]
    refine .agg (by simpa using hl) (fun i a u ha hu => ?_) (fun i a u ha hu => ?_)
    · rw [List.getElem?_map, Option.map_eq_some_iff] at ha
      obtain ⟨a, ha, rfl⟩ := ha
      exact h1 i a u ha hu
    · rw [List.getElem?_map, Option.map_eq_some_iff] at ha
      obtain ⟨a, ha, rfl⟩ := ha
      exact ih i a u ha hu (hb a (List.mem_of_getElem? ha))
  | tup hl _ ih =>
    intro hb
    rw [A.bnd, A.bndL_iff] at hb
    rw [A.ren, A.renL_eq]
    refine .tup (by simpa using hl) (fun i a u ha hu => ?_)
    rw [List.getElem?_map, Option.map_eq_some_iff] at ha
    obtain ⟨a, ha, rfl⟩ := ha
    exact ih i a u ha hu (hb a (List.mem_of_getElem? ha))

theorem BRel.ren_back {w : World} {I : Nat → Prop} {β : List (Option Loc)} {ρ : List Nat} {k : Blk} {l : Loc} (hb : k.bnd ρ.length = true) (h : BRel w I β (k.ren ρ) l) : BRel w I (pick ρ β) k l := by
  cases k with
  | dead => trivial
  | arr _ xs => exact h
  | sit s pos => exact h
  | cells cs =>
    obtain ⟨f, h⟩ := h
    rw [Blk.bnd, A.bndL_iff] at hb
    refine ⟨f, fun i a ha => ?_⟩
    obtain ⟨h1, h2, h3⟩ := h i (a.ren ρ) (by rw [A.renL_eq, List.getElem?_map, ha]; rfl)
    exact ⟨h1, h2, h3.ren_back (hb a (List.mem_of_getElem? ha))⟩
  | map es =>
    obtain ⟨arr, h1, h2, h3⟩ := h
    rw [Blk.bnd, List.all_eq_true] at hb
    refine ⟨arr, by simpa using h1, by simpa using h2, fun i k a e hk he => ?_⟩
    obtain ⟨p1, p2, p3⟩ := h3 i k (a.ren ρ) e (by rw [List.getElem?_map, hk]; rfl) he
    exact ⟨p1, p2.ren_back (hb _ (List.mem_of_getElem? hk)), p3⟩
theorem BRel.ren {w : World} {I : Nat → Prop} {β β' : List (Option Loc)} {ρ : List Nat} (hβ : ∀ (b : Nat) (l : Loc), β[b]? = some (some l) → b < ρ.length → β'[ρ.getD b 0]? = some (some l)) {k : Blk} {l : Loc} (hb : k.bnd ρ.length = true) (h : BRel w I β k l) : BRel w I β' (k.ren ρ) l := by
  cases k with
  | dead => trivial
  | arr _ xs => exact h
  | sit s pos => exact h
  | cells cs =>
    obtain ⟨f, h⟩ := h
    rw [Blk.bnd, A.bndL_iff] at hb
    refine ⟨f, fun i a ha => ?_⟩
    rw [A.renL_eq, List.getElem?_map, Option.map_eq_some_iff] at ha
    obtain ⟨a, ha, rfl⟩ := ha
    obtain ⟨h1, h2, h3⟩ := h i a ha
    exact ⟨h1, h2, h3.ren hβ (hb a (List.mem_of_getElem? ha))⟩
  | map es =>
    obtain ⟨arr, h1, h2, h3⟩ := h
    rw [Blk.bnd, List.all_eq_true] at hb
    refine ⟨arr, by simpa using h1, by simpa using h2, fun i k a e hk he => ?_⟩
    rw [List.getElem?_map, Option.map_eq_some_iff] at hk
    obtain ⟨⟨k', a'⟩, hk, he'⟩ := hk
    simp only [Prod.mk.injEq] at he'
    obtain ⟨rfl, rfl⟩ := he'
    obtain ⟨p1, p2, p3⟩ := h3 i k' a' e hk he
    exact ⟨p1, p2.ren hβ (hb _ (List.mem_of_getElem? hk)), p3⟩
theorem Blk.live_ren (ρ : List Nat) (k : Blk) : (k.ren ρ).live = k.live := by cases k <;> rfl

/-- What of a state is kept: slots, and blocks in a new order. -/
def subT (ρ : List Nat) (t : List (Nat × A)) : List (Nat × A) → Prop
  | [] => True
  | (k, x) :: r => x.bnd ρ.length = true ∧ getT t k = some (x.ren ρ) ∧ subT ρ t r
def subS (ρ : List Nat) (σ : List Blk) : List Nat → List Blk → Prop
  | [], [] => True
  | b :: bs, k :: ks => k.bnd ρ.length = true ∧ σ[b]? = some (k.ren ρ) ∧ subS ρ σ bs ks
  | _, _ => False
def idTo (K : Nat) (ρ : List Nat) : Prop := ρ.take K = List.range K
structure Sub (K : Nat) (ρ : List Nat) (s' s : St) : Prop where
  n : s'.n = s.n
  id : idTo K ρ
  nd : ρ.Nodup
  t : subT ρ s.t s'.t
  σ : subS ρ s.σ ρ s'.σ

theorem nodup_inj {l : List Nat} (h : l.Nodup) {i j x : Nat} (hi : l[i]? = some x) (hj : l[j]? = some x) : i = j := by
  obtain ⟨i1, e1⟩ := List.getElem?_eq_some_iff.1 hi
  obtain ⟨i2, e2⟩ := List.getElem?_eq_some_iff.1 hj
  have hp := List.pairwise_iff_getElem.1 h
  rcases Nat.lt_trichotomy i j with h1 | h1 | h1
  · exact absurd (e1.trans e2.symm) (hp i j i1 i2 h1)
  · exact h1
  · exact absurd (e2.trans e1.symm) (hp j i i2 i1 h1)
theorem subT_get {ρ : List Nat} {t : List (Nat × A)} : ∀ {t' : List (Nat × A)}, subT ρ t t' → ∀ (k : Nat) (x : A), getT t' k = some x → x.bnd ρ.length = true ∧ getT t k = some (x.ren ρ)
  | [], _, k, x, h => by simp [getT] at h
  | (j, y) :: r, ⟨h1, h2, h3⟩, k, x, h => by
    rw [getT] at h
    split at h
    · rename_i e
      subst e
      cases h
      exact ⟨h1, h2⟩
    · exact subT_get h3 k x h
theorem subS_get {ρ : List Nat} {σ : List Blk} : ∀ {bs : List Nat} {ks : List Blk}, subS ρ σ bs ks → bs.length = ks.length ∧ ∀ (j : Nat) (k : Blk), ks[j]? = some k → k.bnd ρ.length = true ∧ ∃ b, bs[j]? = some b ∧ σ[b]? = some (k.ren ρ)
  | [], [], _ => ⟨rfl, fun j k h => by simp at h⟩
  | b :: bs, k :: ks, ⟨h1, h2, h3⟩ => by
    obtain ⟨h4, h5⟩ := subS_get h3
    refine ⟨by simp [h4], fun j q h => ?_⟩
    cases j with
    | zero =>
      simp only [List.getElem?_cons_zero, Option.some.injEq] at h
      subst h
      exact ⟨h1, b, rfl, h2⟩
    | succ j => exact h5 j q (by simpa using h)
  | [], _ :: _, h => h.elim
  | _ :: _, [], h => h.elim

theorem Rel.subP {C : Ctx} {K : Nat} {ρ : List Nat} {s' s : St} {a : Act} {w : World} {I : Nat → Prop} {β : List (Option Loc)} (h : Sub K ρ s' s) (r : Rel C s a w I β) :
    Rel C s' a w I (pick ρ β) ∧ Ext K w I (Own β s.σ) β w I (Own (pick ρ β) s'.σ) (pick ρ β) := by
  obtain ⟨hl, hs⟩ := subS_get h.σ
  have hpk : ∀ (b : Nat) (l : Loc) (k : Blk), (pick ρ β)[b]? = some (some l) → s'.σ[b]? = some k → ∃ c, ρ[b]? = some c ∧ β[c]? = some (some l) ∧ s.σ[c]? = some (k.ren ρ) ∧ k.bnd ρ.length = true := by
    intro b l k hb hk
    obtain ⟨h1, c, h2, h3⟩ := hs b k hk
    obtain ⟨hbl, _⟩ := List.getElem?_eq_some_iff.1 h2
    have := (pick_some hbl).1 hb
    rw [List.getD_eq_getElem?_getD, h2] at this
    exact ⟨c, h2, this, h3, h1⟩
  have hown : ∀ r, Own (pick ρ β) s'.σ r → Own β s.σ r := by
    rintro r ⟨b, l, k, h1, h2, h3, rfl⟩
    obtain ⟨c, _, h5, h6, _⟩ := hpk b l k h1 h2
    exact ⟨c, l, _, h5, h6, by rw [Blk.live_ren]; exact h3, rfl⟩
  refine ⟨⟨r.size.trans h.n.symm, r.defers, fun k x hk => ?_, ?_⟩, ?_⟩
  · obtain ⟨h1, h2⟩ := subT_get h.t k x hk
    obtain ⟨u, h3, h4⟩ := r.tmps k _ h2
    exact ⟨u, h3, h4.ren_back h1⟩
  · refine ⟨by rw [pick, List.length_map, hl], fun b l k hb hk => ?_, fun b l k hb hk hlv => ?_, fun b k hb hk => ?_, fun b b' l l' k k' hb hk hlv hb' hk' hlv' he => ?_, r.heap.imm, r.heap.env, r.heap.size⟩
    · obtain ⟨c, _, h2, h3, h4⟩ := hpk b l k hb hk
      exact (r.heap.blk c l _ h2 h3).ren_back h4
    · obtain ⟨c, _, h2, h3, h4⟩ := hpk b l k hb hk
      exact r.heap.own c l _ h2 h3 (by rw [Blk.live_ren]; exact hlv)
    · obtain ⟨h1, c, h2, h3⟩ := hs b k hk
      have hn : β[c]? = some none := by
        have : (pick ρ β)[b]? = some ((β[c]?).join) := by rw [pick, List.getElem?_map, h2]; rfl
        rw [this] at hb
        have hc : c < β.length := by rw [r.heap.len]; exact (List.getElem?_eq_some_iff.1 h3).1
        rw [List.getElem?_eq_getElem hc] at hb ⊢
        simpa using hb
      rcases r.heap.nowh c _ hn h3 with h4 | h4 | h4
      · cases k <;> simp [Blk.ren] at h4; exact .inl rfl
      · cases k with
        | cells cs => simp only [Blk.ren, A.renL_eq, Blk.cells.injEq, List.map_eq_nil_iff] at h4; subst h4; exact .inr (.inl rfl)
        | _ => simp [Blk.ren] at h4
      · obtain ⟨n, h4⟩ := h4
        cases k <;> simp [Blk.ren] at h4
        obtain ⟨rfl, rfl⟩ := h4; exact .inr (.inr ⟨_, rfl⟩)
    · obtain ⟨c, h1, h2, h3, h4⟩ := hpk b l k hb hk
      obtain ⟨c', h1', h2', h3', h4'⟩ := hpk b' l' k' hb' hk'
      have := r.heap.dist c c' l l' _ _ h2 h3 (by rw [Blk.live_ren]; exact hlv) h2' h3' (by rw [Blk.live_ren]; exact hlv') he
      subst this
      exact nodup_inj h.nd h1 h1'
  · refine ⟨rfl, rfl, rfl, Nat.le_refl _, fun _ _ _ => rfl, fun _ h => h, fun _ h => h, fun _ h => .inl h, fun r hr => .inl (hown r hr), fun b l hb h1 => ?_⟩
    have : ρ[b]? = some b := by
      have h2 : (ρ.take K)[b]? = some b := by rw [h.id]; simp [hb]
      rwa [List.getElem?_take_of_lt hb] at h2
    obtain ⟨hbl, _⟩ := List.getElem?_eq_some_iff.1 this
    refine (pick_some hbl).2 ?_
    rw [List.getD_eq_getElem?_getD, this]
    exact h1

theorem Rel.sub {C : Ctx} {K : Nat} {ρ : List Nat} {s' s : St} {a : Act} {w : World} {I : Nat → Prop} {β : List (Option Loc)} (h : Sub K ρ s' s) (r : Rel C s a w I β) :
    ∃ β', Rel C s' a w I β' ∧ Ext K w I (Own β s.σ) β w I (Own β' s'.σ) β' := ⟨_, Rel.subP h r⟩
theorem AW.sub {C : Ctx} {K : Nat} {Q : Exit → St → Prop} {c : Code} {s' s : St} (ρ : List Nat) (h : Sub K ρ s' s) (hw : AW C K c Q s') : AW C K c Q s := by
  intro a w I β r
  obtain ⟨β', r', e⟩ := r.sub h
  exact wp_mono (hw a w I β' r') fun e' a' w' ⟨s'', I', β'', q, r'', e''⟩ => ⟨s'', I', β'', q, r'', e.trans e''⟩
/-- A loop whose rounds end in a state that holds what the relation names. -/
theorem AW.loop_sub {C : Ctx} {K : Nat} {Q : Exit → St → Prop} {c : Code} {s : St} (J : Nat → St → Prop) (n : Nat) (s0 : St) (ρ : List Nat) (h0 : Sub K ρ s0 s) (hJ : J n s0)
    (round : ∀ n s, J n s → AW C K c (EThen (fun s' => ∃ m, m < n ∧ ∃ s'' ρ, Sub K ρ s'' s' ∧ J m s'') Q) s) : AW C K (.loop c) Q s := by
  refine AW.sub ρ h0 (AW.loop J n hJ fun n s hJ a w I β r => ?_)
  refine wp_mono (round n s hJ a w I β r) ?_
  rintro e a' w' ⟨s', I', β', q, r', e'⟩
  cases e with
  | normal =>
    obtain ⟨m, hm, s'', ρ, hs, hj⟩ := q
    obtain ⟨β'', r'', e''⟩ := r'.sub hs
    exact ⟨s'', I', β'', ⟨m, hm, hj⟩, r'', e'.trans e''⟩
  | _ => exact ⟨s', I', β', q, r', e'⟩
end Go.AM
end
section
namespace Go.AM
open Go.RowKit
set_option linter.unusedVariables false
set_option linter.unusedSimpArgs false

def szT (P : Program) (t : TypeId) : Option Nat := (P.info? t).map (·.size)
def bytesT (P : Program) (t : TypeId) : Option Nat := (P.info? t).map (·.bytes)
def zeroT (P : Program) (t : TypeId) : Option Value := (P.info? t).bind (·.zero)
/-- Whether values of the type have several cells. -/
def agT (P : Program) (t : TypeId) : Option Bool := match P.underlying t with
  | some (.struct _) => some true
  | some (.array _ _) => some true
  | some _ => some false
  | none => none
/-- An element type: its cells and bytes. -/
def elB (P : Program) (e : TypeId) : Option (Nat × Nat) := match P.info? e with
  | some i => match i.zero with
    | some z => if z.cells.size = i.size then some (i.size, i.bytes) else none
    | none => none
  | none => none
/-- A field: its offset and type. -/
def fldT (P : Program) (t : TypeId) (f : Nat) : Option (Nat × TypeId) := match P.underlying t with
  | some (.struct fs) => (fs[f]?).map fun g => (g.offset, g.type)
  | _ => none
/-- The element type of a slice type. -/
def elT (P : Program) (t : TypeId) : Option TypeId := match P.underlying t with
  | some (.slice e) => some e
  | _ => none
def arT (P : Program) (t : TypeId) : Option (Nat × TypeId) := match P.underlying t with
  | some (.array n e) => some (n, e)
  | _ => none
inductive Kn where
  | str | int (k : IntKind) | bool | slice | map | other
  deriving DecidableEq
def knT (P : Program) (t : TypeId) : Option Kn := match P.underlying t with
  | some .string => some .str
  | some (.int k) => some (.int k)
  | some .bool => some .bool
  | some (.slice _) => some .slice
  | some (.map _ _) => some .map
  | some _ => some .other
  | none => none

def A.isTup : A → Bool
  | .tup _ => true
  | _ => false
def allD : List A → Option (List D)
  | [] => some []
  | .d x :: r => match allD r with
    | some ds => some (x :: ds)
    | none => none
  | _ => none
def mkAgg (cs : List A) : A := match allD cs with
  | some ds => .d (.agg ds)
  | none => .agg cs
def cellA : Value → A
  | .slice none 0 0 => .nl
  | v => .d (.v v)
def constA : Value → Option A
  | .agg cs => if cs.toList.all (·.oneCell') then some (mkAgg (cs.toList.map cellA)) else none
  | .tuple _ => none
  | v => some (cellA v)
def ev (t : Nat → Option A) : Operand → Option A
  | .tmp k => t k
  | .const v => constA v
  | .func f => some (.fn (.func f) [] [])
  | .global _ => none
def evL (t : Nat → Option A) : List Operand → Option (List A)
  | [] => some []
  | x :: r => match ev t x, evL t r with
    | some a, some l => some (a :: l)
    | _, _ => none

/-- The part of a row of cells that is a value of a type. -/
def partA (P : Program) (ty : TypeId) (cs : List A) (off : Nat) : Option A :=
  match agT P ty, szT P ty with
  | some true, some n => if off + n ≤ cs.length then some (mkAgg ((cs.drop off).take n)) else none
  | some false, _ => cs[off]?
  | _, _ => none
def partD (P : Program) (ty : TypeId) (cs : List D) (off : Nat) : Option A :=
  match agT P ty, szT P ty with
  | some true, some n => if off + n ≤ cs.length then some (.d (.agg ((cs.drop off).take n))) else none
  | some false, _ => (cs[off]?).map .d
  | _, _ => none
def putAt {α : Type} (cs : List α) (off : Nat) (xs : List α) : List α := cs.take off ++ xs ++ cs.drop (off + xs.length)

/-- A block that is owned. -/
def look (σ : List Blk) (b : Nat) : Option Blk := match σ[b]? with
  | some .dead => none
  | x => x
theorem look_some {σ : List Blk} {b : Nat} {k : Blk} (h : look σ b = some k) : σ[b]? = some k := by
  unfold look at h
  split at h
  · cases h
  · exact h
mutual
/-- A value as_ plain data, what the call owns as_ it stands. -/
def A.toD (σ : List Blk) : A → Option D
  | .d x => some x
  | .nl => some (.lst [])
  | .sl b o n => match look σ b with
    | some (.arr _ xs) => if o + n ≤ xs.length then some (.lst ((xs.drop o).take n)) else none
    | _ => none
  | .agg cs => match A.toDL σ cs with
    | some zs => some (.agg zs)
    | none => none
  | _ => none
def A.toDL (σ : List Blk) : List A → Option (List D)
  | [] => some []
  | x :: r => match x.toD σ, A.toDL σ r with
    | some z, some zs => some (z :: zs)
    | _, _ => none
end
mutual
def A.kills : A → List Nat
  | .sl b _ _ => [b]
  | .agg cs => A.killsL cs
  | _ => []
def A.killsL : List A → List Nat
  | [] => []
  | x :: r => x.kills ++ A.killsL r
end
/-- What an operation comes to: what must hold, the value (given the number of the first new block), the blocks that turn, the new blocks. -/
structure Out where
  p : Prop
  v : Nat → A
  upd : List (Nat × Blk)
  new : Nat → List Blk
def val (x : A) : Out := ⟨True, fun _ => x, [], fun _ => []⟩
def valP (p : Prop) (x : A) : Out := ⟨p, fun _ => x, [], fun _ => []⟩
def newB (f : Nat → A) (k : Blk) : Out := ⟨True, f, [], fun _ => [k]⟩
def killsU : List Nat → List (Nat × Blk)
  | [] => []
  | b :: bs => (b, .dead) :: killsU bs
def maxI : Int := 9223372036854775807
def inI (x : Int) : Prop := -9223372036854775808 ≤ x ∧ x ≤ 9223372036854775807
/-- An operator on two scalars, and what must hold. -/
def binV (P : Program) (ty : TypeId) : BinOp → Value → Value → Option (Prop × Value)
  | .add, .int .i64 a, .int .i64 b => some (inI (a + b), .int .i64 (a + b))
  | .sub, .int .i64 a, .int .i64 b => some (inI (a - b), .int .i64 (a - b))
  | .mul, .int .i64 a, .int .i64 b => some (inI (a * b), .int .i64 (a * b))
  | .add, .int .u8 a, .int .u8 b => some (0 ≤ a + b ∧ a + b ≤ 255, .int .u8 (a + b))
  | .sub, .int .u8 a, .int .u8 b => some (0 ≤ a - b ∧ a - b ≤ 255, .int .u8 (a - b))
  | .rem, .int .i64 a, .int .i64 b => some (b ≠ 0, .int .i64 (a.tmod b))
  | .quo, .int .i64 a, .int .i64 b => some (b ≠ 0 ∧ inI (a.tdiv b), .int .i64 (a.tdiv b))
  | .eql, .int k a, .int k' b => if k = k' then some (True, .bool (a == b)) else none
  | .neq, .int k a, .int k' b => if k = k' then some (True, .bool (a != b)) else none
  | .lss, .int k a, .int k' b => if k = k' then some (True, .bool (decide (a < b))) else none
  | .leq, .int k a, .int k' b => if k = k' then some (True, .bool (decide (a ≤ b))) else none
  | .gtr, .int k a, .int k' b => if k = k' then some (True, .bool (decide (a > b))) else none
  | .geq, .int k a, .int k' b => if k = k' then some (True, .bool (decide (a ≥ b))) else none
  | .add, .string a, .string b => some (((a.size + b.size : Nat) : Int) ≤ maxI, .string (a ++ b))
  | .eql, .string a, .string b => some (True, .bool (a.toList == b.toList))
  | .neq, .string a, .string b => some (True, .bool (!(a.toList == b.toList)))
  | .lss, .string a, .string b => some (True, .bool (Op.bytesLess a.toList b.toList))
  | .leq, .string a, .string b => some (True, .bool (Op.bytesLess a.toList b.toList || a.toList == b.toList))
  | .gtr, .string a, .string b => some (True, .bool (!(Op.bytesLess a.toList b.toList || a.toList == b.toList)))
  | .geq, .string a, .string b => some (True, .bool (!Op.bytesLess a.toList b.toList))
  | .eql, .bool a, .bool b => some (knT P ty = some .bool, .bool (a == b))
  | .neq, .bool a, .bool b => some (knT P ty = some .bool, .bool (!(a == b)))
  | _, _, _ => none
def keyOk : Kn → Value → Bool
  | .str, .string _ => true
  | .int k, .int j _ => decide (j = k)
  | .bool, .bool _ => true
  | _, _ => false
def keyEq : Kn → Value → Value → Option Bool
  | .str, .string a, .string b => some (a == b)
  | .int k, .int _ a, .int j b => if j = k then some (a == b) else none
  | .bool, .bool a, .bool b => some (a == b)
  | _, _, _ => none
def scal : Kn → Bool
  | .str => true
  | .int _ => true
  | .bool => true
  | _ => false
/-- A struct of scalars alone: their kinds. -/
def flatF (P : Program) : Nat → List Field → Option (List Kn)
  | _, [] => some []
  | i, f :: r => if f.offset = i ∧ f.name ≠ "_" then match knT P f.type, flatF P (i + 1) r with
    | some kn, some l => match scal kn with
      | true => some (kn :: l)
      | false => none
    | _, _ => none
    else none
/-- The kinds of a struct's cells, where values of the type are equal when their cells are. -/
def eqT (P : Program) (ty : TypeId) : Option (List Kn) := match P.underlying ty with
  | some (.struct fs) => if P.stoodInHeld ty = false ∧ P.eqGuardType P.depth ty = false then flatF P 0 fs.toList else none
  | _ => none
/-- Two rows of scalars that are equal. -/
def eqCells : List Kn → List D → List D → Option Bool
  | [], [], [] => some true
  | kn :: ks, .v x :: r, .v y :: q => match keyOk kn x, keyEq kn x y, eqCells ks r q with
    | true, some a, some b => some (a && b)
    | _, _, _ => none
  | _, _, _ => none
/-- Where the parts of a struct or an array lie. -/
inductive Plc where
  | row (l : List (Nat × Nat))
  | arr (k : Nat)
def Plc.at : Plc → Nat → Option (Nat × Nat)
  | .row l, i => l[i]?
  | .arr k, i => some (i * k, k)
def plcT (P : Program) (t : TypeId) : Option Plc := match P.underlying t with
  | some (.array _ e) => (P.info? e).map fun i => .arr i.size
  | some (.struct fs) => (fs.toList.mapM fun f => (P.info? f.type).map fun i => (f.offset, i.size)).map .row
  | _ => none
/-- The parts of a build, laid into the zero value. -/
def fillA (pl : Plc) (cs : List A) : List (Nat × A) → Option (List A)
  | [] => some cs
  | (i, v) :: r => match pl.at i with
    | some (off, size) => if v.cells.length = size ∧ off + size ≤ cs.length ∧ v.isTup = false then fillA pl (putAt cs off v.cells) r else none
    | none => none
def evP (t : Nat → Option A) : List (Nat × Operand) → Option (List (Nat × A))
  | [] => some []
  | (i, x) :: r => match ev t x, evP t r with
    | some a, some l => some ((i, a) :: l)
    | _, _ => none
/-- The parts of a list literal in their order from i on. -/
def listD (σ : List Blk) (i : Nat) : List (Nat × A) → Option (List D)
  | [] => some []
  | (j, x) :: r => if j = i then match x.toD σ, listD σ (i + 1) r with
      | some z, some zs => some (z :: zs)
      | _, _ => none
    else none
def killsP : List (Nat × A) → List Nat
  | [] => []
  | (_, x) :: r => x.kills ++ killsP r

/-- A bound of a slice expression. -/
def bnd (t : Nat → Option A) (dflt : Nat) : Option Operand → Option Nat
  | none => some dflt
  | some x => match ev t x with
    | some (.d (.v (.int _ n))) => if 0 ≤ n then some n.toNat else none
    | _ => none

def oPick : A → A → A → Option Out
  | .d (.v (.bool z)), x, y => some (val (if z then x else y))
  | _, _, _ => none
def oAlloc (P : Program) (ty : TypeId) : Option Out := match zeroT P ty with
  | some z => match constA z with
    | some v => some (newB (fun b => .ptr b 0) (.cells v.cells))
    | none => none
  | none => none
def oBuild (P : Program) (ty : TypeId) (ps : List (Nat × A)) : Option Out := match zeroT P ty, plcT P ty with
  | some z, some pl => match constA z with
    | some v => match fillA pl v.cells ps with
      | some cs => some (val (mkAgg cs))
      | none => none
    | none => none
  | _, _ => none
def oBuildSlice (P : Program) (σ : List Blk) (ty : TypeId) (len : Nat) (ps : List (Nat × A)) : Option Out := match elT P ty with
  | some e => match len with
    | 0 => match elB P e with
      | some _ => some (valP (ps = []) .nl)
      | none => none
    | _ + 1 => match listD σ 0 ps, elB P e with
      | some ds, some (n, _) => some ⟨ds.length = len ∧ 0 < n ∧ len * n ≤ 16777216 ∧ ∀ x ∈ ds, x.cells.length = n, fun _ => .d (.lst ds), killsU (killsP ps), fun _ => []⟩
      | _, _ => none
  | none => none
def oLoad (P : Program) (σ : List Blk) (ty : TypeId) : A → Option Out
  | .ptr b off => match look σ b with
    | some (.cells cs) => match partA P ty cs off with
      | some v => some (val v)
      | none => none
    | _ => none
  | .ep b i off => match look σ b with
    | some (.arr _ xs) => match xs[i]? with
      | some e => match partD P ty e.cells off with
        | some v => some (val v)
        | none => none
      | none => none
    | _ => none
  | .ro cs => match partD P ty cs 0 with
    | some v => some (val v)
    | none => none
  | _ => none
def oStore (P : Program) (σ : List Blk) (ty : TypeId) (x v : A) : Option Out := match x, szT P ty with
  | .ptr b off, some n => match look σ b with
    | some (.cells cs) => if v.cells.length = n ∧ off + n ≤ cs.length ∧ v.isTup = false then some ⟨True, fun _ => .tup [], [(b, .cells (putAt cs off v.cells))], fun _ => []⟩ else none
    | _ => none
  | .ep b i off, some n => match look σ b, v.toD σ with
    | some (.arr k xs), some z => match xs[i]? with
      | some (.agg cs) => if z.cells.length = n ∧ off + n ≤ cs.length then some ⟨b ∉ v.kills, fun _ => .tup [], killsU v.kills ++ [(b, .arr k (xs.set i (.agg (putAt cs off z.cells))))], fun _ => []⟩ else none
      | some e => some ⟨e.cells.length = 1 ∧ z.cells.length = 1 ∧ off = 0 ∧ n = 1 ∧ b ∉ v.kills, fun _ => .tup [], killsU v.kills ++ [(b, .arr k (xs.set i z))], fun _ => []⟩
      | none => none
    | _, _ => none
  | _, _ => none
def oNil : A → Option Out
  | .ptr b o => some (val (.ptr b o))
  | .ep b i o => some (val (.ep b i o))
  | .ro cs => some (val (.ro cs))
  | .fn (.func f) x y => some (val (.fn (.func f) x y))
  | _ => none
/-- Pointer types. -/
def ptT (P : Program) (t : TypeId) : Bool := match P.underlying t with
  | some (.pointer _) => true
  | _ => false
def oBin (P : Program) (op : BinOp) (ty : TypeId) : A → A → Option Out
  | .d (.v a), .d (.v b) => match binV P ty op a b with
    | some (p, v) => some (valP p (.d (.v v)))
    | none => none
  | .d (.agg xs), .d (.agg ys) => match eqT P ty with
    | some ks => match eqCells ks xs ys with
      | some b => match op with
        | .eql => some (val (.d (.v (.bool b))))
        | .neq => some (val (.d (.v (.bool (!b)))))
        | _ => none
      | none => none
    | none => none
  | .ptr _ _, .d (.v (.pointer none)) => match ptT P ty with
    | true => match op with
      | .eql => some (val (.d (.v (.bool false))))
      | .neq => some (val (.d (.v (.bool true))))
      | _ => none
    | false => none
  | _, _ => none
def oUn : UnOp → A → Option Out
  | .not, .d (.v (.bool b)) => some (val (.d (.v (.bool (!b)))))
  | .neg, .d (.v (.int .i64 n)) => some (valP (inI (0 - n)) (.d (.v (.int .i64 (0 - n)))))
  | _, _ => none
def oConv (P : Program) (src dst : TypeId) : A → Option Out
  | .d (.v (.int k n)) => match knT P src, knT P dst with
    | some _, some (.int .i64) => some (valP (inI n) (.d (.v (.int .i64 n))))
    | _, _ => none
  | .d (.v (.string s)) => match knT P src, knT P dst with
    | some _, some .str => some (val (.d (.v (.string s))))
    | _, _ => none
  | _ => none
def oMake (P : Program) (ty : TypeId) : A → A → Option Out
  | .d (.v (.int .i64 n)), .d (.v (.int .i64 m)) => match elT P ty with
    | some e => match zeroT P e, elB P e with
      | some z, some (k, by') => match constA z with
        | some v => match v.toD [] with
          | some y => some ⟨0 ≤ n ∧ n ≤ m ∧ (by' : Int) * m ≤ 281474976710656 ∧ m ≤ 9223372036854775807 ∧ y.cells.length = k, fun b => .sl b 0 n.toNat, [], fun _ => [.arr k (List.replicate n.toNat y)]⟩
          | none => none
        | none => none
      | _, _ => none
    | none => none
  | _, _ => none
def oSlice (P : Program) (t : Nat → Option A) (σ : List Blk) (ty : TypeId) (lo hi mx : Option Operand) : A → Option Out
  | .d (.lst xs) => match elT P ty, bnd t 0 lo, bnd t xs.length hi, bnd t xs.length mx with
    | some e, some l, some h, some m => match szT P e with
      | some k => some (valP ((mx.isNone || hi.isSome) = true ∧ l ≤ h ∧ h ≤ m ∧ m ≤ xs.length ∧ ∀ z ∈ xs, z.cells.length = k) (.d (.lst ((xs.drop l).take (h - l)))))
      | none => none
    | _, _, _, _ => none
  | .sl b o n => match elT P ty, bnd t 0 lo, bnd t n hi, mx, look σ b with
    | some e, some l, some h, none, some (.arr k xs) => if szT P e = some k then some (valP (l ≤ h ∧ h ≤ n) (.sl b (o + l) (h - l))) else none
    | _, _, _, _, _ => none
  | .d (.v (.string s)) => match knT P ty, bnd t 0 lo, bnd t s.size hi, mx with
    | some .str, some l, some h, none => some (valP (l ≤ h ∧ h ≤ s.size) (.d (.v (.string (s.extract l h)))))
    | _, _, _, _ => none
  | _ => none
def oFieldAddr (P : Program) (s : TypeId) (f : Nat) (x : A) : Option Out := match fldT P s f with
  | some (off, ft) => match szT P ft with
    | some (_ + 1) => match x with
      | .ptr b o => some (val (.ptr b (o + off)))
      | .ep b i o => some (val (.ep b i (o + off)))
      | .ro cs => some (val (.ro (cs.drop off)))
      | _ => none
    | _ => none
  | none => none
def oField (P : Program) (ty : TypeId) (f : Nat) (x : A) : Option Out := match fldT P ty f with
  | some (off, ft) => match x with
    | .d (.agg cs) => match partD P ft cs off with
      | some v => some (val v)
      | none => none
    | .agg cs => match partA P ft cs off with
      | some v => some (val v)
      | none => none
    | _ => none
  | none => none
def intOf? : A → Option Int
  | .d (.v (.int _ n)) => some n
  | _ => none
def oIndexAddr (P : Program) (σ : List Blk) (ty : TypeId) (x y : A) : Option Out := match intOf? y with
  | some n => match x with
    | .d (.lst xs) => match elT P ty with
      | some e => if 0 ≤ n then match xs[n.toNat]? with
          | some y => some (valP (szT P e = some y.cells.length) (.ro y.cells))
          | none => none
        else none
      | none => none
    | .sl b o len => match elT P ty, look σ b with
      | some e, some (.arr k xs) => if szT P e = some k then some (valP (0 ≤ n ∧ n < len) (.ep b (o + n.toNat) 0)) else none
      | _, _ => none
    | .ptr b o => match arT P ty with
      | some (len, e) => match szT P e with
        | some k => some (valP (0 ≤ n ∧ n < len ∧ 2 ≤ len) (.ptr b (o + n.toNat * k)))
        | none => none
      | none => none
    | _ => none
  | none => none
def oIndex (P : Program) (ty : TypeId) : A → A → Option Out
  | .d (.v (.string s)), .d (.v (.int _ n)) => match knT P ty with
    | some .str => if 0 ≤ n then match s[n.toNat]? with
        | some b => some (val (.d (.v (.int .u8 b.toNat))))
        | none => none
      else none
    | _ => none
  | .d (.agg cs), .d (.v (.int _ n)) => match arT P ty with
    | some (len, e) => match szT P e with
      | some k => if 0 ≤ n ∧ n < len then match partD P e cs (n.toNat * k) with
          | some v => some (val v)
          | none => none
        else none
      | none => none
    | none => none
  | _, _ => none
def oExtract (i : Nat) : A → Option Out
  | .tup vs => match vs[i]? with
    | some v => some (val v)
    | none => none
  | _ => none
def oLen (P : Program) (σ : List Blk) (ty : TypeId) (x : A) : Option Out := match knT P ty with
  | some .str => match x with
    | .d (.v (.string s)) => some (val (.d (.v (.int .i64 s.size))))
    | _ => none
  | some .slice => match x with
    | .d (.lst xs) => some (val (.d (.v (.int .i64 xs.length))))
    | .nl => some (val (.d (.v (.int .i64 0))))
    | .sl _ _ n => some (val (.d (.v (.int .i64 n))))
    | _ => none
  | some .map => match x with
    | .mp b => match look σ b with
      | some (.map es) => some (val (.d (.v (.int .i64 es.length))))
      | _ => none
    | _ => none
  | _ => none
def oAppend (P : Program) (σ : List Blk) (ty yt : TypeId) (x y : A) : Option Out := match elT P ty, knT P yt, y.toD σ with
  | some e, some .slice, some (.lst ys) => match elB P e with
    | some (k, by') => match x with
      | .nl => some ⟨ys.length * by' ≤ 140737488355328 ∧ ys.length ≤ 9223372036854775807 ∧ ∀ z ∈ ys, z.cells.length = k, fun n => .sl n 0 ys.length, [], fun _ => [.arr k ys]⟩
      | .d (.lst xs) => match ys with
        | [] => some ⟨True, fun _ => .d (.lst xs), [], fun _ => [.dead]⟩
        | _ => none
      | .sl b o n => match look σ b with
        | some (.arr k' xs) => some ⟨k' = k ∧ (n + ys.length) * by' ≤ 140737488355328 ∧ n + ys.length ≤ 9223372036854775807 ∧ o + n ≤ xs.length ∧ ∀ z ∈ ys, z.cells.length = k, fun m => .sl m 0 (n + ys.length), [(b, .dead)], fun _ => [.arr k ((xs.drop o).take n ++ ys)]⟩
        | _ => none
      | _ => none
    | none => none
  | _, _, _ => none
/-- The zero value of an element type as_ plain data. -/
def zD (P : Program) (e : TypeId) : Option D := match zeroT P e with
  | some z => match constA z with
    | some v => v.toD []
    | none => none
  | none => none
def oClear (P : Program) (σ : List Blk) (ty : TypeId) (x : A) : Option Out := match elT P ty with
  | some e => match x with
    | .nl => some (val (.tup []))
    | .d (.lst []) => some (val (.tup []))
    | .sl b o n => match n with
      | 0 => some (val (.tup []))
      | _ + 1 => match look σ b, zD P e, elB P e with
        | some (.arr k' xs), some z, some (k, _) => some ⟨k' = k ∧ o + n ≤ xs.length ∧ z.cells.length = k, fun _ => .tup [], [(b, .arr k' (xs.take o ++ List.replicate n z ++ xs.drop (o + n)))], fun _ => []⟩
        | _, _, _ => none
    | _ => none
  | none => none
def oBuiltin (P : Program) (σ : List Blk) (b : Builtin) (xs : List A) (tys : List TypeId) : Option Out := match b with
  | .len => match xs, tys with
    | [x], ty :: _ => oLen P σ ty x
    | _, _ => none
  | .append => match xs, tys with
    | [x, y], [ty, yt] => oAppend P σ ty yt x y
    | _, _ => none
  | .min => match xs with
    | [.d (.v (.int k a)), .d (.v (.int _ b))] => some (val (.d (.v (.int k (if b < a then b else a)))))
    | _ => none
  | .max => match xs with
    | [.d (.v (.int k a)), .d (.v (.int _ b))] => some (val (.d (.v (.int k (if b > a then b else a)))))
    | _ => none
  | .clear => match xs, tys with
    | [x], ty :: _ => oClear P σ ty x
    | _, _ => none
  | _ => none
/-- Keys: a scalar, or a struct of scalars. -/
inductive KK where
  | one (kn : Kn)
  | row (ks : List Kn)
def kkT (P : Program) (k : TypeId) : Option KK := match knT P k with
  | some kn => match scal kn with
    | true => some (.one kn)
    | false => match eqT P k with
      | some ks => some (.row ks)
      | none => none
  | none => none
/-- A map's key type, its kind, its element type. -/
def mpT (P : Program) (t : TypeId) : Option (TypeId × KK × TypeId) := match P.underlying t with
  | some (.map k e) => match kkT P k with
    | some kk => some (k, kk, e)
    | none => none
  | _ => none
def keysOk : List Kn → List D → Bool
  | [], [] => true
  | kn :: ks, .v x :: r => keyOk kn x && keysOk ks r
  | _, _ => false
def keyOkD : KK → D → Bool
  | .one kn, .v x => keyOk kn x
  | .row ks, .agg xs => keysOk ks xs
  | _, _ => false
def keyEqD : KK → D → D → Option Bool
  | .one kn, .v x, .v y => keyEq kn x y
  | .row ks, .agg xs, .agg ys => eqCells ks xs ys
  | _, _, _ => none
/-- Where a key stands in a map, and what stands there. -/
def mfind (kk : KK) (k : D) : List (D × A) → Nat → Option (Option (Nat × A))
  | [], _ => some none
  | (q, a) :: r, i => match keyEqD kk k q with
    | some true => some (some (i, a))
    | some false => mfind kk k r (i + 1)
    | none => none
def zA (P : Program) (e : TypeId) : Option A := match zeroT P e with
  | some z => constA z
  | none => none
def withOk (ok : Bool) (x : A) (b : Bool) : A := match ok with
  | true => .tup [x, .d (.v (.bool b))]
  | false => x
def oLookup (P : Program) (σ : List Blk) (ty : TypeId) (ok : Bool) (x k : A) : Option Out := match mpT P ty, k with
  | some (_, kk, e), .d kd => match keyOkD kk kd with
    | true => match x with
      | .mp b => match look σ b with
        | some (.map es) => match mfind kk kd es 0 with
          | some (some (_, a)) => some (val (withOk ok a true))
          | some none => match zA P e with
            | some z => some (val (withOk ok z false))
            | none => none
          | none => none
        | _ => none
      | .d (.v (.map none)) => match zA P e with
        | some z => some (val (withOk ok z false))
        | none => none
      | _ => none
    | false => none
  | _, _ => none
def oMapUpdate (P : Program) (σ : List Blk) (ty : TypeId) (x k v : A) : Option Out := match mpT P ty, k with
  | some (_, kk, _), .d kd => match keyOkD kk kd with
    | true => match x with
      | .mp b => match look σ b with
        | some (.map es) => match mfind kk kd es 0 with
          | some (some (i, _)) => some ⟨True, fun _ => .tup [], [(b, .map (es.set i (kd, v)))], fun _ => []⟩
          | some none => some ⟨True, fun _ => .tup [], [(b, .map (es ++ [(kd, v)]))], fun _ => []⟩
          | none => none
        | _ => none
      | _ => none
    | false => none
  | _, _ => none
/-- Held against nil, as_ a constant: a slice, an interface's value. -/
inductive NK where
  | sl | ifc | no
def nilK : Operand → NK
  | .const (.slice none 0 0) => .sl
  | .const .nilIface => .ifc
  | _ => .no
def ifT (P : Program) (t : TypeId) : Bool := match P.underlying t with
  | some (.interface _) => true
  | _ => false
def oErrCmp (P : Program) (op : BinOp) (ty : TypeId) (x : A) : Option Out := match ifT P ty with
  | true => match x with
    | .er => eqB op false
    | .d (.v .nilIface) => eqB op true
    | _ => none
  | false => none
where eqB (op : BinOp) (b : Bool) : Option Out := match op with
  | .eql => some (val (.d (.v (.bool b))))
  | .neq => some (val (.d (.v (.bool (!b)))))
  | _ => none
def slT (P : Program) (t : TypeId) : Bool := match P.underlying t with
  | some (.slice _) => true
  | _ => false
/-- A slice that is not empty, held against nil. -/
def oNilCmp (P : Program) (op : BinOp) (ty : TypeId) (x : A) : Option Out := match slT P ty with
  | true => match x with
    | .d (.lst (_ :: _)) => oNo op
    | .sl _ _ (_ + 1) => oNo op
    | _ => none
  | false => none
where oNo : BinOp → Option Out
  | .eql => some (val (.d (.v (.bool false))))
  | .neq => some (val (.d (.v (.bool true))))
  | _ => none
def oRange (P : Program) (ty : TypeId) : A → Option Out
  | .d (.v (.string s)) => match knT P ty with
    | some .str => some (newB (fun b => .ptr b 0) (.sit s 0))
    | _ => none
  | _ => none
def oNext (σ : List Blk) : A → Option Out
  | .ptr b 0 => match look σ b with
    | some (.sit s pos) => if pos < s.size then some ⟨True, fun _ => .tup [.d (.v (.bool true)), .d (.v (.int .i64 pos)), .d (.v (.int .i32 (Utf8.decode s pos).1))], [(b, .sit s (pos + (Utf8.decode s pos).2))], fun _ => []⟩
      else some (val (.tup [.d (.v (.bool false))]))
    | _ => none
  | _ => none
def on3 (x y z : Option A) (f : A → A → A → Option Out) : Option Out := match x, y, z with
  | some a, some b, some c => f a b c
  | _, _, _ => none
def on1 (x : Option A) (f : A → Option Out) : Option Out := match x with
  | some a => f a
  | none => none
def on2 (x y : Option A) (f : A → A → Option Out) : Option Out := match x, y with
  | some a, some b => f a b
  | _, _ => none
def opEval (P : Program) (t : Nat → Option A) (σ : List Blk) (o : Op) : Option Out :=
  match o with
  | .move x => on1 (ev t x) fun v => some (val v)
  | .assign x => on1 (ev t x) fun v => some (val v)
  | .pick c a b => on1 (ev t c) fun c => on2 (ev t a) (ev t b) fun x y => oPick c x y
  | .alloc ty => oAlloc P ty
  | .box _ x => on1 (ev t x) fun v => if v.isTup = false then some (newB (fun b => .ptr b 0) (.cells v.cells)) else none
  | .build ty parts => match evP t parts.toList with
    | some ps => oBuild P ty ps
    | none => none
  | .buildSlice ty len parts => match evP t parts.toList with
    | some ps => oBuildSlice P σ ty len ps
    | none => none
  | .load ty x => on1 (ev t x) (oLoad P σ ty)
  | .store ty x y => on2 (ev t x) (ev t y) (oStore P σ ty)
  | .nilCheck x => on1 (ev t x) oNil
  | .binOp op ty x y _ => match nilK y with
    | .sl => on1 (ev t x) (oNilCmp P op ty)
    | .ifc => on1 (ev t x) (oErrCmp P op ty)
    | .no => on2 (ev t x) (ev t y) (oBin P op ty)
  | .unOp op _ x => on1 (ev t x) (oUn op)
  | .convert src dst x => on1 (ev t x) (oConv P src dst)
  | .makeFunc f first cap => match evL t first.toList, evL t cap.toList with
    | some x, some y => some (val (.fn f x y))
    | _, _ => none
  | .makeMap _ none => some (newB .mp (.map []))
  | .lookup ty x k ok => on2 (ev t x) (ev t k) (oLookup P σ ty ok)
  | .mapUpdate ty x k v => on3 (ev t x) (ev t k) (ev t v) (oMapUpdate P σ ty)
  | .insert ty x k v => on3 (ev t x) (ev t k) (ev t v) (oMapUpdate P σ ty)
  | .makeSlice ty l c => on2 (ev t l) (ev t c) (oMake P ty)
  | .slice ty x lo hi mx => on1 (ev t x) (oSlice P t σ ty lo hi mx)
  | .fieldAddr s x f => on1 (ev t x) (oFieldAddr P s f)
  | .field ty x f => on1 (ev t x) (oField P ty f)
  | .indexAddr ty x i => on2 (ev t x) (ev t i) (oIndexAddr P σ ty)
  | .index ty x i => on2 (ev t x) (ev t i) (oIndex P ty)
  | .extract x i => on1 (ev t x) (oExtract i)
  | .range ty x => on1 (ev t x) (oRange P ty)
  | .next x true => on1 (ev t x) (oNext σ)
  | .call { callee := .builtin b, args, argTypes } => match evL t args.toList with
    | some xs => oBuiltin P σ b xs argTypes.toList
    | none => none
  | _ => none
def updσ (σ : List Blk) : List (Nat × Blk) → List Blk
  | [] => σ
  | (b, k) :: r => updσ (σ.set b k) r
def setAll (σ : List Blk) (nb : Nat) : List Blk → List Blk
  | [] => σ
  | k :: ks => setAll (σ.set nb k) (nb + 1) ks
def putσ (σ : List Blk) (o : Out) (nb : Nat) : List Blk := setAll (updσ σ o.upd) nb (o.new nb)
end Go.AM
end
section
namespace Go.AM
open Go.RowKit
set_option linter.unusedVariables false
set_option linter.unusedSimpArgs false

theorem BRel.mono {w w' : World} {I I' : Nat → Prop} {β β' : List (Option Loc)} {k : Blk} {l : Loc} (hw : ∀ a : Addr, I a.block → w'.cell? a = w.cell? a) (hI : ∀ r, I r → I' r) (hβ : ∀ (b : Nat) (l : Loc), β[b]? = some (some l) → β'[b]? = some (some l))
    (hc : ∀ a : Addr, (w.cell? a).isSome = true → (w'.cell? a).isSome = true) (hl : w'.heap[l.r]? = w.heap[l.r]?) (h : BRel w I β k l) : BRel w' I' β' k l := by
  have hcell : ∀ o, w'.cell? ⟨l.r, o, none⟩ = w.cell? ⟨l.r, o, none⟩ := fun o => cell_of_heap hl
  cases k with
  | dead => trivial
  | cells cs =>
    obtain ⟨f, h⟩ := h
    exact ⟨f, fun i a ha => ⟨(hcell _).trans (h i a ha).1, (h i a ha).2.1, (h i a ha).2.2.mono hw hI hβ hc⟩⟩
  | arr n xs =>
    obtain ⟨h1, h2, f, h⟩ := h
    exact ⟨h1, h2, f, fun j x i c hj hi => ⟨(hcell _).trans (h j x i c hj hi).1, (h j x i c hj hi).2.1, (h j x i c hj hi).2.2.mono hw hI⟩⟩
  | map es =>
    obtain ⟨arr, h1, h2, h3⟩ := h
    exact ⟨arr, hl.trans h1, h2, fun i k a e hk he => ⟨(h3 i k a e hk he).1.mono hw hI, (h3 i k a e hk he).2.1.mono hw hI hβ hc, (h3 i k a e hk he).2.2⟩⟩
  | sit s pos => exact ⟨hl.trans h.1, h.2⟩

theorem frozen_of_heap {w w' : World} {r o : Nat} (h : w'.heap[r]? = w.heap[r]?) : w'.frozen? ⟨r, o, none⟩ = w.frozen? ⟨r, o, none⟩ := by
  unfold World.frozen?
  rw [h]

/-- One block turns, or comes: b0, which lies at l0. -/
theorem HRel.one {C : Ctx} {w w' : World} {I : Nat → Prop} {β β' : List (Option Loc)} {σ σ' : List Blk} {b0 : Nat} {k0 : Blk} {l0 : Loc} (h : HRel C w I β σ)
    (hlen : σ'.length = σ.length) (hlenβ : β'.length = β.length) (hσ : ∀ (b : Nat) (k : Blk), b ≠ b0 → σ'[b]? = some k → σ[b]? = some k ∨ k = .dead) (hσ0 : σ'[b0]? = some k0)
    (hβ : ∀ b, b ≠ b0 → β'[b]? = β[b]?) (hβ0 : β'[b0]? = some (some l0)) (hold : β[b0]? = some none ∨ β[b0]? = some (some l0))
    (hos : w'.os = w.os) (htp : w'.tape = w.tape) (hou : w'.output = w.output) (hsz : w.heap.size ≤ w'.heap.size) (hkeep : ∀ r, r ≠ l0.r → r < w.heap.size → w'.heap[r]? = w.heap[r]?)
    (hcell : ∀ a : Addr, (w.cell? a).isSome = true → (w'.cell? a).isSome = true) (hI : ¬ I l0.r) (hoth : ∀ (b : Nat) (l : Loc) (k : Blk), b ≠ b0 → β[b]? = some (some l) → σ'[b]? = some k → k.live = true → l.r ≠ l0.r)
    (hown : Own β σ l0.r ∨ w.heap.size ≤ l0.r) (hN : C.N ≤ l0.r) (hr : l0.r < w'.heap.size) (hfz : ∀ o, w'.frozen? ⟨l0.r, o, none⟩ = false)
    (hk : BRel w' I β' k0 l0) : HRel C w' I β' σ' ∧ Ext σ.length w I (Own β σ) β w' I (Own β' σ') β' := by
  have hβle : ∀ (b : Nat) (l : Loc), β[b]? = some (some l) → β'[b]? = some (some l) := by
    intro b l hb
    by_cases e : b = b0
    · subst e
      rcases hold with h1 | h1
      · rw [h1] at hb; cases hb
      · rw [h1] at hb
        obtain rfl : l0 = l := by simpa using hb
        exact hβ0
    · rw [hβ b e]; exact hb
  have hIc : ∀ a : Addr, I a.block → w'.cell? a = w.cell? a := fun a ha => cell_of_heap (hkeep _ (fun e => hI (e ▸ ha)) (h.imm _ ha))
  have hOwn : ∀ r, Own β' σ' r → Own β σ r ∨ w.heap.size ≤ r := by
    rintro r ⟨b, l, k, h1, h2, h3, rfl⟩
    by_cases e : b = b0
    · subst e
      rw [hβ0] at h1
      obtain rfl : l0 = l := by simpa using h1
      exact hown
    · rw [hβ b e] at h1
      rcases hσ b k e h2 with h4 | rfl
      · exact .inl ⟨b, l, k, h1, h4, h3, rfl⟩
      · cases h3
  refine ⟨⟨by rw [hlenβ, hlen]; exact h.len, fun b l k hb hk' => ?_, fun b l k hb hk' hlv => ?_, fun b k hb hk' => ?_, fun b b' l l' k k' hb hk1 hlv hb' hk2 hlv' he => ?_, fun r hr' => Nat.lt_of_lt_of_le (h.imm r hr') hsz, ?_, Nat.le_trans h.size hsz⟩, ?_⟩
  · by_cases e : b = b0
    · subst e
      rw [hβ0] at hb; rw [hσ0] at hk'
      obtain rfl : l0 = l := by simpa using hb
      obtain rfl : k0 = k := by simpa using hk'
      exact hk
    · rcases hσ b k e hk' with h4 | rfl
      · rw [hβ b e] at hb
        by_cases hlv : k.live = true
        · obtain ⟨_, h6, _⟩ := h.own b l k hb h4 hlv
          exact (h.blk b l k hb h4).mono hIc (fun _ h => h) hβle hcell (hkeep _ (hoth b l k e hb hk' hlv) h6)
        · cases k <;> simp [Blk.live] at hlv
          trivial
      · trivial
  · by_cases e : b = b0
    · subst e
      rw [hβ0] at hb
      obtain rfl : l0 = l := by simpa using hb
      exact ⟨hN, hr, hI, hfz⟩
    · rcases hσ b k e hk' with h4 | rfl
      · rw [hβ b e] at hb
        obtain ⟨h5, h6, h7, h8⟩ := h.own b l k hb h4 hlv
        exact ⟨h5, Nat.lt_of_lt_of_le h6 hsz, h7, fun o => (frozen_of_heap (hkeep _ (hoth b l k e hb hk' hlv) h6)).trans (h8 o)⟩
      · cases hlv
  · by_cases e : b = b0
    · subst e
      rw [hβ0] at hb; cases hb
    · rcases hσ b k e hk' with h4 | rfl
      · rw [hβ b e] at hb
        exact h.nowh b k hb h4
      · exact .inl rfl
  · have key : ∀ (b : Nat) (l : Loc) (k : Blk), β'[b]? = some (some l) → σ'[b]? = some k → k.live = true → b ≠ b0 → l.r ≠ l0.r ∧ β[b]? = some (some l) ∧ σ[b]? = some k := by
      intro b l k h1 h2 h3 e
      rw [hβ b e] at h1
      rcases hσ b k e h2 with h4 | rfl
      · exact ⟨hoth b l k e h1 h2 h3, h1, h4⟩
      · cases h3
    have at0 : ∀ l : Loc, β'[b0]? = some (some l) → l = l0 := by
      intro l h1
      rw [hβ0] at h1
      simpa using h1.symm
    by_cases e : b = b0 <;> by_cases e' : b' = b0
    · rw [e, e']
    · subst e
      have := (key b' l' k' hb' hk2 hlv' e').1
      rw [at0 l hb] at he
      exact absurd he.symm this
    · subst e'
      have := (key b l k hb hk1 hlv e).1
      rw [at0 l' hb'] at he
      exact absurd he this
    · obtain ⟨_, p1, p2⟩ := key b l k hb hk1 hlv e
      obtain ⟨_, p1', p2'⟩ := key b' l' k' hb' hk2 hlv' e'
      exact h.dist b b' l l' k k' p1 p2 hlv p1' p2' hlv' he
  · refine C.stab w w' (fun k hk' => ?_) hos h.env
    by_cases e : k = l0.r
    · subst e; omega
    · exact hkeep k e (Nat.lt_of_lt_of_le hk' h.size)
  · refine ⟨hos, htp, hou, hsz, fun r hr' ho => ?_, hcell, fun _ h => h, fun _ h => .inl h, hOwn, fun b l _ hb => hβle b l hb⟩
    by_cases e : r = l0.r
    · subst e
      rcases hown with h1 | h1
      · exact absurd h1 ho
      · omega
    · exact hkeep r e hr'

/-- A place for a block to come. -/
theorem HRel.slot {C : Ctx} {w : World} {I : Nat → Prop} {β : List (Option Loc)} {σ : List Blk} (h : HRel C w I β σ) (K : Nat) : HRel C w I (β ++ [none]) (σ ++ [.dead]) ∧ Ext K w I (Own β σ) β w I (Own (β ++ [none]) (σ ++ [.dead])) (β ++ [none]) := by
  have hb : ∀ (b : Nat) (l : Loc), (β ++ [none])[b]? = some (some l) → β[b]? = some (some l) := by
    intro b l hb
    rw [List.getElem?_append] at hb
    split at hb
    · exact hb
    · rename_i hlt
      cases hq : b - β.length with
      | zero => rw [hq] at hb; simp at hb
      | succ n => rw [hq] at hb; simp at hb
  have hs : ∀ (b : Nat) (k : Blk), (σ ++ [.dead])[b]? = some k → σ[b]? = some k ∨ k = .dead := by
    intro b k hb
    rw [List.getElem?_append] at hb
    split at hb
    · exact .inl hb
    · rename_i hlt
      cases hq : b - σ.length with
      | zero => rw [hq] at hb; simp at hb; exact .inr hb.symm
      | succ n => rw [hq] at hb; simp at hb
  have hl : ∀ (b : Nat) (l : Loc), β[b]? = some (some l) → (β ++ [none])[b]? = some (some l) := fun b l hb => by
    rw [List.getElem?_append_left (List.getElem?_eq_some_iff.1 hb).1]; exact hb
  have hOwn : ∀ r, Own (β ++ [none]) (σ ++ [.dead]) r → Own β σ r := by
    rintro r ⟨b, l, k, h1, h2, h3, rfl⟩
    rcases hs b k h2 with h4 | rfl
    · exact ⟨b, l, k, hb b l h1, h4, h3, rfl⟩
    · cases h3
  refine ⟨⟨by simp [h.len], fun b l k h1 h2 => ?_, fun b l k h1 h2 h3 => ?_, fun b k h1 h2 => ?_, fun b b' l l' k k' h1 h2 h3 h1' h2' h3' he => ?_, h.imm, h.env, h.size⟩, ?_⟩
  · rcases hs b k h2 with h4 | rfl
    · exact (h.blk b l k (hb b l h1) h4).mono (fun _ _ => rfl) (fun _ h => h) hl (fun _ h => h) rfl
    · trivial
  · rcases hs b k h2 with h4 | rfl
    · exact h.own b l k (hb b l h1) h4 h3
    · cases h3
  · rcases hs b k h2 with h4 | rfl
    · refine h.nowh b k ?_ h4
      have : b < β.length := by rw [h.len]; exact (List.getElem?_eq_some_iff.1 h4).1
      rwa [List.getElem?_append_left this] at h1
    · exact .inl rfl
  · rcases hs b k h2 with h4 | rfl
    · rcases hs b' k' h2' with h4' | rfl
      · exact h.dist b b' l l' k k' (hb b l h1) h4 h3 (hb b' l' h1') h4' h3' he
      · cases h3'
    · cases h3
  · exact ⟨rfl, rfl, rfl, Nat.le_refl _, fun _ _ _ => rfl, fun _ h => h, fun _ h => h, fun _ h => .inl h, fun r hr => .inl (hOwn r hr), fun b l _ hb => hl b l hb⟩

/-- Blocks that are owned no longer: they are never written again. -/
def killσ (σ : List Blk) : List Nat → List Blk
  | [] => σ
  | b :: bs => killσ (σ.set b .dead) bs
def Froz (β : List (Option Loc)) (σ : List Blk) (b : Nat) (r : Nat) : Prop := ∃ (l : Loc) (k : Blk), β[b]? = some (some l) ∧ σ[b]? = some k ∧ k.live = true ∧ l.r = r
theorem HRel.kill {C : Ctx} {w : World} {I : Nat → Prop} {β : List (Option Loc)} {σ : List Blk} (h : HRel C w I β σ) (b0 K : Nat) :
    HRel C w (fun r => I r ∨ Froz β σ b0 r) β (σ.set b0 .dead) ∧ Ext K w I (Own β σ) β w (fun r => I r ∨ Froz β σ b0 r) (Own β (σ.set b0 .dead)) β := by
  have hs : ∀ (b : Nat) (k : Blk), (σ.set b0 .dead)[b]? = some k → (σ[b]? = some k ∧ b ≠ b0) ∨ k = .dead := by
    intro b k hb
    rw [List.getElem?_set] at hb
    split at hb
    · split at hb
      · exact .inr (by simpa using hb.symm)
      · cases hb
    · rename_i hne
      exact .inl ⟨hb, fun e => hne e.symm⟩
  have hOwn : ∀ r, Own β (σ.set b0 .dead) r → Own β σ r := by
    rintro r ⟨b, l, k, h1, h2, h3, rfl⟩
    rcases hs b k h2 with ⟨h4, _⟩ | rfl
    · exact ⟨b, l, k, h1, h4, h3, rfl⟩
    · cases h3
  refine ⟨⟨by simp [h.len], fun b l k h1 h2 => ?_, fun b l k h1 h2 h3 => ?_, fun b k h1 h2 => ?_, fun b b' l l' k k' h1 h2 h3 h1' h2' h3' he => ?_, fun r hr => ?_, h.env, h.size⟩, ?_⟩
  · rcases hs b k h2 with ⟨h4, _⟩ | rfl
    · exact (h.blk b l k h1 h4).mono (fun _ _ => rfl) (fun _ h => .inl h) (fun _ _ h => h) (fun _ h => h) rfl
    · trivial
  · rcases hs b k h2 with ⟨h4, hne⟩ | rfl
    · obtain ⟨p1, p2, p3, p4⟩ := h.own b l k h1 h4 h3
      refine ⟨p1, p2, fun hI => hI.elim p3 ?_, p4⟩
      rintro ⟨l', k', q1, q2, q3, q4⟩
      exact hne (h.dist b b0 l l' k k' h1 h4 h3 q1 q2 q3 q4.symm)
    · cases h3
  · rcases hs b k h2 with ⟨h4, _⟩ | rfl
    · exact h.nowh b k h1 h4
    · exact .inl rfl
  · rcases hs b k h2 with ⟨h4, _⟩ | rfl
    · rcases hs b' k' h2' with ⟨h4', _⟩ | rfl
      · exact h.dist b b' l l' k k' h1 h4 h3 h1' h4' h3' he
      · cases h3'
    · cases h3
  · rcases hr with hr | ⟨l, k, q1, q2, q3, rfl⟩
    · exact h.imm r hr
    · exact (h.own b0 l k q1 q2 q3).2.1
  · refine ⟨rfl, rfl, rfl, Nat.le_refl _, fun _ _ _ => rfl, fun _ h => h, fun _ h => .inl h, fun r hr => ?_, fun r hr => .inl (hOwn r hr), fun _ _ _ h => h⟩
    rcases hr with hr | ⟨l, k, q1, q2, q3, rfl⟩
    · exact .inl hr
    · exact .inr (.inl ⟨b0, l, k, q1, q2, q3, rfl⟩)
end Go.AM
end
section
namespace Go.AM
open Go.RowKit
set_option linter.unusedVariables false
set_option linter.unusedSimpArgs false
variable {w : World} {I : Nat → Prop} {β : List (Option Loc)}

theorem cells_one {v : Value} (h : v.oneCell' = true) : v.cells = #[v] := by cases v <;> first | rfl | simp [Value.oneCell'] at h
theorem DRep.cells {x : D} {v : Value} (h : DRep w I x v) : x.cells.length = v.cells.size ∧ ∀ (i : Nat) (c : D) (u : Value), x.cells[i]? = some c → v.cells[i]? = some u → DRep w I c u ∧ u.oneCell' = true := by
  cases h with
  | v h =>
    rw [cells_one h]
    refine ⟨rfl, fun i c u hc hu => ?_⟩
    cases i with
    | zero =>
      simp only [D.cells, List.getElem?_cons_zero, Option.some.injEq] at hc
      simp at hu
      subst hc; subst hu
      exact ⟨.v h, h⟩
    | succ i => simp [D.cells] at hc
  | agg hl h1 h => exact ⟨hl, fun i c u hc hu => ⟨h i c u hc hu, h1 i c u hc hu⟩⟩
  | nil =>
    refine ⟨rfl, fun i c u hc hu => ?_⟩
    cases i with
    | zero =>
      simp only [D.cells, List.getElem?_cons_zero, Option.some.injEq] at hc
      simp [Value.cells] at hu
      subst hc; subst hu
      exact ⟨.nil, rfl⟩
    | succ i => simp [D.cells] at hc
  | lst sz f h1 h2 h3 h4 h5 h6 h7 =>
    refine ⟨rfl, fun i c u hc hu => ?_⟩
    cases i with
    | zero =>
      simp only [D.cells, List.getElem?_cons_zero, Option.some.injEq] at hc
      simp [Value.cells] at hu
      subst hc; subst hu
      exact ⟨.lst sz f h1 h2 h3 h4 h5 h6 h7, rfl⟩
    | succ i => simp [D.cells] at hc
theorem A.cells_d (x : D) : A.cells (.d x) = x.cells.map .d := by cases x <;> rfl
theorem oneCell_cells {v : Value} (h : v.oneCell' = true) : v.cells = #[v] := by
  cases v <;> first | rfl | cases h
theorem ARep.cells {x : A} {v : Value} (ht : x.isTup = false) (h : ARep w I β x v) : x.cells.length = v.cells.size ∧ ∀ (i : Nat) (c : A) (u : Value), x.cells[i]? = some c → v.cells[i]? = some u → ARep w I β c u ∧ u.oneCell' = true := by
  have one : ∀ {x : A} {v : Value}, x.cells = [x] → v.cells = #[v] → v.oneCell' = true → ARep w I β x v → x.cells.length = v.cells.size ∧ ∀ (i : Nat) (c : A) (u : Value), x.cells[i]? = some c → v.cells[i]? = some u → ARep w I β c u ∧ u.oneCell' = true := by
    intro x v h1 h2 h3 h4
    rw [h1, h2]
    refine ⟨rfl, fun i c u hc hu => ?_⟩
    cases i with
    | zero =>
      simp only [List.getElem?_cons_zero, Option.some.injEq] at hc
      simp at hu
      subst hc; subst hu
      exact ⟨h4, h3⟩
    | succ i => simp at hc
  cases h with
  | d h =>
    rw [A.cells_d, List.length_map]
    refine ⟨h.cells.1, fun i c u hc hu => ?_⟩
    rw [List.getElem?_map, Option.map_eq_some_iff] at hc
    obtain ⟨c, hc, rfl⟩ := hc
    exact ⟨.d (h.cells.2 i c u hc hu).1, (h.cells.2 i c u hc hu).2⟩
  | nl => exact one rfl rfl rfl .nl
  | er => exact one rfl rfl rfl .er
  | any h => exact one rfl (oneCell_cells h) h (.any h)
  | ptr h => exact one rfl rfl rfl (.ptr h)
  | ep h => exact one rfl rfl rfl (.ep h)
  | ro f h1 h2 h3 h4 => exact one rfl rfl rfl (.ro f h1 h2 h3 h4)
  | sl h h1 h2 h3 => exact one rfl rfl rfl (.sl h h1 h2 h3)
  | sl0 => exact one rfl rfl rfl .sl0
  | mp h => exact one rfl rfl rfl (.mp h)
  | fn h1 h2 h3 h4 => exact one rfl rfl rfl (.fn h1 h2 h3 h4)
  | agg hl h1 h => exact ⟨hl, fun i c u hc hu => ⟨h i c u hc hu, h1 i c u hc hu⟩⟩
  | tup hl h => cases ht

theorem allD_some : ∀ {cs : List A} {ds : List D}, allD cs = some ds → cs = ds.map .d
  | [], ds, h => by simp only [allD, Option.some.injEq] at h; subst h; rfl
  | x :: r, ds, h => by
    cases x <;> simp only [allD, reduceCtorEq] at h
    split at h
    · rename_i ds' h'
      cases h
      rw [allD_some h']; rfl
    · cases h
theorem mkAgg_rep {cs : List A} {us : Array Value} (hl : cs.length = us.size) (h1 : ∀ (i : Nat) (c : A) (u : Value), cs[i]? = some c → us[i]? = some u → ARep w I β c u ∧ u.oneCell' = true) : ARep w I β (mkAgg cs) (.agg us) := by
  unfold mkAgg
  split
  · rename_i ds hd
    have := allD_some hd
    subst this
    refine .d (.agg (by simpa using hl) (fun i c u hc hu => (h1 i (.d c) u (by rw [List.getElem?_map, hc]; rfl) hu).2) (fun i c u hc hu => ?_))
    have := (h1 i (.d c) u (by rw [List.getElem?_map, hc]; rfl) hu).1
    cases this with
    | d h => exact h
  · exact .agg hl (fun i c u hc hu => (h1 i c u hc hu).2) (fun i c u hc hu => (h1 i c u hc hu).1)
theorem isTup_mkAgg (cs : List A) : (mkAgg cs).isTup = false := by unfold mkAgg; split <;> rfl
theorem cellA_rep {v : Value} (h : v.oneCell' = true) : ARep w I β (cellA v) v := by
  unfold cellA
  split
  · exact .nl
  · exact .d (.v h)
theorem oneCell_of {v : Value} (h1 : ∀ cs, v = .agg cs → False) (h2 : ∀ vs, v = .tuple vs → False) : v.oneCell' = true := by
  cases v <;> first | rfl | exact (h1 _ rfl).elim | exact (h2 _ rfl).elim
theorem constA_rep {v : Value} {x : A} (h : constA v = some x) : ARep w I β x v ∧ x.isTup = false := by
  unfold constA at h
  split at h
  · rename_i cs
    split at h
    · rename_i ho
      cases h
      refine ⟨mkAgg_rep (by simp) (fun i c u hc hu => ?_), isTup_mkAgg _⟩
      rw [List.getElem?_map, Option.map_eq_some_iff] at hc
      obtain ⟨v, hv, rfl⟩ := hc
      rw [Array.getElem?_toList, hu] at hv
      cases hv
      have := List.all_eq_true.1 ho u (Array.mem_toList_iff.2 (Array.mem_of_getElem? hu))
      exact ⟨cellA_rep this, this⟩
    · cases h
  · cases h
  · rename_i v h1 h2
    cases h
    exact ⟨cellA_rep (oneCell_of h1 h2), by unfold cellA; split <;> rfl⟩
theorem ev_rep {t : Nat → Option A} {a : Act} (h : ∀ (k : Nat) (x : A), t k = some x → ∃ u, a.tmps[k]? = some u ∧ ARep w I β x u) {o : Operand} {x : A} (he : ev t o = some x) : ARep w I β x (a.eval o) := by
  cases o with
  | tmp k =>
    obtain ⟨u, h1, h2⟩ := h k x he
    show ARep w I β x (a.tmps.getD k undef)
    rw [Array.getD_eq_getD_getElem?, h1]
    exact h2
  | const v => exact (constA_rep he).1
  | func f =>
    simp only [ev, Option.some.injEq] at he
    subst he
    exact .fn rfl rfl (fun i a u h => by simp at h) (fun i a u h => by simp at h)
  | global g => cases he
theorem evL_rep {t : Nat → Option A} {a : Act} (h : ∀ (k : Nat) (x : A), t k = some x → ∃ u, a.tmps[k]? = some u ∧ ARep w I β x u) : ∀ {os : List Operand} {xs : List A}, evL t os = some xs → xs.length = os.length ∧ ∀ (i : Nat) (x : A) (o : Operand), xs[i]? = some x → os[i]? = some o → ARep w I β x (a.eval o)
  | [], xs, he => by simp only [evL, Option.some.injEq] at he; subst he; exact ⟨rfl, fun i x o hx => by simp at hx⟩
  | o :: r, xs, he => by
    rw [evL] at he
    split at he
    · rename_i y l h1 h2
      cases he
      obtain ⟨h3, h4⟩ := evL_rep h h2
      refine ⟨by simp [h3], fun i x o' hx ho => ?_⟩
      cases i with
      | zero => simp at hx ho; subst hx; subst ho; exact ev_rep h h1
      | succ i => exact h4 i x o' (by simpa using hx) (by simpa using ho)
    · cases he
theorem evP_rep {t : Nat → Option A} {a : Act} (h : ∀ (k : Nat) (x : A), t k = some x → ∃ u, a.tmps[k]? = some u ∧ ARep w I β x u) : ∀ {os : List (Nat × Operand)} {xs : List (Nat × A)}, evP t os = some xs → xs.length = os.length ∧ ∀ (i : Nat) (x : Nat × A) (o : Nat × Operand), xs[i]? = some x → os[i]? = some o → x.1 = o.1 ∧ ARep w I β x.2 (a.eval o.2)
  | [], xs, he => by simp only [evP, Option.some.injEq] at he; subst he; exact ⟨rfl, fun i x o hx => by simp at hx⟩
  | (j, o) :: r, xs, he => by
    rw [evP] at he
    split at he
    · rename_i y l h1 h2
      cases he
      obtain ⟨h3, h4⟩ := evP_rep h h2
      refine ⟨by simp [h3], fun i x o' hx ho => ?_⟩
      cases i with
      | zero => simp at hx ho; subst hx; subst ho; exact ⟨rfl, ev_rep h h1⟩
      | succ i => exact h4 i x o' (by simpa using hx) (by simpa using ho)
    · cases he

theorem szT_eq {P : Program} {t : TypeId} {n : Nat} (h : szT P t = some n) : ∃ i, P.info? t = some i ∧ i.size = n := by simpa [szT] using h
theorem run_sizeOf {P : Program} {t : TypeId} {n : Nat} (h : szT P t = some n) (w : World) : (sizeOf t).run P w = .ok n w := by
  obtain ⟨i, h1, h2⟩ := szT_eq h
  simp [sizeOf, typeInfo, Sem.run_bind, h1, h2]
theorem run_isAgg {P : Program} {t : TypeId} {b : Bool} (h : agT P t = some b) (w : World) : (isAgg t).run P w = .ok b w := by
  unfold agT at h
  unfold isAgg
  rw [Sem.run_bind]
  cases hu : P.underlying t with
  | none => rw [hu] at h; cases h
  | some d =>
    rw [hu] at h
    rw [run_underlying hu w]
    cases d <;> simp_all
end Go.AM
end
section
namespace Go.AM
open Go.RowKit
set_option linter.unusedVariables false
set_option linter.unusedSimpArgs false
variable {P : Program} {w : World} {I : Nat → Prop} {β : List (Option Loc)}

theorem knT_str {t : TypeId} (h : knT P t = some .str) : P.underlying t = some .string := by
  unfold knT at h; split at h <;> simp_all
theorem knT_slice {t : TypeId} (h : knT P t = some .slice) : ∃ e, P.underlying t = some (.slice e) := by
  unfold knT at h; split at h <;> simp_all
theorem knT_map {t : TypeId} (h : knT P t = some .map) : ∃ k e, P.underlying t = some (.map k e) := by
  unfold knT at h; split at h <;> simp_all
theorem knT_int {t : TypeId} {k : IntKind} (h : knT P t = some (.int k)) : P.underlying t = some (.int k) := by
  unfold knT at h; split at h <;> simp_all
theorem knT_bool {t : TypeId} (h : knT P t = some .bool) : P.underlying t = some .bool := by
  unfold knT at h; split at h <;> simp_all
theorem knT_some {t : TypeId} {k : Kn} (h : knT P t = some k) : ∃ d, P.underlying t = some d := by
  unfold knT at h; split at h <;> simp_all
theorem elT_eq {t e : TypeId} (h : elT P t = some e) : P.underlying t = some (.slice e) := by
  unfold elT at h; split at h <;> simp_all
theorem arT_eq {t : TypeId} {n e : Nat} (h : arT P t = some (n, e)) : P.underlying t = some (.array n e) := by
  unfold arT at h; split at h <;> simp_all
theorem fldT_eq {t : TypeId} {f off ft : Nat} (h : fldT P t f = some (off, ft)) : ∃ (fs : Array Field) (g : Field), P.underlying t = some (.struct fs) ∧ fs[f]? = some g ∧ g.offset = off ∧ g.type = ft := by
  unfold fldT at h
  split at h
  · rename_i fs hu
    rw [Option.map_eq_some_iff] at h
    obtain ⟨g, h1, h2⟩ := h
    simp only [Prod.mk.injEq] at h2
    exact ⟨fs, g, hu, h1, h2.1, h2.2⟩
  · cases h
theorem rep_int {k : IntKind} {n : Int} {v : Value} (h : ARep w I β (.d (.v (.int k n))) v) : v = .int k n := by cases h with | d h => cases h; rfl
theorem rep_bool {b : Bool} {v : Value} (h : ARep w I β (.d (.v (.bool b))) v) : v = .bool b := by cases h with | d h => cases h; rfl
theorem rep_str {s : ByteArray} {v : Value} (h : ARep w I β (.d (.v (.string s))) v) : v = .string s := by cases h with | d h => cases h; rfl
theorem rep_v {x v : Value} (h : ARep w I β (.d (.v x)) v) : v = x ∧ x.oneCell' = true := by cases h with | d h => cases h with | v h => exact ⟨rfl, h⟩

/-- What a part of the machine reads: the value, in the same world. -/
def Reads (P : Program) (w : World) (I : Nat → Prop) (β : List (Option Loc)) (m : Sem Value) (x : A) : Prop := ∃ u, m.run P w = .ok u w ∧ ARep w I β x u

/-- A part of a row of cells that lies in memory. -/
theorem load_rep {ty : TypeId} {cs : List A} {off : Nat} {x : A} {ad : Addr} (h : partA P ty cs off = some x) (f : Nat → Value)
    (hf : ∀ (i : Nat) (a : A), cs[i]? = some a → w.cell? (ad.add i) = some (f i) ∧ (f i).oneCell' = true ∧ ARep w I β a (f i)) : Reads P w I β (loadVar ty (ad.add off)) x := by
  have hadd : ∀ i, (ad.add off).add i = ad.add (off + i) := fun i => Addr.add_add ad off i
  unfold partA at h
  split at h
  · rename_i n hag hsz
    split at h
    · rename_i hle
      cases h
      refine ⟨.agg ((List.range n).map fun j => f (off + j)).toArray, ?_, mkAgg_rep (by simp; omega) (fun i c u hc hu => ?_)⟩
      · have hl := run_loadCells (P := P) w (ad.add off) n (fun j => f (off + j)) (fun j hj => by
          rw [hadd]; exact (hf (off + j) _ (List.getElem?_eq_getElem (by omega))).1)
        unfold loadVar
        simp only [Sem.run_bind, run_isAgg hag, Result.andThen_ok, if_true, run_sizeOf hsz, hl, Sem.run_pure]
      · have hi : i < n := by
          rcases Nat.lt_or_ge i n with h1 | h1
          · exact h1
          · rw [List.getElem?_take, if_neg (by omega)] at hc; cases hc
        rw [List.getElem?_take_of_lt hi, List.getElem?_drop] at hc
        have : u = f (off + i) := by simpa [hi] using hu.symm
        subst this
        exact ⟨(hf _ _ hc).2.2, (hf _ _ hc).2.1⟩
    · cases h
  · rename_i hag
    refine ⟨f off, ?_, (hf off x h).2.2⟩
    unfold loadVar
    simp only [Sem.run_bind, run_isAgg hag, Result.andThen_ok, Bool.false_eq_true, if_false]
    rw [run_load, (hf off x h).1]
  · cases h
theorem allD_map : ∀ l : List D, allD (l.map .d) = some l
  | [] => rfl
  | x :: r => by simp [allD, allD_map r]
theorem partD_A {ty : TypeId} {cs : List D} {off : Nat} {x : A} (h : partD P ty cs off = some x) : partA P ty (cs.map .d) off = some x := by
  unfold partD at h
  unfold partA
  cases hag : agT P ty with
  | none => rw [hag] at h; cases h
  | some b =>
    rw [hag] at h
    cases b with
    | false => simpa using h
    | true =>
      cases hsz : szT P ty with
      | none => rw [hsz] at h; cases h
      | some n =>
        rw [hsz] at h
        dsimp only at h ⊢
        split at h
        · rename_i hle
          rw [if_pos (by simpa using hle), ← List.map_drop, ← List.map_take]
          simp only [mkAgg, allD_map]
          exact h
        · cases h
theorem part_rep {ty : TypeId} {cs : List A} {off : Nat} {x : A} {us : Array Value} (h : partA P ty cs off = some x) (hl : cs.length = us.size) (h1 : ∀ (i : Nat) (c : A) (u : Value), cs[i]? = some c → us[i]? = some u → ARep w I β c u ∧ u.oneCell' = true) : Reads P w I β (part ty us off) x := by
  unfold partA at h
  split at h
  · rename_i n hag hsz
    split at h
    · rename_i hle
      cases h
      refine ⟨.agg (us.extract off (off + n)), ?_, mkAgg_rep (by simp; omega) (fun i c u hc hu => ?_)⟩
      · unfold part
        simp only [Sem.run_bind, run_isAgg hag, Result.andThen_ok, if_true, run_sizeOf hsz, Sem.run_pure]
      · have hi : i < n := by
          rcases Nat.lt_or_ge i n with h1 | h1
          · exact h1
          · rw [List.getElem?_take, if_neg (by omega)] at hc; cases hc
        rw [List.getElem?_take_of_lt hi, List.getElem?_drop] at hc
        refine h1 (off + i) c u hc ?_
        rw [Array.getElem?_extract] at hu
        split at hu
        · exact hu
        · cases hu
    · cases h
  · rename_i hag
    obtain ⟨hi, _⟩ := List.getElem?_eq_some_iff.1 h
    have hu : us[off]? = some us[off] := Array.getElem?_eq_getElem (by omega)
    refine ⟨_, ?_, (h1 off x _ h hu).1⟩
    unfold part
    simp only [Sem.run_bind, run_isAgg hag, Result.andThen_ok, Bool.false_eq_true, if_false, hu, Sem.run_pure]
  · cases h

theorem oLoad_sound {C : Ctx} {σ : List Blk} {ty : TypeId} {x : A} {v : Value} {o : Out} (h : HRel C w I β σ) (hx : ARep w I β x v) (ho : oLoad P σ ty x = some o) : ∃ y, o = val y ∧ Reads P w I β (Instr.loadAt ty v) y := by
  unfold oLoad at ho
  split at ho
  · rename_i b off
    cases hx with
    | ptr hb =>
      rename_i l
      split at ho
      · rename_i cs hs
        replace hs := look_some hs
        split at ho
        · rename_i y hy
          cases ho
          obtain ⟨f, hf⟩ := h.blk b l _ hb hs
          refine ⟨y, rfl, ?_⟩
          have := load_rep (w := w) (I := I) (β := β) (ad := ⟨l.r, l.o, none⟩) hy f (fun i a ha => by
            rw [Addr.add_lit]; exact hf i a ha)
          rw [Addr.add_lit] at this
          simpa [Instr.loadAt, Instr.sureAddr, Reads, Sem.run_bind] using this
        · cases ho
      · cases ho
  · rename_i b i off
    cases hx with
    | ep hb =>
      rename_i l
      split at ho
      · rename_i k xs hs
        replace hs := look_some hs
        split at ho
        · rename_i e he
          split at ho
          · rename_i y hy
            cases ho
            obtain ⟨hk, hsz, f, hf⟩ := h.blk b l _ hb hs
            refine ⟨y, rfl, ?_⟩
            have := load_rep (w := w) (I := I) (β := β) (ad := ⟨l.r, l.o + i * l.sz, none⟩) (partD_A hy) (f i) (fun j a ha => by
              rw [List.getElem?_map, Option.map_eq_some_iff] at ha
              obtain ⟨c, hc, rfl⟩ := ha
              obtain ⟨p1, p2, p3⟩ := hf i e j c he hc
              rw [Addr.add_lit]
              exact ⟨by rw [hk]; simpa [Nat.add_assoc] using p1, p2, .d p3⟩)
            rw [Addr.add_lit] at this
            simpa [Instr.loadAt, Instr.sureAddr, Reads, Sem.run_bind, Nat.add_assoc] using this
          · cases ho
        · cases ho
      · cases ho
  · rename_i cs
    cases hx with
    | ro f hI hs hc hr =>
      rename_i ad
      split at ho
      · rename_i y hy
        cases ho
        refine ⟨y, rfl, ?_⟩
        have := load_rep (w := w) (I := I) (β := β) (ad := ad) (partD_A hy) f (fun j a ha => by
          rw [List.getElem?_map, Option.map_eq_some_iff] at ha
          obtain ⟨c, hc', rfl⟩ := ha
          exact ⟨(hc j c hc').1, (hc j c hc').2, .d (hr j c hc')⟩)
        simpa [Instr.loadAt, Instr.sureAddr, Reads, Sem.run_bind, Addr.add] using this
      · cases ho
  · cases ho
end Go.AM
end
section
namespace Go.AM
open Go.RowKit
set_option linter.unusedVariables false
set_option linter.unusedSimpArgs false
variable {P : Program} {w : World} {I : Nat → Prop} {β : List (Option Loc)}

theorem getObj_map {r : Nat} {es : Array MapEntry} {clock : Nat} (h : w.heap[r]? = some (.map es clock)) : (getObj r).run P w = .ok (.map es clock) w := by
  simp [getObj, Sem.run, h]
theorem oNil_sound {x : A} {v : Value} {o : Out} (hx : ARep w I β x v) (ho : oNil x = some o) : o = val x ∧ ((∃ ad, v = .pointer (some ad)) ∨ ∃ f us vs, v = .func (.func f) us vs) := by
  cases x <;> simp only [oNil, reduceCtorEq, Option.some.injEq] at ho
  · cases hx; exact ⟨ho.symm, .inl ⟨_, rfl⟩⟩
  · cases hx; exact ⟨ho.symm, .inl ⟨_, rfl⟩⟩
  · cases hx; exact ⟨ho.symm, .inl ⟨_, rfl⟩⟩
  · rename_i f x y
    cases f <;> simp only [oNil, reduceCtorEq, Option.some.injEq] at ho
    cases hx; exact ⟨ho.symm, .inr ⟨_, _, _, rfl⟩⟩
theorem oPick_sound {c x y : A} {vc vx vy : Value} {o : Out} (hc : ARep w I β c vc) (hx : ARep w I β x vx) (hy : ARep w I β y vy) (ho : oPick c x y = some o) :
    ∃ z, o = val z ∧ ∃ u, (do pure (if ← asBool vc then vx else vy) : Sem Value).run P w = .ok u w ∧ ARep w I β z u := by
  unfold oPick at ho
  split at ho
  · rename_i b
    cases ho
    obtain rfl := rep_bool hc
    refine ⟨_, rfl, if b then vx else vy, ?_, ?_⟩
    · simp [asBool, Sem.run_bind]
    · cases b
      · exact hy
      · exact hx
  · cases ho
theorem oExtract_sound {i : Nat} {x : A} {v : Value} {o : Out} (hx : ARep w I β x v) (ho : oExtract i x = some o) : ∃ z, o = val z ∧ Reads P w I β (Instr.extract v i) z := by
  unfold oExtract at ho
  split at ho
  · rename_i vs
    split at ho
    · rename_i y hy
      cases ho
      cases hx with
      | tup hl h =>
        rename_i us
        obtain ⟨hi, _⟩ := List.getElem?_eq_some_iff.1 hy
        have hu : us[i]? = some us[i] := Array.getElem?_eq_getElem (by omega)
        refine ⟨_, rfl, _, ?_, h i y _ hy hu⟩
        simp only [Instr.extract, hu, Sem.run_pure]
    · cases ho
  · cases ho
theorem oLen_sound {C : Ctx} {σ : List Blk} {ty yt : TypeId} {tys : List TypeId} {x : A} {v : Value} {o : Out} (h : HRel C w I β σ) (hx : ARep w I β x v) (ho : oLen P σ ty x = some o) : ∃ z, o = val z ∧ Reads P w I β (Builtin.len_ (ty :: tys).toArray yt #[v]) z := by
  unfold oLen at ho
  split at ho
  · rename_i hk
    split at ho <;> cases ho
    obtain rfl := rep_str hx
    exact ⟨_, rfl, _, by simp [Builtin.len_, run_underlying (knT_str hk), goInt], .d (.v rfl)⟩
  · rename_i hk
    obtain ⟨e, he⟩ := knT_slice hk
    split at ho <;> cases ho
    · rename_i xs
      cases hx with
      | d hx =>
        cases hx with
        | nil => exact ⟨_, rfl, _, by simp [Builtin.len_, run_underlying he, goInt], .d (.v rfl)⟩
        | lst => exact ⟨_, rfl, _, by simp [Builtin.len_, run_underlying he, goInt], .d (.v rfl)⟩
    · cases hx
      exact ⟨_, rfl, _, by simp [Builtin.len_, run_underlying he, goInt], .d (.v rfl)⟩
    · cases hx with
      | sl => exact ⟨_, rfl, _, by simp [Builtin.len_, run_underlying he, goInt], .d (.v rfl)⟩
      | sl0 => exact ⟨_, rfl, _, by simp [Builtin.len_, run_underlying he, goInt], .d (.v rfl)⟩
  · rename_i hk
    obtain ⟨k, e, he⟩ := knT_map hk
    split at ho
    · rename_i b
      split at ho
      · rename_i es hs
        replace hs := look_some hs
        cases ho
        cases hx with
        | mp hb =>
          obtain ⟨arr, h1, h2, _⟩ := h.blk b _ _ hb hs
          refine ⟨_, rfl, .int .i64 es.length, ?_, .d (.v rfl)⟩
          simp [Builtin.len_, run_underlying he, goInt, getObj_map h1, h2]
      · cases ho
    · cases ho
  · cases ho
theorem oFieldAddr_sound {s : TypeId} {f : Nat} {x : A} {v : Value} {o : Out} (hx : ARep w I β x v) (ho : oFieldAddr P s f x = some o) : ∃ z, o = val z ∧ Reads P w I β (Instr.fieldAt s v f) z := by
  unfold oFieldAddr at ho
  split at ho
  · rename_i off ft hf
    obtain ⟨fs, g, h1, h2, rfl, rfl⟩ := fldT_eq hf
    split at ho
    · rename_i n hsz
      have key : ∀ ad : Addr, (Instr.fieldAt s (.pointer (some ad)) f).run P w = .ok (.pointer (some (ad.add g.offset))) w := by
        intro ad
        simp [Instr.fieldAt, run_underlying h1, h2, Instr.sureAddr, fieldPlace, run_sizeOf hsz, Sem.run_bind]
      split at ho <;> cases ho
      · cases hx with
        | ptr hb => exact ⟨_, rfl, _, key _, by rw [Addr.add_lit, Nat.add_assoc]; exact .ptr hb⟩
      · cases hx with
        | ep hb => exact ⟨_, rfl, _, key _, by rw [Addr.add_lit, Nat.add_assoc, Nat.add_assoc]; exact .ep hb⟩
      · cases hx with
        | ro q hI hs hc hr =>
          refine ⟨_, rfl, _, key _, .ro (fun i => q (g.offset + i)) (by simpa [Addr.add] using (by split <;> exact hI)) (by simp only [Addr.add]; split <;> first | exact hs | rfl) (fun i c hi => ?_) (fun i c hi => ?_)⟩
          · rw [Addr.add_add]
            rw [List.getElem?_drop] at hi
            exact hc _ c hi
          · rw [List.getElem?_drop] at hi
            exact hr _ c hi
    · cases ho
  · cases ho
theorem oField_sound {s : TypeId} {f : Nat} {x : A} {v : Value} {o : Out} (hx : ARep w I β x v) (ho : oField P s f x = some o) : ∃ z, o = val z ∧ Reads P w I β (Instr.field s v f) z := by
  unfold oField at ho
  split at ho
  · rename_i off ft hf
    obtain ⟨fs, g, h1, h2, rfl, rfl⟩ := fldT_eq hf
    have key : ∀ (us : Array Value) (u : Value), (part g.type us g.offset).run P w = .ok u w → (Instr.field s (.agg us) f).run P w = .ok u w := by
      intro us u hu
      simp [Instr.field, run_underlying h1, h2, asAgg, hu]
    split at ho
    · rename_i cs
      split at ho
      · rename_i y hy
        cases ho
        cases hx with
        | d hx =>
          cases hx with
          | agg hl h3 h4 =>
            obtain ⟨u, hu, hr⟩ := part_rep (P := P) (w := w) (I := I) (β := β) (partD_A hy) (by simpa using hl) (fun i c u hc hu => by
              rw [List.getElem?_map, Option.map_eq_some_iff] at hc
              obtain ⟨c, hc, rfl⟩ := hc
              exact ⟨.d (h4 i c u hc hu), h3 i c u hc hu⟩)
            exact ⟨_, rfl, u, key _ _ hu, hr⟩
      · cases ho
    · rename_i cs
      split at ho
      · rename_i y hy
        cases ho
        cases hx with
        | agg hl h3 h4 =>
          obtain ⟨u, hu, hr⟩ := part_rep (P := P) (w := w) (I := I) (β := β) hy hl (fun i c u hc hu => ⟨h4 i c u hc hu, h3 i c u hc hu⟩)
          exact ⟨_, rfl, u, key _ _ hu, hr⟩
      · cases ho
    · cases ho
  · cases ho
theorem oIndexAddr_sound {C : Ctx} {σ : List Blk} {ty : TypeId} {x y : A} {v z : Value} {o : Out} (h : HRel C w I β σ) (hx : ARep w I β x v) (hy : ARep w I β y z) (ho : oIndexAddr P σ ty x y = some o) (hp : o.p) :
    ∃ q, o = valP o.p q ∧ Reads P w I β (Instr.indexAt ty v z) q := by
  unfold oIndexAddr at ho
  split at ho
  rotate_left
  · cases ho
  rename_i n hyn
  obtain ⟨k, hz⟩ : ∃ k, z = .int k n := by
    unfold intOf? at hyn
    split at hyn
    · rename_i k m
      cases hyn
      exact ⟨k, rep_int hy⟩
    · cases hyn
  subst hz
  split at ho
  · rename_i xs
    split at ho
    · rename_i e he
      split at ho
      · rename_i h0
        split at ho
        · rename_i t ht
          cases ho
          refine ⟨_, rfl, ?_⟩
          obtain ⟨hi, _⟩ := List.getElem?_eq_some_iff.1 ht
          cases hx with
          | d hx =>
            cases hx with
            | nil => simp at hi
            | lst sz f hI hs hc hm hsz hcell hrep =>
              rename_i ad cap
              have hp' : szT P e = some t.cells.length := hp
              rw [hsz _ t ht] at hp'
              refine ⟨.pointer (some (ad.add (n.toNat * sz))), ?_, .ro (f n.toNat) (by simpa [Addr.add] using (by split <;> exact hI)) (by simp only [Addr.add]; split <;> first | exact hs | rfl) (fun i c hi' => ?_) (fun i c hi' => hrep _ t i c ht hi')⟩
              · have : 0 ≤ n ∧ n < (xs.length : Int) := ⟨h0, by omega⟩
                simp [Instr.indexAt, asIntOf, run_underlying (elT_eq he), this, run_sizeOf hp']
              · rw [Addr.add_add]
                exact hcell _ t i c ht hi'
        · cases ho
      · cases ho
    · cases ho
  · rename_i b off len
    split at ho
    · rename_i e k' xs he hs
      replace hs := look_some hs
      split at ho
      · rename_i hsz
        cases ho
        obtain ⟨h0, h1⟩ : 0 ≤ n ∧ n < (len : Int) := hp
        refine ⟨_, rfl, ?_⟩
        cases hx with
        | sl hb hc hm hcap =>
          rename_i cap l
          have hk := (h.blk b l _ hb hs).1
          refine ⟨.pointer (some ((⟨l.r, l.o + off * l.sz, none⟩ : Addr).add (n.toNat * k'))), ?_, ?_⟩
          · simp [Instr.indexAt, asIntOf, run_underlying (elT_eq he), h0, h1, run_sizeOf hsz]
          · have e1 : l.o + off * l.sz + n.toNat * k' = l.o + ((off + n.toNat) * l.sz + 0) := by rw [hk, Nat.add_mul]; omega
            rw [Addr.add_lit, e1]
            exact .ep hb
        | sl0 => omega
      · cases ho
    · cases ho
  · rename_i b off
    split at ho
    · rename_i len e he
      split at ho
      · rename_i sz hsz
        cases ho
        obtain ⟨h0, h1, h2⟩ : 0 ≤ n ∧ n < (len : Int) ∧ 2 ≤ len := hp
        refine ⟨_, rfl, ?_⟩
        cases hx with
        | ptr hb =>
          rename_i l
          refine ⟨.pointer (some ((⟨l.r, l.o + off, none⟩ : Addr).add (n.toNat * sz))), ?_, ?_⟩
          · have hnt : ¬ len ≤ 1 := by omega
            simp [Instr.indexAt, asIntOf, run_underlying (arT_eq he), h0, h1, run_sizeOf hsz, Instr.sureAddr, hnt]
          · rw [Addr.add_lit, Nat.add_assoc]
            exact .ptr hb
      · cases ho
    · cases ho
  · cases ho
theorem oIndex_sound {ty : TypeId} {x y : A} {v z : Value} {o : Out} (hx : ARep w I β x v) (hy : ARep w I β y z) (ho : oIndex P ty x y = some o) : ∃ q, o = val q ∧ Reads P w I β (Instr.index ty v z) q := by
  unfold oIndex at ho
  split at ho
  · rename_i s k n
    obtain rfl := rep_int hy
    obtain rfl := rep_str hx
    split at ho
    · rename_i hk
      split at ho
      · rename_i h0
        split at ho
        · rename_i b hb
          cases ho
          exact ⟨_, rfl, _, by simp [Instr.index, asIntOf, run_underlying (knT_str hk), h0, hb], .d (.v rfl)⟩
        · cases ho
      · cases ho
    · cases ho
  · rename_i cs k n
    obtain rfl := rep_int hy
    split at ho
    · rename_i len e he
      split at ho
      · rename_i sz hsz
        split at ho
        · rename_i h0
          split at ho
          · rename_i q hq
            cases ho
            refine ⟨_, rfl, ?_⟩
            cases hx with
            | d hx =>
              cases hx with
              | agg hl h3 h4 =>
                obtain ⟨u, hu, hr⟩ := part_rep (P := P) (w := w) (I := I) (β := β) (partD_A hq) (by simpa using hl) (fun i c u hc hu => by
                  rw [List.getElem?_map, Option.map_eq_some_iff] at hc
                  obtain ⟨c, hc, rfl⟩ := hc
                  exact ⟨.d (h4 i c u hc hu), h3 i c u hc hu⟩)
                exact ⟨u, by simp [Instr.index, asIntOf, run_underlying (arT_eq he), h0, run_sizeOf hsz, hu], hr⟩
          · cases ho
        · cases ho
      · cases ho
    · cases ho
  · cases ho
end Go.AM
end
