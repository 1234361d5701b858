/- lazyclaw46.LinkUnresolved returns true for every list of objects: no condition beside the statement's own. Part 3. -/
import Derived.Test.YthijephffgoieaaGreatDoorMU2
import Derived.Scope
set_option linter.unusedVariables false
set_option linter.unusedSimpArgs false
set_option maxHeartbeats 2000000
section
namespace Go.AM
open Go.RowKit
set_option linter.unusedVariables false
set_option linter.unusedSimpArgs false

def setsL {α : Type} : List α → List Nat → List α → List α
  | xs, b :: bs, k :: ks => setsL (xs.set b k) bs ks
  | xs, _, _ => xs
theorem setsL_len {α : Type} : ∀ (bs : List Nat) (ks xs : List α), (setsL xs bs ks).length = xs.length
  | [], _, _ => by simp [setsL]
  | _ :: _, [], _ => by simp [setsL]
  | b :: bs, k :: ks, xs => by rw [setsL, setsL_len bs ks]; simp
theorem setsL_out {α : Type} {b : Nat} : ∀ {bs : List Nat} {ks xs : List α}, b ∉ bs → (setsL xs bs ks)[b]? = xs[b]?
  | [], _, _, _ => by simp [setsL]
  | _ :: _, [], _, _ => by simp [setsL]
  | c :: bs, k :: ks, xs, h => by
    rw [List.mem_cons, not_or] at h
    rw [setsL, setsL_out h.2, List.getElem?_set, if_neg (fun e => h.1 e.symm)]
theorem setsL_in {α : Type} {b j : Nat} {k : α} : ∀ {bs : List Nat} {ks xs : List α}, bs.Nodup → bs[j]? = some b → ks[j]? = some k → b < xs.length → (setsL xs bs ks)[b]? = some k
  | [], _, _, _, h, _, _ => by simp at h
  | _ :: _, [], _, _, _, h, _ => by simp at h
  | c :: bs, q :: ks, xs, hn, hb, hk, hl => by
    rw [List.nodup_cons] at hn
    rw [setsL]
    cases j with
    | zero =>
      simp at hb hk
      subst hb; subst hk
      rw [setsL_out hn.1, List.getElem?_set_self hl]
    | succ j => exact setsL_in hn.2 (by simpa using hb) (by simpa using hk) (by simpa using hl)
def zipU : List Nat → List Blk → List (Nat × Blk)
  | b :: bs, k :: ks => (b, k) :: zipU bs ks
  | _, _ => []
theorem updσ_zipU : ∀ (bs : List Nat) (ks σ : List Blk), updσ σ (zipU bs ks) = setsL σ bs ks
  | [], _, _ => by simp [zipU, setsL, updσ]
  | _ :: _, [], _ => by simp [zipU, setsL, updσ]
  | b :: bs, k :: ks, σ => by rw [zipU, updσ, setsL, updσ_zipU bs ks]
def upF : Nat → Nat → List Nat
  | _, 0 => []
  | nb, n + 1 => nb :: upF (nb + 1) n
theorem upF_get : ∀ {n nb i b : Nat}, (upF nb n)[i]? = some b → b = nb + i ∧ i < n
  | 0, _, _, _, h => by simp [upF] at h
  | n + 1, nb, 0, b, h => by simp [upF] at h; exact ⟨h.symm, by omega⟩
  | n + 1, nb, i + 1, b, h => by
    have := upF_get (n := n) (nb := nb + 1) (i := i) (b := b) (by simpa [upF] using h)
    omega
theorem upF_len : ∀ (n nb : Nat), (upF nb n).length = n
  | 0, _ => rfl
  | n + 1, nb => by rw [upF, List.length_cons, upF_len n]
theorem upF_mem {n nb b : Nat} : b ∈ upF nb n → nb ≤ b ∧ b < nb + n := by
  intro h
  obtain ⟨i, hi⟩ := List.mem_iff_getElem?.1 h
  have := upF_get hi
  omega
theorem upF_nodup : ∀ (n nb : Nat), (upF nb n).Nodup
  | 0, _ => List.nodup_nil
  | n + 1, nb => List.nodup_cons.2 ⟨fun h => by have := upF_mem h; omega, upF_nodup n (nb + 1)⟩
theorem zipN_zipU : ∀ (ks : List Blk) (nb : Nat), zipN nb ks = zipU (upF nb ks.length) ks
  | [], _ => rfl
  | k :: ks, nb => by rw [zipN, List.length_cons, upF, zipU, zipN_zipU ks]
theorem zipU_append : ∀ (bs cs : List Nat) (ks ls : List Blk), bs.length = ks.length → zipU (bs ++ cs) (ks ++ ls) = zipU bs ks ++ zipU cs ls
  | [], cs, [], ls, _ => rfl
  | [], _, _ :: _, _, h => by simp at h
  | _ :: _, _, [], _, h => by simp at h
  | b :: bs, cs, k :: ks, ls, h => by rw [List.cons_append, List.cons_append, zipU, zipU, zipU_append bs cs ks ls (by simpa using h), List.cons_append]
theorem zipU_take : ∀ (bs : List Nat) (ks : List Blk), zipU bs (ks.take bs.length) = zipU bs ks
  | [], ks => by simp [zipU]
  | _ :: _, [] => by simp
  | b :: bs, k :: ks => by rw [List.length_cons, List.take_succ_cons, zipU, zipU, zipU_take bs ks]

/-! What is handed over: as_ plain data, or as_ the block that it names. -/
def fitK (x y : A) : List Nat := match y with
  | .d _ => x.kills
  | _ => []
def fitP (ρ : List Nat) (σ : List Blk) (x y : A) : Prop := match y with
  | .d z => x.toD σ = some z
  | y => y.bnd ρ.length = true ∧ y.ren ρ = x
def fitsK : List A → List A → List Nat
  | x :: xs, y :: ys => fitK x y ++ fitsK xs ys
  | _, _ => []
def fitsP (ρ : List Nat) (σ : List Blk) : List A → List A → Prop
  | [], [] => True
  | x :: xs, y :: ys => fitP ρ σ x y ∧ fitsP ρ σ xs ys
  | _, _ => False
theorem fits_get {ρ : List Nat} {σ : List Blk} : ∀ {xs ys : List A}, fitsP ρ σ xs ys → xs.length = ys.length ∧ ∀ (i : Nat) (x y : A), xs[i]? = some x → ys[i]? = some y → fitP ρ σ x y ∧ ∀ b ∈ fitK x y, b ∈ fitsK xs ys
  | [], [], _ => ⟨rfl, fun i x y h => by simp at h⟩
  | [], _ :: _, h => h.elim
  | _ :: _, [], h => h.elim
  | x :: xs, y :: ys, ⟨h1, h2⟩ => by
    obtain ⟨g1, g2⟩ := fits_get h2
    refine ⟨by simp [g1], fun i a b ha hb => ?_⟩
    cases i with
    | zero =>
      simp at ha hb
      subst ha; subst hb
      exact ⟨h1, fun c hc => List.mem_append.2 (.inl hc)⟩
    | succ i =>
      obtain ⟨p1, p2⟩ := g2 i a b (by simpa using ha) (by simpa using hb)
      exact ⟨p1, fun c hc => List.mem_append.2 (.inr (p2 c hc))⟩
theorem fit_rep {C : Ctx} {w : World} {I : Nat → Prop} {β : List (Option Loc)} {σ : List Blk} {ρ : List Nat} (h : HRel C w I β σ) {x y : A} {v : Value} {ks : List Nat} (hf : fitP ρ σ x y) (hk : ∀ b ∈ fitK x y, b ∈ ks) (hx : ARep w I β x v) : ARep w (FI I β σ ks) (pick ρ β) y v := by
  have key : y.bnd ρ.length = true → y.ren ρ = x → ARep w (FI I β σ ks) (pick ρ β) y v := fun h1 h2 => by
    subst h2
    exact (hx.imono (fun r hr => .inl hr)).ren_back h1
  unfold fitP at hf
  unfold fitK at hk
  cases y with
  | d z => exact .d ((toD_rep h hx hf).imono (FI_mono hk))
  | _ => exact key hf.1 hf.2

def rho2 (ρ : List Nat) (K nb m : Nat) : List Nat := ρ.take K ++ upF nb (m - K)
/-- What a call comes to: blocks ρ are handed over, the first K come back, the rest of σ' is new. -/
def callOut (ρ ks : List Nat) (K nb : Nat) (r : A) (σ' : List Blk) : Out :=
  ⟨True, fun _ => r.ren (rho2 ρ K nb σ'.length), killsU ks ++ (killsU (ρ.drop K) ++ zipU (ρ.take K) (σ'.map (Blk.ren (rho2 ρ K nb σ'.length)))), fun _ => (σ'.drop K).map (Blk.ren (rho2 ρ K nb σ'.length))⟩
def bndS (n : Nat) : List Blk → Bool
  | [] => true
  | k :: r => k.bnd n && bndS n r
theorem bndS_get {n : Nat} : ∀ {σ : List Blk}, bndS n σ = true → ∀ (i : Nat) (k : Blk), σ[i]? = some k → k.bnd n = true
  | [], _, i, k, h => by simp at h
  | q :: r, h, i, k, hk => by
    rw [bndS, Bool.and_eq_true] at h
    cases i with
    | zero => simp at hk; subst hk; exact h.1
    | succ i => exact bndS_get h.2 i k (by simpa using hk)
structure CallIn (C : Ctx) (σ : List Blk) (f : FuncId) (as_ : List A) (ρ : List Nat) (K : Nat) (args : List A) (σc : List Blk) (r : A) (σ' : List Blk) : Prop where
  nd : ρ.Nodup
  le : K ≤ ρ.length
  le' : K ≤ σ'.length
  fits : fitsP ρ σ as_ args
  sub : subS ρ (updσ σ (killsU (fitsK as_ args))) ρ σc
  bndr : r.bnd σ'.length = true
  bnds : bndS σ'.length σ' = true
  fn : Fn C K f args σc r σ'

section
variable {C : Ctx} {w : World} {I : Nat → Prop} {β : List (Option Loc)} {σ : List Blk}
theorem putσ_call {ρ ks : List Nat} {K nb : Nat} {r : A} {σ' : List Blk} (h1 : K ≤ ρ.length) (h2 : K ≤ σ'.length) :
    putσ σ (callOut ρ ks K nb r σ') nb = setsL (updσ (updσ σ (killsU ks)) (killsU (ρ.drop K))) (rho2 ρ K nb σ'.length) (σ'.map (Blk.ren (rho2 ρ K nb σ'.length))) := by
  rw [putσ_ws]
  show updσ σ ((killsU ks ++ (killsU (ρ.drop K) ++ zipU (ρ.take K) _)) ++ zipN nb ((σ'.drop K).map (Blk.ren (rho2 ρ K nb σ'.length)))) = _
  generalize hg : σ'.map (Blk.ren (rho2 ρ K nb σ'.length)) = τ
  have hτ : τ.length = σ'.length := by rw [← hg]; simp
  have hd : (σ'.drop K).map (Blk.ren (rho2 ρ K nb σ'.length)) = τ.drop K := by rw [← hg, List.map_drop]
  rw [hd, zipN_zipU, List.length_drop, hτ, ← updσ_zipU, List.append_assoc, List.append_assoc, updσ_append, updσ_append]
  congr 1
  have h3 : (ρ.take K).length = (τ.take K).length := by simp; omega
  conv => rhs; rw [rho2, ← List.take_append_drop K τ]
  rw [zipU_append _ _ _ _ h3]
  congr 1
  rw [← zipU_take (ρ.take K) τ]
  congr 2
  simp; omega

theorem CallIn.sound {f : FuncId} {as_ args : List A} {ρ : List Nat} {K nb : Nat} {σc σ' : List Blk} {r : A} {vs : Array Value} (hc : CallIn C σ f as_ ρ K args σc r σ') (h : HRel C w I β σ) (hl : as_.length = vs.size) (hx : ∀ (i : Nat) (x : A) (v : Value), as_[i]? = some x → vs[i]? = some v → ARep w I β x v)
    (hρ : ∀ b ∈ ρ, b < nb) (hn : ∀ i, i < σ'.length - K → σ[nb + i]? = some .dead ∧ β[nb + i]? = some none) :
    Calls C.P f vs w fun e w' => ∃ v I' β', e = .returned v ∧ ARep w' I' β' ((callOut ρ (fitsK as_ args) K nb r σ').v nb) v ∧ HRel C w' I' β' (putσ σ (callOut ρ (fitsK as_ args) K nb r σ') nb) ∧
      Ext σ.length w I (Own β σ) β w' I' (Own β' (putσ σ (callOut ρ (fitsK as_ args) K nb r σ') nb)) β' ∧ ∀ b, β[b]? = some none → b ∉ rho2 ρ K nb σ'.length → β'[b]? = some none := by
  rw [putσ_call hc.le hc.le']
  show Calls C.P f vs w fun e w' => ∃ v I' β', e = .returned v ∧ ARep w' I' β' (r.ren (rho2 ρ K nb σ'.length)) v ∧ _
  generalize hks : fitsK as_ args = ks at *
  obtain ⟨f1, f2⟩ := fits_get hc.fits
  rw [hks] at f2
  obtain ⟨h1, x1⟩ := h.kills σ.length ks
  have hsub : Sub 0 ρ ⟨[], σc, 0⟩ ⟨[], updσ σ (killsU ks), 0⟩ := ⟨rfl, rfl, hc.nd, trivial, by have := hc.sub; rw [hks] at this; exact this⟩
  obtain ⟨rp, xp⟩ := Rel.subP (a := { tmps := #[], defers := [] }) hsub ⟨rfl, rfl, fun k x hk => by simp [getT] at hk, h1⟩
  have h2 := rp.heap
  have hown2 : ∀ q, Own (pick ρ β) σc q → Own β (updσ σ (killsU ks)) q := fun q hq => (xp.own q hq).elim id fun hge => by
    obtain ⟨b, l, k, hb, hk, hlv, rfl⟩ := hq
    exact absurd (h2.own b l k hb hk hlv).2.1 (by omega)
  generalize hσ1 : updσ σ (killsU ks) = σ1 at *
  have hσ1l : σ1.length = σ.length := by rw [← hσ1, length_updσ]
  refine (hc.fn.2 w _ _ vs h2 (by omega) (fun i y v hy hv => ?_)).mono ?_
  · have hi := (List.getElem?_eq_some_iff.1 hy).1
    have hxi : as_[i]? = some as_[i] := List.getElem?_eq_getElem (by omega)
    obtain ⟨p1, p2⟩ := f2 i _ y hxi hy
    exact fit_rep h p1 p2 (hx i _ v hxi hv)
  · rintro e w' ⟨v, I', β', rfl, g1, g2, g3⟩
    have hβl := h.len
    have hm : β'.length = σ'.length := g2.len
    have hnd : (rho2 ρ K nb σ'.length).Nodup := by
      rw [rho2, List.nodup_append]
      refine ⟨hc.nd.sublist (List.take_sublist _ _), upF_nodup _ _, fun a ha b hb e => ?_⟩
      have h3 := hρ a (List.mem_of_mem_take ha)
      have h4 := (upF_mem hb).1
      omega
    have h2len : (rho2 ρ K nb σ'.length).length = σ'.length := by
      have := hc.le; have := hc.le'
      rw [rho2, List.length_append, List.length_take, upF_len]; omega
    have hin : ∀ b ∈ rho2 ρ K nb σ'.length, b < σ.length := by
      intro b hb
      rcases List.mem_append.1 hb with hb | hb
      · obtain ⟨i, hi⟩ := List.mem_iff_getElem?.1 (List.mem_of_mem_take hb)
        obtain ⟨q1, q2⟩ := subS_get hsub.σ
        have hil : i < σc.length := by rw [← q1]; exact (List.getElem?_eq_some_iff.1 hi).1
        obtain ⟨_, c, hcb, hc2⟩ := q2 i _ (List.getElem?_eq_getElem hil)
        rw [hi] at hcb; cases hcb
        rw [← hσ1l]
        exact (List.getElem?_eq_some_iff.1 hc2).1
      · obtain ⟨b1, b2⟩ := upF_mem hb
        have := (hn (b - nb) (by omega)).1
        rw [show nb + (b - nb) = b by omega] at this
        exact (List.getElem?_eq_some_iff.1 this).1
    generalize hρ2 : rho2 ρ K nb σ'.length = ρ2 at *
    -- the new blocks, the new places
    have hβ2in : ∀ (j b : Nat) (x : Option Loc), ρ2[j]? = some b → β'[j]? = some x → (setsL β ρ2 β')[b]? = some x := fun j b x hj hx => setsL_in hnd hj hx (by rw [hβl]; exact hin b (List.mem_of_getElem? hj))
    have hβ2out : ∀ b, b ∉ ρ2 → (setsL β ρ2 β')[b]? = β[b]? := fun b hb => setsL_out hb
    have hsrc : ∀ (j b : Nat), ρ2[j]? = some b → (j < K ∧ ρ[j]? = some b) ∨ (K ≤ j ∧ β[b]? = some none) := by
      intro j b hj
      rw [← hρ2, rho2, List.getElem?_append, List.length_take] at hj
      split at hj
      · rename_i hlt
        rw [List.getElem?_take_of_lt (by omega)] at hj
        exact .inl ⟨by omega, hj⟩
      · rename_i hge
        obtain ⟨b1, b2⟩ := upF_get hj
        have := hc.le
        subst b1
        exact .inr ⟨by omega, (hn _ b2).2⟩
    have hloc : ∀ (b : Nat) (l : Loc), β[b]? = some (some l) → (setsL β ρ2 β')[b]? = some (some l) := by
      intro b l hb
      by_cases hm' : b ∈ ρ2
      · obtain ⟨j, hj⟩ := List.mem_iff_getElem?.1 hm'
        rcases hsrc j b hj with ⟨hK, hr⟩ | ⟨_, hr⟩
        · have hp : (pick ρ β)[j]? = some (some l) := (pick_some (List.getElem?_eq_some_iff.1 hr).1).2 (by rw [List.getD_eq_getElem?_getD, hr]; exact hb)
          exact hβ2in j b _ hj (g3.loc j l hK hp)
        · rw [hr] at hb; cases hb
      · rw [hβ2out b hm']; exact hb
    have hren : ∀ (b : Nat) (l : Loc), β'[b]? = some (some l) → b < ρ2.length → (setsL β ρ2 β')[ρ2.getD b 0]? = some (some l) := by
      intro b l hb hlt
      have : ρ2[b]? = some ρ2[b] := List.getElem?_eq_getElem hlt
      rw [List.getD_eq_getElem?_getD, this]
      exact hβ2in b _ _ this hb
    have hkeep : ∀ q, q < w.heap.size → ¬ Own (pick ρ β) σc q → w'.heap[q]? = w.heap[q]? := g3.keep
    -- which block is whose
    have cls : ∀ (b : Nat) (k : Blk), (setsL (updσ σ1 (killsU (ρ.drop K))) ρ2 (σ'.map (Blk.ren ρ2)))[b]? = some k →
        (∃ (j : Nat) (k' : Blk), ρ2[j]? = some b ∧ σ'[j]? = some k' ∧ k = k'.ren ρ2 ∧ k'.bnd ρ2.length = true) ∨ (b ∉ ρ2 ∧ k = .dead) ∨ (b ∉ ρ2 ∧ b ∉ ρ ∧ σ1[b]? = some k) := by
      intro b k hk
      by_cases hm' : b ∈ ρ2
      · obtain ⟨j, hj⟩ := List.mem_iff_getElem?.1 hm'
        have hjl : j < σ'.length := by rw [← h2len]; exact (List.getElem?_eq_some_iff.1 hj).1
        have hσj : σ'[j]? = some σ'[j] := List.getElem?_eq_getElem hjl
        rw [setsL_in (k := σ'[j].ren ρ2) hnd hj (by rw [List.getElem?_map, hσj]; rfl) (by rw [length_updσ, hσ1l]; exact hin b hm')] at hk
        cases hk
        exact .inl ⟨j, _, hj, hσj, rfl, by rw [h2len]; exact bndS_get hc.bnds j _ hσj⟩
      · rw [setsL_out hm'] at hk
        by_cases hd : b ∈ ρ.drop K
        · refine .inr (.inl ⟨hm', ?_⟩)
          have hdead : ∀ (ds : List Nat) (τ : List Blk), (b ∈ ds ∨ τ[b]? = some .dead) → b < τ.length → (updσ τ (killsU ds))[b]? = some .dead := by
            intro ds
            induction ds with
            | nil => intro τ h _; exact h.resolve_left (by simp)
            | cons d ds ih =>
              intro τ h hlt
              rw [killsU, updσ]
              refine ih _ ?_ (by simpa using hlt)
              by_cases e : d = b
              · subst e; exact .inr (List.getElem?_set_self hlt)
              · rcases h with h | h
                · exact .inl ((List.mem_cons.1 h).resolve_left (fun e' => e e'.symm))
                · exact .inr (by rw [List.getElem?_set, if_neg e]; exact h)
          have hlt : b < σ1.length := by have := (List.getElem?_eq_some_iff.1 hk).1; rwa [length_updσ] at this
          rw [hdead _ _ (.inl hd) hlt] at hk
          exact (Option.some.inj hk).symm
        · rw [kills_get hd] at hk
          refine .inr (.inr ⟨hm', fun hr => ?_, hk⟩)
          have : b ∈ ρ.take K := by
            have : b ∈ ρ.take K ++ ρ.drop K := by rw [List.take_append_drop]; exact hr
            exact (List.mem_append.1 this).resolve_right hd
          exact hm' (by rw [← hρ2]; exact List.mem_append.2 (.inl this))
    have hnotown : ∀ (b : Nat) (l : Loc) (k : Blk), b ∉ ρ → β[b]? = some (some l) → σ1[b]? = some k → k.live = true → ¬ Own (pick ρ β) σc l.r := by
      rintro b l k hb hbl hk hlv ⟨c, l', k', hc1, hc2, hc3, he⟩
      obtain ⟨q1, q2⟩ := subS_get hsub.σ
      obtain ⟨_, d, hd1, hd2⟩ := q2 c k' hc2
      have hp := (pick_some (List.getElem?_eq_some_iff.1 hd1).1).1 hc1
      rw [List.getD_eq_getElem?_getD, hd1] at hp
      have := h1.dist d b l' l _ k hp hd2 (by rw [Blk.live_ren]; exact hc3) hbl hk hlv he
      subst this
      exact hb (List.mem_of_getElem? hd1)
    have hI' : ∀ q, I' q → FI I β σ ks q ∨ Own (pick ρ β) σc q ∨ w.heap.size ≤ q := g3.new
    have hcells : ∀ a : Addr, FI I β σ ks a.block → w'.cell? a = w.cell? a := h2.cells_keep g3
    have heap' : HRel C w' I' (setsL β ρ2 β') (setsL (updσ σ1 (killsU (ρ.drop K))) ρ2 (σ'.map (Blk.ren ρ2))) := by
      refine ⟨by rw [setsL_len, setsL_len, length_updσ, hσ1l, hβl], fun b l k hb hk => ?_, fun b l k hb hk hlv => ?_, fun b k hb hk => ?_, fun b b' l l' k k' hb hk hlv hb' hk' hlv' he => ?_, g2.imm, g2.env, g2.size⟩
      · rcases cls b k hk with ⟨j, k', hj, hk', rfl, hbk⟩ | ⟨_, rfl⟩ | ⟨hb2, hbr, hk1⟩
        · have hjl : j < β'.length := by rw [hm]; exact (List.getElem?_eq_some_iff.1 hk').1
          have hx := List.getElem?_eq_getElem hjl
          rw [hβ2in j b _ hj hx] at hb
          have hb' : β'[j]? = some (some l) := by rw [hx]; exact hb
          exact (g2.blk j l k' hb' hk').ren hren hbk
        · trivial
        · rw [hβ2out b hb2] at hb
          by_cases hlv : k.live = true
          · exact (h1.blk b l k hb hk1).mono hcells g3.imm hloc g3.cell (hkeep _ (h1.own b l k hb hk1 hlv).2.1 (hnotown b l k hbr hb hk1 hlv))
          · cases k <;> simp [Blk.live] at hlv
            trivial
      · rcases cls b k hk with ⟨j, k', hj, hk', rfl, hbk⟩ | ⟨_, rfl⟩ | ⟨hb2, hbr, hk1⟩
        · have hjl : j < β'.length := by rw [hm]; exact (List.getElem?_eq_some_iff.1 hk').1
          have hx := List.getElem?_eq_getElem hjl
          rw [hβ2in j b _ hj hx] at hb
          exact g2.own j l k' (by rw [hx]; exact hb) hk' (by rw [Blk.live_ren] at hlv; exact hlv)
        · cases hlv
        · rw [hβ2out b hb2] at hb
          obtain ⟨p1, p2, p3, p4⟩ := h1.own b l k hb hk1 hlv
          have hno := hnotown b l k hbr hb hk1 hlv
          refine ⟨p1, Nat.lt_of_lt_of_le p2 g3.size, fun hi => ?_, fun o => (frozen_of_heap (hkeep _ p2 hno)).trans (p4 o)⟩
          rcases hI' _ hi with h3 | h3 | h3
          · exact p3 h3
          · exact hno h3
          · omega
      · rcases cls b k hk with ⟨j, k', hj, hk', rfl, hbk⟩ | ⟨_, rfl⟩ | ⟨hb2, hbr, hk1⟩
        · have hjl : j < β'.length := by rw [hm]; exact (List.getElem?_eq_some_iff.1 hk').1
          have hx := List.getElem?_eq_getElem hjl
          rw [hβ2in j b _ hj hx] at hb
          rcases g2.nowh j k' (by rw [hx]; exact hb) hk' with h4 | h4 | ⟨n, h4⟩ <;> subst h4
          · exact .inl rfl
          · exact .inr (.inl rfl)
          · exact .inr (.inr ⟨n, rfl⟩)
        · exact .inl rfl
        · rw [hβ2out b hb2] at hb
          exact h1.nowh b k hb hk1
      · have mix : ∀ (j c : Nat) (k k' : Blk) (l l' : Loc), σ'[j]? = some k → k.live = true → β'[j]? = some (some l) → c ∉ ρ → σ1[c]? = some k' → k'.live = true → β[c]? = some (some l') → l.r ≠ l'.r := by
          intro j c k k' l l' hk hlv hb hcr hk' hlv' hb' he
          rcases g3.own l.r ⟨j, l, k, hb, hk, hlv, rfl⟩ with h3 | h3
          · rw [he] at h3
            exact hnotown c l' k' hcr hb' hk' hlv' h3
          · have := (h1.own c l' k' hb' hk' hlv').2.1
            omega
        rcases cls b k hk with ⟨j, k1, hj, hk1, rfl, _⟩ | ⟨_, rfl⟩ | ⟨hb2, hbr, hk1⟩
        · have hjl : j < β'.length := by rw [hm]; exact (List.getElem?_eq_some_iff.1 hk1).1
          have hx := List.getElem?_eq_getElem hjl
          rw [hβ2in j b _ hj hx] at hb
          have hb1 : β'[j]? = some (some l) := by rw [hx]; exact hb
          rw [Blk.live_ren] at hlv
          rcases cls b' k' hk' with ⟨j', k1', hj', hk1', rfl, _⟩ | ⟨_, rfl⟩ | ⟨hb2', hbr', hk1'⟩
          · have hjl' : j' < β'.length := by rw [hm]; exact (List.getElem?_eq_some_iff.1 hk1').1
            have hx' := List.getElem?_eq_getElem hjl'
            rw [hβ2in j' b' _ hj' hx'] at hb'
            rw [Blk.live_ren] at hlv'
            have := g2.dist j j' l l' _ _ hb1 hk1 hlv (by rw [hx']; exact hb') hk1' hlv' he
            subst this
            rw [hj] at hj'
            exact Option.some.inj hj'
          · cases hlv'
          · rw [hβ2out b' hb2'] at hb'
            exact (mix j b' k1 k' l l' hk1 hlv hb1 hbr' hk1' hlv' hb' he).elim
        · cases hlv
        · rw [hβ2out b hb2] at hb
          rcases cls b' k' hk' with ⟨j', k1', hj', hk1', rfl, _⟩ | ⟨_, rfl⟩ | ⟨hb2', hbr', hk1'⟩
          · have hjl' : j' < β'.length := by rw [hm]; exact (List.getElem?_eq_some_iff.1 hk1').1
            have hx' := List.getElem?_eq_getElem hjl'
            rw [hβ2in j' b' _ hj' hx'] at hb'
            rw [Blk.live_ren] at hlv'
            exact (mix j' b k1' k l' l hk1' hlv' (by rw [hx']; exact hb') hbr hk1 hlv hb he.symm).elim
          · cases hlv'
          · rw [hβ2out b' hb2'] at hb'
            exact h1.dist b b' l l' k k' hb hk1 hlv hb' hk1' hlv' he
    refine ⟨v, I', setsL β ρ2 β', rfl, ARep.ren hren g1 (by rw [h2len]; exact hc.bndr), heap', ?_, fun b hb hn' => by rw [hβ2out b hn']; exact hb⟩
    refine ⟨g3.os, g3.tape, g3.output, g3.size, fun q hq hno => hkeep q hq fun ho => hno ?_, g3.cell, fun q hq => g3.imm q (x1.imm q hq), fun q hq => ?_, fun q hq => ?_, fun b l _ hb => hloc b l hb⟩
    · exact (x1.own q (hown2 q ho)).elim id fun hge => by omega
    · rcases hI' q hq with h3 | h3 | h3
      · exact x1.new q h3
      · exact .inr ((x1.own q (hown2 q h3)))
      · exact .inr (.inr h3)
    · obtain ⟨b, l, k, hb, hk, hlv, rfl⟩ := hq
      rcases cls b k hk with ⟨j, k1, hj, hk1, rfl, _⟩ | ⟨_, rfl⟩ | ⟨hb2, hbr, hk1⟩
      · have hjl : j < β'.length := by rw [hm]; exact (List.getElem?_eq_some_iff.1 hk1).1
        have hx := List.getElem?_eq_getElem hjl
        rw [hβ2in j b _ hj hx] at hb
        rw [Blk.live_ren] at hlv
        rcases g3.own l.r ⟨j, l, k1, by rw [hx]; exact hb, hk1, hlv, rfl⟩ with h3 | h3
        · exact x1.own _ (hown2 _ h3)
        · exact .inr h3
      · cases hlv
      · rw [hβ2out b hb2] at hb
        exact x1.own _ ⟨b, l, k, hb, hk1, hlv, rfl⟩
theorem fits_congr {ρ : List Nat} {σ2 : List Blk} : ∀ {xs ys : List A}, (∀ b ∈ fitsK xs ys, look σ b = look σ2 b) → fitsP ρ σ xs ys → fitsP ρ σ2 xs ys
  | [], [], _, _ => trivial
  | [], _ :: _, _, h => h.elim
  | _ :: _, [], _, h => h.elim
  | x :: xs, y :: ys, hk, ⟨h1, h2⟩ => by
    refine ⟨?_, fits_congr (fun b hb => hk b (List.mem_append.2 (.inr hb))) h2⟩
    have hk' : ∀ b ∈ fitK x y, look σ b = look σ2 b := fun b hb => hk b (List.mem_append.2 (.inl hb))
    cases y with
    | d z =>
      show x.toD σ2 = some z
      rw [← h1]
      exact (toD_congr hk').symm
    | _ => exact h1
theorem subS_congr {ρ : List Nat} {σ2 : List Blk} : ∀ {bs : List Nat} {ks : List Blk}, (∀ b ∈ bs, σ[b]? = σ2[b]?) → subS ρ σ bs ks → subS ρ σ2 bs ks
  | [], [], _, _ => trivial
  | b :: bs, k :: ks, h, ⟨h1, h2, h3⟩ => ⟨h1, by rw [← h b List.mem_cons_self]; exact h2, subS_congr (fun c hc => h c (List.mem_cons_of_mem _ hc)) h3⟩
  | [], _ :: _, _, h => h.elim
  | _ :: _, [], _, h => h.elim
theorem CallIn.congr {f : FuncId} {as_ args : List A} {ρ : List Nat} {K : Nat} {σc σ' σ2 : List Blk} {r : A} (hc : CallIn C σ f as_ ρ K args σc r σ') (h1 : ∀ b ∈ fitsK as_ args, look σ b = look σ2 b) (h2 : ∀ b ∈ ρ, (updσ σ (killsU (fitsK as_ args)))[b]? = (updσ σ2 (killsU (fitsK as_ args)))[b]?) : CallIn C σ2 f as_ ρ K args σc r σ' :=
  { hc with fits := fits_congr h1 hc.fits, sub := subS_congr h2 hc.sub }
theorem subS_lt {ρ : List Nat} : ∀ {bs : List Nat} {ks : List Blk}, subS ρ σ bs ks → ∀ b ∈ bs, b < σ.length
  | [], [], _, b, h => by cases h
  | c :: bs, k :: ks, ⟨_, h2, h3⟩, b, h => by
    rcases List.mem_cons.1 h with rfl | h
    · exact (List.getElem?_eq_some_iff.1 h2).1
    · exact subS_lt h3 b h
  | [], _ :: _, h, _, _ => h.elim
  | _ :: _, [], h, _, _ => h.elim
theorem CallIn.lt {f : FuncId} {as_ args : List A} {ρ : List Nat} {K : Nat} {σc σ' : List Blk} {r : A} (hc : CallIn C σ f as_ ρ K args σc r σ') : ∀ b ∈ ρ, b < σ.length := fun b hb => by
  have := subS_lt hc.sub b hb
  rwa [length_updσ] at this
theorem putσ_app (s : St) (dst : Option Nat) (o : Out) : putσ (s.σ ++ List.replicate (o.new s.σ.length).length .dead) o s.σ.length = (s.app dst o).σ := by
  obtain ⟨ds', d1, d2⟩ := updσ_slots o.upd s.σ (List.replicate (o.new s.σ.length).length .dead)
  have := setAll_slots (o.new s.σ.length) (updσ s.σ o.upd) ds' (by simpa using d2)
  rw [length_updσ] at this
  show setAll (updσ (s.σ ++ _) o.upd) s.σ.length _ = _
  rw [d1, this]; rfl
/-- A call that takes blocks and gives blocks. -/
theorem AOps.callS {K : Nat} {Q : Exit → St → Prop} {ops : Array Oper} {s : St} {o : Oper} {rest : List Oper} {f : FuncId} {as_ args : List A} {ρ : List Nat} {K' : Nat} {σc σ' : List Blk} {r : A}
    (hg : guardOf ops (getT s.t) o.guard = .yes ∨ guardOf ops (getT s.t) o.guard = .ask true) (hc : callOf (getT s.t) o.op = some (f, as_)) (hi : CallIn C s.σ f as_ ρ K' args σc r σ')
    (h : AOps C K ops Q rest (s.app o.dst (callOut ρ (fitsK as_ args) K' s.σ.length r σ'))) : AOps C K ops Q (o :: rest) s := by
  intro l hl w0 I0 O0 β0 a w I β rl e0
  cases l with
  | nil => simp at hl
  | cons i l =>
    simp only [List.map_cons, List.cons.injEq] at hl
    rw [wpOps, hl.1]
    dsimp only
    rw [if_pos (wanted_yes rl.tmps hg)]
    left
    obtain ⟨vs, g1, g2, g3⟩ := call_run (w := w) rl.tmps hc hi.fn.1
    unfold Oper.wp
    rw [g1]
    show Calls C.P f vs w _
    have hnl : ((callOut ρ (fitsK as_ args) K' s.σ.length r σ').new s.σ.length).length = σ'.length - K' := by simp [callOut]
    have hσ := putσ_app s o.dst (callOut ρ (fitsK as_ args) K' s.σ.length r σ')
    rw [hnl] at hσ
    obtain ⟨h1, e1⟩ := rl.heap.slots s.σ.length (σ'.length - K')
    have hlen := rl.heap.len
    have hi' : CallIn C (s.σ ++ List.replicate (σ'.length - K') .dead) f as_ ρ K' args σc r σ' := hi.congr (fun b _ => (look_slots _ _ _).symm) (fun b hb => by
      obtain ⟨ds', d1, _⟩ := updσ_slots (killsU (fitsK as_ args)) s.σ (List.replicate (σ'.length - K') .dead)
      rw [d1, List.getElem?_append_left (by rw [length_updσ]; exact hi.lt b hb)])
    refine (hi'.sound (nb := s.σ.length) h1 g2 (fun i x v hx hv => (g3 i x v hx hv).ext rl.heap e1 (Nat.le_refl _)) hi.lt (fun i hi => ?_)).mono ?_
    · rw [List.getElem?_append_right (by omega), List.getElem?_append_right (by omega), hlen, List.getElem?_replicate, List.getElem?_replicate, if_pos (by omega), if_pos (by omega)]
      exact ⟨rfl, rfl⟩
    · rintro e w' ⟨v, I', β', rfl, k1, k2, k3, _⟩
      show wpOps _ _ _ _ _ _
      rw [hσ] at k2 k3
      have e3 := e1.trans (k3.le (by simp))
      have r' : Rel C (s.app o.dst (callOut ρ (fitsK as_ args) K' s.σ.length r σ')) (a.put o.dst v) w' I' β' := ⟨(Act.put_size a _ _).trans rl.size, (Act.put_defers a _ _).trans rl.defers, TRel.put (rl.tmps.ext rl.heap e3 (Nat.le_refl _)) rl.size k1, k2⟩
      exact h l hl.2 w0 I0 O0 β0 _ w' I' β' r' (e0.trans { e3 with loc := fun b l _ hb => e3.loc b l (by have := (List.getElem?_eq_some_iff.1 hb).1; omega) hb })
end
end Go.AM
end
section
namespace Go.AM
open Go.RowKit
set_option linter.unusedVariables false
set_option linter.unusedSimpArgs false

def memB (b : Nat) : List Nat → Bool
  | [] => false
  | c :: r => decide (b = c) || memB b r
theorem memB_iff {b : Nat} : ∀ {l : List Nat}, memB b l = true ↔ b ∈ l
  | [] => by simp [memB]
  | c :: r => by rw [memB, Bool.or_eq_true, decide_eq_true_iff, memB_iff, List.mem_cons]
def hitT : Option Nat → List Nat → Bool
  | none, _ => false
  | some d, l => memB d l
def hitW : List (Nat × Blk) → List Nat → Bool
  | [], _ => false
  | (b, _) :: r, l => memB b l || hitW r l
def dstL : Option Nat → List Nat
  | none => []
  | some d => [d]
def wsL : List (Nat × Blk) → List Nat
  | [] => []
  | (b, _) :: r => b :: wsL r
def Ent.apart (e f : Ent) : Bool := !hitT e.dst f.rt && (!hitT e.dst (dstL f.dst) && (!hitT f.dst e.rt && (!hitW e.ws f.rb && (!hitW f.ws e.rb && !hitW e.ws (wsL f.ws)))))
def Ent.Apart (e f : Ent) : Prop := (∀ d, e.dst = some d → d ∉ f.rt ∧ f.dst ≠ some d) ∧ (∀ d, f.dst = some d → d ∉ e.rt) ∧ (∀ q ∈ e.ws, q.1 ∉ f.rb) ∧ (∀ q ∈ f.ws, q.1 ∉ e.rb) ∧ ∀ q ∈ e.ws, ∀ r ∈ f.ws, q.1 ≠ r.1
theorem hitT_no {o : Option Nat} {l : List Nat} (h : hitT o l = false) : ∀ d, o = some d → d ∉ l := by
  rintro d rfl hd
  rw [hitT, memB_iff.2 hd] at h; cases h
theorem hitW_no {l : List Nat} : ∀ {ws : List (Nat × Blk)}, hitW ws l = false → ∀ q ∈ ws, q.1 ∉ l
  | [], _, q, hq => by cases hq
  | (b, k) :: r, h, q, hq => by
    rw [hitW, Bool.or_eq_false_iff] at h
    rcases List.mem_cons.1 hq with rfl | hq
    · intro hb; rw [memB_iff.2 hb] at h; cases h.1
    · exact hitW_no h.2 q hq
theorem mem_wsL : ∀ {ws : List (Nat × Blk)} {q : Nat × Blk}, q ∈ ws → q.1 ∈ wsL ws
  | (b, k) :: r, q, hq => by
    rcases List.mem_cons.1 hq with rfl | hq
    · exact List.mem_cons_self
    · exact List.mem_cons_of_mem _ (mem_wsL hq)
theorem Ent.apart_spec {e f : Ent} (h : e.apart f = true) : e.Apart f := by
  simp only [Ent.apart, Bool.and_eq_true, Bool.not_eq_true'] at h
  obtain ⟨h1, h2, h3, h4, h5, h6⟩ := h
  exact ⟨fun d hd => ⟨hitT_no h1 d hd, fun hf => hitT_no h2 d hd (by rw [hf]; exact List.mem_cons_self)⟩, hitT_no h3, hitW_no h4, hitW_no h5, fun q hq r hr e' => hitW_no h6 q hq (e' ▸ mem_wsL hr)⟩
theorem Ent.Apart.symm {e f : Ent} (h : e.Apart f) : f.Apart e :=
  ⟨fun d hd => ⟨h.2.1 d hd, fun he => (h.1 d he).2 hd⟩, fun d hd => (h.1 d hd).1, h.2.2.2.1, h.2.2.1, fun q hq r hr e' => h.2.2.2.2 r hr q hq e'.symm⟩

/-- Sets of numbers as_ one number. -/
def bitN (a j : Nat) : Bool := (a >>> j) % 2 == 1
theorem bitN_eq (a j : Nat) : bitN a j = a.testBit j := by
  unfold bitN
  rw [Nat.testBit_eq_decide_div_mod_eq, Nat.shiftRight_eq_div_pow]
  rw [Bool.eq_iff_iff]; simp
theorem bitN_or (a b j : Nat) : bitN (a ||| b) j = (bitN a j || bitN b j) := by simp [bitN_eq, Nat.testBit_or]
theorem bitN_one (i j : Nat) : bitN (1 <<< i) j = decide (i = j) := by
  rw [bitN_eq, Nat.one_shiftLeft, Nat.testBit_two_pow]
theorem bitN_zero (j : Nat) : bitN 0 j = false := by rw [bitN_eq, Nat.zero_testBit]
def checkPre (an : Nat) (e : Ent) : Nat → List Ent → Bool
  | _, [] => true
  | i, f :: r => (bitN an i || f.apart e) && checkPre an e (i + 1) r
theorem checkPre_spec {an : Nat} {e : Ent} : ∀ {l : List Ent} {i : Nat}, checkPre an e i l = true → ∀ (j : Nat) (f : Ent), l[j]? = some f → bitN an (i + j) = true ∨ f.Apart e
  | [], _, _, j, f, hf => by simp at hf
  | g :: r, i, h, j, f, hf => by
    rw [checkPre, Bool.and_eq_true, Bool.or_eq_true] at h
    cases j with
    | zero =>
      simp at hf
      subst hf
      exact h.1.imp id Ent.apart_spec
    | succ j =>
      have := checkPre_spec h.2 j f (by simpa using hf)
      rwa [show i + 1 + j = i + (j + 1) by omega] at this
/-- What an operation waits for, whatever the order. -/
def onsOf : List Edge → List Nat
  | [] => []
  | e :: r => match Region.binds .any e with
    | true => e.on :: onsOf r
    | false => onsOf r
theorem mem_onsOf {j : Nat} : ∀ {l : List Edge}, j ∈ onsOf l ↔ ∃ e ∈ l, Region.binds .any e = true ∧ e.on = j
  | [] => by simp [onsOf]
  | e :: r => by
    rw [onsOf]
    cases hb : Region.binds .any e
    · simp [mem_onsOf (l := r), hb]
    · simp only [List.mem_cons, mem_onsOf (l := r)]
      constructor
      · rintro (rfl | ⟨x, h1, h2⟩)
        · exact ⟨e, .inl rfl, hb, rfl⟩
        · exact ⟨x, .inr h1, h2⟩
      · rintro ⟨x, rfl | h1, h2, h3⟩
        · exact .inl h3.symm
        · exact .inr ⟨x, h1, h2, h3⟩
def nthL : List Nat → Nat → Nat
  | [], _ => 0
  | a :: _, 0 => a
  | _ :: r, n + 1 => nthL r n
theorem nthL_get : ∀ {as_ : List Nat} {i j : Nat}, bitN (nthL as_ i) j = true → ∃ a, as_[i]? = some a ∧ bitN a j = true
  | [], _, j, h => by rw [nthL, bitN_zero] at h; cases h
  | a :: r, 0, j, h => ⟨a, rfl, h⟩
  | a :: r, i + 1, j, h => by
    obtain ⟨x, h1, h2⟩ := nthL_get (as_ := r) (i := i) h
    exact ⟨x, by simpa using h1, h2⟩
def ancUp (as_ : List Nat) : List Nat → Nat
  | [] => 0
  | j :: r => 1 <<< j ||| (nthL as_ j ||| ancUp as_ r)
def backOk (n : Nat) : List Nat → Bool
  | [] => true
  | j :: r => decide (j < n) && backOk n r
theorem backOk_spec {n : Nat} : ∀ {l : List Nat}, backOk n l = true → ∀ j ∈ l, j < n
  | [], _, j, h => by cases h
  | i :: r, h, j, hj => by
    rw [backOk, Bool.and_eq_true] at h
    rcases List.mem_cons.1 hj with rfl | hj
    · exact of_decide_eq_true h.1
    · exact backOk_spec h.2 j hj
/-- What has come up holds what it waits for. -/
def Closed (ops : Array Oper) (l : Array Bool) : Prop := ∀ (i : Nat) (o : Oper), ops[i]? = some o → l.getD i false = true → ∀ j ∈ onsOf o.after.toList, l.getD j false = true
def Anc (ops : Array Oper) (i j : Nat) : Prop := ∀ l : Array Bool, Closed ops l → l.getD i false = true → l.getD j false = true
theorem ancUp_spec {ops : Array Oper} {as_ : List Nat} {n : Nat} {o : Oper} (ho : ops[n]? = some o) (has : ∀ (i a : Nat), as_[i]? = some a → ∀ j, bitN a j = true → Anc ops i j) : ∀ {l : List Nat}, (∀ j ∈ l, j ∈ onsOf o.after.toList) → ∀ j, bitN (ancUp as_ l) j = true → Anc ops n j
  | [], _, j, h => by rw [ancUp, bitN_zero] at h; cases h
  | i :: r, hl, j, hj => by
    have hi : Anc ops n i := fun l hc hn => hc n o ho hn i (hl i List.mem_cons_self)
    rw [ancUp, bitN_or, bitN_or, bitN_one, Bool.or_eq_true, Bool.or_eq_true, decide_eq_true_iff] at hj
    rcases hj with rfl | hj | hj
    · exact hi
    · obtain ⟨a, h1, h2⟩ := nthL_get hj
      exact fun l hc hn => has i a h1 j h2 l hc (hi l hc hn)
    · exact ancUp_spec ho has (fun j hj => hl j (List.mem_cons_of_mem _ hj)) j hj

/-! One operation in the text's order. -/
def inB (n : Nat) : List (Nat × Blk) → Bool
  | [] => true
  | (b, _) :: r => decide (b < n) && inB n r
theorem inB_spec {n : Nat} : ∀ {u : List (Nat × Blk)}, inB n u = true → ∀ q ∈ u, q.1 < n
  | [], _, q, h => by cases h
  | (b, k) :: r, h, q, hq => by
    rw [inB, Bool.and_eq_true] at h
    rcases List.mem_cons.1 hq with rfl | hq
    · exact of_decide_eq_true h.1
    · exact inB_spec h.2 q hq
def skipE (ops : Array Oper) (o : Oper) : Ent := ⟨o.dst, .tup [], gdTmps ops o.guard, [], [], 0⟩
def opE (ops : Array Oper) (o : Oper) (s : St) (out : Out) : Ent := ⟨o.dst, out.v s.σ.length, opTmps o.op ++ gdTmps ops o.guard, opReads (getT s.t) o.op, out.upd ++ zipN s.σ.length (out.new s.σ.length), (out.new s.σ.length).length⟩
def callE (ops : Array Oper) (o : Oper) (r : A) : Ent := ⟨o.dst, r, opTmps o.op ++ gdTmps ops o.guard, [], [], 0⟩
def callSE (ops : Array Oper) (o : Oper) (s : St) (ρ ks : List Nat) (K : Nat) (r : A) (σ' : List Blk) : Ent :=
  ⟨o.dst, r.ren (rho2 ρ K s.σ.length σ'.length), opTmps o.op ++ gdTmps ops o.guard, ρ ++ ks, (callOut ρ ks K s.σ.length r σ').upd ++ zipN s.σ.length ((callOut ρ ks K s.σ.length r σ').new s.σ.length), ((callOut ρ ks K s.σ.length r σ').new s.σ.length).length⟩
inductive Did (C : Ctx) (ops : Array Oper) (o : Oper) (s : St) : Ent → St → Prop
  | skip (hg : guardOf ops (getT s.t) o.guard = .no ∨ guardOf ops (getT s.t) o.guard = .ask false) : Did C ops o s (skipE ops o) (s.put o.dst (.tup []))
  | op {out : Out} (hg : guardOf ops (getT s.t) o.guard = .yes ∨ guardOf ops (getT s.t) o.guard = .ask true) (ho : opEval C.P (getT s.t) s.σ o.op = some out) (hp : out.p) (hi : inB s.σ.length out.upd = true) : Did C ops o s (opE ops o s out) (s.app o.dst out)
  | call {f : FuncId} {as_ : List A} {r : A} (hg : guardOf ops (getT s.t) o.guard = .yes ∨ guardOf ops (getT s.t) o.guard = .ask true) (hc : callOf (getT s.t) o.op = some (f, as_)) (hf : Fn C 0 f (as_.map (argA s.σ)) [] r [])
    (hp : ∀ x ∈ as_.map (argA s.σ), pureA x = true) (hr : r.bnd 0 = true) : Did C ops o s (callE ops o r) (s.put o.dst r)
  | callS {f : FuncId} {as_ args : List A} {ρ : List Nat} {K : Nat} {σc σ' : List Blk} {r : A} (hg : guardOf ops (getT s.t) o.guard = .yes ∨ guardOf ops (getT s.t) o.guard = .ask true) (hc : callOf (getT s.t) o.op = some (f, as_)) (hi : CallIn C s.σ f as_ ρ K args σc r σ')
    (hb : inB s.σ.length (callOut ρ (fitsK as_ args) K s.σ.length r σ').upd = true) : Did C ops o s (callSE ops o s ρ (fitsK as_ args) K r σ') (s.app o.dst (callOut ρ (fitsK as_ args) K s.σ.length r σ'))
def TG (C : Ctx) (ops : Array Oper) (Z : St → Prop) : List Oper → List Nat → List Ent → St → Prop
  | [], _, _, s => Z s
  | o :: rest, as_, es, s => backOk es.length (onsOf o.after.toList) = true ∧ ∃ e s1, Did C ops o s e s1 ∧ checkPre (ancUp as_ (onsOf o.after.toList)) e 0 es = true ∧ TG C ops Z rest (as_ ++ [ancUp as_ (onsOf o.after.toList)]) (es ++ [e]) s1
def Tr (C : Ctx) (ops : Array Oper) : List Oper → List Ent → St → St → Prop
  | [], [], s, s' => s = s'
  | o :: r, e :: es, s, s' => ∃ s1, Did C ops o s e s1 ∧ Tr C ops r es s1 s'
  | _, _, _, _ => False
theorem TG.tr {C : Ctx} {ops : Array Oper} {Z : St → Prop} : ∀ {rest : List Oper} {as_ : List Nat} {es : List Ent} {s : St}, TG C ops Z rest as_ es s → (∀ k, rest[k]? = ops[es.length + k]?) → as_.length = es.length → (∀ (i a : Nat), as_[i]? = some a → ∀ j, bitN a j = true → Anc ops i j) →
    ∃ es' s', Tr C ops rest es' s s' ∧ Z s' ∧ (∀ (j : Nat) (o : Oper), rest[j]? = some o → ∀ i ∈ onsOf o.after.toList, i < es.length + j) ∧ ∀ (i j : Nat) (f e : Ent), i < es.length + j → (es ++ es')[i]? = some f → es'[j]? = some e → Anc ops (es.length + j) i ∨ f.Apart e
  | [], as_, es, s, h, _, _, _ => ⟨[], s, rfl, h, fun j o hj => by simp at hj, fun i j f e _ _ he => by simp at he⟩
  | o :: rest, as_, es, s, h, hr, hl, ha => by
    rw [TG] at h
    obtain ⟨h1, e, s1, h2, h3, h4⟩ := h
    have ho : ops[es.length]? = some o := (hr 0).symm
    have hup := ancUp_spec ho ha (l := onsOf o.after.toList) (fun _ h => h)
    obtain ⟨es', s', g1, g2, g3, g4⟩ := TG.tr h4 (fun k => by
      rw [List.length_append, List.length_singleton, Nat.add_assoc, Nat.add_comm 1 k]
      exact hr (k + 1)) (by simp [hl]) (fun i a hi => by
      rw [List.getElem?_append] at hi
      split at hi
      · exact ha i a hi
      · rename_i hge
        have : i - as_.length = 0 := by
          have := (List.getElem?_eq_some_iff.1 hi).1
          simp at this; omega
        rw [this] at hi
        cases hi
        have : i = es.length := by omega
        subst this
        exact hup)
    refine ⟨e :: es', s', ⟨s1, h2, g1⟩, g2, fun j o' hj i hi => ?_, fun i j f e' hij hf he => ?_⟩
    · cases j with
      | zero =>
        simp at hj
        subst hj
        exact backOk_spec h1 i hi
      | succ j =>
        have := g3 j o' (by simpa using hj) i hi
        simp at this; omega
    · cases j with
      | zero =>
        simp at he
        subst he
        rw [List.getElem?_append_left (by omega)] at hf
        rcases checkPre_spec h3 i f hf with h5 | h5
        · exact .inl (hup _ (by simpa using h5))
        · exact .inr h5
      | succ j =>
        have := g4 i j f e' (by simp; omega) (by simpa using hf) (by simpa using he)
        rwa [List.length_append, List.length_singleton, Nat.add_assoc, Nat.add_comm 1 j] at this

/-! The text's order as_ a run of entries. -/
def runA (n : Nat) : List Ent → (Nat → Option A) × List Blk → (Nat → Option A) × List Blk
  | [], x => x
  | e :: es, x => runA n es (putF n x.1 e.dst e.v, updσ x.2 e.ws)
def tot : List Ent → Nat
  | [] => 0
  | e :: es => e.nw + tot es
theorem runM_all (n : Nat) : ∀ (es : List Ent) (x : (Nat → Option A) × List Blk), runM n ((List.replicate es.length true).zip es) x = runA n es x
  | [], _ => rfl
  | e :: es, x => by
    rw [List.length_cons, List.replicate_succ, List.zip_cons_cons, runM, runA, runM_all n es]
theorem runM_none (n : Nat) : ∀ (es : List Ent) (k : Nat) (x : (Nat → Option A) × List Blk), runM n ((List.replicate k false).zip es) x = x
  | [], k, x => by rw [List.zip_nil_right]; rfl
  | e :: es, 0, x => rfl
  | e :: es, k + 1, x => by rw [List.replicate_succ, List.zip_cons_cons, runM, runM_none n es]
theorem runM_pre (n : Nat) : ∀ (es : List Ent) (i k : Nat) (x : (Nat → Option A) × List Blk), i + k = es.length → runM n ((List.replicate i true ++ List.replicate k false).zip es) x = runA n (es.take i) x
  | es, 0, k, x, _ => by rw [List.replicate_zero, List.nil_append, runM_none]; rfl
  | [], i + 1, k, x, h => by simp at h
  | e :: es, i + 1, k, x, h => by
    rw [List.replicate_succ, List.cons_append, List.zip_cons_cons, runM, List.take_succ_cons, runA, runM_pre n es i k _ (by simp at h; omega)]
theorem runM_set (n : Nat) : ∀ {es : List Ent} {m : List Bool} {i : Nat} {e : Ent} {x : (Nat → Option A) × List Blk}, es[i]? = some e → m[i]? = some false → (∀ (j : Nat) (f : Ent), i < j → es[j]? = some f → m[j]? = some true → e.frees f) →
    runM n ((m.set i true).zip es) x = (putF n (runM n (m.zip es) x).1 e.dst e.v, updσ (runM n (m.zip es) x).2 e.ws)
  | [], m, i, e, x, he, _, _ => by simp at he
  | g :: es, [], i, e, x, _, hm, _ => by simp at hm
  | g :: es, a :: m, 0, e, x, he, hm, hf => by
    simp at he hm
    subst he; subst hm
    rw [List.set_cons_zero, List.zip_cons_cons, List.zip_cons_cons, runM, runM]
    refine runM_late n fun f hf' ht => ?_
    obtain ⟨j, hj⟩ := List.mem_iff_getElem?.1 hf'
    rw [List.getElem?_zip_eq_some] at hj
    exact hf (j + 1) f.2 (by omega) (by simpa using hj.2) (by rw [List.getElem?_cons_succ, hj.1, ht])
  | g :: es, a :: m, i + 1, e, x, he, hm, hf => by
    have ih := fun y => runM_set n (es := es) (m := m) (i := i) (e := e) (x := y) (by simpa using he) (by simpa using hm) (fun j f hj h1 h2 => hf (j + 1) f (by omega) (by simpa using h1) (by simpa using h2))
    rw [List.set_cons_succ, List.zip_cons_cons, List.zip_cons_cons]
    cases a
    · rw [runM, runM, ih]
    · rw [runM, runM, ih]

section
variable {C : Ctx} {K : Nat} {ops : Array Oper} {s s' s1 : St} {o : Oper} {e : Ent} {rest : List Oper} {es : List Ent}
theorem zipN_get : ∀ {ks : List Blk} {nb : Nat}, ∀ q ∈ zipN nb ks, nb ≤ q.1 ∧ q.1 < nb + ks.length
  | [], _, q, h => by cases h
  | k :: ks, nb, q, h => by
    rcases List.mem_cons.1 h with rfl | h
    · exact ⟨Nat.le_refl _, by simp⟩
    · have := zipN_get q h
      simp only [List.length_cons]; omega
theorem zipN_ne {ks : List Blk} {nb : Nat} (h : ks ≠ []) : ∃ q ∈ zipN nb ks, q.1 = nb := by
  cases ks with
  | nil => exact (h rfl).elim
  | cons k ks => exact ⟨_, List.mem_cons_self, rfl⟩
theorem updσ_in : ∀ {u : List (Nat × Blk)} {σ ds : List Blk}, (∀ q ∈ u, q.1 < σ.length) → updσ (σ ++ ds) u = updσ σ u ++ ds
  | [], _, _, _ => rfl
  | (b, k) :: r, σ, ds, h => by
    rw [updσ, updσ, List.set_append_left _ _ (h (b, k) List.mem_cons_self)]
    exact updσ_in fun q hq => by simpa using h q (List.mem_cons_of_mem _ hq)
theorem setAll_pad : ∀ (ks a : List Blk) (M : Nat), ks.length ≤ M → setAll (a ++ List.replicate M .dead) a.length ks = a ++ ks ++ List.replicate (M - ks.length) .dead
  | [], a, M, _ => by simp [setAll]
  | k :: ks, a, 0, h => by simp at h
  | k :: ks, a, M + 1, h => by
    rw [setAll, List.set_append, if_neg (Nat.lt_irrefl _), Nat.sub_self, List.replicate_succ, List.set_cons_zero]
    have := setAll_pad ks (a ++ [k]) M (by simpa using h)
    rw [List.length_append, List.length_singleton] at this
    simp only [List.append_assoc, List.singleton_append] at this
    rw [this]
    simp
theorem Did.dst (h : Did C ops o s e s1) : e.dst = o.dst := by cases h <;> rfl
theorem Did.n (h : Did C ops o s e s1) : s1.n = s.n := by cases h <;> rfl
theorem Did.t (h : Did C ops o s e s1) : putF s.n (getT s.t) e.dst e.v = getT s1.t := by cases h <;> exact (getT_put ..).symm
theorem Did.len (h : Did C ops o s e s1) : s1.σ.length = s.σ.length + e.nw := by
  cases h with
  | skip => rfl
  | op => simp [St.app, opE, length_updσ]
  | call => rfl
  | callS => simp [St.app, callSE, length_updσ]
theorem app_pad (s : St) (dst : Option Nat) (out : Out) {M : Nat} (hi : inB s.σ.length out.upd = true) (hM : (out.new s.σ.length).length ≤ M) : updσ (s.σ ++ List.replicate M .dead) (out.upd ++ zipN s.σ.length (out.new s.σ.length)) = (s.app dst out).σ ++ List.replicate (M - (out.new s.σ.length).length) .dead := by
  rw [updσ_append, ← setAll_zip, updσ_in (inB_spec hi)]
  have := setAll_pad (out.new s.σ.length) (updσ s.σ out.upd) M hM
  rw [length_updσ] at this
  exact this
theorem app_ws (s : St) (dst : Option Nat) (out : Out) (hi : inB s.σ.length out.upd = true) : ∀ q ∈ out.upd ++ zipN s.σ.length (out.new s.σ.length), q.1 < (s.app dst out).σ.length := by
  intro q hq
  have : (s.app dst out).σ.length = s.σ.length + (out.new s.σ.length).length := by simp [St.app, length_updσ]
  rw [this]
  rcases List.mem_append.1 hq with hq | hq
  · exact Nat.lt_of_lt_of_le (inB_spec hi q hq) (by omega)
  · exact (zipN_get q hq).2
theorem Did.σ (h : Did C ops o s e s1) {M : Nat} (hM : e.nw ≤ M) : updσ (s.σ ++ List.replicate M .dead) e.ws = s1.σ ++ List.replicate (M - e.nw) .dead := by
  cases h with
  | skip => rfl
  | call => rfl
  | op hg ho hp hi => exact app_pad s o.dst _ hi hM
  | callS hg hc hi hb => exact app_pad s o.dst _ hb hM
theorem Did.ws (h : Did C ops o s e s1) : ∀ q ∈ e.ws, q.1 < s1.σ.length := by
  cases h with
  | skip => intro q hq; cases hq
  | call => intro q hq; cases hq
  | op hg ho hp hi => exact app_ws s o.dst _ hi
  | callS hg hc hi hb => exact app_ws s o.dst _ hb
theorem Tr.len : ∀ {rest : List Oper} {es : List Ent} {s : St}, Tr C ops rest es s s' → es.length = rest.length
  | [], [], _, _ => rfl
  | o :: r, e :: es, s, ⟨s1, _, h⟩ => by rw [List.length_cons, List.length_cons, Tr.len h]
theorem Tr.end_ : ∀ {rest : List Oper} {es : List Ent} {s : St} (M : Nat), tot es ≤ M → Tr C ops rest es s s' → runA s.n es (getT s.t, s.σ ++ List.replicate M .dead) = (getT s'.t, s'.σ ++ List.replicate (M - tot es) .dead) ∧ s'.n = s.n
  | [], [], s, M, _, h => by subst h; exact ⟨rfl, rfl⟩
  | o :: r, e :: es, s, M, hM, ⟨s1, h1, h⟩ => by
    rw [tot] at hM ⊢
    obtain ⟨g1, g2⟩ := Tr.end_ (M - e.nw) (by omega) h
    rw [runA]
    dsimp only
    rw [h1.t, h1.σ (by omega), ← h1.n, g1, Nat.sub_sub]
    exact ⟨rfl, g2⟩
theorem Tr.at_ : ∀ {rest : List Oper} {es : List Ent} {s : St} (M : Nat), tot es ≤ M → Tr C ops rest es s s' → ∀ (i : Nat) (o : Oper), rest[i]? = some o →
    ∃ e si s1 Mi, es[i]? = some e ∧ Did C ops o si e s1 ∧ si.n = s.n ∧ e.nw ≤ Mi ∧ si.σ.length + Mi = s.σ.length + M ∧ s.σ.length ≤ si.σ.length ∧ runA s.n (es.take i) (getT s.t, s.σ ++ List.replicate M .dead) = (getT si.t, si.σ ++ List.replicate Mi .dead) ∧ ∀ (j : Nat) (f : Ent), j < i → es[j]? = some f → ∀ q ∈ f.ws, q.1 < si.σ.length
  | [], [], s, M, _, _, i, o, ho => by simp at ho
  | o :: r, e :: es, s, M, hM, ⟨s1, h1, h⟩, 0, o', ho => by
    rw [tot] at hM
    simp at ho
    subst ho
    exact ⟨e, s, s1, M, rfl, h1, rfl, by omega, rfl, Nat.le_refl _, rfl, fun j f hj => by omega⟩
  | o :: r, e :: es, s, M, hM, ⟨s1, h1, h⟩, i + 1, o', ho => by
    rw [tot] at hM
    obtain ⟨e', si, s2, Mi, g1, g2, g3, g4, g5, g6, g7, g8⟩ := Tr.at_ (M - e.nw) (by omega) h i o' (by simpa using ho)
    have := h1.len
    refine ⟨e', si, s2, Mi, by simpa using g1, g2, g3.trans h1.n, g4, by omega, by omega, ?_, fun j f hj hf q hq => ?_⟩
    · rw [List.take_succ_cons, runA]
      dsimp only
      rw [h1.t, h1.σ (by omega), ← h1.n, g7]
    · cases j with
      | zero =>
        simp at hf
        subst hf
        exact Nat.lt_of_lt_of_le (h1.ws q hq) g6
      | succ j => exact g8 j f (by omega) (by simpa using hf) q hq
end
end Go.AM
end
section
namespace Go.AM
open Go.RowKit
set_option linter.unusedVariables false
set_option linter.unusedSimpArgs false

section
variable {C : Ctx} {K : Nat} {ops : Array Oper} {s s' s1 : St} {o : Oper} {e : Ent} {rest : List Oper} {es : List Ent}
theorem argA_congr {σ σ' : List Blk} (x : A) : argA σ x = argA σ' x := by
  have key : (match x.kills, x.toD σ with
    | [], some z => A.d z
    | _, _ => x) = (match x.kills, x.toD σ' with
    | [], some z => A.d z
    | _, _ => x) := by
    cases hk : x.kills with
    | nil => rw [toD_congr (σ := σ) (σ' := σ') (x := x) (fun b hb => by rw [hk] at hb; cases hb)]
    | cons b r => rfl
  cases x <;> first | rfl | exact key
theorem getD_list {l : Array Bool} {j : Nat} {a : Bool} (h : l.toList[j]? = some a) : a = l.getD j false := by
  rw [Array.getElem?_toList] at h
  rw [Array.getD_eq_getD_getElem?, h]; rfl
theorem pre_list {i k j : Nat} {b : Bool} (h : (List.replicate i true ++ List.replicate k false)[j]? = some b) : b = decide (j < i) := by
  rw [List.getElem?_append, List.length_replicate] at h
  split at h
  · rename_i hj
    rw [List.getElem?_replicate, if_pos hj] at h
    cases h
    simp [hj]
  · rename_i hj
    rw [List.getElem?_replicate] at h
    split at h
    · cases h
      simp [hj]
    · cases h
theorem set_false {l : Array Bool} {i j : Nat} (h : l.getD j false = false) (hne : j ≠ i) : (l.setIfInBounds i true).getD j false = false := by
  rw [getD_set_ne false (fun e => hne e.symm)]; exact h
theorem getD_lt {l : Array Bool} {i : Nat} (h : l.getD i true = false) : i < l.size := by
  rcases Nat.lt_or_ge i l.size with h1 | h1
  · exact h1
  · simp [Array.getElem?_eq_none h1] at h
theorem Closed.set {l : Array Bool} {i : Nat} (hc : Closed ops l) (ho : ops[i]? = some o) (hr : ∀ j ∈ onsOf o.after.toList, l.getD j false = true) : Closed ops (l.setIfInBounds i true) := by
  intro j o' ho' hj k hk
  by_cases hij : i = j
  · subst hij
    rw [ho] at ho'
    cases ho'
    exact getD_set_true (hr k hk)
  · rw [getD_set_ne false hij] at hj
    exact getD_set_true (hc j o' ho' hj k hk)
theorem ready_ons {l : Array Bool} {i : Nat} (h : i ∈ Region.ready .any ops l) : ∃ o, ops[i]? = some o ∧ l.getD i true = false ∧ ∀ j ∈ onsOf o.after.toList, l.getD j false = true := by
  obtain ⟨h1, o, h2, h3⟩ := mem_ready.1 h
  refine ⟨o, h2, h1, fun j hj => ?_⟩
  obtain ⟨x, hx, hb, rfl⟩ := mem_onsOf.1 hj
  exact h3 x (by simpa using hx) hb
theorem listed_all (hb : ∀ (j : Nat) (o : Oper), ops[j]? = some o → ∀ i ∈ onsOf o.after.toList, i < j) {l : Array Bool} (hsz : l.size = ops.size) (hr : Region.ready .any ops l = []) : ∀ i, i < ops.size → l.getD i true = true := by
  intro i
  induction i using Nat.strongRecOn with
  | _ i ih =>
    intro hi
    cases hl : l.getD i true with
    | true => rfl
    | false =>
      have h2 : i ∈ Region.ready .any ops l := by
        refine mem_ready.2 ⟨hl, _, Array.getElem?_eq_getElem hi, fun e he hbd => ?_⟩
        have h3 := hb i _ (Array.getElem?_eq_getElem hi) e.on (mem_onsOf.2 ⟨e, by simpa using he, hbd, rfl⟩)
        have h4 := ih e.on h3 (by omega)
        have h5 : e.on < l.size := by omega
        simpa [h5] using h4
      rw [hr] at h2
      cases h2
theorem count_set {l : Array Bool} {i : Nat} (h : l.getD i true = false) : (l.setIfInBounds i true).toList.count false + 1 = l.toList.count false := by
  have hi := getD_lt h
  have he : l[i] = false := by simpa [hi] using h
  rw [Array.toList_setIfInBounds, List.count_set (by simpa using hi)]
  have h1 : l.toList[i]'(by simpa using hi) = false := by simpa using he
  have h2 : 0 < l.toList.count false := List.count_pos_iff.2 (by rw [← h1]; exact List.getElem_mem _)
  rw [h1, if_pos (by decide), if_neg (by decide)]
  omega
theorem any_inv {P : Program} {Q : Exit → Act → World → Prop} {md : Region.Mode} (J : Array Bool → Act → World → Prop)
    (hs : ∀ l a w i, l.size = ops.size → i ∈ Region.ready md ops l → J l a w → wpOp P ops Q i (fun a' w' => J (l.setIfInBounds i true) a' w') a w)
    (he : ∀ l a w, l.size = ops.size → Region.ready md ops l = [] → J l a w → Q .normal a w) :
    ∀ (fuel : Nat) (l : Array Bool) (a : Act) (w : World), l.size = ops.size → l.toList.count false ≤ fuel → J l a w → wpAny P md ops Q fuel l a w := by
  intro fuel
  induction fuel with
  | zero =>
    intro l a w hsz hc hJ
    have hr : Region.ready md ops l = [] := by
      refine List.eq_nil_iff_forall_not_mem.2 fun j hj => ?_
      obtain ⟨h1, _⟩ := mem_ready.1 hj
      have := count_set h1
      omega
    exact ⟨hr, he l a w hsz hr hJ⟩
  | succ fuel ih =>
    intro l a w hsz hc hJ
    refine ⟨fun hr => he l a w hsz hr hJ, fun i hi => ?_⟩
    refine wpOp_mono (fun a' w' h => ih _ a' w' (by simpa using hsz) ?_ h) (hs l a w i hsz hi hJ)
    have := count_set (mem_ready.1 hi).1
    omega
theorem wpOp_of {P : Program} {Q : Exit → Act → World → Prop} {i : Nat} {K : Act → World → Prop} {a : Act} {w : World} (ho : ops[i]? = some o) (h : if Region.wanted o (yielded ops a.tmps) = true then Oper.wp P o a w K Q else K (a.put o.dst undef) w) : wpOp P ops Q i K a w := by
  unfold wpOp
  rw [ho]
  split at h
  · rename_i hw
    simp only [hw, if_true]
    exact .inl h
  · rename_i hw
    simp only [hw]
    exact h

/-- What holds when the operations that l names have come up. -/
def DJ (C : Ctx) (ops : Array Oper) (K : Nat) (s : St) (es : List Ent) (w0 : World) (I0 O0 : Nat → Prop) (β0 : List (Option Loc)) (l : Array Bool) (a : Act) (w : World) : Prop :=
  Closed ops l ∧ ∃ t I β, getT t = (runM s.n (l.toList.zip es) (getT s.t, s.σ ++ List.replicate (tot es) .dead)).1 ∧
    Rel C ⟨t, (runM s.n (l.toList.zip es) (getT s.t, s.σ ++ List.replicate (tot es) .dead)).2, s.n⟩ a w I β ∧
    (∀ b, s.σ.length ≤ b → b < s.σ.length + tot es → (∀ (j : Nat) (f : Ent), l.getD j false = true → es[j]? = some f → ∀ q ∈ f.ws, q.1 ≠ b) → β[b]? = some none) ∧
    Ext K w0 I0 O0 β0 w I (Own β (runM s.n (l.toList.zip es) (getT s.t, s.σ ++ List.replicate (tot es) .dead)).2) β

theorem DJ.step {w0 : World} {I0 O0 : Nat → Prop} {β0 : List (Option Loc)} {l : Array Bool} {a : Act} {w : World} {i : Nat} {Q : Exit → Act → World → Prop}
    (htr : Tr C ops ops.toList es s s') (hpair : ∀ (i j : Nat) (f e : Ent), i < j → es[i]? = some f → es[j]? = some e → Anc ops j i ∨ f.Apart e)
    (hK : K ≤ s.σ.length + tot es) (hsz : l.size = ops.size) (hi : i ∈ Region.ready .any ops l) (hJ : DJ C ops K s es w0 I0 O0 β0 l a w) :
    wpOp C.P ops Q i (fun a' w' => DJ C ops K s es w0 I0 O0 β0 (l.setIfInBounds i true) a' w') a w := by
  obtain ⟨hcl, t, I, β, ht, rl, hslot, hext⟩ := hJ
  obtain ⟨o, ho, hli, hons⟩ := ready_ons hi
  have hlt := getD_lt hli
  have hlf : l.getD i false = false := by simpa [hlt] using hli
  have hcl' := hcl.set ho hons
  have hup : (l.setIfInBounds i true).getD i false = true := by simp [hlt]
  obtain ⟨e, si, s1, Mi, he, hd, hn, hMi, hlen, hle, hrun, hws⟩ := Tr.at_ (tot es) (Nat.le_refl _) htr i o (by rw [Array.getElem?_toList]; exact ho)
  have heslen : es.length = ops.size := by rw [Tr.len htr, Array.length_toList]
  -- what it looks at stands as_ in the text's order
  have agree : ∀ (j : Nat) (f : Ent), es[j]? = some f → j ≠ i → ¬ f.Apart e → l.getD j false = decide (j < i) := by
    intro j f hf hne hap
    rcases Nat.lt_or_gt_of_ne hne with h | h
    · rcases hpair j i f e h hf he with h1 | h1
      · have := h1 _ hcl' hup
        rw [getD_set_ne false (fun e => hne e.symm)] at this
        rw [this]; simp [h]
      · exact (hap h1).elim
    · rcases hpair i j e f h he hf with h1 | h1
      · cases hj : l.getD j false with
        | false => simp; omega
        | true => have := h1 l hcl hj; rw [hlf] at this; cases this
      · exact (hap h1.symm).elim
  have agree' : ∀ (j : Nat) (f : Ent) (a b : Bool), es[j]? = some f → l.toList[j]? = some a → (List.replicate i true ++ List.replicate (es.length - i) false)[j]? = some b → (j ≠ i → ¬ f.Apart e) → a = b := by
    intro j f a b hf ha hb hap
    rw [getD_list ha, pre_list hb]
    by_cases hji : j = i
    · subst hji; rw [hlf]; simp
    · exact agree j f hf hji (hap hji)
  have hil : i ≤ es.length := by omega
  have hml : l.toList.length = es.length := by rw [Array.length_toList, hsz, heslen]
  have hpl : (List.replicate i true ++ List.replicate (es.length - i) false).length = es.length := by simp; omega
  have hpre := runM_pre s.n es i (es.length - i) (getT s.t, s.σ ++ List.replicate (tot es) .dead) (by omega)
  rw [hrun] at hpre
  generalize hx0 : (getT s.t, s.σ ++ List.replicate (tot es) Blk.dead) = x0 at *
  have hx0l : x0.2.length = s.σ.length + tot es := by rw [← hx0]; simp
  generalize hσl : (runM s.n (l.toList.zip es) x0).2 = σl at *
  have hσlen : σl.length = s.σ.length + tot es := by rw [← hσl, runM_len, hx0l]
  have htmp : ∀ k ∈ e.rt, getT si.t k = getT t k := by
    intro k hk
    rw [ht]
    have := runM_t s.n (k := k) (es := es) (m := l.toList) (m' := List.replicate i true ++ List.replicate (es.length - i) false) (x := x0) (x' := x0) rfl hml hpl (fun j f a b hf ha hb hdst => agree' j f a b hf ha hb fun _ hap => (hap.1 k hdst).1 hk)
    rw [this, hpre]
  have hblk : ∀ b, (b ∈ e.rb ∨ ∃ q ∈ e.ws, q.1 = b) → σl[b]? = (si.σ ++ List.replicate Mi Blk.dead)[b]? := by
    intro b hb
    rw [← hσl]
    have := runM_σ s.n (b := b) (es := es) (m := l.toList) (m' := List.replicate i true ++ List.replicate (es.length - i) false) (x := x0) (x' := x0) rfl rfl hml hpl (fun j f a c hf ha hc hq => agree' j f a c hf ha hc fun _ hap => by
      obtain ⟨q, hq, rfl⟩ := hq
      rcases hb with hb | ⟨r, hr, hrb⟩
      · exact hap.2.2.1 q hq hb
      · exact hap.2.2.2.2 q hq r hr hrb.symm)
    rw [this, hpre]
  have hlook : ∀ b ∈ e.rb, look si.σ b = look σl b := by
    intro b hb
    rw [← look_slots si.σ Mi b]
    unfold look
    rw [hblk b (.inl hb)]
  -- what it leaves
  have hset : runM s.n ((l.setIfInBounds i true).toList.zip es) x0 = (putF s.n (getT t) e.dst e.v, updσ σl e.ws) := by
    rw [Array.toList_setIfInBounds, ht, ← hσl]
    refine runM_set s.n he ?_ fun j f hij hf hj => ?_
    · rw [Array.getElem?_toList, Array.getElem?_eq_getElem hlt]
      congr 1
      simpa [hlt] using hli
    · have hlj : l.getD j false = true := (getD_list hj).symm
      rcases hpair i j e f hij he hf with h1 | h1
      · have := h1 l hcl hlj; rw [hlf] at this; cases this
      · exact ⟨fun d hd => (h1.1 d hd).2, fun a ha b hb => h1.2.2.2.2 a ha b hb⟩
  have hgd : ∀ k ∈ gdTmps ops o.guard, k ∈ e.rt := by
    cases hd with
    | skip => exact fun k hk => hk
    | op => exact fun k hk => List.mem_append.2 (.inr hk)
    | call => exact fun k hk => List.mem_append.2 (.inr hk)
    | callS => exact fun k hk => List.mem_append.2 (.inr hk)
  have hguard : guardOf ops (getT si.t) o.guard = guardOf ops (getT t) o.guard := guard_congr fun k hk => htmp k (hgd k hk)
  have nslot : ∀ {β' : List (Option Loc)}, (∀ b, β[b]? = some none → (∀ q ∈ e.ws, q.1 ≠ b) → β'[b]? = some none) → ∀ b, s.σ.length ≤ b → b < s.σ.length + tot es → (∀ (j : Nat) (f : Ent), (l.setIfInBounds i true).getD j false = true → es[j]? = some f → ∀ q ∈ f.ws, q.1 ≠ b) → β'[b]? = some none := by
    intro β' hβ b h1 h2 h3
    exact hβ b (hslot b h1 h2 fun j f hj hf => h3 j f (getD_set_true hj) hf) (h3 i e hup he)
  have fin : ∀ {a' : Act} {w' : World} {I' : Nat → Prop} {β' : List (Option Loc)} {t' : List (Nat × A)} {σ' : List Blk}, t' = putT s.n t e.dst e.v → σ' = updσ σl e.ws → Rel C ⟨t', σ', s.n⟩ a' w' I' β' → (∀ b, β[b]? = some none → (∀ q ∈ e.ws, q.1 ≠ b) → β'[b]? = some none) →
      Ext K w I (Own β σl) β w' I' (Own β' σ') β' → DJ C ops K s es w0 I0 O0 β0 (l.setIfInBounds i true) a' w' := by
    intro a' w' I' β' t' σ' e1 e2 r' hβ x'
    subst e1; subst e2
    refine ⟨hcl', putT s.n t e.dst e.v, I', β', ?_, ?_, nslot hβ, ?_⟩
    · rw [hx0, hset, getT_put]
    · rw [hx0, hset]; exact r'
    · rw [hx0, hset]; exact hext.trans x'
  have hfree : ∀ b, (∃ q ∈ e.ws, q.1 = b) → si.σ.length ≤ b → b < si.σ.length + Mi → σl[b]? = some .dead ∧ β[b]? = some none := by
    intro b h3 hb1 hb2
    refine ⟨?_, hslot _ (by omega) (by omega) fun j f hj hf q hq heq => ?_⟩
    · rw [hblk _ (.inr h3), List.getElem?_append_right hb1, List.getElem?_replicate, if_pos (by omega)]
    · have hji : j ≠ i := fun e => by subst e; rw [hlf] at hj; cases hj
      have hnap : ¬ f.Apart e := fun hap => by
        obtain ⟨r, hr, hr'⟩ := h3
        exact hap.2.2.2.2 q hq r hr (heq.trans hr'.symm)
      have h4 := agree j f hf hji hnap
      rw [hj] at h4
      have h5 : j < i := by simpa using h4.symm
      have := hws j f h5 hf q hq
      omega
  have hblen : β.length = s.σ.length + tot es := by rw [rl.heap.len]; exact hσlen
  refine wpOp_of ho ?_
  cases hd with
  | skip hg =>
    rw [hguard] at hg
    rw [if_neg (by rw [wanted_no (s := ⟨t, σl, s.n⟩) rl.tmps hg]; simp)]
    exact fin rfl rfl ⟨(Act.put_size a _ _).trans rl.size, (Act.put_defers a _ _).trans rl.defers, TRel.put rl.tmps rl.size undef_rep, rl.heap⟩ (fun b hb _ => hb) (.refl ..)
  | op hg hop hp hin =>
    rename_i out
    rw [hguard] at hg
    rw [if_pos (wanted_yes (s := ⟨t, σl, s.n⟩) rl.tmps hg)]
    have h1 : opEval C.P (getT t) σl o.op = some out := by
      rw [← hop, ← opEval_congr (σ := si.σ) (σ' := σl) (t := getT t) (fun b hb => hlook b ?_)]
      · exact ((opEval_tmps fun k hk => htmp k (List.mem_append.2 (.inl hk))).1).symm
      · show b ∈ opReads (getT si.t) o.op
        rw [(opEval_tmps (P := C.P) (σ := si.σ) fun k hk => htmp k (List.mem_append.2 (.inl hk))).2]
        exact hb
    have hnew : out.new si.σ.length ≠ [] → si.σ.length < s.σ.length + tot es ∧ ∃ q ∈ (opE ops o si out).ws, q.1 = si.σ.length := by
      intro hne
      have h2 : 0 < (out.new si.σ.length).length := List.length_pos_iff.2 hne
      have h3 : (out.new si.σ.length).length ≤ Mi := hMi
      obtain ⟨q, hq, hq'⟩ := zipN_ne (nb := si.σ.length) hne
      exact ⟨by omega, q, List.mem_append.2 (.inr hq), hq'⟩
    obtain ⟨u, w', I', β', g1, g2, g3, g4, g5⟩ := opEval_sound (a := a) (nb := si.σ.length) (o := o) rl.tmps rl.heap h1 hp (fun hne => by
      obtain ⟨h2, h3⟩ := hnew hne
      have h4 : 0 < (out.new si.σ.length).length := List.length_pos_iff.2 hne
      have h5 : (out.new si.σ.length).length ≤ Mi := hMi
      exact hfree _ h3 (Nat.le_refl _) (by omega))
    have hput : putσ σl out si.σ.length = updσ σl (opE ops o si out).ws := putσ_ws ..
    have g4' : Ext K w I (Own β σl) β w' I' (Own β' (putσ σl out si.σ.length)) β' := { g4 with loc := fun b l' _ hb => g4.loc b l' (by have := (List.getElem?_eq_some_iff.1 hb).1; show b < σl.length; omega) hb }
    have rtm : TRel w' I' β' t a.tmps := rl.tmps.ext rl.heap g4 (Nat.le_refl _)
    have key := fin (a' := a.put o.dst u) (t' := putT s.n t o.dst (out.v si.σ.length)) (σ' := putσ σl out si.σ.length) rfl hput ⟨(Act.put_size a _ _).trans rl.size, (Act.put_defers a _ _).trans rl.defers, TRel.put rtm rl.size g2, g3⟩ (fun b hb hq => g5 b hb (by
      by_cases hne : out.new si.σ.length = []
      · exact .inr hne
      · obtain ⟨_, q, hq1, hq2⟩ := hnew hne
        exact .inl fun e => hq q hq1 (hq2.trans e.symm))) g4'
    unfold Oper.wp
    rcases g1 with g1 | ⟨g1, rfl⟩ <;> rw [g1] <;> exact key
  | call hg hc hf hp hr =>
    rename_i f as_ r
    rw [hguard] at hg
    rw [if_pos (wanted_yes (s := ⟨t, σl, s.n⟩) rl.tmps hg)]
    have hc' : callOf (getT t) o.op = some (f, as_) := by rw [← hc]; exact (callOf_congr fun k hk => htmp k (List.mem_append.2 (.inl hk))).symm
    obtain ⟨vs, g1, g2, g3⟩ := call_run (s := ⟨t, σl, s.n⟩) (w := w) rl.tmps hc' hf.1
    unfold Oper.wp
    rw [g1]
    show Calls C.P f vs w _
    have hargs : ∀ (i : Nat) (x : A) (v : Value), (as_.map (argA si.σ))[i]? = some x → vs[i]? = some v → ARep w I [] x v := by
      intro i x v hx hv
      have hpx := hp x (List.mem_of_getElem? hx)
      rw [List.getElem?_map, Option.map_eq_some_iff] at hx
      obtain ⟨y, hy, rfl⟩ := hx
      rw [argA_congr (σ' := σl)] at hpx ⊢
      have := argA_rep rl.heap (g3 i y v hy hv)
      generalize argA σl y = z at this hpx
      cases z with
      | d q => cases this with | d hq => exact .d hq
      | fn fn x y =>
        unfold pureA at hpx
        split at hpx
        · rename_i he; cases he
        · rename_i he
          cases he
          cases this with
          | fn a1 a2 a3 a4 => exact .fn a1 a2 (fun i a u h => by simp at h) (fun i a u h => by simp at h)
        · cases hpx
      | _ => simp [pureA] at hpx
    refine (hf.2 w I [] vs rl.heap.empty (by simpa using g2) hargs).mono ?_
    rintro e w' ⟨v, I', β', rfl, h1, h2, h3⟩
    obtain ⟨g4, g5⟩ := rl.heap.grow (w' := w') (I' := I') (σl.length) h3.os h3.tape h3.output h3.size (fun q hq => h3.keep q hq (by rintro ⟨b, l, k, hb, _⟩; simp at hb)) h3.imm (fun q hq => by
      rcases h3.new q hq with h4 | ⟨b, l, k, hb, _⟩ | h4
      · exact .inl h4
      · simp at hb
      · exact .inr ⟨h4, h2.imm q hq⟩)
    have hv : ARep w' I' β r v := by
      have := ARep.ren (ρ := []) (β' := β) (fun b l hb hlt => by simp at hlt) h1 hr
      have e : r.ren [] = r := ren_of_bnd0 hr
      rwa [e] at this
    exact fin (t' := putT s.n t o.dst r) (σ' := σl) rfl rfl ⟨(Act.put_size a _ _).trans rl.size, (Act.put_defers a _ _).trans rl.defers, TRel.put (rl.tmps.ext rl.heap g5 (Nat.le_refl _)) rl.size hv, g4⟩ (fun b hb _ => hb) { g5 with loc := fun _ _ _ h => h }
  | callS hg hc hci hb =>
    rename_i f as_ args ρ K' σc σ' r
    rw [hguard] at hg
    rw [if_pos (wanted_yes (s := ⟨t, σl, s.n⟩) rl.tmps hg)]
    have hc' : callOf (getT t) o.op = some (f, as_) := by rw [← hc]; exact (callOf_congr fun k hk => htmp k (List.mem_append.2 (.inl hk))).symm
    obtain ⟨vs, g1, g2, g3⟩ := call_run (s := ⟨t, σl, s.n⟩) (w := w) rl.tmps hc' hci.fn.1
    unfold Oper.wp
    rw [g1]
    show Calls C.P f vs w _
    have hnl : ((callOut ρ (fitsK as_ args) K' si.σ.length r σ').new si.σ.length).length = σ'.length - K' := by simp [callOut]
    have hks : ∀ q ∈ killsU (fitsK as_ args), q.1 < si.σ.length := fun q hq => inB_spec hb q (List.mem_append.2 (.inl hq))
    have hci' : CallIn C σl f as_ ρ K' args σc r σ' := by
      refine hci.congr (fun b hb' => hlook b (List.mem_append.2 (.inr hb'))) fun b hb' => ?_
      have h1 : (updσ (si.σ ++ List.replicate Mi .dead) (killsU (fitsK as_ args)))[b]? = (updσ σl (killsU (fitsK as_ args)))[b]? := updσ_at (hblk b (.inl (List.mem_append.2 (.inl hb')))).symm (by rw [hσlen]; simp; omega)
      rw [← h1, updσ_in hks, List.getElem?_append_left (by rw [length_updσ]; exact hci.lt b hb')]
    have hnew : ∀ b, si.σ.length ≤ b → b < si.σ.length + (σ'.length - K') → ∃ q ∈ (callSE ops o si ρ (fitsK as_ args) K' r σ').ws, q.1 = b := by
      intro b hb1 hb2
      have hz : ∀ (ks : List Blk) (nb : Nat), nb ≤ b → b < nb + ks.length → ∃ q ∈ zipN nb ks, q.1 = b := by
        intro ks
        induction ks with
        | nil => intro nb h1 h2; simp at h2; omega
        | cons k ks ih =>
          intro nb h1 h2
          by_cases e : nb = b
          · exact ⟨(nb, k), List.mem_cons_self, e⟩
          · obtain ⟨q, hq, hq'⟩ := ih (nb + 1) (by omega) (by simp at h2; omega)
            exact ⟨q, List.mem_cons_of_mem _ hq, hq'⟩
      obtain ⟨q, hq, hq'⟩ := hz ((callOut ρ (fitsK as_ args) K' si.σ.length r σ').new si.σ.length) si.σ.length hb1 (by rw [hnl]; exact hb2)
      exact ⟨q, List.mem_append.2 (.inr hq), hq'⟩
    have hMi' : σ'.length - K' ≤ Mi := by rw [← hnl]; exact hMi
    refine (hci'.sound (nb := si.σ.length) rl.heap g2 g3 hci.lt (fun i hi => hfree _ (hnew _ (by omega) (by omega)) (by omega) (by omega))).mono ?_
    rintro e w' ⟨v, I', β', rfl, k1, k2, k3, k4⟩
    have hput : putσ σl (callOut ρ (fitsK as_ args) K' si.σ.length r σ') si.σ.length = updσ σl (callSE ops o si ρ (fitsK as_ args) K' r σ').ws := putσ_ws ..
    rw [hput] at k2 k3
    refine fin (t' := putT s.n t o.dst (r.ren (rho2 ρ K' si.σ.length σ'.length))) rfl rfl ⟨(Act.put_size a _ _).trans rl.size, (Act.put_defers a _ _).trans rl.defers, TRel.put (rl.tmps.ext rl.heap k3 (Nat.le_refl _)) rl.size k1, k2⟩ (fun b hb' hq => k4 b hb' fun hm => ?_) { k3 with loc := fun b l _ hb => k3.loc b l (by have := (List.getElem?_eq_some_iff.1 hb).1; show b < σl.length; omega) hb }
    rcases List.mem_append.1 hm with hm | hm
    · obtain ⟨j, hj⟩ := List.mem_iff_getElem?.1 hm
      have hjl : j < (σ'.map (Blk.ren (rho2 ρ K' si.σ.length σ'.length))).length := by
        have := (List.getElem?_eq_some_iff.1 hj).1
        have := hci.le'
        simp at *; omega
      have hz : ∀ (bs : List Nat) (ks : List Blk) (j : Nat), bs[j]? = some b → j < ks.length → ∃ q ∈ zipU bs ks, q.1 = b := by
        intro bs
        induction bs with
        | nil => intro ks j h; simp at h
        | cons c bs ih =>
          intro ks j h1 h2
          cases ks with
          | nil => simp at h2
          | cons k ks =>
            cases j with
            | zero => simp at h1; exact ⟨(c, k), List.mem_cons_self, h1⟩
            | succ j =>
              obtain ⟨q, hq, hq'⟩ := ih ks j (by simpa using h1) (by simpa using h2)
              exact ⟨q, List.mem_cons_of_mem _ hq, hq'⟩
      obtain ⟨q, hq1, hq2⟩ := hz _ _ j hj hjl
      exact hq q (List.mem_append.2 (.inl (List.mem_append.2 (.inr (List.mem_append.2 (.inr hq1)))))) hq2
    · obtain ⟨q, hq1, hq2⟩ := hnew b (upF_mem hm).1 (upF_mem hm).2
      exact hq q hq1 hq2

theorem AW.draw {id : Nat} {Q : Exit → St → Prop} (hP : C.P.follows .mixedOrders = true) (h : TG C ops (Q .normal) ops.toList [] [] s) : AW C K (.region id ops true) Q s := by
  obtain ⟨es, s', htr, hQ, hback, hpair⟩ := h.tr (fun k => by simp) rfl (fun i a hi => by simp at hi)
  have hpair' : ∀ (i j : Nat) (f e : Ent), i < j → es[i]? = some f → es[j]? = some e → Anc ops j i ∨ f.Apart e := fun i j f e hij hf he => by simpa using hpair i j f e (by simpa using hij) (by simpa using hf) he
  have heslen : es.length = ops.size := by rw [Tr.len htr, Array.length_toList]
  intro a w I β r
  obtain ⟨h1, e1⟩ := r.heap.slots s.σ.length (tot es)
  obtain ⟨h2, e2⟩ := h1.grow (w' := w.drew) (I' := I) (s.σ.length + tot es) rfl rfl rfl (Nat.le_refl _) (fun _ _ => rfl) (fun _ h => h) (fun q hq => .inl hq)
  have hlenβ := r.heap.len
  have e3 := e1.trans (e2.le (by omega))
  have e3' : Ext K w I (Own β s.σ) β w.drew I (Own (β ++ List.replicate (tot es) none) (s.σ ++ List.replicate (tot es) .dead)) (β ++ List.replicate (tot es) none) := { e3 with loc := fun b l _ hb => e3.loc b l (by have := (List.getElem?_eq_some_iff.1 hb).1; omega) hb }
  have hrep : ∀ n (x : (Nat → Option A) × List Blk), runM s.n ((Array.replicate n false).toList.zip es) x = x := fun n x => by rw [Array.toList_replicate]; exact runM_none ..
  refine wp_region_any hP (any_inv (DJ C ops (min K (s.σ.length + tot es)) s es w I (Own β s.σ) β) ?_ ?_ ops.size _ a _ (by simp) (Nat.le_trans List.count_le_length (by simp)) ?_)
  · exact fun l a w i hsz hi hJ => hJ.step htr hpair' (Nat.min_le_right _ _) hsz hi
  · rintro l a' w' hsz hr ⟨_, t, I', β', g1, g2, _, g3⟩
    have hall := listed_all (fun j o ho i hi => by simpa using hback j o (by simpa using ho) i hi) hsz hr
    have hl : l.toList = List.replicate es.length true := by
      apply List.ext_getElem?
      intro j
      rw [List.getElem?_replicate]
      by_cases hj : j < ops.size
      · have h1 : l.getD j true = true := hall j hj
        have h2 : j < l.size := by omega
        rw [if_pos (by omega), Array.getElem?_toList, Array.getElem?_eq_getElem h2]
        simpa [h2] using h1
      · rw [if_neg (by omega), List.getElem?_eq_none (by simp; omega)]
    obtain ⟨k1, k2⟩ := Tr.end_ (tot es) (Nat.le_refl _) htr
    rw [hl, runM_all, k1, Nat.sub_self, List.replicate_zero, List.append_nil] at g1 g2 g3
    refine ⟨s', I', β', hQ, ⟨g2.size.trans k2.symm, g2.defers, fun k x hx => g2.tmps k x (by rw [g1]; exact hx), g2.heap⟩, { g3 with loc := fun b l hb hbl => g3.loc b l ?_ hbl }⟩
    have := (List.getElem?_eq_some_iff.1 hbl).1
    omega
  · refine ⟨fun i o _ hl => ?_, s.t, I, β ++ List.replicate (tot es) none, ?_, ?_, ?_, ?_⟩
    · rw [Array.getD_eq_getD_getElem?, Array.getElem?_replicate] at hl
      split at hl <;> cases hl
    · rw [hrep]
    · rw [hrep]
      exact ⟨r.size, r.defers, (r.tmps.ext r.heap e1 (Nat.le_refl _)).ext h1 (e2.le (by simp)) (Nat.le_refl _), h2⟩
    · intro b hb1 hb2 _
      rw [List.getElem?_append_right (by omega), List.getElem?_replicate, if_pos (by omega)]
    · rw [hrep]
      exact e3'.le (Nat.min_le_left _ _)
end
end Go.AM
end
section
namespace Go.AM
open Go.RowKit
set_option linter.unusedVariables false
set_option linter.unusedSimpArgs false

/-- What lies behind the code that runs. -/
inductive It where
  | code (c : Code)
  | blk (id : Nat)
  | scp
  | ops (ops : Array Oper) (rest : List Oper)
  | dops (ops : Array Oper) (rest : List Oper) (as_ : List Nat) (es : List Ent)
  | fin (F : St → Prop)
/-- What the rest must come to. -/
def AX (C : Ctx) (K : Nat) (Q : Exit → St → Prop) : List It → Exit → St → Prop
  | [], e, s => Q e s
  | .code c :: k, .normal, s => AW C K c (AX C K Q k) s
  | .blk _ :: k, .normal, s => AX C K Q k .normal s
  | .scp :: _, .goto _, _ => False
  | .blk id :: k, .exit id', s => if id' = id then AX C K Q k .normal s else AX C K Q k (.exit id') s
  | .ops ops rest :: k, .normal, s => AOps C K ops (AX C K Q k) rest s
  | .dops ops rest as_ es :: k, .normal, s => TG C ops (AX C K Q k .normal) rest as_ es s
  | .fin F :: _, .normal, s => F s
  | _ :: k, e, s => AX C K Q k e s
def AK (C : Ctx) (K : Nat) (Q : Exit → St → Prop) (k : List It) (s : St) : Prop := AX C K Q k .normal s
/-- Out of the blocks to the one that an exit names. -/
def outOf (id : Nat) : List It → Option (List It)
  | [] => none
  | .blk i :: k => if id = i then some k else outOf id k
  | _ :: k => outOf id k
def pureL : List A → Bool
  | [] => true
  | x :: r => pureA x && pureL r
/-- The code run by the machine: n steps, the ways of m tests. -/
def G (C : Ctx) (K : Nat) (Q : Exit → St → Prop) : Nat → Nat → List It → St → Prop
  | 0, _, k, s => AK C K Q k s
  | _ + 1, _, [], s => Q .normal s
  | n + 1, m, .blk _ :: k, s => G C K Q n m k s
  | n + 1, m, .scp :: k, s => G C K Q n m k s
  | _ + 1, _, .fin F :: _, s => F s
  | n + 1, m, .ops _ [] :: k, s => G C K Q n m k s
  | n + 1, m, .ops ops (o :: rest) :: k, s => match guardOf ops (getT s.t) o.guard with
    | .no => G C K Q n m (.ops ops rest :: k) (s.put o.dst (.tup []))
    | .stuck => False
    | .ask b => match m with
      | 0 => AK C K Q (.ops ops (o :: rest) :: k) s
      | m + 1 => if b = true then (match isCall o.op with
          | true => match callOf (getT s.t) o.op with
            | some (f, as_) => match pureL (as_.map (argA s.σ)) with
              | true => ∃ r, Fn C 0 f (as_.map (argA s.σ)) [] r [] ∧ r.bnd 0 = true ∧ AK C K Q (.ops ops rest :: k) (s.put o.dst r)
              | false => AK C K Q (.ops ops (o :: rest) :: k) s
            | none => False
          | false => match opEval C.P (getT s.t) s.σ o.op with
            | some out => out.p ∧ G C K Q n m (.ops ops rest :: k) (s.app o.dst out)
            | none => False) else G C K Q n m (.ops ops rest :: k) (s.put o.dst (.tup []))
    | .yes => match isCall o.op with
      | true => match callOf (getT s.t) o.op with
        | some (f, as_) => match pureL (as_.map (argA s.σ)) with
          | true => ∃ r, Fn C 0 f (as_.map (argA s.σ)) [] r [] ∧ r.bnd 0 = true ∧ AK C K Q (.ops ops rest :: k) (s.put o.dst r)
          | false => AK C K Q (.ops ops (o :: rest) :: k) s
        | none => False
      | false => match opEval C.P (getT s.t) s.σ o.op with
        | some out => out.p ∧ G C K Q n m (.ops ops rest :: k) (s.app o.dst out)
        | none => False
  | n + 1, m, .dops _ [] _ _ :: k, s => G C K Q n m k s
  | n + 1, m, .dops ops (o :: rest) as_ es :: k, s => backOk es.length (onsOf o.after.toList) = true ∧ match guardOf ops (getT s.t) o.guard with
    | .no => checkPre (ancUp as_ (onsOf o.after.toList)) (skipE ops o) 0 es = true ∧ G C K Q n m (.dops ops rest (as_ ++ [ancUp as_ (onsOf o.after.toList)]) (es ++ [skipE ops o]) :: k) (s.put o.dst (.tup []))
    | .stuck => False
    | .ask b => match m with
      | 0 => False
      | m + 1 => if b = true then (match isCall o.op with
          | true => match callOf (getT s.t) o.op with
            | some (f, xs) => match pureL (xs.map (argA s.σ)) with
              | true => ∃ r, Fn C 0 f (xs.map (argA s.σ)) [] r [] ∧ r.bnd 0 = true ∧ checkPre (ancUp as_ (onsOf o.after.toList)) (callE ops o r) 0 es = true ∧ AK C K Q (.dops ops rest (as_ ++ [ancUp as_ (onsOf o.after.toList)]) (es ++ [callE ops o r]) :: k) (s.put o.dst r)
              | false => AK C K Q (.dops ops (o :: rest) as_ es :: k) s
            | none => False
          | false => match opEval C.P (getT s.t) s.σ o.op with
            | some out => out.p ∧ inB s.σ.length out.upd = true ∧ checkPre (ancUp as_ (onsOf o.after.toList)) (opE ops o s out) 0 es = true ∧ G C K Q n m (.dops ops rest (as_ ++ [ancUp as_ (onsOf o.after.toList)]) (es ++ [opE ops o s out]) :: k) (s.app o.dst out)
            | none => False) else checkPre (ancUp as_ (onsOf o.after.toList)) (skipE ops o) 0 es = true ∧ G C K Q n m (.dops ops rest (as_ ++ [ancUp as_ (onsOf o.after.toList)]) (es ++ [skipE ops o]) :: k) (s.put o.dst (.tup []))
    | .yes => (match isCall o.op with
      | true => match callOf (getT s.t) o.op with
        | some (f, xs) => match pureL (xs.map (argA s.σ)) with
          | true => ∃ r, Fn C 0 f (xs.map (argA s.σ)) [] r [] ∧ r.bnd 0 = true ∧ checkPre (ancUp as_ (onsOf o.after.toList)) (callE ops o r) 0 es = true ∧ AK C K Q (.dops ops rest (as_ ++ [ancUp as_ (onsOf o.after.toList)]) (es ++ [callE ops o r]) :: k) (s.put o.dst r)
          | false => AK C K Q (.dops ops (o :: rest) as_ es :: k) s
        | none => False
      | false => match opEval C.P (getT s.t) s.σ o.op with
        | some out => out.p ∧ inB s.σ.length out.upd = true ∧ checkPre (ancUp as_ (onsOf o.after.toList)) (opE ops o s out) 0 es = true ∧ G C K Q n m (.dops ops rest (as_ ++ [ancUp as_ (onsOf o.after.toList)]) (es ++ [opE ops o s out]) :: k) (s.app o.dst out)
        | none => False)
  | n + 1, m, .code c :: k, s => match c with
    | .skip => G C K Q n m k s
    | .label _ => G C K Q n m k s
    | .seq a b => G C K Q n m (.code a :: .code b :: k) s
    | .block id c => G C K Q n m (.code c :: .blk id :: k) s
    | .scope c => G C K Q n m (.code c :: .scp :: k) s
    | .region _ ops false => G C K Q n m (.ops ops ops.toList :: k) s
    | .region _ ops true => G C K Q n m (.dops ops ops.toList [] [] :: k) s
    | .exit id => match outOf id k with
      | some k' => G C K Q n m k' s
      | none => Q (.exit id) s
    | .ret => Q .ret s
    | .cond x a b => match m with
      | 0 => AK C K Q (.code (.cond x a b) :: k) s
      | m + 1 => match ev (getT s.t) x with
        | some (.d (.v (.bool z))) => if z = true then G C K Q n m (.code a :: k) s else G C K Q n m (.code b :: k) s
        | _ => False
    | c => AK C K Q (.code c :: k) s

section
variable {C : Ctx} {K : Nat} {Q : Exit → St → Prop} {s : St}
theorem AX.seq {a b : Code} {k : List It} (h : AX C K Q (.code a :: .code b :: k) .normal s) : AW C K (.seq a b) (AX C K Q k) s := by
  refine AW.seq (AW.mono h ?_)
  intro e s' h'
  cases e <;> exact h'
theorem AX.block {id : Nat} {c : Code} {k : List It} (h : AX C K Q (.code c :: .blk id :: k) .normal s) : AW C K (.block id c) (AX C K Q k) s := by
  refine AW.block (AW.mono h ?_)
  intro e s' h'
  cases e <;> exact h'
theorem AX.scope {c : Code} {k : List It} (h : AX C K Q (.code c :: .scp :: k) .normal s) : AW C K (.scope c) (AX C K Q k) s := by
  intro a w I β r
  refine wp_scope_straight (wp_mono (h a w I β r) ?_)
  rintro e a' w' ⟨s', I', β', q, r', x'⟩
  cases e with
  | goto l => exact q.elim
  | _ => exact ⟨s', I', β', q, r', x'⟩
theorem AX.out {id : Nat} : ∀ {k k' : List It}, outOf id k = some k' → AX C K Q k' .normal s → AX C K Q k (.exit id) s
  | [], _, h, _ => by cases h
  | .blk i :: k, k', h, hk => by
    rw [outOf] at h
    rw [AX]
    split at h
    · rename_i e
      cases h
      rw [if_pos e]; exact hk
    · rename_i e
      rw [if_neg e]
      exact AX.out h hk
  | .code c :: k, k', h, hk => AX.out (k := k) h hk
  | .ops _ _ :: k, k', h, hk => AX.out (k := k) h hk
  | .dops _ _ _ _ :: k, k', h, hk => AX.out (k := k) h hk
  | .fin _ :: k, k', h, hk => AX.out (k := k) h hk
  | .scp :: k, k', h, hk => AX.out (k := k) h hk
theorem AX.out_none {id : Nat} : ∀ {k : List It}, outOf id k = none → Q (.exit id) s → AX C K Q k (.exit id) s
  | [], _, hk => hk
  | .blk i :: k, h, hk => by
    rw [outOf] at h
    rw [AX]
    split at h
    · cases h
    · rename_i e
      rw [if_neg e]
      exact AX.out_none h hk
  | .code c :: k, h, hk => AX.out_none (k := k) h hk
  | .ops _ _ :: k, h, hk => AX.out_none (k := k) h hk
  | .dops _ _ _ _ :: k, h, hk => AX.out_none (k := k) h hk
  | .fin _ :: k, h, hk => AX.out_none (k := k) h hk
  | .scp :: k, h, hk => AX.out_none (k := k) h hk
theorem AX.ret : ∀ {k : List It}, Q .ret s → AX C K Q k .ret s
  | [], hk => hk
  | .blk i :: k, hk => AX.ret (k := k) hk
  | .code c :: k, hk => AX.ret (k := k) hk
  | .ops _ _ :: k, hk => AX.ret (k := k) hk
  | .dops _ _ _ _ :: k, hk => AX.ret (k := k) hk
  | .fin _ :: k, hk => AX.ret (k := k) hk
  | .scp :: k, hk => AX.ret (k := k) hk
theorem AW.cond {c : Operand} {x y : Code} {b : Bool} (hc : ev (getT s.t) c = some (.d (.v (.bool b)))) (h1 : b = true → AW C K x Q s) (h2 : b = false → AW C K y Q s) : AW C K (.cond c x y) Q s := by
  intro a w I β r
  have hv := rep_bool (ev_rep r.tmps hc)
  exact wp_cond_split hv (fun e => h1 e a w I β r) (fun e => h2 e a w I β r)
theorem pureL_all : ∀ {l : List A}, pureL l = true → ∀ x ∈ l, pureA x = true
  | [], _, x, hx => by cases hx
  | y :: r, h, x, hx => by
    rw [pureL, Bool.and_eq_true] at h
    rcases List.mem_cons.1 hx with rfl | hx
    · exact h.1
    · exact pureL_all h.2 x hx

theorem AK.of {k : List It} (n m : Nat) (h : G C K Q n m k s) : AK C K Q k s := by
  induction n generalizing m k s with
  | zero => exact h
  | succ n ih =>
    cases k with
    | nil => exact h
    | cons it k =>
      cases it with
      | blk id => exact ih (k := k) m h
      | scp => exact ih (k := k) m h
      | fin F => exact h
      | ops ops rest =>
        cases rest with
        | nil => exact AOps.nil (ih m h)
        | cons o rest =>
          rw [G] at h
          show AOps C K ops (AX C K Q k) (o :: rest) s
          split at h
          · rename_i hg
            exact AOps.skip (.inl hg) (ih m h)
          · exact h.elim
          · rename_i b hg
            split at h
            · exact h
            · rename_i m
              cases b with
              | false =>
                rw [if_neg (by decide)] at h
                exact AOps.skip (.inr hg) (ih m h)
              | true =>
                rw [if_pos rfl] at h
                have h1 := h
                split at h1
                · split at h1
                  · rename_i f as_ hc
                    split at h1
                    · rename_i hp
                      obtain ⟨r, hf, hb, hk⟩ := h1
                      exact AOps.call (.inr hg) hc hf (pureL_all hp) hb hk
                    · exact h1
                  · exact h1.elim
                · split at h1
                  · rename_i out ho
                    exact AOps.op (.inr hg) ho h1.1 (ih m h1.2)
                  · exact h1.elim
          · rename_i hg
            split at h
            · split at h
              · rename_i f as_ hc
                split at h
                · rename_i hp
                  obtain ⟨r, hf, hb, hk⟩ := h
                  exact AOps.call (.inl hg) hc hf (pureL_all hp) hb hk
                · exact h
              · exact h.elim
            · split at h
              · rename_i out ho
                exact AOps.op (.inl hg) ho h.1 (ih m h.2)
              · exact h.elim
      | dops ops rest as_ es =>
        cases rest with
        | nil => exact ih (k := k) m h
        | cons o rest =>
          rw [G] at h
          obtain ⟨hb, h⟩ := h
          show TG C ops _ (o :: rest) as_ es s
          rw [TG]
          refine ⟨hb, ?_⟩
          split at h
          · rename_i hg
            exact ⟨_, _, .skip (.inl hg), h.1, ih m h.2⟩
          · exact h.elim
          · rename_i b hg
            split at h
            · exact h.elim
            · rename_i m
              cases b with
              | false =>
                rw [if_neg (by decide)] at h
                exact ⟨_, _, .skip (.inr hg), h.1, ih _ h.2⟩
              | true =>
                rw [if_pos rfl] at h
                split at h
                · split at h
                  · rename_i f xs hc
                    split at h
                    · rename_i hp
                      obtain ⟨r, hf, hbd, h1, h2⟩ := h
                      exact ⟨_, _, .call (.inr hg) hc hf (pureL_all hp) hbd, h1, h2⟩
                    · have h' : TG C ops (AX C K Q k .normal) (o :: rest) as_ es s := h
                      rw [TG] at h'
                      exact h'.2
                  · exact h.elim
                · split at h
                  · rename_i out ho
                    exact ⟨_, _, .op (.inr hg) ho h.1 h.2.1, h.2.2.1, ih _ h.2.2.2⟩
                  · exact h.elim
          · rename_i hg
            split at h
            · split at h
              · rename_i f xs hc
                split at h
                · rename_i hp
                  obtain ⟨r, hf, hbd, h1, h2⟩ := h
                  exact ⟨_, _, .call (.inl hg) hc hf (pureL_all hp) hbd, h1, h2⟩
                · have h' : TG C ops (AX C K Q k .normal) (o :: rest) as_ es s := h
                  rw [TG] at h'
                  exact h'.2
              · exact h.elim
            · split at h
              · rename_i out ho
                exact ⟨_, _, .op (.inl hg) ho h.1 h.2.1, h.2.2.1, ih _ h.2.2.2⟩
              · exact h.elim
      | code c =>
        show AW C K c (AX C K Q k) s
        cases c with
        | skip => exact AW.skip (ih m h)
        | label l => exact AW.label (ih m h)
        | seq a b => exact AX.seq (ih m h)
        | block id c => exact AX.block (ih m h)
        | region id ops draw =>
          cases draw with
          | false => exact AOps.reg (ih m h)
          | true => exact AW.draw C.ord (ih m h)
        | exit id =>
          rw [G] at h
          split at h
          · rename_i k' hk
            exact AW.exit (AX.out hk (ih m h))
          · rename_i hk
            exact AW.exit (AX.out_none hk h)
        | ret => exact AW.ret (AX.ret h)
        | cond x a b =>
          cases m with
          | zero => exact h
          | succ m =>
            rw [G] at h
            split at h
            · rename_i z hz
              cases z with
              | true =>
                rw [if_pos rfl] at h
                exact AW.cond hz (fun _ => ih _ h) (fun e => by cases e)
              | false =>
                rw [if_neg (by decide)] at h
                exact AW.cond hz (fun e => by cases e) (fun _ => ih _ h)
            · exact h.elim
        | loop c => exact h
        | scope c => exact AX.scope (ih m h)
        | goto l => exact h
        | refuse l => exact h
        | rangeFunc _ _ _ _ => exact h

/-- A loop over states that a value names. -/
theorem AK.loop {k : List It} {c : Code} {ι : Type} (st : ι → St) (J : ι → Prop) (μ : ι → Nat) (i0 : ι) (ρ : List Nat) (h0 : Sub K ρ (st i0) s) (hJ : J i0)
    (round : ∀ i, J i → AK C K Q (.code c :: .fin (fun s' => ∃ j ρ, J j ∧ μ j < μ i ∧ Sub K ρ (st j) s') :: k) (st i)) : AK C K Q (.code (.loop c) :: k) s := by
  refine AW.loop_sub (fun n s => ∃ i, J i ∧ μ i = n ∧ s = st i) (μ i0) (st i0) ρ h0 ⟨i0, hJ, rfl, rfl⟩ ?_
  rintro n s ⟨i, hi, rfl, rfl⟩
  refine AW.mono (round i hi) ?_
  intro e s' h'
  cases e with
  | normal =>
    obtain ⟨j, ρ, h1, h2, h3⟩ := h'
    exact ⟨μ j, h2, st j, ρ, h3, j, h1, rfl, rfl⟩
  | _ => exact h'
/-- Less is kept. -/
theorem AK.sub {k : List It} {s' : St} (ρ : List Nat) (h : Sub K ρ s' s) (hw : AK C K Q k s') : AK C K Q (.code .skip :: k) s := AW.sub ρ h (AW.skip hw)

/-! Results -/
def resA (P : Program) (rs : List ResultVar) (s : St) : Option (List A) := match rs with
  | [] => some []
  | .tmp k :: r => match getT s.t k, resA P r s with
    | some x, some l => some (x :: l)
    | _, _ => none
  | .cell k ty :: r => match getT s.t k with
    | some (.ptr b off) => match oLoad P s.σ ty (.ptr b off), resA P r s with
      | some o, some l => some (o.v 0 :: l)
      | _, _ => none
    | _ => none
/-- A result as_ plain data. -/
def toR (σ : List Blk) : List A → Option A
  | [x] => match x.toD σ with
    | some z => some (.d z)
    | none => none
  | xs => match A.toDL σ xs with
    | some zs => some (.tup (zs.map .d))
    | none => none
/-- What a body must come to for a result. -/
def Post (P : Program) (rs : List ResultVar) (r : A) : Exit → St → Prop
  | .normal, s => match resA P rs s with
    | some l => toR s.σ l = some r
    | none => False
  | .ret, s => match resA P rs s with
    | some l => toR s.σ l = some r
    | none => False
  | _, _ => False
def resT : List A → A
  | [x] => x
  | xs => .tup xs
/-- What a body must come to for results and blocks. -/
def PostR (P : Program) (rs : List ResultVar) (K : Nat) (l' : List A) (σ' : List Blk) (s : St) : Prop := match resA P rs s with
  | some l => ∃ ρ : List Nat, idTo K ρ ∧ ρ.Nodup ∧ fitsP ρ s.σ l l' ∧ subS ρ (updσ s.σ (killsU (fitsK l l'))) ρ σ'
  | none => False
def PostS (P : Program) (rs : List ResultVar) (K : Nat) (l' : List A) (σ' : List Blk) : Exit → St → Prop
  | .normal, s => PostR P rs K l' σ' s
  | .ret, s => PostR P rs K l' σ' s
  | _, _ => False
def argT : Nat → List A → List (Nat × A)
  | _, [] => []
  | i, x :: r => (i, x) :: argT (i + 1) r
theorem getT_argT : ∀ (l : List A) (i k : Nat) (x : A), getT (argT i l) k = some x → i ≤ k ∧ l[k - i]? = some x
  | [], i, k, x, h => by cases h
  | y :: r, i, k, x, h => by
    rw [argT, getT] at h
    split at h
    · rename_i e
      subst e
      cases h
      simp
    · rename_i e
      obtain ⟨h1, h2⟩ := getT_argT r (i + 1) k x h
      refine ⟨by omega, ?_⟩
      rw [show k - i = (k - (i + 1)) + 1 by omega, List.getElem?_cons_succ]
      exact h2
theorem resA_rep {w : World} {I : Nat → Prop} {β : List (Option Loc)} {a : Act} (h : HRel C w I β s.σ) (ht : TRel w I β s.t a.tmps) : ∀ {rs : List ResultVar} {l : List A}, resA C.P rs s = some l → ∃ vs : List Value, (rs.mapM fun
    | .tmp t => pure (a.tmps.getD t undef)
    | .cell b t => do loadVar t (← asAddr (a.tmps.getD b undef)) : Sem (List Value)).run C.P w = .ok vs w ∧ l.length = vs.length ∧ ∀ (i : Nat) (x : A) (v : Value), l[i]? = some x → vs[i]? = some v → ARep w I β x v
  | [], l, hl => by
    simp only [resA, Option.some.injEq] at hl
    subst hl
    exact ⟨[], rfl, rfl, fun i x v hx => by simp at hx⟩
  | .cell k ty :: r, l, hl => by
    rw [resA] at hl
    split at hl
    · rename_i b off hk
      split at hl
      · rename_i o l' ho h2
        cases hl
        obtain ⟨vs, g1, g2, g3⟩ := resA_rep h ht h2
        obtain ⟨u, u1, u2⟩ := ht k _ hk
        obtain ⟨y, rfl, z, hz, hy⟩ := oLoad_sound (P := C.P) h u2 ho
        refine ⟨z :: vs, ?_, by simp [g2], fun i x v hx hv => ?_⟩
        · have e : a.tmps.getD k undef = u := by rw [Array.getD_eq_getD_getElem?, u1]; rfl
          have hz' : (do loadVar ty (← asAddr u) : Sem Value).run C.P w = .ok z w := by
            cases u2
            simpa [Instr.loadAt, Instr.sureAddr, asAddr] using hz
          rw [List.mapM_cons, Sem.run_bind]
          simp only [e]
          rw [hz']
          simp only [Result.andThen_ok]
          rw [Sem.run_bind, g1]
          rfl
        · cases i with
          | zero => simp at hx hv; subst hx; subst hv; exact hy
          | succ i => exact g3 i x v (by simpa using hx) (by simpa using hv)
      · cases hl
    · cases hl
  | .tmp k :: r, l, hl => by
    rw [resA] at hl
    split at hl
    · rename_i x l' h1 h2
      cases hl
      obtain ⟨vs, g1, g2, g3⟩ := resA_rep h ht h2
      obtain ⟨u, u1, u2⟩ := ht k x h1
      refine ⟨u :: vs, ?_, by simp [g2], fun i y v hy hv => ?_⟩
      · have e : a.tmps.getD k undef = u := by rw [Array.getD_eq_getD_getElem?, u1]; rfl
        rw [List.mapM_cons, Sem.run_bind]
        simp only [Sem.run_pure, Result.andThen_ok, e]
        rw [Sem.run_bind, g1]
        rfl
      · cases i with
        | zero => simp at hy hv; subst hy; subst hv; exact u2
        | succ i => exact g3 i y v (by simpa using hy) (by simpa using hv)
    · cases hl
theorem toR_rep {w : World} {I : Nat → Prop} {β : List (Option Loc)} {σ : List Blk} (h : HRel C w I β σ) {l : List A} {vs : List Value} {r : A} (hl : l.length = vs.length) (hr : ∀ (i : Nat) (x : A) (v : Value), l[i]? = some x → vs[i]? = some v → ARep w I β x v) (ht : toR σ l = some r) :
    ARep w (FI I β σ (A.killsL l)) [] r (if h : vs.length = 1 then vs[0] else .tuple vs.toArray) := by
  have many : ∀ {zs : List D}, A.toDL σ l = some zs → ARep w (FI I β σ (A.killsL l)) [] (.tup (zs.map .d)) (.tuple vs.toArray) := by
    intro zs hz
    obtain ⟨e1, e2⟩ := toDL_rep h hz
    refine .tup (by simp; omega) (fun i c u hc hu => ?_)
    rw [List.getElem?_map, Option.map_eq_some_iff] at hc
    obtain ⟨z, hz', rfl⟩ := hc
    have hlt := (List.getElem?_eq_some_iff.1 hz').1
    have hli : l[i]? = some l[i] := List.getElem?_eq_getElem (by omega)
    have hu' : vs[i]? = some u := by simpa using hu
    exact .d (e2 i _ z u hli hz' (hr i _ u hli hu'))
  unfold toR at ht
  split at ht
  · rename_i x
    have hv : vs.length = 1 := by simpa using hl.symm
    rw [dif_pos hv]
    split at ht
    · rename_i z hz
      cases ht
      have := toD_rep h (hr 0 x vs[0] rfl (List.getElem?_eq_getElem (by omega))) hz
      exact .d (this.imono (FI_mono fun b hb => by simp [A.killsL, hb]))
    · cases ht
  · rename_i hne
    split at ht
    · rename_i zs hz
      cases ht
      by_cases hv : vs.length = 1
      · exfalso
        match l, hl, hne with
        | [x], _, hne => exact hne x rfl
        | [], hl, _ => simp at hl; omega
        | _ :: _ :: _, hl, _ => simp at hl; omega
      · rw [dif_neg hv]
        exact many hz
    · cases ht

/-- A function's contract out of its body. -/
theorem Fn.body {f : FuncId} {fn : Func} {c : Code} {args : List A} {r : A} (hf : C.P.funcs[f]? = some fn) (hcl : callable C.P f = true) (hb : fn.body = some c) (hn : args.length ≤ fn.ntmps) (h : AK C 0 (Post C.P fn.results.toList r) [.code c] ⟨argT 0 args, [], fn.ntmps⟩) : Fn C 0 f args [] r [] := by
  refine ⟨hcl, fun w I β vs hh hl hr => ?_⟩
  have hβ : β = [] := by have := hh.len; exact List.eq_nil_of_length_eq_zero this
  subst hβ
  refine calls_of_wp hf hb ?_
  have rel : Rel C ⟨argT 0 args, [], fn.ntmps⟩ { tmps := vs ++ Array.replicate (fn.ntmps - vs.size) undef, defers := [] } w I [] := by
    refine ⟨by simp; omega, rfl, fun k x hk => ?_, hh⟩
    obtain ⟨_, h2⟩ := getT_argT args 0 k x hk
    rw [Nat.sub_zero] at h2
    have hlt := (List.getElem?_eq_some_iff.1 h2).1
    have hv : vs[k]? = some vs[k] := Array.getElem?_eq_getElem (by omega)
    exact ⟨vs[k], by rw [Array.getElem?_append_left (by omega)]; exact hv, hr k x _ h2 hv⟩
  refine wp_mono (h _ w I [] rel) ?_
  rintro e a' w' ⟨s', I', β', hq, r', e'⟩
  have fin : (match resA C.P fn.results.toList s' with
      | some l => toR s'.σ l = some r
      | none => False) → a'.defers = [] ∧ ∃ v, (results fn a'.tmps).run C.P w' = .ok v w' ∧ ∃ v', ∃ I'' β'', Ending.returned v = .returned v' ∧ ARep w' I'' β'' r v' ∧ HRel C w' I'' β'' [] ∧ Ext 0 w I (Own [] []) [] w' I'' (Own β'' []) β'' := by
    intro hq
    split at hq
    · rename_i l hl'
      obtain ⟨vs', g1, g2, g3⟩ := resA_rep r'.heap r'.tmps hl'
      have hrep := toR_rep r'.heap g2 g3 hq
      refine ⟨r'.defers, (if h : vs'.length = 1 then vs'[0] else .tuple vs'.toArray), ?_, _, FI I' β' s'.σ (A.killsL l), [], rfl, hrep, ?_, ?_⟩
      · unfold results
        rw [Sem.run_bind]
        rw [Array.mapM_eq_mapM_toList, Sem.run_map]
        erw [g1]
        rfl
      · have := (r'.heap.kills 0 (A.killsL l)).1
        exact this.empty
      · have k1 := (r'.heap.kills 0 (A.killsL l)).2
        have k2 := e'.trans k1
        exact { k2 with own := fun q hq => (by obtain ⟨b, l, k, hb, _⟩ := hq; simp at hb), loc := fun b l hb => absurd hb (Nat.not_lt_zero _) }
    · exact hq.elim
  cases e with
  | normal => exact fin hq
  | ret => exact fin hq
  | _ => exact hq.elim

/-- A function's contract with blocks, out of its body. -/
theorem Fn.bodyS {f : FuncId} {fn : Func} {c : Code} {args l' : List A} {σ σ' : List Blk} {K : Nat} (hf : C.P.funcs[f]? = some fn) (hcl : callable C.P f = true) (hb : fn.body = some c) (hn : args.length ≤ fn.ntmps) (h : AK C K (PostS C.P fn.results.toList K l' σ') [.code c] ⟨argT 0 args, σ, fn.ntmps⟩) : Fn C K f args σ (resT l') σ' := by
  refine ⟨hcl, fun w I β vs hh hl hr => ?_⟩
  refine calls_of_wp hf hb ?_
  have rel : Rel C ⟨argT 0 args, σ, fn.ntmps⟩ { tmps := vs ++ Array.replicate (fn.ntmps - vs.size) undef, defers := [] } w I β := by
    refine ⟨by simp; omega, rfl, fun k x hk => ?_, hh⟩
    obtain ⟨_, h2⟩ := getT_argT args 0 k x hk
    rw [Nat.sub_zero] at h2
    have hlt := (List.getElem?_eq_some_iff.1 h2).1
    have hv : vs[k]? = some vs[k] := Array.getElem?_eq_getElem (by omega)
    exact ⟨vs[k], by rw [Array.getElem?_append_left (by omega)]; exact hv, hr k x _ h2 hv⟩
  refine wp_mono (h _ w I β rel) ?_
  rintro e a' w' ⟨s', I', β', hq, r', e'⟩
  have fin : PostR C.P fn.results.toList K l' σ' s' → a'.defers = [] ∧ ∃ v, (results fn a'.tmps).run C.P w' = .ok v w' ∧ ∃ v', ∃ I'' β'', Ending.returned v = .returned v' ∧ ARep w' I'' β'' (resT l') v' ∧ HRel C w' I'' β'' σ' ∧ Ext K w I (Own β σ) β w' I'' (Own β'' σ') β'' := by
    intro hq
    unfold PostR at hq
    split at hq
    · rename_i l hl'
      obtain ⟨ρ, hid, hnd, hfit, hsub⟩ := hq
      obtain ⟨vs', g1, g2, g3⟩ := resA_rep r'.heap r'.tmps hl'
      obtain ⟨k1, k2⟩ := r'.heap.kills K (fitsK l l')
      have hS : Sub K ρ ⟨[], σ', 0⟩ ⟨[], updσ s'.σ (killsU (fitsK l l')), 0⟩ := ⟨rfl, hid, hnd, trivial, hsub⟩
      obtain ⟨rp, xp⟩ := Rel.subP (a := { tmps := #[], defers := [] }) hS ⟨rfl, rfl, fun k x hk => by simp [getT] at hk, k1⟩
      obtain ⟨f1, f2⟩ := fits_get hfit
      have hvals : ∀ (i : Nat) (y : A) (v : Value), l'[i]? = some y → vs'[i]? = some v → ARep w' (FI I' β' s'.σ (fitsK l l')) (pick ρ β') y v := by
        intro i y v hy hv
        have hi := (List.getElem?_eq_some_iff.1 hy).1
        have hxi : l[i]? = some l[i] := List.getElem?_eq_getElem (by omega)
        obtain ⟨p1, p2⟩ := f2 i _ y hxi hy
        exact fit_rep r'.heap p1 p2 (g3 i _ v hxi hv)
      refine ⟨r'.defers, (if h : vs'.length = 1 then vs'[0] else .tuple vs'.toArray), ?_, _, FI I' β' s'.σ (fitsK l l'), pick ρ β', rfl, ?_, rp.heap, e'.trans (k2.trans xp)⟩
      · unfold results
        rw [Sem.run_bind]
        rw [Array.mapM_eq_mapM_toList, Sem.run_map]
        erw [g1]
        rfl
      · unfold resT
        split
        · rename_i y
          have hv : vs'.length = 1 := by simp at f1; omega
          rw [dif_pos hv]
          exact hvals 0 y _ rfl (List.getElem?_eq_getElem (by omega))
        · rename_i hne
          have hv : ¬ vs'.length = 1 := by
            intro hv
            have f3 : l'.length = 1 := by omega
            match l', f3, hne with
            | [x], _, hne => exact hne x rfl
            | [], f3, _ => simp at f3
            | _ :: _ :: _, f3, _ => simp at f3
          rw [dif_neg hv]
          exact .tup (by simp; omega) (fun i c u hc hu => hvals i c u hc (by simpa using hu))
    · exact hq.elim
  cases e with
  | normal => exact fin hq
  | ret => exact fin hq
  | _ => exact hq.elim

/-- A call with blocks, in the runner's terms. -/
theorem AK.callS {k : List It} {ops : Array Oper} {o : Oper} {rest : List Oper} {f : FuncId} {as_ args : List A} {K' : Nat} {σc σ' : List Blk} {r : A} (ρ : List Nat) (fn : Fn C K' f args σc r σ')
    (hg : guardOf ops (getT s.t) o.guard = .yes ∨ guardOf ops (getT s.t) o.guard = .ask true) (hc : callOf (getT s.t) o.op = some (f, as_)) (hnd : ρ.Nodup) (hK : K' ≤ ρ.length ∧ K' ≤ σ'.length)
    (hb : r.bnd σ'.length = true ∧ bndS σ'.length σ' = true) (hfit : fitsP ρ s.σ as_ args ∧ subS ρ (updσ s.σ (killsU (fitsK as_ args))) ρ σc)
    (h : AK C K Q (.ops ops rest :: k) (s.app o.dst (callOut ρ (fitsK as_ args) K' s.σ.length r σ'))) : AK C K Q (.ops ops (o :: rest) :: k) s :=
  AOps.callS hg hc ⟨hnd, hK.1, hK.2, hfit.1, hfit.2, hb.1, hb.2, fn⟩ h
theorem AK.dcallS {k : List It} {ops : Array Oper} {o : Oper} {rest : List Oper} {as' : List Nat} {es : List Ent} {f : FuncId} {as_ args : List A} {K' : Nat} {σc σ' : List Blk} {r : A} (ρ : List Nat) (fn : Fn C K' f args σc r σ')
    (hg : guardOf ops (getT s.t) o.guard = .yes ∨ guardOf ops (getT s.t) o.guard = .ask true) (hc : callOf (getT s.t) o.op = some (f, as_)) (hnd : ρ.Nodup) (hK : K' ≤ ρ.length ∧ K' ≤ σ'.length)
    (hb : r.bnd σ'.length = true ∧ bndS σ'.length σ' = true) (hfit : fitsP ρ s.σ as_ args ∧ subS ρ (updσ s.σ (killsU (fitsK as_ args))) ρ σc)
    (hbk : backOk es.length (onsOf o.after.toList) = true ∧ inB s.σ.length (callOut ρ (fitsK as_ args) K' s.σ.length r σ').upd = true ∧ checkPre (ancUp as' (onsOf o.after.toList)) (callSE ops o s ρ (fitsK as_ args) K' r σ') 0 es = true)
    (h : AK C K Q (.dops ops rest (as' ++ [ancUp as' (onsOf o.after.toList)]) (es ++ [callSE ops o s ρ (fitsK as_ args) K' r σ']) :: k) (s.app o.dst (callOut ρ (fitsK as_ args) K' s.σ.length r σ'))) : AK C K Q (.dops ops (o :: rest) as' es :: k) s :=
  ⟨hbk.1, _, _, .callS hg hc ⟨hnd, hK.1, hK.2, hfit.1, hfit.2, hb.1, hb.2, fn⟩ hbk.2.1, hbk.2.2, h⟩
end
end Go.AM
end
