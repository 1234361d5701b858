/- Part 5 of 5 of one proof: The law GraphGroup holds: for every input it returns true, and the input reads as it did -/
import Derived.Below
import Derived.ChangeOld
import Derived.OpenShut
import Derived.ProofKit
import Derived.ShutString
import Derived.SizedLaws
import Derived.Test.YtpmjpngmmphkmaaRows
import Derived.WalkKit
import Derived.Test.YtpmjpngmmphkmaaMGg1
import Derived.Test.YtpmjpngmmphkmaaMGg2
import Derived.Test.YtpmjpngmmphkmaaMGg3
import Derived.Test.YtpmjpngmmphkmaaMGg4
set_option linter.unusedVariables false
set_option linter.unusedSimpArgs false
set_option maxHeartbeats 8000000
set_option maxRecDepth 100000
namespace Go.Proofs.Ytpmjpngmmphkmaa
open Go.RowKit Go.Proofs.Yw.A Go.Proofs.Yw.B Go.Proofs.Yw.C
namespace Tp
open Tj
def nd (es : List (List Int)) (v : Int) : Prop := 0 <= v /\ v < es.length
def Vld (es : List (List Int)) : Prop := ∀ v, nd es v -> ∀ w ∈ row es v, nd es w
inductive Rc (es : List (List Int)) : Int -> Int -> Prop
 | refl (v : Int) : Rc es v v
 | tail {a b c : Int} : Rc es a b -> c ∈ row es b -> Rc es a c
theorem Rc.trans {es : List (List Int)} {a b c : Int} (h : Rc es a b) (h2 : Rc es b c) : Rc es a c := by
 induction h2 with
 | refl => exact h
 | tail _ h3 ih => exact .tail ih h3
theorem Rc.edge {es : List (List Int)} {a b : Int} (h : b ∈ row es a) : Rc es a b := .tail (.refl a) h
theorem w64 (x : Int) (h0 : -9223372036854775808 <= x) (h1 : x < 9223372036854775808) : wrap64 x = x := by
 unfold wrap64
 omega
theorem rd_set (l : List Int) (u v x : Int) (hu : 0 <= u) (hl : u < l.length) (hv : 0 <= v) : rd (l.set u.toNat x) v = if v = u then x else rd l v := by
 unfold rd
 rw [List.getD_eq_getElem?_getD, List.getElem?_set, List.getD_eq_getElem?_getD]
 by_cases h : v = u
 rotate_left
 · rw [if_neg (by omega), if_neg h]
 subst h
 rw [if_pos rfl, if_pos (by omega), if_pos rfl]
 rfl
theorem rd_at (l : List Int) (i : Nat) (h : i < l.length) : rd l (i : Int) = l[i] := by
 unfold rd
 rw [Int.toNat_natCast, List.getD_eq_getElem?_getD, List.getElem?_eq_getElem h]
 rfl
theorem rd_mem (l : List Int) (v : Int) (h0 : 0 <= v) (h : v < l.length) : rd l v ∈ l := by
 obtain ⟨i, rfl⟩ := Int.eq_ofNat_of_zero_le h0
 rw [rd_at l i (by omega)]
 exact List.getElem_mem _
theorem mem_rd (l : List Int) (x : Int) (h : x ∈ l) : ∃ i : Nat, i < l.length /\ rd l (i : Int) = x := by
 obtain ⟨i, hi, e⟩ := List.mem_iff_getElem.1 h
 exact ⟨i, hi, by rw [rd_at l i hi]; exact e⟩
theorem rd_rep (n : Nat) (x v : Int) (h0 : 0 <= v) (h : v < n) : rd (List.replicate n x) v = x := by
 obtain ⟨i, rfl⟩ := Int.eq_ofNat_of_zero_le h0
 rw [rd_at _ i (by simp; omega)]
 simp
structure Inv (es : List (List Int)) (st : TS) : Prop where
 li : st.index.length = es.length
 ll : st.low.length = es.length
 lc : st.comp.length = es.length
 stk : ∀ x ∈ st.stack, nd es x /\ 0 < rd st.index x /\ rd st.comp x = -1
 ons : ∀ x, nd es x -> rd st.index x ≠ 0 -> rd st.comp x < 0 -> x ∈ st.stack
 unv : ∀ x, nd es x -> rd st.index x = 0 -> rd st.comp x = -1
 idx : ∀ x, nd es x -> 0 <= rd st.index x /\ rd st.index x <= st.count
 cmp : ∀ x, nd es x -> -1 <= rd st.comp x /\ rd st.comp x < st.comps
 inj : ∀ x y, nd es x -> nd es y -> rd st.index x = rd st.index y -> rd st.index x ≠ 0 -> x = y
 srt : st.stack.Pairwise fun x y => rd st.index x < rd st.index y
 back : ∀ u, nd es u -> 0 <= rd st.comp u -> ∀ w ∈ row es u, 0 <= rd st.comp w /\ rd st.comp w <= rd st.comp u
 same : ∀ u v, nd es u -> nd es v -> rd st.comp u = rd st.comp v -> 0 <= rd st.comp u -> Rc es u v
 onto : ∀ c, 0 <= c -> c < st.comps -> ∃ v, nd es v /\ rd st.comp v = c
 cnt : st.count + (st.index.count 0 : Nat) = es.length
 cps : 0 <= st.comps /\ st.comps + st.stack.length <= st.count
structure Ext (es : List (List Int)) (p : Int -> Prop) (st st' : TS) : Prop where
 idx : ∀ x, nd es x -> rd st.index x ≠ 0 -> rd st'.index x = rd st.index x
 low : ∀ x, nd es x -> rd st.index x ≠ 0 -> p x -> rd st'.low x = rd st.low x
 cmp : ∀ x, nd es x -> 0 <= rd st.comp x -> rd st'.comp x = rd st.comp x
 cnt : st.count <= st'.count
 new : ∀ x, nd es x -> rd st.index x = 0 -> rd st'.index x = 0 \/ st.count < rd st'.index x
theorem Ext.refl (es : List (List Int)) (p : Int -> Prop) (st : TS) : Ext es p st st := ⟨fun _ _ _ => rfl, fun _ _ _ _ => rfl, fun _ _ _ => rfl, Int.le_refl _, fun _ _ h => .inl h⟩
theorem Ext.trans {es : List (List Int)} {p : Int -> Prop} {a b c : TS} (h : Ext es p a b) (k : Ext es p b c) : Ext es p a c where
 idx x hx h0 := by rw [k.idx x hx (by rw [h.idx x hx h0]; exact h0), h.idx x hx h0]
 low x hx h0 hp := by rw [k.low x hx (by rw [h.idx x hx h0]; exact h0) hp, h.low x hx h0 hp]
 cmp x hx h0 := by rw [k.cmp x hx (by rw [h.cmp x hx h0]; exact h0), h.cmp x hx h0]
 cnt := Int.le_trans h.cnt k.cnt
 new x hx h0 := by
  rcases h.new x hx h0 with h1 | h1
  · rcases k.new x hx h1 with h2 | h2
    · exact .inl h2
    · exact .inr (by have := h.cnt; omega)
  · by_cases h2 : rd b.index x = 0
    · rcases k.new x hx h2 with h3 | h3
      · exact .inl h3
      · exact .inr (by have := h.cnt; omega)
    · rw [k.idx x hx h2]
      exact .inr h1
theorem Ext.imp {es : List (List Int)} {p q : Int -> Prop} {a b : TS} (h : Ext es p a b) (hq : ∀ x, q x -> p x) : Ext es q a b := ⟨h.idx, fun x hx h0 hp => h.low x hx h0 (hq x hp), h.cmp, h.cnt, h.new⟩
def Ok (st : TS) (m w : Int) : Prop := 0 <= rd st.comp w \/ (rd st.index w ≠ 0 /\ m <= rd st.index w)
structure Post (es : List (List Int)) (S0 : List Int) (v c0 : Int) (st : TS) : Prop where
 inv : Inv es st
 idx : rd st.index v = c0 + 1
 way : (st.stack = S0 /\ rd st.low v = c0 + 1 /\ 0 <= rd st.comp v) \/
  (∃ rest, st.stack = S0 ++ v :: rest /\ (∀ x ∈ v :: rest, Rc es x v /\ Rc es v x) /\ (∀ x ∈ v :: rest, ∀ w ∈ row es x, Ok st (rd st.low v) w) /\ rd st.low v < c0 + 1 /\ ∃ y ∈ S0, rd st.index y = rd st.low v /\ Rc es v y)
structure Lp (es : List (List Int)) (S0 : List Int) (v c0 : Int) (i : Nat) (st : TS) (rest : List Int) : Prop where
 inv : Inv es st
 nd : nd es v
 idx : rd st.index v = c0 + 1
 stk : st.stack = S0 ++ v :: rest
 tov : ∀ x ∈ st.stack, Rc es x v
 frm : ∀ x ∈ rest, Rc es v x
 low : rd st.low v <= rd st.index v
 wit : ∃ y ∈ st.stack, rd st.index y = rd st.low v /\ Rc es v y
 blk : ∀ x ∈ rest, ∀ w ∈ row es x, Ok st (rd st.low v) w
 done : ∀ j : Nat, j < i -> j < (row es v).length -> Ok st (rd st.low v) (rd (row es v) j)
theorem row_nd {es : List (List Int)} (hv : Vld es) {v : Int} (h : nd es v) (j : Nat) (hj : j < (row es v).length) : nd es (rd (row es v) j) := hv v h _ (by rw [rd_at _ j hj]; exact List.getElem_mem _)
theorem pop_run (es : List (List Int)) (v : Int) (S0 : List Int) : ∀ (m : Nat) (rest : List Int) (k : Nat) (st : TS), rest.length = m -> m < k -> st.stack = S0 ++ v :: rest -> v ∉ rest ->
 (∀ x ∈ v :: rest, nd es x) -> st.comp.length = es.length ->
 ∃ cm : List Int, pop k v st = some { st with stack := S0, comp := cm, comps := wrap64 (st.comps + 1) } /\ cm.length = es.length /\
  (∀ x ∈ v :: rest, rd cm x = st.comps) /\ (∀ x, nd es x -> x ∉ v :: rest -> rd cm x = rd st.comp x) := by
 intro m
 induction m with
 | zero =>
  intro rest k st hm hk hs hnv hnd hl
  obtain rfl : rest = [] := List.eq_nil_of_length_eq_zero hm
  obtain ⟨k, rfl⟩ : ∃ m, k = m + 1 := ⟨k - 1, by omega⟩
  have hv := hnd v (by simp)
  have hlen : st.stack.length = S0.length + 1 := by rw [hs]; simp
  have hx : rd st.stack ((st.stack.length : Int) - 1) = v := by
   rw [show ((st.stack.length : Int) - 1) = ((S0.length : Nat) : Int) by omega, rd_at _ _ (by omega)]
   simp [hs]
  have ht : st.stack.take (st.stack.length - 1) = S0 := by
   rw [hlen, Nat.add_sub_cancel, hs]; simp
  refine ⟨st.comp.set v.toNat st.comps, ?_, by simpa using hl, ?_, ?_⟩
  · unfold pop
    rw [if_pos (by omega)]
    simp only [hx, ht]
    rw [if_pos (by have := hv.1; have := hv.2; rw [hl]; omega), if_pos trivial]
  · intro x hx
    rw [List.mem_singleton] at hx
    subst hx
    rw [rd_set _ _ _ _ hv.1 (by rw [hl]; exact hv.2) hv.1, if_pos rfl]
  · intro x hx hne
    rw [rd_set _ _ _ _ hv.1 (by rw [hl]; exact hv.2) hx.1, if_neg (by simpa using hne)]
 | succ m ih =>
  intro rest k st hm hk hs hnv hnd hl
  obtain ⟨k, rfl⟩ : ∃ m, k = m + 1 := ⟨k - 1, by omega⟩
  obtain ⟨r0, z, rfl⟩ : ∃ r0 z, rest = r0 ++ [z] := ⟨rest.dropLast, rest.getLast (by intro e; rw [e] at hm; cases hm), (List.dropLast_concat_getLast _).symm⟩
  have hz := hnd z (by simp)
  have hlen : st.stack.length = S0.length + 1 + r0.length + 1 := by rw [hs]; simp; omega
  have hs2 : st.stack = (S0 ++ v :: r0) ++ [z] := by rw [hs]; simp
  have hx : rd st.stack ((st.stack.length : Int) - 1) = z := by
   rw [show ((st.stack.length : Int) - 1) = (((S0 ++ v :: r0).length : Nat) : Int) by simp; omega, rd_at _ _ (by simp; omega)]
   simp [hs2]
  have ht : st.stack.take (st.stack.length - 1) = S0 ++ v :: r0 := by
   rw [hlen, Nat.add_sub_cancel, hs2, List.take_left' (by simp; omega)]
  have hzv : z ≠ v := by rintro rfl; simp at hnv
  obtain ⟨cm, h1, h2, h3, h4⟩ := ih r0 k { st with stack := S0 ++ v :: r0, comp := st.comp.set z.toNat st.comps } (by simpa using hm) (by omega) rfl (by intro h; exact hnv (by simp [h]))
   (fun x hx => hnd x (by rcases List.mem_cons.1 hx with h | h <;> simp [h])) (by simpa using hl)
  refine ⟨cm, ?_, h2, ?_, ?_⟩
  · unfold pop
    rw [if_pos (by omega)]
    simp only [hx, ht]
    rw [if_pos (by have := hz.1; have := hz.2; rw [hl]; omega), if_neg hzv]
    exact h1
  · intro x hx
    by_cases h : x ∈ v :: r0
    · exact h3 x h
    have hxz : x = z := by
     simp at hx h
     grind
    subst hxz
    rw [h4 x hz h]
    rw [rd_set _ _ _ _ hz.1 (by rw [hl]; exact hz.2) hz.1, if_pos rfl]
  · intro x hx hne
    rw [h4 x hx (by simp at hne ⊢; grind)]
    show rd (st.comp.set z.toNat st.comps) x = _
    rw [rd_set _ _ _ _ hz.1 (by rw [hl]; exact hz.2) hx.1, if_neg (by simp at hne; grind)]
end Tp
namespace Tp
open Tj
theorem Inv.count_le {es : List (List Int)} {st : TS} (h : Inv es st) : 0 <= st.count /\ st.count <= es.length := by
 have := h.cnt
 have := h.cps
 omega
theorem count_set_lt (l : List Int) (u x : Int) (hu : 0 <= u) (hl : u < l.length) (h0 : rd l u = 0) (hx : x ≠ 0) : (l.set u.toNat x).count 0 + 1 = l.count 0 := by
 obtain ⟨i, rfl⟩ := Int.eq_ofNat_of_zero_le hu
 rw [rd_at l i (by omega)] at h0
 have hi : i < l.length := by omega
 have h1 : 0 < l.count 0 := List.count_pos_iff.2 (h0 ▸ List.getElem_mem hi)
 show (l.set i x).count 0 + 1 = l.count 0
 rw [List.count_set hi]
 simp [h0, hx]
 omega
theorem enter_inv {es : List (List Int)} {st : TS} {v : Int} (h : Inv es st) (hv : nd es v) (h0 : rd st.index v = 0) (hn : es.length < 1000000) :
 Inv es (enter v st) /\ (enter v st).count = st.count + 1 /\ (∀ x, nd es x -> rd (enter v st).index x = if x = v then st.count + 1 else rd st.index x) /\
  (∀ x, nd es x -> rd (enter v st).low x = if x = v then st.count + 1 else rd st.low x) /\ (enter v st).index.count 0 + 1 = st.index.count 0 := by
 have hc := h.count_le
 have hw : wrap64 (st.count + 1) = st.count + 1 := w64 _ (by omega) (by omega)
 have hix : ∀ x, nd es x -> rd (enter v st).index x = if x = v then st.count + 1 else rd st.index x := by
  intro x hx
  show rd (st.index.set v.toNat (wrap64 (st.count + 1))) x = _
  rw [hw, rd_set _ _ _ _ hv.1 (by rw [h.li]; exact hv.2) hx.1]
 have hlx : ∀ x, nd es x -> rd (enter v st).low x = if x = v then st.count + 1 else rd st.low x := by
  intro x hx
  show rd (st.low.set v.toNat (wrap64 (st.count + 1))) x = _
  rw [hw, rd_set _ _ _ _ hv.1 (by rw [h.ll]; exact hv.2) hx.1]
 have hcount : (enter v st).index.count 0 + 1 = st.index.count 0 := count_set_lt _ _ _ hv.1 (by rw [h.li]; exact hv.2) h0 (by rw [hw]; omega)
 have hcnt : (enter v st).count = st.count + 1 := hw
 have hnew : ∀ x ∈ st.stack, x ≠ v := by
  rintro x hx rfl
  have := (h.stk x hx).2.1
  omega
 refine ⟨⟨?_, ?_, h.lc, ?_, ?_, ?_, ?_, h.cmp, ?_, ?_, h.back, h.same, h.onto, ?_, ?_⟩, hcnt, hix, hlx, hcount⟩
 · show (st.index.set _ _).length = _
   rw [List.length_set]; exact h.li
 · show (st.low.set _ _).length = _
   rw [List.length_set]; exact h.ll
 · intro x hx
   rcases List.mem_append.1 (show x ∈ st.stack ++ [v] from hx) with h1 | h1
   · obtain ⟨a, b, c⟩ := h.stk x h1
     refine ⟨a, ?_, c⟩
     rw [hix x a, if_neg (hnew x h1)]
     exact b
   · rw [List.mem_singleton] at h1
     subst h1
     exact ⟨hv, by rw [hix x hv, if_pos rfl]; omega, h.unv x hv h0⟩
 · intro x hx hi hcx
   by_cases e : x = v
   · subst e; show x ∈ st.stack ++ [x]; simp
   rw [hix x hx, if_neg e] at hi
   exact List.mem_append.2 (.inl (h.ons x hx hi hcx))
 · intro x hx hi
   by_cases e : x = v
   · subst e; exact h.unv x hx h0
   rw [hix x hx, if_neg e] at hi
   exact h.unv x hx hi
 · intro x hx
   rw [hix x hx, hcnt]
   have := h.idx x hx
   split <;> omega
 · intro x y hx hy he hne
   rw [hix x hx] at he hne
   rw [hix y hy] at he
   have h1 := h.idx x hx
   have h2 := h.idx y hy
   by_cases ex : x = v
   · rw [if_pos ex] at he
     by_cases ey : y = v
     · rw [ex, ey]
     rw [if_neg ey] at he; omega
   rw [if_neg ex] at he hne
   by_cases ey : y = v
   · rw [if_pos ey] at he; omega
   rw [if_neg ey] at he
   exact h.inj x y hx hy he hne
 · show (st.stack ++ [v]).Pairwise _
   rw [List.pairwise_append]
   refine ⟨?_, by simp, ?_⟩
   · refine h.srt.imp_of_mem ?_
     intro a b ha hb hab
     rw [hix a (h.stk a ha).1, hix b (h.stk b hb).1, if_neg (hnew a ha), if_neg (hnew b hb)]
     exact hab
   · intro a ha b hb
     rw [List.mem_singleton] at hb
     subst hb
     rw [hix a (h.stk a ha).1, hix b hv, if_neg (hnew a ha), if_pos rfl]
     have := (h.idx a (h.stk a ha).1).2
     omega
 · rw [hcnt]
   have := h.cnt
   omega
 · rw [hcnt]
   have := h.cps
   refine ⟨this.1, ?_⟩
   show st.comps + ((st.stack ++ [v]).length : Int) <= _
   rw [List.length_append, List.length_singleton]
   omega
theorem lower_inv {es : List (List Int)} {st : TS} {v x : Int} (h : Inv es st) : Inv es (lower v x st) :=
 ⟨h.li, by show (st.low.set _ _).length = _; rw [List.length_set]; exact h.ll, h.lc, h.stk, h.ons, h.unv, h.idx, h.cmp, h.inj, h.srt, h.back, h.same, h.onto, h.cnt, h.cps⟩
theorem lower_low {es : List (List Int)} {st : TS} {v x : Int} (h : Inv es st) (hv : nd es v) (u : Int) (hu : nd es u) : rd (lower v x st).low u = if u = v then mn (rd st.low v) x else rd st.low u := by
 show rd (st.low.set _ _) u = _
 rw [rd_set _ _ _ _ hv.1 (by rw [h.ll]; exact hv.2) hu.1]
theorem mn_le (a b : Int) : mn a b <= a /\ mn a b <= b /\ (mn a b = a \/ mn a b = b) := by
 unfold mn
 split <;> omega
theorem lower_ext {es : List (List Int)} {st : TS} {v x : Int} (h : Inv es st) (hv : nd es v) : Ext es (· ≠ v) st (lower v x st) :=
 ⟨fun _ _ _ => rfl, fun u hu _ hp => by rw [lower_low h hv u hu, if_neg hp], fun _ _ _ => rfl, Int.le_refl _, fun _ _ h => .inl h⟩
theorem Lp.notin {es : List (List Int)} {S0 : List Int} {v c0 : Int} {i : Nat} {st : TS} {rest : List Int} (h : Lp es S0 v c0 i st rest) :
 v ∉ rest /\ (∀ x ∈ S0, rd st.index x < rd st.index v) /\ (∀ x ∈ rest, rd st.index v < rd st.index x) := by
 have hs := h.inv.srt
 rw [h.stk, List.pairwise_append] at hs
 obtain ⟨_, h2, h3⟩ := hs
 rw [List.pairwise_cons] at h2
 refine ⟨fun hm => ?_, fun x hx => h3 x hx v (by simp), h2.1⟩
 have := h2.1 v hm
 omega
theorem end_pop {es : List (List Int)} (hvld : Vld es) {S0 : List Int} {v c0 : Int} {i k : Nat} {st : TS} {rest : List Int} (h : Lp es S0 v c0 i st rest) (hi : (row es v).length <= i)
 (hlow : rd st.low v = rd st.index v) (hk : es.length < k) (hn : es.length < 1000000) :
 ∃ st', pop k v st = some st' /\ Post es S0 v c0 st' /\ Ext es (· ≠ v) st st' /\ st'.index = st.index := by
 obtain ⟨n1, n2, n3⟩ := h.notin
 have hI := h.inv
 have hcl := hI.count_le
 have hmem : ∀ x ∈ v :: rest, x ∈ st.stack := fun x hx => by rw [h.stk]; exact List.mem_append.2 (.inr hx)
 have hseg : ∀ x ∈ v :: rest, nd es x := fun x hx => (hI.stk x (hmem x hx)).1
 have hlen : st.stack.length = S0.length + rest.length + 1 := by rw [h.stk]; simp; omega
 obtain ⟨cm, h1, h2, h3, h4⟩ := pop_run es v S0 rest.length rest k st rfl (by have := hI.cps; omega) h.stk n1 hseg hI.lc
 have hw : wrap64 (st.comps + 1) = st.comps + 1 := w64 _ (by have := hI.cps; omega) (by have := hI.cps; omega)
 rw [hw] at h1
 refine ⟨_, h1, ?_, ?_, rfl⟩
 · have hS0 : ∀ x ∈ S0, x ∉ v :: rest := by
    intro x hx hm
    have a1 := n2 x hx
    rcases List.mem_cons.1 hm with e | e
    · rw [e] at a1; omega
    · have := n3 x e; omega
   have hold : ∀ x, nd es x -> 0 <= rd st.comp x -> x ∉ v :: rest := by
    intro x hx hc hm
    have := (hI.stk x (hmem x hm)).2.2
    omega
   have hsuc : ∀ u ∈ v :: rest, ∀ w ∈ row es u, Ok st (rd st.low v) w := by
    intro u hu w hw
    rcases List.mem_cons.1 hu with e | e
    · subst e
      obtain ⟨j, hj, rfl⟩ := mem_rd _ _ hw
      exact h.done j (by omega) hj
    · exact h.blk u e w hw
   refine ⟨⟨hI.li, hI.ll, h2, ?_, ?_, ?_, hI.idx, ?_, hI.inj, ?_, ?_, ?_, ?_, hI.cnt, ?_⟩, h.idx, .inl ⟨rfl, by rw [<- h.idx]; exact hlow, ?_⟩⟩
   · intro x hx
     obtain ⟨a, b, c⟩ := hI.stk x (by rw [h.stk]; exact List.mem_append.2 (.inl hx))
     exact ⟨a, b, by show rd cm x = _; rw [h4 x a (hS0 x hx)]; exact c⟩
   · intro x hx hi0 hc
     have hc' : rd cm x < 0 := hc
     have hns : x ∉ v :: rest := by
      intro hm
      rw [h3 x hm] at hc'
      have := hI.cps
      omega
     rw [h4 x hx hns] at hc'
     have := hI.ons x hx hi0 hc'
     rw [h.stk] at this
     rcases List.mem_append.1 this with e | e
     · exact e
     · exact absurd e hns
   · intro x hx hi0
     have hns : x ∉ v :: rest := by
      intro hm
      have := (hI.stk x (hmem x hm)).2.1
      have hi1 : rd st.index x = 0 := hi0
      omega
     show rd cm x = _
     rw [h4 x hx hns]
     exact hI.unv x hx hi0
   · intro x hx
     show -1 <= rd cm x /\ rd cm x < st.comps + 1
     by_cases hm : x ∈ v :: rest
     · rw [h3 x hm]; have := hI.cps; omega
     rw [h4 x hx hm]; have := hI.cmp x hx; omega
   · have := hI.srt
     rw [h.stk, List.pairwise_append] at this
     exact this.1
   · intro u hu hc w hwm
     show 0 <= rd cm w /\ rd cm w <= rd cm u
     have hc' : 0 <= rd cm u := hc
     have hwn : nd es w := hvld u hu w hwm
     by_cases hm : u ∈ v :: rest
     rotate_left
     · rw [h4 u hu hm] at hc' ⊢
       have hb := hI.back u hu hc' w hwm
       rw [h4 w hwn (hold w hwn hb.1)]
       exact hb
     rw [h3 u hm]
     by_cases hwm2 : w ∈ v :: rest
     · rw [h3 w hwm2]; have := hI.cps; omega
     rw [h4 w hwn hwm2]
     rcases hsuc u hm w hwm with e | ⟨e1, e2⟩
     · have := hI.cmp w hwn; omega
     · by_cases hcw : 0 <= rd st.comp w
       · have := hI.cmp w hwn; omega
       · have hst := hI.ons w hwn e1 (by omega)
         rw [h.stk] at hst
         rcases List.mem_append.1 hst with e | e
         · have := n2 w e; omega
         · exact absurd e hwm2
   · intro x y hx hy he hc
     have he' : rd cm x = rd cm y := he
     by_cases hm : x ∈ v :: rest
     rotate_left
     · by_cases hm2 : y ∈ v :: rest
       · rw [h3 y hm2, h4 x hx hm] at he'
         have := hI.cmp x hx
         omega
       · have hc' : 0 <= rd cm x := hc
         rw [h4 x hx hm] at hc'
         rw [h4 x hx hm, h4 y hy hm2] at he'
         exact hI.same x y hx hy he' hc'
     by_cases hm2 : y ∈ v :: rest
     rotate_left
     · rw [h3 x hm, h4 y hy hm2] at he'
       have := hI.cmp y hy
       omega
     have hxv : Rc es x v := h.tov x (hmem x hm)
     rcases List.mem_cons.1 hm2 with e | e
     · rw [e]; exact hxv
     · exact hxv.trans (h.frm y e)
   · intro c h0 hc
     have hc' : c < st.comps + 1 := hc
     by_cases e : c = st.comps
     · exact ⟨v, h.nd, by rw [e]; exact h3 v (by simp)⟩
     obtain ⟨u, hu, hcu⟩ := hI.onto c h0 (by omega)
     exact ⟨u, hu, by show rd cm u = c; rw [h4 u hu (hold u hu (by omega))]; exact hcu⟩
   · show 0 <= st.comps + 1 /\ st.comps + 1 + (S0.length : Int) <= st.count
     have := hI.cps
     omega
   · show 0 <= rd cm v
     rw [h3 v (by simp)]
     exact hI.cps.1
 · refine ⟨fun _ _ _ => rfl, fun _ _ _ _ => rfl, fun x hx hc => ?_, Int.le_refl _, fun _ _ e => .inl e⟩
   have hns : x ∉ v :: rest := by
    intro hm
    have := (hI.stk x (hmem x hm)).2.2
    omega
   exact h4 x hx hns
end Tp
namespace Tp
open Tj
def VisitOk (es : List (List Int)) (L k : Nat) : Prop := ∀ (v : Int) (st : TS), Inv es st -> nd es v -> rd st.index v = 0 -> (∀ x ∈ st.stack, Rc es x v) -> st.index.count 0 * (L + 2) + es.length + 2 <= k ->
 ∃ st', visit k es v st = some st' /\ Post es st.stack v st.count st' /\ Ext es (fun _ => True) st st' /\ st'.index.count 0 <= st.index.count 0
def EachOk (es : List (List Int)) (L k : Nat) : Prop := ∀ (S0 : List Int) (v c0 : Int) (i : Nat) (st : TS) (rest : List Int), Lp es S0 v c0 i st rest -> st.index.count 0 * (L + 2) + (L - i) + es.length + 2 <= k ->
 ∃ st', each k es v (row es v) i st = some st' /\ Post es S0 v c0 st' /\ Ext es (· ≠ v) st st' /\ st'.index.count 0 <= st.index.count 0
theorem unv_le {es : List (List Int)} {a b : TS} (ha : Inv es a) (hb : Inv es b) (h : a.count <= b.count) : b.index.count 0 <= a.index.count 0 := by
 have := ha.cnt
 have := hb.cnt
 omega
theorem Ok.ext {es : List (List Int)} {p : Int -> Prop} {a b : TS} (h : Ext es p a b) {m m' w : Int} (hw : nd es w) (hm : m' <= m) (ho : Ok a m w) : Ok b m' w := by
 rcases ho with e | ⟨e1, e2⟩
 · exact .inl (by rw [h.cmp w hw e]; exact e)
 · exact .inr (by rw [h.idx w hw e1]; exact ⟨e1, by omega⟩)
theorem visit_step {es : List (List Int)} (hvld : Vld es) {L k : Nat} (hL : ∀ v, (row es v).length <= L) (hn : es.length < 1000000) (he : EachOk es L k) : VisitOk es L (k + 1) := by
 intro v st hI hv h0 hto hk
 obtain ⟨hI1, hc1, hix, hlx, hct⟩ := enter_inv hI hv h0 hn
 have hcps := hI.cps
 have hcl := hI.count_le
 unfold visit
 rw [if_pos ⟨hv.1, hv.2, by omega⟩]
 have hlp : Lp es st.stack v st.count 0 (enter v st) [] := by
  refine ⟨hI1, hv, by rw [hix v hv, if_pos rfl], rfl, ?_, by simp, ?_, ?_, by simp, by intro j hj; omega⟩
  · intro x hx
    rcases List.mem_append.1 (show x ∈ st.stack ++ [v] from hx) with e | e
    · exact hto x e
    · rw [List.mem_singleton] at e; subst e; exact .refl _
  · rw [hlx v hv, hix v hv]; simp
  · exact ⟨v, by show v ∈ st.stack ++ [v]; simp, by rw [hlx v hv, hix v hv]; simp, .refl _⟩
 have hmul : st.index.count 0 * (L + 2) = (enter v st).index.count 0 * (L + 2) + (L + 2) := by
  rw [<- hct, Nat.add_mul, Nat.one_mul]
 obtain ⟨st', h1, h2, h3, h4⟩ := he st.stack v st.count 0 (enter v st) [] hlp (by omega)
 refine ⟨st', h1, h2, ?_, by omega⟩
 refine ⟨?_, ?_, ?_, ?_, ?_⟩
 · intro x hx hi
   have e : x ≠ v := by rintro rfl; exact hi h0
   have := hix x hx
   rw [if_neg e] at this
   rw [h3.idx x hx (by rw [this]; exact hi), this]
 · intro x hx hi _
   have e : x ≠ v := by rintro rfl; exact hi h0
   have := hix x hx
   rw [if_neg e] at this
   rw [h3.low x hx (by rw [this]; exact hi) e, hlx x hx, if_neg e]
 · exact h3.cmp
 · have := h3.cnt; omega
 · intro x hx hi
   by_cases e : x = v
   · subst e
     right
     rw [h2.idx]; omega
   have := hix x hx
   rw [if_neg e] at this
   rcases h3.new x hx (by rw [this]; exact hi) with e2 | e2
   · exact .inl e2
   · exact .inr (by omega)
theorem lp_next {es : List (List Int)} (hvld : Vld es) {S0 : List Int} {v c0 : Int} {i : Nat} {st st2 : TS} {rest r1 : List Int} (h : Lp es S0 v c0 i st rest) (hi : i < (row es v).length)
 (h2 : Inv es st2) (he : Ext es (fun _ => False) st st2) (hs : st2.stack = st.stack ++ r1) (hr : ∀ x ∈ r1, Rc es x v /\ Rc es v x) (hl : rd st2.low v <= rd st.low v)
 (hw : rd st2.low v = rd st.low v \/ ∃ y ∈ st2.stack, rd st2.index y = rd st2.low v /\ Rc es v y) (hb : ∀ x ∈ r1, ∀ u ∈ row es x, Ok st2 (rd st2.low v) u) (hd : Ok st2 (rd st2.low v) (rd (row es v) i)) :
 Lp es S0 v c0 (i + 1) st2 (rest ++ r1) := by
 have hI := h.inv
 have hvs : v ∈ st.stack := by rw [h.stk]; simp
 have hix : ∀ x ∈ st.stack, nd es x /\ rd st2.index x = rd st.index x := fun x hx => ⟨(hI.stk x hx).1, he.idx x (hI.stk x hx).1 (by have := (hI.stk x hx).2.1; omega)⟩
 refine ⟨h2, h.nd, by rw [(hix v hvs).2]; exact h.idx, by rw [hs, h.stk]; simp, ?_, ?_, by rw [(hix v hvs).2]; have := h.low; omega, ?_, ?_, ?_⟩
 · intro x hx
   rw [hs] at hx
   rcases List.mem_append.1 hx with e | e
   · exact h.tov x e
   · exact (hr x e).1
 · intro x hx
   rcases List.mem_append.1 hx with e | e
   · exact h.frm x e
   · exact (hr x e).2
 · rcases hw with e | e
   · obtain ⟨y, y1, y2, y3⟩ := h.wit
     exact ⟨y, by rw [hs]; exact List.mem_append.2 (.inl y1), by rw [(hix y y1).2, e]; exact y2, y3⟩
   · exact e
 · intro x hx u hu
   rcases List.mem_append.1 hx with e | e
   · exact Ok.ext he (hvld x (hI.stk x (by rw [h.stk]; simp [e])).1 u hu) hl (h.blk x e u hu)
   · exact hb x e u hu
 · intro j hj hjl
   by_cases e : j = i
   · rw [e]; exact hd
   exact Ok.ext he (row_nd hvld h.nd j hjl) hl (h.done j (by omega) hjl)
theorem each_step {es : List (List Int)} (hvld : Vld es) {L k : Nat} (hL : ∀ v, (row es v).length <= L) (hn : es.length < 1000000) (hv : VisitOk es L k) (he : EachOk es L k) : EachOk es L (k + 1) := by
 intro S0 v c0 i st rest h hk
 have hI := h.inv
 have hcl := hI.count_le
 have hiv := hI.idx v h.nd
 have hLv := hL v
 have hvs : v ∈ st.stack := by rw [h.stk]; simp
 have hvi : rd st.index v ≠ 0 := by have := (hI.stk v hvs).2.1; omega
 unfold each
 by_cases hi : i < (row es v).length
 rotate_left
 · rw [if_neg (by omega)]
   by_cases hlow : rd st.low v = rd st.index v
   · rw [if_pos hlow]
     obtain ⟨st', b1, b2, b3, b4⟩ := end_pop (k := k) hvld h (by omega) hlow (by omega) hn
     exact ⟨st', b1, b2, b3, by rw [b4]; exact Nat.le_refl _⟩
   rw [if_neg hlow]
   refine ⟨st, rfl, ⟨hI, h.idx, .inr ⟨rest, h.stk, ?_, ?_, ?_, ?_⟩⟩, Ext.refl _ _ _, Nat.le_refl _⟩
   · intro x hx
     refine ⟨h.tov x (by rw [h.stk]; exact List.mem_append.2 (.inr hx)), ?_⟩
     rcases List.mem_cons.1 hx with e | e
     · rw [e]; exact .refl _
     · exact h.frm x e
   · intro x hx u hu
     rcases List.mem_cons.1 hx with e | e
     · rw [e] at hu
       obtain ⟨j, hj, rfl⟩ := mem_rd _ _ hu
       exact h.done j (by omega) hj
     · exact h.blk x e u hu
   · have := h.low; have := h.idx; omega
   · obtain ⟨y, y1, y2, y3⟩ := h.wit
     refine ⟨y, ?_, y2, y3⟩
     have := h.low
     obtain ⟨n1, n2, n3⟩ := h.notin
     rw [h.stk] at y1
     rcases List.mem_append.1 y1 with e | e
     · exact e
     · rcases List.mem_cons.1 e with e | e
       · rw [e] at y2; omega
       · have := n3 y e; omega
 rw [if_pos (by omega)]
 have hw := row_nd hvld h.nd i hi
 have hmem : rd (row es v) i ∈ row es v := by rw [rd_at _ i hi]; exact List.getElem_mem _
 have hnx := @lp_next es hvld S0 v c0 i st
 generalize hwd : rd (row es v) i = w at *
 rw [if_pos ⟨hw.1, hw.2⟩, show (i : Int) + 1 = ((i + 1 : Nat) : Int) by omega]
 by_cases h0 : rd st.index w = 0
 rotate_left
 · rw [if_neg h0]
   by_cases hc : rd st.comp w < 0
   rotate_left
   · rw [if_neg hc]
     have hlp := hnx h hi (r1 := []) hI (Ext.refl _ _ _) (by simp) (by simp) (Int.le_refl _) (.inl rfl) (by simp) (.inl (by omega))
     obtain ⟨st', b1, b2, b3, b4⟩ := he S0 v c0 (i + 1) _ _ hlp (by omega)
     exact ⟨st', b1, b2, b3, b4⟩
   rw [if_pos hc]
   have hlv : rd (lower v (rd st.index w) st).low v = mn (rd st.low v) (rd st.index w) := by rw [lower_low hI h.nd v h.nd, if_pos rfl]
   have hmn := mn_le (rd st.low v) (rd st.index w)
   have hlp := hnx h hi (r1 := []) (lower_inv (v := v) (x := rd st.index w) hI) ((lower_ext hI h.nd).imp (fun _ h => h.elim)) (by show st.stack = _; simp) (by simp) (by rw [hlv]; exact hmn.1)
    (by
     rw [hlv]
     rcases hmn.2.2 with e | e
     · exact .inl e
     · exact .inr ⟨w, hI.ons w hw h0 hc, e.symm, Rc.edge hmem⟩) (by simp) (.inr ⟨h0, by rw [hlv]; exact hmn.2.1⟩)
   obtain ⟨st', b1, b2, b3, b4⟩ := he S0 v c0 (i + 1) _ _ hlp (by show st.index.count 0 * (L + 2) + _ + _ + _ <= _; omega)
   exact ⟨st', b1, b2, (lower_ext hI h.nd).trans b3, b4⟩
 rw [if_pos h0]
 obtain ⟨st1, a1, a2, a3, a4⟩ := hv w st hI hw h0 (fun x hx => (h.tov x hx).tail hmem) (by omega)
 rw [a1, Option.bind_some]
 have hI1 := a2.inv
 have hl1 : rd st1.low v = rd st.low v := a3.low v h.nd hvi trivial
 have hlv : rd (lower v (rd st1.low w) st1).low v = mn (rd st.low v) (rd st1.low w) := by rw [lower_low hI1 h.nd v h.nd, if_pos rfl, hl1]
 have hmn := mn_le (rd st.low v) (rd st1.low w)
 have hext : Ext es (· ≠ v) st (lower v (rd st1.low w) st1) := (a3.imp (fun _ _ => trivial)).trans (lower_ext hI1 h.nd)
 have hlow := h.low
 have next : ∃ rest2, Lp es S0 v c0 (i + 1) (lower v (rd st1.low w) st1) rest2 := by
  rcases a2.way with ⟨s1, s2, s3⟩ | ⟨r1, s1, s2, s3, s4, y, s5, s6, s7⟩
  · exact ⟨_, hnx h hi (r1 := []) (lower_inv hI1) (hext.imp (fun _ h => h.elim)) (by show st1.stack = _; rw [s1]; simp) (by simp) (by rw [hlv]; exact hmn.1) (.inl (by rw [hlv]; omega)) (by simp) (.inl s3)⟩
  · refine ⟨_, hnx h hi (r1 := w :: r1) (lower_inv hI1) (hext.imp (fun _ h => h.elim)) s1 (fun x hx => ?_) (by rw [hlv]; exact hmn.1) ?_ ?_ (.inr ?_)⟩
    · exact ⟨(s2 x hx).1.trans (s7.trans (h.tov y s5)), (Rc.edge hmem).trans (s2 x hx).2⟩
    · rw [hlv]
      rcases hmn.2.2 with e | e
      · exact .inl e
      · refine .inr ⟨y, by show y ∈ st1.stack; rw [s1]; exact List.mem_append.2 (.inl s5), ?_, (Rc.edge hmem).trans s7⟩
        rw [e]; exact s6
    · intro x hx u hu
      rcases s3 x hx u hu with e | ⟨e1, e2⟩
      · exact .inl e
      · exact .inr ⟨e1, by rw [hlv]; show _ <= rd st1.index u; omega⟩
    · have e1 : rd (lower v (rd st1.low w) st1).index w = st.count + 1 := a2.idx
      rw [e1, hlv]
      omega
 obtain ⟨rest2, hlp⟩ := next
 have hu := unv_le hI hI1 a3.cnt
 have hmul : st1.index.count 0 * (L + 2) <= st.index.count 0 * (L + 2) := Nat.mul_le_mul_right _ hu
 obtain ⟨st', b1, b2, b3, b4⟩ := he S0 v c0 (i + 1) _ rest2 hlp (by show st1.index.count 0 * (L + 2) + _ + _ + _ <= _; omega)
 exact ⟨st', b1, b2, hext.trans b3, by have : (lower v (rd st1.low w) st1).index = st1.index := rfl; rw [this] at b4; omega⟩
theorem both {es : List (List Int)} (hvld : Vld es) {L : Nat} (hL : ∀ v, (row es v).length <= L) (hn : es.length < 1000000) : ∀ k, VisitOk es L k /\ EachOk es L k := by
 intro k
 induction k with
 | zero => exact ⟨fun v st _ _ _ _ hk => by omega, fun S0 v c0 i st rest _ hk => by omega⟩
 | succ k ih => exact ⟨visit_step hvld hL hn ih.2, each_step hvld hL hn ih.1 ih.2⟩
structure Sol (es : List (List Int)) (cm : List Int) (n : Int) : Prop where
 len : cm.length = es.length
 n0 : 0 <= n /\ n <= es.length
 rng : ∀ v, nd es v -> 0 <= rd cm v /\ rd cm v < n
 back : ∀ u, nd es u -> ∀ w ∈ row es u, rd cm w <= rd cm u
 same : ∀ u v, nd es u -> nd es v -> rd cm u = rd cm v -> Rc es u v
 onto : ∀ c, 0 <= c -> c < n -> ∃ v, nd es v /\ rd cm v = c
theorem outer_run {es : List (List Int)} (hvld : Vld es) {L : Nat} (hL : ∀ v, (row es v).length <= L) (hn : es.length < 1000000) : ∀ (m : Nat) (k i : Nat) (st : TS), i + m = es.length -> es.length * (L + 2) + es.length + 2 + m < k ->
 Inv es st -> st.stack = [] -> (∀ x, nd es x -> x < i -> rd st.index x ≠ 0) -> ∃ st', outer k es i st = some st' /\ Inv es st' /\ st'.stack = [] /\ ∀ x, nd es x -> rd st'.index x ≠ 0 := by
 intro m
 induction m with
 | zero =>
  intro k i st hi hk hI hs hx
  obtain ⟨k, rfl⟩ : ∃ m, k = m + 1 := ⟨k - 1, by omega⟩
  unfold outer
  rw [if_neg (by omega)]
  exact ⟨st, rfl, hI, hs, fun x h => hx x h (by have := h.2; omega)⟩
 | succ m ih =>
  intro k i st hi hk hI hs hx
  obtain ⟨k, rfl⟩ : ∃ m, k = m + 1 := ⟨k - 1, by omega⟩
  have hnd : nd es (i : Int) := ⟨by omega, by omega⟩
  have hcl := hI.count_le
  unfold outer
  rw [if_pos (by omega), show (i : Int) + 1 = ((i + 1 : Nat) : Int) by omega]
  by_cases h0 : rd st.index i = 0
  rotate_left
  · rw [if_neg h0]
    refine ih k (i + 1) st (by omega) (by omega) hI hs ?_
    intro x h1 h2
    by_cases e : x = i
    · subst e; exact h0
    exact hx x h1 (by omega)
  rw [if_pos h0]
  have hu : st.index.count 0 <= es.length := by rw [<- hI.li]; exact List.count_le_length
  have hmul : st.index.count 0 * (L + 2) <= es.length * (L + 2) := Nat.mul_le_mul_right _ hu
  obtain ⟨st1, a1, a2, a3, a4⟩ := (both hvld hL hn k).1 i st hI hnd h0 (by rw [hs]; simp) (by omega)
  rw [a1, Option.bind_some]
  have hs1 : st1.stack = [] := by
   rcases a2.way with ⟨s1, _⟩ | ⟨_, _, _, _, _, y, s5, _⟩
   · rw [s1, hs]
   · rw [hs] at s5; cases s5
  refine ih k (i + 1) st1 (by omega) (by omega) a2.inv hs1 ?_
  intro x h1 h2
  by_cases e : x = i
  · subst e; rw [a2.idx]; omega
  have := hx x h1 (by omega)
  rw [a3.idx x h1 this]
  exact this
theorem init_inv (es : List (List Int)) : Inv es (init es.length) := by
 have hi : ∀ x, nd es x -> rd (init es.length).index x = 0 := fun x h => rd_rep _ _ _ h.1 h.2
 have hc : ∀ x, nd es x -> rd (init es.length).comp x = -1 := fun x h => rd_rep _ _ _ h.1 h.2
 refine ⟨by simp [init], by simp [init], by simp [init], (fun x hx => by cases hx), (fun x h h0 => absurd (hi x h) h0), (fun x h _ => hc x h), (fun x h => ?_), (fun x h => ?_),
  (fun x y h _ _ h0 => absurd (hi x h) h0), List.Pairwise.nil, (fun u h h0 => ?_), (fun u v h _ _ h0 => ?_), (fun c h0 h1 => ?_), ?_, ?_⟩
 · rw [hi x h]; simp [init]
 · rw [hc x h]; simp [init]
 · rw [hc u h] at h0; omega
 · rw [hc u h] at h0; omega
 · simp [init] at h1; omega
 · simp [init]
 · simp [init]
theorem strong_sol {es : List (List Int)} (hvld : Vld es) {L : Nat} (hL : ∀ v, (row es v).length <= L) (hn : es.length < 1000000) (k : Nat) (hk : es.length * (L + 2) + es.length + es.length + 3 <= k) :
 ∃ cm n, strongF k es = some (cm, n) /\ Sol es cm n := by
 obtain ⟨st, h1, h2, h3, h4⟩ := outer_run hvld hL hn es.length k 0 (init es.length) (by omega) (by omega) (init_inv es) rfl (fun x h h0 => by have := h.1; omega)
 refine ⟨st.comp, st.comps, ?_, ?_⟩
 · unfold strongF
   rw [if_pos (by omega)]
   show (outer k es ((0 : Nat) : Int) _).map _ = _
   rw [h1]
   rfl
 · have hr : ∀ v, nd es v -> 0 <= rd st.comp v := by
    intro v hv
    have h5 := h2.cmp v hv
    by_cases e : rd st.comp v < 0
    rotate_left
    · omega
    have := h2.ons v hv (h4 v hv) e
    rw [h3] at this
    cases this
   have hcl := h2.count_le
   have hcps := h2.cps
   exact ⟨h2.lc, by omega, fun v hv => ⟨hr v hv, (h2.cmp v hv).2⟩, fun u hu w hw => (h2.back u hu (hr u hu) w hw).2, fun u v hu hv he => h2.same u v hu hv he (hr u hu), h2.onto⟩
end Tp
end Go.Proofs.Ytpmjpngmmphkmaa
namespace Go.Proofs.Ytpmjpngmmphkmaa
open Go.RowKit Go.Proofs.Yw.A Go.Proofs.Yw.B Go.Proofs.Yw.C
namespace Tp
open Tj Rw Od
def iota (n : Nat) : List Int := (List.range n).map fun (i : Nat) => (i : Int)
theorem mem_iota {n : Nat} {x : Int} : x ∈ iota n ↔ 0 <= x /\ x < n := by
 unfold iota
 rw [List.mem_map]
 constructor
 · rintro ⟨i, hi, rfl⟩
   have := List.mem_range.1 hi
   omega
 · intro h
   exact ⟨x.toNat, List.mem_range.2 (by omega), by omega⟩
theorem iota_succ (n : Nat) : iota (n + 1) = iota n ++ [(n : Int)] := by
 unfold iota
 rw [List.range_succ, List.map_append]
 rfl
theorem iota_lt (n : Nat) : (iota n).Pairwise (· < ·) := by
 unfold iota
 rw [List.pairwise_map]
 exact List.pairwise_lt_range.imp (fun h => by omega)
theorem iota_length (n : Nat) : (iota n).length = n := by simp [iota]
theorem nodup_le : ∀ (n : Nat) (l : List Int), l.Nodup -> (∀ x ∈ l, 0 <= x /\ x < n) -> l.length <= n := by
 intro n
 induction n with
 | zero =>
  intro l _ h
  cases l with
  | nil => exact Nat.le_refl _
  | cons a l => have := h a (by simp); omega
 | succ n ih =>
  intro l hd h
  have h1 := ih (l.erase (n : Int)) (hd.erase _) (fun x hx => by
   have h2 := (hd.mem_erase_iff).1 hx
   have := h x h2.2
   have := h2.1
   omega)
  by_cases hm : (n : Int) ∈ l
  rotate_left
  · rw [List.erase_of_not_mem hm] at h1; omega
  rw [List.length_erase_of_mem hm] at h1; omega
theorem row_set (ms : List (List Int)) (c d : Int) (r : List Int) (h0 : 0 <= c) (h1 : c < ms.length) (hd : 0 <= d) : row (ms.set c.toNat r) d = if d = c then r else row ms d := by
 unfold row
 rw [List.getD_eq_getElem?_getD, List.getElem?_set, List.getD_eq_getElem?_getD]
 by_cases h : d = c
 rotate_left
 · rw [if_neg (by omega), if_neg h]
 subst h
 rw [if_pos rfl, if_pos (by omega), if_pos rfl]
 rfl
theorem row_app (ms : List (List Int)) (c d x : Int) (h0 : 0 <= c) (h1 : c < ms.length) (hd : 0 <= d) : row (app ms c x) d = if d = c then row ms c ++ [x] else row ms d := row_set ms c d _ h0 h1 hd
theorem app_length (ms : List (List Int)) (c x : Int) : (app ms c x).length = ms.length := by simp [app]
theorem row_rep (n : Nat) (c : Int) : row (List.replicate n []) c = [] := by
 unfold row
 rw [List.getD_eq_getElem?_getD]
 by_cases h : c.toNat < n
 rotate_left
 · rw [List.getElem?_eq_none (by simpa using h)]; rfl
 rw [List.getElem?_eq_getElem (by simpa using h)]; simp
theorem rd_rep0 (n : Nat) (c : Int) : rd (List.replicate n 0) c = 0 := by
 unfold rd
 rw [List.getD_eq_getElem?_getD]
 by_cases h : c.toNat < n
 rotate_left
 · rw [List.getElem?_eq_none (by simpa using h)]; rfl
 rw [List.getElem?_eq_getElem (by simpa using h)]; simp
theorem row_mem (ms : List (List Int)) (i : Nat) (h : i < ms.length) : row ms (i : Int) = ms[i] := by
 unfold row
 rw [Int.toNat_natCast, List.getD_eq_getElem?_getD, List.getElem?_eq_getElem h]
 rfl
def mem (cm : List Int) (c : Int) : List Int := (iota cm.length).filter fun v => rd cm v == c
theorem mem_mem {cm : List Int} {c x : Int} : x ∈ mem cm c ↔ (0 <= x /\ x < cm.length) /\ rd cm x = c := by
 unfold mem
 rw [List.mem_filter, mem_iota]
 simp
theorem mem_len (cm : List Int) (c : Int) : (mem cm c).length <= cm.length := by
 unfold mem
 exact Nat.le_trans (List.length_filter_le _ _) (by rw [iota_length]; exact Nat.le_refl _)
theorem grp_run {es : List (List Int)} {cm : List Int} {n : Int} (S : Sol es cm n) (hn : es.length < 1000000) : ∀ (m k i : Nat) (ms : List (List Int)), i + m = cm.length -> m < k -> (ms.length : Int) = n ->
 (∀ c, 0 <= c -> c < n -> row ms c = (iota i).filter fun v => rd cm v == c) -> ∃ ms', grp k cm i ms = some ms' /\ (ms'.length : Int) = n /\ ∀ c, 0 <= c -> c < n -> row ms' c = mem cm c := by
 intro m
 induction m with
 | zero =>
  intro k i ms hi hk hl h
  obtain ⟨k, rfl⟩ : ∃ m, k = m + 1 := ⟨k - 1, by omega⟩
  obtain rfl : i = cm.length := by omega
  unfold grp
  rw [if_neg (by omega)]
  exact ⟨ms, rfl, hl, h⟩
 | succ m ih =>
  intro k i ms hi hk hl h
  obtain ⟨k, rfl⟩ : ∃ m, k = m + 1 := ⟨k - 1, by omega⟩
  have hr := S.rng i ⟨by omega, by have := S.len; omega⟩
  have hlen : (row ms (rd cm i)).length <= i := by
   rw [h _ hr.1 hr.2]
   exact Nat.le_trans (List.length_filter_le _ _) (by rw [iota_length]; exact Nat.le_refl _)
  unfold grp
  rw [if_pos (by omega), if_pos ⟨hr.1, by omega, by have := S.len; omega⟩, show (i : Int) + 1 = ((i + 1 : Nat) : Int) by omega]
  refine ih k (i + 1) _ (by omega) (by omega) (by rw [app_length]; exact hl) ?_
  intro c h0 h1
  rw [row_app _ _ _ _ hr.1 (by omega) h0, iota_succ, List.filter_append, <- h c h0 h1]
  by_cases e : c = rd cm i
  · subst e
    rw [if_pos rfl]
    simp
  rw [if_neg e]
  have : (rd cm i == c) = false := by simpa using fun h => e h.symm
  simp [this]
def Dep (es : List (List Int)) (cm : List Int) (c d : Int) : Prop := c ≠ d /\ ∃ v ∈ mem cm c, ∃ w ∈ row es v, rd cm w = d
structure J (n : Int) (c : Int) (O0 : Int -> Int) (U0 : Int -> List Int) (u : US) : Prop where
 lo : (u.opn.length : Int) = n
 lu : (u.users.length : Int) = n
 nd : u.seen.Nodup
 hc : c ∈ u.seen
 rg : ∀ d ∈ u.seen, 0 <= d /\ d < n
 oo : ∀ d, 0 <= d -> d ≠ c -> rd u.opn d = O0 d
 oc : rd u.opn c = u.seen.length - 1
 us : ∀ d, 0 <= d -> d < n -> row u.users d = U0 d ++ (if d ∈ u.seen /\ d ≠ c then [c] else [])
theorem wf_small (x : Int) (h0 : 0 <= x) (h1 : x < 1000000) : (Lit.int .i64 x).wf = true := by
 have a : IntKind.i64.min = -9223372036854775808 := rfl
 have b : IntKind.i64.max = 9223372036854775807 := rfl
 simp only [Lit.wf, a, b, Bool.and_eq_true, decide_eq_true_eq]
 omega
theorem link_J {n c d : Int} {O0 : Int -> Int} {U0 : Int -> List Int} {u : US} (h : J n c O0 U0 u) (hn : n < 1000000) (hd0 : 0 <= d) (hd1 : d < n) (hs : d ∉ u.seen) : J n c O0 U0 (link c d u) := by
 have hc := h.rg c h.hc
 have hlo := h.lo
 have hlu := h.lu
 have hlen : u.seen.length <= n.toNat := nodup_le _ _ h.nd (fun x hx => by have := h.rg x hx; omega)
 have hdc : d ≠ c := by rintro rfl; exact hs h.hc
 refine ⟨?_, ?_, ?_, ?_, ?_, ?_, ?_, ?_⟩
 · show ((u.opn.set _ _).length : Int) = n
   rw [List.length_set]; exact h.lo
 · show ((app u.users d c).length : Int) = n
   rw [app_length]; exact h.lu
 · show (u.seen ++ [d]).Nodup
   rw [List.nodup_append]
   exact ⟨h.nd, by simp, fun a ha b hb e => by rw [List.mem_singleton] at hb; subst hb; subst e; exact hs ha⟩
 · exact List.mem_append.2 (.inl h.hc)
 · intro x hx
   rcases List.mem_append.1 (show x ∈ u.seen ++ [d] from hx) with e | e
   · exact h.rg x e
   · rw [List.mem_singleton] at e; subst e; exact ⟨hd0, hd1⟩
 · intro x h0 hx
   show rd (u.opn.set c.toNat _) x = _
   rw [rd_set _ _ _ _ hc.1 (by omega) h0, if_neg hx]
   exact h.oo x h0 hx
 · show rd (u.opn.set c.toNat _) c = ((u.seen ++ [d]).length : Int) - 1
   rw [rd_set _ _ _ _ hc.1 (by omega) hc.1, if_pos rfl, h.oc, w64 _ (by omega) (by omega), List.length_append, List.length_singleton]
   omega
 · intro x h0 h1
   show row (app u.users d c) x = U0 x ++ (if x ∈ u.seen ++ [d] /\ x ≠ c then [c] else [])
   rw [row_app _ _ _ _ hd0 (by omega) h0]
   by_cases e : x = d
   · subst e
     rw [if_pos rfl, h.us x h0 h1, if_neg (fun h => hs h.1), if_pos ⟨by simp, hdc⟩]
     simp
   rw [if_neg e, h.us x h0 h1]
   have : (x ∈ u.seen ++ [d]) ↔ x ∈ u.seen := by simp [e]
   simp only [this]
theorem ed3_run {es : List (List Int)} {cm : List Int} {n c : Int} {O0 : Int -> Int} {U0 : Int -> List Int} (S : Sol es cm n) (hn : es.length < 1000000) (hU : ∀ d, 0 <= d -> d < n -> (U0 d).length <= 1000000) (l : List Int) (hl : ∀ w ∈ l, nd es w) :
 ∀ (m k i : Nat) (u : US), i + m = l.length -> m < k -> J n c O0 U0 u -> ∃ u', ed3 k cm c l i u = some u' /\ J n c O0 U0 u' /\ ∀ x, x ∈ u'.seen ↔ x ∈ u.seen \/ ∃ w ∈ l.drop i, rd cm w = x := by
 intro m
 induction m with
 | zero =>
  intro k i u hi hk hJ
  obtain ⟨k, rfl⟩ : ∃ m, k = m + 1 := ⟨k - 1, by omega⟩
  unfold ed3
  rw [if_neg (by omega)]
  refine ⟨u, rfl, hJ, fun x => ?_⟩
  rw [List.drop_eq_nil_of_le (by omega)]
  simp
 | succ m ih =>
  intro k i u hi hk hJ
  obtain ⟨k, rfl⟩ : ∃ m, k = m + 1 := ⟨k - 1, by omega⟩
  have hil : i < l.length := by omega
  have hw : nd es (rd l i) := hl _ (by rw [rd_at l i hil]; exact List.getElem_mem _)
  have hr := S.rng _ hw
  have hN := S.n0
  have hdrop : l.drop i = rd l i :: l.drop (i + 1) := by rw [rd_at l i hil]; exact List.drop_eq_getElem_cons hil
  have hlen : u.seen.length <= n.toNat := nodup_le _ _ hJ.nd (fun x hx => by have := hJ.rg x hx; omega)
  have hlo := hJ.lo
  have hlu := hJ.lu
  have hcr := hJ.rg c hJ.hc
  unfold ed3
  rw [if_pos (by omega), if_pos ⟨hw.1, by rw [S.len]; exact hw.2, wf_small _ hr.1 (by omega)⟩, show (i : Int) + 1 = ((i + 1 : Nat) : Int) by omega]
  by_cases hs : rd cm (rd l i) ∈ u.seen
  · rw [if_pos (List.contains_iff_mem.2 hs)]
    obtain ⟨u', a1, a2, a3⟩ := ih k (i + 1) u (by omega) (by omega) hJ
    refine ⟨u', a1, a2, fun x => ?_⟩
    rw [a3, hdrop]
    simp only [List.mem_cons, exists_eq_or_imp]
    constructor
    · rintro (h | h)
      · exact .inl h
      · exact .inr (.inr h)
    · rintro (h | h | h)
      · exact .inl h
      · subst h; exact .inl hs
      · exact .inr h
  rw [if_neg (fun h => hs (List.contains_iff_mem.1 h))]
  have hrow := hJ.us _ hr.1 hr.2
  have hrl : (row u.users (rd cm (rd l i))).length <= 1000001 := by
   rw [hrow, List.length_append]
   have := hU _ hr.1 hr.2
   split <;> simp <;> omega
  rw [if_pos ⟨hcr.1, by omega, hr.1, by omega, by omega, by omega⟩]
  obtain ⟨u', a1, a2, a3⟩ := ih k (i + 1) _ (by omega) (by omega) (link_J hJ (by omega) hr.1 hr.2 hs)
  refine ⟨u', a1, a2, fun x => ?_⟩
  rw [a3, hdrop]
  show x ∈ u.seen ++ [rd cm (rd l i)] \/ _ ↔ _
  simp only [List.mem_cons, exists_eq_or_imp, List.mem_append, List.not_mem_nil, or_false]
  constructor
  · rintro ((h | h) | h)
    · exact .inl h
    · exact .inr (.inl h.symm)
    · exact .inr (.inr h)
  · rintro (h | h | h)
    · exact .inl (.inl h)
    · exact .inl (.inr h.symm)
    · exact .inr h
theorem ed2_run {es : List (List Int)} {cm : List Int} {n c : Int} {O0 : Int -> Int} {U0 : Int -> List Int} (hvld : Vld es) (S : Sol es cm n) (hn : es.length < 1000000) {L : Nat} (hL : ∀ v, (row es v).length <= L)
 (hU : ∀ d, 0 <= d -> d < n -> (U0 d).length <= 1000000) (l : List Int) (hl : ∀ w ∈ l, nd es w) :
 ∀ (m k i : Nat) (u : US), i + m = l.length -> m + L + 1 < k -> J n c O0 U0 u -> ∃ u', ed2 k es cm c l i u = some u' /\ J n c O0 U0 u' /\ ∀ x, x ∈ u'.seen ↔ x ∈ u.seen \/ ∃ v ∈ l.drop i, ∃ w ∈ row es v, rd cm w = x := by
 intro m
 induction m with
 | zero =>
  intro k i u hi hk hJ
  obtain ⟨k, rfl⟩ : ∃ m, k = m + 1 := ⟨k - 1, by omega⟩
  unfold ed2
  rw [if_neg (by omega)]
  refine ⟨u, rfl, hJ, fun x => ?_⟩
  rw [List.drop_eq_nil_of_le (by omega)]
  simp
 | succ m ih =>
  intro k i u hi hk hJ
  obtain ⟨k, rfl⟩ : ∃ m, k = m + 1 := ⟨k - 1, by omega⟩
  have hil : i < l.length := by omega
  have hw : nd es (rd l i) := hl _ (by rw [rd_at l i hil]; exact List.getElem_mem _)
  have hdrop : l.drop i = rd l i :: l.drop (i + 1) := by rw [rd_at l i hil]; exact List.drop_eq_getElem_cons hil
  unfold ed2
  rw [if_pos (by omega), if_pos ⟨hw.1, hw.2⟩, show (i : Int) + 1 = ((i + 1 : Nat) : Int) by omega]
  obtain ⟨u1, b1, b2, b3⟩ := ed3_run S hn hU (row es (rd l i)) (hvld _ hw) (row es (rd l i)).length k 0 u (by omega) (by have := hL (rd l i); omega) hJ
  rw [show ((0 : Int)) = ((0 : Nat) : Int) from rfl, b1, Option.bind_some]
  obtain ⟨u', a1, a2, a3⟩ := ih k (i + 1) u1 (by omega) (by omega) b2
  refine ⟨u', a1, a2, fun x => ?_⟩
  rw [a3, b3, hdrop]
  simp only [List.mem_cons, exists_eq_or_imp, List.drop_zero]
  exact or_assoc
structure K1 (es : List (List Int)) (cm : List Int) (n c : Int) (u : US) : Prop where
 lo : (u.opn.length : Int) = n
 lu : (u.users.length : Int) = n
 dn : ∀ d, 0 <= d -> d < c -> ∃ P : List Int, P.Nodup /\ (∀ x, x ∈ P ↔ Dep es cm d x) /\ rd u.opn d = P.length
 op : ∀ d, c <= d -> rd u.opn d = 0
 us : ∀ d, 0 <= d -> d < n -> (row u.users d).Nodup /\ ∀ x, x ∈ row u.users d ↔ (0 <= x /\ x < c) /\ Dep es cm x d
theorem ed1_run {es : List (List Int)} {cm : List Int} {n : Int} {ms : List (List Int)} (hvld : Vld es) (S : Sol es cm n) (hn : es.length < 1000000) {L : Nat} (hL : ∀ v, (row es v).length <= L) (hml : (ms.length : Int) = n) (hms : ∀ c, 0 <= c -> c < n -> row ms c = mem cm c) :
 ∀ (m k i : Nat) (u : US), i + m = ms.length -> m + es.length + L + 2 < k -> K1 es cm n i u -> ∃ u', ed1 k es cm ms i u = some u' /\ K1 es cm n n u' := by
 intro m
 induction m with
 | zero =>
  intro k i u hi hk hJ
  obtain ⟨k, rfl⟩ : ∃ m, k = m + 1 := ⟨k - 1, by omega⟩
  unfold ed1
  rw [if_neg (by omega)]
  exact ⟨u, rfl, by rw [<- hml, show ms.length = i by omega]; rw [<- hml] at hJ; rw [show ms.length = i by omega] at hJ; exact hJ⟩
 | succ m ih =>
  intro k i u hi hk hJ
  obtain ⟨k, rfl⟩ : ∃ m, k = m + 1 := ⟨k - 1, by omega⟩
  have hN := S.n0
  have hi0 : (0 : Int) <= i := by omega
  have hin : (i : Int) < n := by omega
  have hbound : ∀ d, 0 <= d -> d < n -> (row u.users d).length <= 1000000 := fun d h0 h1 => by
   have := nodup_le n.toNat _ (hJ.us d h0 h1).1 (fun x hx => by have := ((hJ.us d h0 h1).2 x).1 hx; omega)
   omega
  have hlm : (row ms (i : Int)).length <= es.length := by rw [hms _ hi0 hin, <- S.len]; exact mem_len _ _
  have hnd : ∀ w ∈ row ms (i : Int), nd es w := fun w hw => by
   rw [hms _ hi0 hin] at hw
   have := (mem_mem.1 hw).1
   rw [S.len] at this
   exact this
  have hJ0 : J n i (rd u.opn) (row u.users) { u with seen := [(i : Int)] } := by
   refine ⟨hJ.lo, hJ.lu, by simp, by simp, ?_, fun _ _ _ => rfl, ?_, ?_⟩
   · intro d hd
     rw [List.mem_singleton] at hd
     subst hd
     exact ⟨hi0, hin⟩
   · show rd u.opn i = _
     rw [hJ.op i (Int.le_refl _)]
     rfl
   · intro d h0 h1
     rw [if_neg (by simp)]
     simp
  unfold ed1
  rw [if_pos (by omega), if_pos (wf_small _ hi0 (by omega))]
  obtain ⟨u1, b1, b2, b3⟩ := ed2_run hvld S hn hL hbound (row ms i) hnd (row ms i).length k 0 _ (by omega) (by omega) hJ0
  rw [show ((0 : Int)) = ((0 : Nat) : Int) from rfl, b1, Option.bind_some, show (i : Int) + 1 = ((i + 1 : Nat) : Int) by omega]
  refine ih k (i + 1) u1 (by omega) (by omega) ?_
  have hseen : ∀ x, x ∈ u1.seen ↔ x = i \/ ∃ v ∈ mem cm i, ∃ w ∈ row es v, rd cm w = x := by
   intro x
   rw [b3, hms _ hi0 hin]
   simp
  have hdep : ∀ x, (x ∈ u1.seen /\ x ≠ i) ↔ Dep es cm i x := by
   intro x
   rw [hseen]
   unfold Dep
   constructor
   · rintro ⟨h | h, hx⟩
     · exact absurd h hx
     · exact ⟨Ne.symm hx, h⟩
   · rintro ⟨hx, h⟩
     exact ⟨.inr h, Ne.symm hx⟩
  refine ⟨b2.lo, b2.lu, ?_, ?_, ?_⟩
  · intro d h0 h1
    by_cases e : d = i
    rotate_left
    · rw [b2.oo d h0 e]
      exact hJ.dn d h0 (by omega)
    subst e
    refine ⟨u1.seen.erase i, b2.nd.erase _, fun x => ?_, ?_⟩
    · rw [b2.nd.mem_erase_iff, <- hdep]
      exact And.comm
    · rw [b2.oc, List.length_erase_of_mem b2.hc]
      have := List.length_pos_of_mem b2.hc
      omega
  · intro d hd
    rw [b2.oo d (by omega) (by omega)]
    exact hJ.op d (by omega)
  · intro d h0 h1
    have hu := hJ.us d h0 h1
    rw [b2.us d h0 h1]
    by_cases hx : d ∈ u1.seen /\ d ≠ i
    rotate_left
    · rw [if_neg hx, List.append_nil]
      refine ⟨hu.1, fun x => ?_⟩
      rw [hu.2]
      constructor
      · rintro ⟨h1, h2⟩; exact ⟨by omega, h2⟩
      · rintro ⟨h1, h2⟩
        refine ⟨?_, h2⟩
        by_cases e : x = i
        rotate_left
        · omega
        subst e; exact absurd ((hdep d).2 h2) hx
    rw [if_pos hx]
    refine ⟨?_, fun x => ?_⟩
    · rw [List.nodup_append]
      refine ⟨hu.1, by simp, fun a ha b hb e => ?_⟩
      rw [List.mem_singleton] at hb
      subst hb; subst e
      have := ((hu.2 _).1 ha).1
      omega
    · rw [List.mem_append, hu.2, List.mem_singleton]
      constructor
      · rintro (h | h)
        · exact ⟨by omega, h.2⟩
        · subst h; exact ⟨by omega, (hdep d).1 hx⟩
      · rintro ⟨h1, h2⟩
        by_cases e : x = i
        · exact .inr e
        exact .inl ⟨by omega, h2⟩
structure Rows (es : List (List Int)) (cm : List Int) (n : Int) (ms : List (List Int)) : Prop where
 len : (ms.length : Int) = n
 row : ∀ c, 0 <= c -> c < n -> row ms c = mem cm c
theorem mem_lt (cm : List Int) (c : Int) : (mem cm c).Pairwise (· < ·) := by
 unfold mem
 exact (iota_lt _).filter _
theorem fine_of {es : List (List Int)} {cm : List Int} {n : Int} {ms : List (List Int)} (S : Sol es cm n) (hn : es.length < 1000000) (R : Rows es cm n ms) {c : Int} (h0 : 0 <= c) (h1 : c < n) :
 Fine ms c /\ (nd es (first ms c) /\ rd cm (first ms c) = c) /\ ∀ v, nd es v -> rd cm v = c -> first ms c <= v := by
 have hl := R.len
 obtain ⟨v, hv, hvc⟩ := S.onto c h0 h1
 have hm : v ∈ row ms c := by rw [R.row c h0 h1, mem_mem, S.len]; exact ⟨hv, hvc⟩
 have hpos := List.length_pos_of_mem hm
 have hf : first ms c ∈ row ms c := rd_mem _ _ (Int.le_refl _) (by omega)
 have hf2 := hf
 rw [R.row c h0 h1, mem_mem, S.len] at hf2
 refine ⟨⟨h0, by omega, hpos, hf2.1.1, by omega⟩, ⟨hf2.1, hf2.2⟩, ?_⟩
 intro u hu huc
 have hum : u ∈ row ms c := by rw [R.row c h0 h1, mem_mem, S.len]; exact ⟨hu, huc⟩
 have hp : (row ms c).Pairwise (· < ·) := by rw [R.row c h0 h1]; exact mem_lt _ _
 unfold first
 generalize row ms c = l at *
 cases l with
 | nil => cases hum
 | cons a l =>
  show a <= u
  rcases List.mem_cons.1 hum with e | e
  · omega
  · have := (List.pairwise_cons.1 hp).1 u e
    omega
theorem first_inj {es : List (List Int)} {cm : List Int} {n : Int} {ms : List (List Int)} (S : Sol es cm n) (hn : es.length < 1000000) (R : Rows es cm n ms) {c d : Int} (h0 : 0 <= c) (h1 : c < n) (k0 : 0 <= d) (k1 : d < n)
 (h : first ms c = first ms d) : c = d := by
 rw [<- (fine_of S hn R h0 h1).2.1.2, <- (fine_of S hn R k0 k1).2.1.2, h]
structure Rdy (ms : List (List Int)) (n : Int) (p : Int -> Prop) (ready : List Int) : Prop where
 mem : ∀ x, x ∈ ready ↔ (0 <= x /\ x < n) /\ p x
 srt : ready.Pairwise fun a b => first ms a < first ms b
theorem ins_sorted {ms : List (List Int)} {c : Int} : ∀ (l : List Int), l.Pairwise (fun a b => first ms a < first ms b) -> (∀ x ∈ l, first ms x ≠ first ms c) ->
 (ins l (pos ms (first ms c) l) c).Pairwise (fun a b => first ms a < first ms b) /\ ∀ x, x ∈ ins l (pos ms (first ms c) l) c ↔ x = c \/ x ∈ l := by
 intro l
 induction l with
 | nil => intro _ _; simp [ins]
 | cons a l ih =>
  intro hp hne
  obtain ⟨h1, h2⟩ := List.pairwise_cons.1 hp
  by_cases ha : first ms a < first ms c
  rotate_left
  · have hca : first ms c < first ms a := by have := hne a (by simp); omega
    have hpos : pos ms (first ms c) (a :: l) = 0 := by
     unfold pos
     rw [List.countP_eq_zero]
     intro x hx
     rcases List.mem_cons.1 hx with e | e
     · rw [e]; simpa using ha
     · have := h1 x e
       simp
       omega
    have hins : ins (a :: l) (pos ms (first ms c) (a :: l)) c = c :: a :: l := by
     rw [hpos]; simp [ins]
    rw [hins]
    refine ⟨List.pairwise_cons.2 ⟨fun x hx => ?_, hp⟩, fun x => List.mem_cons⟩
    rcases List.mem_cons.1 hx with e | e
    · rw [e]; exact hca
    · have := h1 x e; omega
  have hpos : pos ms (first ms c) (a :: l) = pos ms (first ms c) l + 1 := by
   unfold pos
   rw [List.countP_cons, if_pos (by simpa using ha)]
  have hins : ins (a :: l) (pos ms (first ms c) (a :: l)) c = a :: ins l (pos ms (first ms c) l) c := by
   rw [hpos]; simp [ins]
  obtain ⟨i1, i2⟩ := ih h2 (fun x hx => hne x (by simp [hx]))
  rw [hins]
  refine ⟨List.pairwise_cons.2 ⟨fun x hx => ?_, i1⟩, fun x => ?_⟩
  · rcases (i2 x).1 hx with e | e
    · rw [e]; exact ha
    · exact h1 x e
  · rw [List.mem_cons, i2, List.mem_cons]
    constructor
    · rintro (h | h | h)
      · exact .inr (.inl h)
      · exact .inl h
      · exact .inr (.inr h)
    · rintro (h | h | h)
      · exact .inr (.inl h)
      · exact .inl h
      · exact .inr (.inr h)
theorem rdy_len {ms : List (List Int)} {n : Int} {p : Int -> Prop} {ready : List Int} (h : Rdy ms n p ready) : ready.length <= n.toNat :=
 nodup_le _ _ (h.srt.imp (fun h e => by subst e; omega)) (fun x hx => by have := (h.mem x).1 hx; omega)
theorem enter_rdy {es : List (List Int)} {cm : List Int} {n : Int} {ms : List (List Int)} (S : Sol es cm n) (hn : es.length < 1000000) (R : Rows es cm n ms) {p q : Int -> Prop} {ready : List Int} {c : Int} (h : Rdy ms n p ready)
 (h0 : 0 <= c) (h1 : c < n) (hc : ¬ p c) (hq : ∀ x, 0 <= x -> x < n -> (q x ↔ x = c \/ p x)) : ∃ r, enterF ms c ready = some r /\ Rdy ms n q r := by
 have hne : ∀ x ∈ ready, first ms x ≠ first ms c := by
  intro x hx e
  obtain ⟨a, b⟩ := (h.mem x).1 hx
  have := first_inj S hn R a.1 a.2 h0 h1 e
  subst this
  exact hc b
 obtain ⟨i1, i2⟩ := ins_sorted ready h.srt hne
 have hl := rdy_len h
 have hN := S.n0
 refine ⟨_, ?_, ⟨fun x => ?_, i1⟩⟩
 · unfold enterF
   rw [if_pos ⟨(fine_of S hn R h0 h1).1, fun d hd => (fine_of S hn R ((h.mem d).1 hd).1.1 ((h.mem d).1 hd).1.2).1, h.srt.imp (fun h => by omega), by omega⟩]
 · rw [i2]
   constructor
   · rintro (e | e)
     · subst e; exact ⟨⟨h0, h1⟩, (hq x h0 h1).2 (.inl rfl)⟩
     · obtain ⟨a, b⟩ := (h.mem x).1 e
       exact ⟨a, (hq x a.1 a.2).2 (.inr b)⟩
   · rintro ⟨a, b⟩
     rcases (hq x a.1 a.2).1 b with e | e
     · exact .inl e
     · exact .inr ((h.mem x).2 ⟨a, e⟩)
theorem Rdy.congr {ms : List (List Int)} {n : Int} {p q : Int -> Prop} {r : List Int} (h : Rdy ms n p r) (hq : ∀ x, 0 <= x -> x < n -> (q x ↔ p x)) : Rdy ms n q r :=
 ⟨fun x => by
  rw [h.mem]
  exact ⟨fun ⟨a, b⟩ => ⟨a, (hq x a.1 a.2).2 b⟩, fun ⟨a, b⟩ => ⟨a, (hq x a.1 a.2).1 b⟩⟩, h.srt⟩
theorem starts_run {es : List (List Int)} {cm : List Int} {n : Int} {ms : List (List Int)} (S : Sol es cm n) (hn : es.length < 1000000) (R : Rows es cm n ms) (opn : List Int) (ho : (opn.length : Int) = n) :
 ∀ (m k i : Nat) (ready : List Int), (i : Int) + m = n -> m < k -> Rdy ms n (fun x => x < i /\ rd opn x = 0) ready -> ∃ r, starts k ms n i opn ready = some r /\ Rdy ms n (fun x => rd opn x = 0) r := by
 intro m
 induction m with
 | zero =>
  intro k i ready hi hk h
  obtain ⟨k, rfl⟩ : ∃ m, k = m + 1 := ⟨k - 1, by omega⟩
  unfold starts
  rw [if_neg (by omega)]
  exact ⟨ready, rfl, h.congr (fun x h0 h1 => ⟨fun e => ⟨by omega, e⟩, fun e => e.2⟩)⟩
 | succ m ih =>
  intro k i ready hi hk h
  obtain ⟨k, rfl⟩ : ∃ m, k = m + 1 := ⟨k - 1, by omega⟩
  unfold starts
  rw [if_pos (by omega), if_pos ⟨by omega, by omega⟩, show (i : Int) + 1 = ((i + 1 : Nat) : Int) by omega]
  by_cases h0 : rd opn i = 0
  rotate_left
  · rw [if_neg h0]
    refine ih k (i + 1) ready (by omega) (by omega) (h.congr (fun x k0 k1 => ?_))
    constructor
    · rintro ⟨a, b⟩
      by_cases e : x = i
      rotate_left
      · exact ⟨by omega, b⟩
      subst e; exact absurd b h0
    · rintro ⟨a, b⟩
      exact ⟨by omega, b⟩
  rw [if_pos h0]
  obtain ⟨r, a1, a2⟩ := enter_rdy S hn R (c := (i : Int)) (q := fun x => x < ((i + 1 : Nat) : Int) /\ rd opn x = 0) h (by omega) (by omega) (by omega) (fun x k0 k1 => by
   constructor
   · rintro ⟨a, b⟩
     by_cases e : x = i
     · exact .inl e
     exact .inr ⟨by omega, b⟩
   · rintro (e | e)
     · subst e; exact ⟨by omega, h0⟩
     · exact ⟨by omega, e.2⟩)
  rw [a1, Option.bind_some]
  exact ih k (i + 1) r (by omega) (by omega) a2
inductive Seq (es : List (List Int)) (cm : List Int) (n : Int) (ms : List (List Int)) : List Int -> Prop
 | nil : Seq es cm n ms []
 | snoc {D : List Int} {c : Int} : Seq es cm n ms D -> 0 <= c -> c < n -> c ∉ D -> (∀ d, Dep es cm c d -> d ∈ D) -> (∀ x, 0 <= x -> x < n -> x ∉ D -> (∀ d, Dep es cm x d -> d ∈ D) -> first ms c <= first ms x) -> Seq es cm n ms (D ++ [c])
theorem Seq.rng {es : List (List Int)} {cm : List Int} {n : Int} {ms : List (List Int)} {D : List Int} (h : Seq es cm n ms D) : D.Nodup /\ (∀ x ∈ D, 0 <= x /\ x < n) /\ ∀ x ∈ D, ∀ d, Dep es cm x d -> d ∈ D := by
 induction h with
 | nil => simp
 | snoc _ h0 h1 h2 h3 h4 ih =>
  obtain ⟨i1, i2, i3⟩ := ih
  refine ⟨?_, ?_, ?_⟩
  · rw [List.nodup_append]
    exact ⟨i1, by simp, fun a ha b hb e => by rw [List.mem_singleton] at hb; subst hb; subst e; exact h2 ha⟩
  · intro x hx
    rcases List.mem_append.1 hx with e | e
    · exact i2 x e
    · rw [List.mem_singleton] at e; subst e; exact ⟨h0, h1⟩
  · intro x hx d hd
    rcases List.mem_append.1 hx with e | e
    · exact List.mem_append.2 (.inl (i3 x e d hd))
    · rw [List.mem_singleton] at e; subst e; exact List.mem_append.2 (.inl (h3 d hd))
def Cnt (n : Int) (q : Int -> Int -> Prop) (opn : List Int) : Prop := (opn.length : Int) = n /\ ∀ u, 0 <= u -> u < n -> ∃ P : List Int, P.Nodup /\ (∀ x ∈ P, 0 <= x /\ x < n) /\ (∀ x, x ∈ P ↔ q u x) /\ rd opn u = P.length
theorem Cnt.zero {n : Int} {q : Int -> Int -> Prop} {opn : List Int} (h : Cnt n q opn) {u : Int} (h0 : 0 <= u) (h1 : u < n) : rd opn u = 0 ↔ ∀ x, ¬ q u x := by
 obtain ⟨P, _, _, p3, p4⟩ := h.2 u h0 h1
 rw [p4]
 constructor
 · intro h x hx
   have := List.length_pos_of_mem ((p3 x).2 hx)
   omega
 · intro h
   cases P with
   | nil => rfl
   | cons a P => exact absurd ((p3 a).1 (by simp)) (h a)
theorem Cnt.congr {n : Int} {q q' : Int -> Int -> Prop} {opn : List Int} (h : Cnt n q opn) (hq : ∀ u x, 0 <= u -> u < n -> (q' u x ↔ q u x)) : Cnt n q' opn :=
 ⟨h.1, fun u h0 h1 => by
  obtain ⟨P, p1, p2, p3, p4⟩ := h.2 u h0 h1
  exact ⟨P, p1, p2, fun x => by rw [p3, hq u x h0 h1], p4⟩⟩
theorem dec_run {es : List (List Int)} {cm : List Int} {n : Int} {ms : List (List Int)} (S : Sol es cm n) (hn : es.length < 1000000) (R : Rows es cm n ms) {D : List Int} {c : Int} (hcD : c ∉ D) (l : List Int) (hnd : l.Nodup)
 (hl : ∀ x, x ∈ l ↔ (0 <= x /\ x < n) /\ Dep es cm x c) :
 ∀ (m k i : Nat) (opn ready : List Int), i + m = l.length -> m < k -> Cnt n (fun u x => Dep es cm u x /\ x ∉ D /\ (x = c -> u ∉ l.take i)) opn ->
  Rdy ms n (fun x => x ∉ D /\ x ≠ c /\ ∀ d, Dep es cm x d -> d ∈ D \/ (d = c /\ x ∈ l.take i)) ready -> (∀ x ∈ l, x ∉ D) ->
  ∃ opn' ready', dec k ms l i opn ready = some (opn', ready') /\ Cnt n (fun u x => Dep es cm u x /\ x ∉ D ++ [c]) opn' /\ Rdy ms n (fun x => x ∉ D ++ [c] /\ ∀ d, Dep es cm x d -> d ∈ D ++ [c]) ready' := by
 intro m
 induction m with
 | zero =>
  intro k i opn ready hi hk hc hr hlD
  obtain ⟨k, rfl⟩ : ∃ m, k = m + 1 := ⟨k - 1, by omega⟩
  unfold dec
  rw [if_neg (by omega)]
  have ht : l.take i = l := List.take_of_length_le (by omega)
  rw [ht] at hc hr
  refine ⟨opn, ready, rfl, hc.congr (fun u x h0 h1 => ?_), hr.congr (fun x h0 h1 => ?_)⟩
  · simp only [List.mem_append, List.mem_singleton, not_or]
    constructor
    · rintro ⟨a, b, d⟩; exact ⟨a, b, fun e => absurd e d⟩
    · rintro ⟨a, b, d⟩
      refine ⟨a, b, fun e => ?_⟩
      subst e
      exact d rfl ((hl u).2 ⟨⟨h0, h1⟩, a⟩)
  · simp only [List.mem_append, List.mem_singleton, not_or]
    constructor
    · rintro ⟨⟨a, b⟩, d⟩
      refine ⟨a, b, fun e he => ?_⟩
      rcases d e he with h | h
      · exact .inl h
      · subst h; exact .inr ⟨rfl, (hl x).2 ⟨⟨h0, h1⟩, he⟩⟩
    · rintro ⟨a, b, d⟩
      refine ⟨⟨a, b⟩, fun e he => ?_⟩
      rcases d e he with h | h
      · exact .inl h
      · exact .inr h.1
 | succ m ih =>
  intro k i opn ready hi hk hc hr hlD
  obtain ⟨k, rfl⟩ : ∃ m, k = m + 1 := ⟨k - 1, by omega⟩
  have hil : i < l.length := by omega
  have hN := S.n0
  have hum : rd l i ∈ l := by rw [rd_at l i hil]; exact List.getElem_mem _
  obtain ⟨hu, hdep⟩ := (hl _).1 hum
  have htake : l.take (i + 1) = l.take i ++ [rd l i] := by rw [rd_at l i hil]; exact List.take_succ_eq_append_getElem hil
  have hnt : rd l i ∉ l.take i := by
   intro h
   have h2 : (l.take (i + 1)).Nodup := hnd.sublist (List.take_sublist _ _)
   rw [htake, List.nodup_append] at h2
   exact h2.2.2 _ h _ (by simp) rfl
  obtain ⟨P, p1, p2, p3, p4⟩ := hc.2 _ hu.1 hu.2
  have hlen := hc.1
  have hcP : c ∈ P := (p3 c).2 ⟨hdep, hcD, fun _ => hnt⟩
  have hPl : P.length <= n.toNat := nodup_le _ _ p1 (fun x hx => by have := p2 x hx; omega)
  have hP0 := List.length_pos_of_mem hcP
  generalize hud : rd l i = u at *
  have hw : wrap64 (rd opn u - 1) = rd opn u - 1 := w64 _ (by omega) (by omega)
  have hc2 : Cnt n (fun u x => Dep es cm u x /\ x ∉ D /\ (x = c -> u ∉ l.take (i + 1))) (opn.set u.toNat (wrap64 (rd opn u - 1))) := by
   refine ⟨by rw [List.length_set]; exact hlen, fun y h0 h1 => ?_⟩
   rw [hw, rd_set _ _ _ _ hu.1 (by omega) h0]
   by_cases e : y = u
   rotate_left
   · rw [if_neg e]
     obtain ⟨P', q1, q2, q3, q4⟩ := hc.2 y h0 h1
     refine ⟨P', q1, q2, fun x => ?_, q4⟩
     rw [q3, htake]
     simp only [List.mem_append, List.mem_singleton, e, or_false]
   subst e
   refine ⟨P.erase c, p1.erase _, fun x hx => p2 x (List.mem_of_mem_erase hx), fun x => ?_, ?_⟩
   · rw [p1.mem_erase_iff, p3, htake]
     simp only [List.mem_append, List.mem_singleton]
     constructor
     · rintro ⟨a, b, d, _⟩; exact ⟨b, d, fun e => absurd e a⟩
     · rintro ⟨a, b, d⟩
       refine ⟨fun e => d e (.inr trivial), a, b, fun e => absurd e (fun e => d e (.inr trivial))⟩
   · rw [if_pos rfl, List.length_erase_of_mem hcP]
     omega
  have hz := hc2.zero hu.1 hu.2
  unfold dec
  rw [if_pos (by omega), hud, if_pos ⟨hu.1, by omega⟩, show (i : Int) + 1 = ((i + 1 : Nat) : Int) by omega]
  by_cases h0 : rd (opn.set u.toNat (wrap64 (rd opn u - 1))) u = 0
  rotate_left
  · rw [if_neg h0]
    have hsome : ∃ x, Dep es cm u x /\ x ∉ D /\ x ≠ c := by
     refine Classical.byContradiction fun hno => h0 (hz.2 fun x hx => hno ⟨x, hx.1, hx.2.1, fun e => ?_⟩)
     exact hx.2.2 e (by rw [htake]; simp)
    refine ih k (i + 1) _ ready (by omega) (by omega) hc2 (hr.congr (fun x k0 k1 => ?_)) hlD
    rw [htake]
    constructor
    · rintro ⟨a, b, d⟩
      refine ⟨a, b, fun y hy => ?_⟩
      rcases d y hy with h | ⟨h, h2⟩
      · exact .inl h
      · rcases List.mem_append.1 h2 with h3 | h3
        · exact .inr ⟨h, h3⟩
        · rw [List.mem_singleton] at h3
          subst h3
          obtain ⟨z, z1, z2, z3⟩ := hsome
          rcases d z z1 with h4 | h4
          · exact absurd h4 z2
          · exact absurd h4.1 z3
    · rintro ⟨a, b, d⟩
      refine ⟨a, b, fun y hy => ?_⟩
      rcases d y hy with h | ⟨h, h2⟩
      · exact .inl h
      · exact .inr ⟨h, List.mem_append.2 (.inl h2)⟩
  rw [if_pos h0]
  have hnone := hz.1 h0
  obtain ⟨r, a1, a2⟩ := enter_rdy S hn R (c := u) (q := fun x => x ∉ D /\ x ≠ c /\ ∀ d, Dep es cm x d -> d ∈ D \/ (d = c /\ x ∈ l.take (i + 1))) hr hu.1 hu.2
   (fun h => by
    rcases h.2.2 c hdep with e | e
    · exact hcD e
    · exact hnt e.2)
   (fun x k0 k1 => by
    rw [htake]
    constructor
    · rintro ⟨a, b, d⟩
      by_cases e : x = u
      · exact .inl e
      refine .inr ⟨a, b, fun y hy => ?_⟩
      rcases d y hy with h | ⟨h, h2⟩
      · exact .inl h
      · rcases List.mem_append.1 h2 with h3 | h3
        · exact .inr ⟨h, h3⟩
        · exact absurd (List.mem_singleton.1 h3) e
    · rintro (e | ⟨a, b, d⟩)
      · subst e
        refine ⟨hlD x hum, fun e => hdep.1 e, fun y hy => ?_⟩
        by_cases e : y ∈ D
        · exact .inl e
        by_cases e2 : y = c
        · exact .inr ⟨e2, by simp⟩
        exact absurd ⟨hy, e, fun e3 => absurd e3 e2⟩ (hnone y)
      · refine ⟨a, b, fun y hy => ?_⟩
        rcases d y hy with h | ⟨h, h2⟩
        · exact .inl h
        · exact .inr ⟨h, List.mem_append.2 (.inl h2)⟩)
  rw [a1, Option.bind_some]
  exact ih k (i + 1) _ r (by omega) (by omega) hc2 a2 hlD
theorem dep_lt {es : List (List Int)} {cm : List Int} {n : Int} (S : Sol es cm n) (hvld : Vld es) {x d : Int} (h : Dep es cm x d) : 0 <= d /\ d < x := by
 obtain ⟨h1, v, hv, w, hw, rfl⟩ := h
 obtain ⟨a, b⟩ := mem_mem.1 hv
 rw [S.len] at a
 have h2 := S.back v a w hw
 have h3 := S.rng w (hvld v a w hw)
 omega
theorem ready_ex {es : List (List Int)} {cm : List Int} {n : Int} (S : Sol es cm n) (hvld : Vld es) (D : List Int) : ∀ (m : Nat) (x : Int), x = m -> x < n -> x ∉ D -> ∃ y, 0 <= y /\ y < n /\ y ∉ D /\ ∀ d, Dep es cm y d -> d ∈ D := by
 intro m
 induction m using Nat.strongRecOn with
 | ind m ih =>
  intro x hx hxn hxD
  by_cases h : ∀ d, Dep es cm x d -> d ∈ D
  · exact ⟨x, by omega, hxn, hxD, h⟩
  obtain ⟨d, hd⟩ := Classical.not_forall.1 h
  obtain ⟨h1, h2⟩ := Classical.not_imp.1 hd
  have := dep_lt S hvld h1
  exact ih d.toNat (by omega) d (by omega) (by omega) h2
theorem drain_run {es : List (List Int)} {cm : List Int} {n : Int} {ms users : List (List Int)} (S : Sol es cm n) (hn : es.length < 1000000) (R : Rows es cm n ms) (hvld : Vld es) (hul : (users.length : Int) = n)
 (hus : ∀ d, 0 <= d -> d < n -> (row users d).Nodup /\ ∀ x, x ∈ row users d ↔ (0 <= x /\ x < n) /\ Dep es cm x d) :
 ∀ (m k : Nat) (D opn ready : List Int), D.length + m = n.toNat -> m + n.toNat + 1 < k -> Seq es cm n ms D -> Cnt n (fun u x => Dep es cm u x /\ x ∉ D) opn -> Rdy ms n (fun x => x ∉ D /\ ∀ d, Dep es cm x d -> d ∈ D) ready ->
  ∃ D', Od.drain k ms users opn ready (D.map (row ms)) = some (D'.map (row ms)) /\ Seq es cm n ms D' /\ ∀ c, 0 <= c -> c < n -> c ∈ D' := by
 intro m
 induction m with
 | zero =>
  intro k D opn ready hm hk hD hc hr
  obtain ⟨k, rfl⟩ : ∃ m, k = m + 1 := ⟨k - 1, by omega⟩
  obtain ⟨d1, d2, d3⟩ := hD.rng
  have hall : ∀ c, 0 <= c -> c < n -> c ∈ D := by
   intro c h0 h1
   refine Classical.byContradiction fun hcD => ?_
   have := nodup_le n.toNat (c :: D) (List.nodup_cons.2 ⟨hcD, d1⟩) (fun x hx => by
    rcases List.mem_cons.1 hx with e | e
    · omega
    · have := d2 x e; omega)
   simp at this
   omega
  have hr0 : ready = [] := by
   cases ready with
   | nil => rfl
   | cons a l =>
    obtain ⟨⟨h0, h1⟩, h2, _⟩ := (hr.mem a).1 (by simp)
    exact absurd (hall a h0 h1) h2
  subst hr0
  refine ⟨D, ?_, hD, hall⟩
  unfold Od.drain
  rw [if_neg (by simp)]
 | succ m ih =>
  intro k D opn ready hm hk hD hc hr
  obtain ⟨k, rfl⟩ : ∃ m, k = m + 1 := ⟨k - 1, by omega⟩
  obtain ⟨d1, d2, d3⟩ := hD.rng
  have hN := S.n0
  have hml := R.len
  cases ready with
  | nil =>
   refine ⟨D, by unfold Od.drain; rw [if_neg (by simp)], hD, fun c h0 h1 => ?_⟩
   refine Classical.byContradiction fun hcD => ?_
   obtain ⟨y, y0, y1, y2, y3⟩ := ready_ex S hvld D c.toNat c (by omega) h1 hcD
   have := (hr.mem y).2 ⟨⟨y0, y1⟩, y2, y3⟩
   cases this
  | cons c rest =>
   obtain ⟨⟨c0, c1⟩, c2, c3⟩ := (hr.mem c).1 (by simp)
   obtain ⟨s1, s2⟩ := List.pairwise_cons.1 hr.srt
   have hu := hus c c0 c1
   have hul2 := nodup_le n.toNat _ hu.1 (fun x hx => by have := ((hu.2 x).1 hx).1; omega)
   have hnc : ∀ x ∈ row users c, x ∉ D := by
    intro x hx hxD
    exact c2 (d3 x hxD c ((hu.2 x).1 hx).2)
   have hrest : Rdy ms n (fun x => x ∉ D /\ x ≠ c /\ ∀ d, Dep es cm x d -> d ∈ D \/ (d = c /\ x ∈ (row users c).take 0)) rest := by
    refine ⟨fun x => ?_, s2⟩
    constructor
    · intro hx
      obtain ⟨a, b, d⟩ := (hr.mem x).1 (List.mem_cons.2 (.inr hx))
      refine ⟨a, b, fun e => ?_, fun y hy => .inl (d y hy)⟩
      subst e
      have := s1 x hx
      omega
    · rintro ⟨a, b, e, d⟩
      rcases List.mem_cons.1 ((hr.mem x).2 ⟨a, b, fun y hy => by
       rcases d y hy with h | h
       · exact h
       · have := h.2; simp at this⟩) with h | h
      · exact absurd h e
      · exact h
   obtain ⟨opn', ready', e1, e2, e3⟩ := dec_run S hn R c2 (row users c) hu.1 hu.2 (row users c).length k 0 opn rest (by omega) (by omega)
    (hc.congr (fun u x _ _ => by simp)) hrest hnc
   have hseq : Seq es cm n ms (D ++ [c]) := by
    refine .snoc hD c0 c1 c2 c3 fun x h0 h1 h2 h3 => ?_
    rcases List.mem_cons.1 ((hr.mem x).2 ⟨⟨h0, h1⟩, h2, h3⟩) with e | e
    · rw [e]; exact Int.le_refl _
    · exact Int.le_of_lt (s1 x e)
   obtain ⟨D', f1, f2, f3⟩ := ih k (D ++ [c]) opn' ready' (by simp; omega) (by omega) hseq e2 e3
   refine ⟨D', ?_, f2, f3⟩
   unfold Od.drain
   have hrd : rd (c :: rest) 0 = c := rfl
   rw [if_pos (by simp), hrd, if_pos ⟨c0, by omega, by omega, by simp; omega⟩]
   show (dec k ms (row users c) ((0 : Nat) : Int) opn rest).bind _ = _
   rw [e1, Option.bind_some]
   rw [List.map_append] at f1
   exact f1
theorem ordered_run {es : List (List Int)} (hvld : Vld es) {L : Nat} (hL : ∀ v, (row es v).length <= L) (hn : es.length < 1000000) (k : Nat) (hk : es.length * (L + 2) + 3 * es.length + L + 9 <= k) :
 ∃ cm n ms D, Sol es cm n /\ Rows es cm n ms /\ orderedF k es = some (D.map (row ms)) /\ Seq es cm n ms D /\ ∀ c, 0 <= c -> c < n -> c ∈ D := by
 obtain ⟨cm, n, h1, S⟩ := strong_sol hvld hL hn k (by omega)
 have hN := S.n0
 have hlen := S.len
 obtain ⟨ms, g1, g2, g3⟩ := grp_run S hn cm.length k 0 (List.replicate n.toNat []) (by omega) (by omega) (by simp; omega) (fun c h0 h1 => by rw [row_rep]; rfl)
 have R : Rows es cm n ms := ⟨g2, g3⟩
 obtain ⟨u, u1, u2⟩ := ed1_run hvld S hn hL g2 g3 ms.length k 0 { opn := List.replicate n.toNat 0, users := List.replicate n.toNat [], seen := [] } (by omega) (by omega)
  ⟨by simp; omega, by simp; omega, fun d h0 h1 => by omega, fun d _ => rd_rep0 _ _, fun d h0 h1 => by rw [row_rep]; simp; omega⟩
 have hcnt : Cnt n (fun u x => Dep es cm u x) u.opn := ⟨u2.lo, fun d h0 h1 => by
  obtain ⟨P, p1, p2, p3⟩ := u2.dn d h0 h1
  exact ⟨P, p1, fun x hx => by have := dep_lt S hvld ((p2 x).1 hx); omega, p2, p3⟩⟩
 obtain ⟨ready, r1, r2⟩ := starts_run S hn R u.opn u2.lo n.toNat k 0 [] (by omega) (by omega) ⟨fun x => by simp; omega, List.Pairwise.nil⟩
 obtain ⟨D, d1, d2, d3⟩ := drain_run S hn R hvld u2.lu u2.us n.toNat k [] u.opn ready (by simp) (by omega) .nil (hcnt.congr (fun _ _ _ _ => by simp)) (r2.congr (fun x h0 h1 => by rw [hcnt.zero h0 h1]; simp))
 refine ⟨cm, n, ms, D, S, R, ?_, d2, d3⟩
 unfold orderedF
 rw [h1, Option.bind_some]
 show (if 0 <= n /\ n < 5864062014805 then _ else none) = _
 rw [if_pos (by omega)]
 show (grp k cm ((0 : Nat) : Int) _).bind _ = _
 rw [g1, Option.bind_some]
 show (ed1 k es cm ms ((0 : Nat) : Int) _).bind _ = _
 rw [u1, Option.bind_some]
 show (starts k ms n ((0 : Nat) : Int) u.opn []).bind _ = _
 rw [r1, Option.bind_some]
 exact d1
end Tp
end Go.Proofs.Ytpmjpngmmphkmaa
namespace Go.Proofs.Ytpmjpngmmphkmaa
open Go.RowKit Go.Proofs.Yw.A Go.Proofs.Yw.B Go.Proofs.Yw.C Go.Proofs.Ytpmjpngmmphkmaa.P
namespace Tp
open Tj Rw Od
theorem succ_cast (i : Nat) (h : i < 1000000000) : wrap64 ((i : Int) + 1) = ((i + 1 : Nat) : Int) := by
 rw [w64 _ (by omega) (by omega)]
 omega
theorem L1_row (l : List (List Int)) (i : Int) : rd_L1 l i = row l i := rfl
theorem row_in (l : List (List Int)) (i : Nat) (h : i < l.length) : row l (i : Int) ∈ l := by
 rw [row_mem l i h]
 exact List.getElem_mem _
def Sm (l : List (List Int)) : Prop := l.length <= 60 /\ ∀ j : Nat, j < l.length -> (row l j).length <= 2000
theorem Sm.row {l : List (List Int)} (h : Sm l) (v : Int) : (row l v).length <= 2000 := by
 by_cases hv : v.toNat < l.length
 rotate_left
 · unfold Tj.row
   rw [List.getD_eq_getElem?_getD, List.getElem?_eq_none (by omega)]
   simp
 have := h.2 v.toNat hv
 unfold Tj.row at *
 rw [Int.toNat_natCast] at this
 exact this
def okn (n : Nat) (w : Int) : Bool := decide (0 <= w) && decide (w < n)
def vldB (l : List (List Int)) : Bool := l.all fun r => r.all (okn l.length)
theorem vldB_iff (l : List (List Int)) : vldB l = true ↔ Vld l := by
 unfold vldB Vld nd
 rw [List.all_eq_true]
 constructor
 · intro h v hv w hw
   obtain ⟨i, rfl⟩ := Int.eq_ofNat_of_zero_le hv.1
   have := List.all_eq_true.1 (h _ (row_in l i (by omega))) w hw
   simpa [okn] using this
 · intro h r hr
   obtain ⟨i, hi, rfl⟩ := List.mem_iff_getElem.1 hr
   rw [List.all_eq_true]
   intro w hw
   rw [<- row_mem l i hi] at hw
   have := h i ⟨by omega, by omega⟩ w hw
   simpa [okn] using this
theorem drop_row (r : List Int) (j : Nat) (hj : j < r.length) : r.drop j = rd r j :: r.drop (j + 1) := by
 rw [rd_at r j hj]
 exact List.drop_eq_getElem_cons hj
theorem drop_rows (l : List (List Int)) (i : Nat) (hi : i < l.length) : l.drop i = row l i :: l.drop (i + 1) := by
 rw [row_mem l i hi]
 exact List.drop_eq_getElem_cons hi
theorem rv_in (l : List (List Int)) (hs : Sm l) (i : Nat) (hi : i < l.length) (ih : ∀ i' : Nat, i' = i + 1 -> Ev (fun k => lazycref09_Valid.l0 k (i' : Int) l) ((l.drop i').all fun r => r.all (okn l.length))) : ∀ (m j : Nat), j + m = (row l i).length ->
 Ev (fun k => lazycref09_Valid.l1 k i j l) (((row l i).drop j).all (okn l.length) && (l.drop (i + 1)).all fun r => r.all (okn l.length)) := by
 have hrl := hs.2 i hi
 have hl := hs.1
 intro m
 induction m with
 | zero =>
  intro j hj
  refine Ev.step (fun k => ?_) (by rw [List.drop_eq_nil_of_le (by omega), List.all_nil, Bool.true_and]; exact ih _ rfl)
  simp only [lazycref09_Valid.l1]
  rw [L1_row]
  rw [if_pos (show (0 : Int) <= (i : Int) by omega), if_pos (show (i : Int) < (l.length : Int) by omega), if_neg (show ¬ (j : Int) < ((row l i).length : Int) by omega), succ_cast i (by omega)]
 | succ m ihm =>
  intro j hj
  have hjl : j < (row l i).length := by omega
  rw [drop_row _ j hjl, List.all_cons]
  by_cases hw : okn l.length (rd (row l i) j) = true
  · rw [hw, Bool.true_and]
    have hw2 : 0 <= rd (row l i) j /\ rd (row l i) j < l.length := by simpa [okn] using hw
    refine Ev.step (fun k => ?_) (ihm (j + 1) (by omega))
    simp only [lazycref09_Valid.l1]
    rw [L1_row]
    rw [if_pos (show (0 : Int) <= (i : Int) by omega), if_pos (show (i : Int) < (l.length : Int) by omega), if_pos (show (j : Int) < ((row l i).length : Int) by omega), if_pos (show (0 : Int) <= (j : Int) by omega), if_neg (by omega), if_neg (by omega), succ_cast j (by omega)]
  have hf : okn l.length (rd (row l i) j) = false := by simpa using hw
  rw [hf, Bool.false_and, Bool.false_and]
  have hw2 : ¬ (0 <= rd (row l i) j /\ rd (row l i) j < l.length) := by simpa [okn] using hw
  refine Ev.step (fun k => ?_) (Ev.now _)
  simp only [lazycref09_Valid.l1]
  rw [L1_row]
  rw [if_pos (show (0 : Int) <= (i : Int) by omega), if_pos (show (i : Int) < (l.length : Int) by omega), if_pos (show (j : Int) < ((row l i).length : Int) by omega), if_pos (show (0 : Int) <= (j : Int) by omega)]
  by_cases h0 : rd (row l i) j < 0
  · rw [if_pos h0]
  rw [if_neg h0, if_pos (by omega)]
theorem rv_out (l : List (List Int)) (hs : Sm l) : ∀ (m i : Nat), i + m = l.length -> Ev (fun k => lazycref09_Valid.l0 k i l) ((l.drop i).all fun r => r.all (okn l.length)) := by
 have hl := hs.1
 intro m
 induction m with
 | zero =>
  intro i hi
  rw [List.drop_eq_nil_of_le (by omega)]
  refine Ev.step (fun k => ?_) (Ev.now _)
  simp only [lazycref09_Valid.l0]
  rw [if_neg (by omega)]
  rfl
 | succ m ih =>
  intro i hi
  have hil : i < l.length := by omega
  have h := rv_in l hs i hil (fun i' e => ih i' (by omega)) (row l i).length 0 (by omega)
  rw [drop_rows l i hil, List.all_cons]
  refine Ev.step (fun k => ?_) h
  simp only [lazycref09_Valid.l0, L1_row]
  rw [if_pos (by omega)]
  rfl
theorem rv_ev (l : List (List Int)) (hs : Sm l) : Ev (fun k => lazycref09_Valid.f k l) (vldB l) := rv_out l hs l.length 0 (by omega)
end Tp
end Go.Proofs.Ytpmjpngmmphkmaa
namespace Go.Proofs.Ytpmjpngmmphkmaa
open Go.RowKit Go.Proofs.Yw.A Go.Proofs.Yw.B Go.Proofs.Yw.C Go.Proofs.Ytpmjpngmmphkmaa.P
namespace Tp
open Tj Rw Od
open Classical
theorem rdOf_set (l : List Bool) (u v : Int) (hu : 0 <= u) (hl : u < l.length) (hv : 0 <= v) : rdOf false (l.set u.toNat true) v = if v = u then true else rdOf false l v := by
 unfold rdOf
 rw [List.getD_eq_getElem?_getD, List.getElem?_set, List.getD_eq_getElem?_getD]
 by_cases h : v = u
 rotate_left
 · rw [if_neg (by omega), if_neg h]
 subst h
 rw [if_pos rfl, if_pos (by omega), if_pos rfl]
 rfl
theorem rdOf_at (l : List Bool) (i : Nat) (h : i < l.length) : rdOf false l (i : Int) = l[i] := by
 unfold rdOf
 rw [Int.toNat_natCast, List.getD_eq_getElem?_getD, List.getElem?_eq_getElem h]
 rfl
theorem count_setB (l : List Bool) (u : Int) (hu : 0 <= u) (hl : u < l.length) (h0 : rdOf false l u = false) : (l.set u.toNat true).count false + 1 = l.count false := by
 obtain ⟨i, rfl⟩ := Int.eq_ofNat_of_zero_le hu
 rw [rdOf_at l i (by omega)] at h0
 have hi : i < l.length := by omega
 have h1 : 0 < l.count false := List.count_pos_iff.2 (h0 ▸ List.getElem_mem hi)
 show (l.set i true).count false + 1 = l.count false
 rw [List.count_set hi]
 simp [h0]
 omega
theorem meas {c c' t y r M : Nat} (h : c' + 1 = c) (h1 : c * 2001 + t <= M + 1) (h2 : y + 1 = t) (h3 : r <= 2000) : c' * 2001 + (y + r) <= M := by
 rw [<- h, Nat.add_mul, Nat.one_mul] at h1
 generalize c' * 2001 = q at h1 ⊢
 omega
noncomputable def rch (l : List (List Int)) (starts : List Int) : List Bool := (iota l.length).map fun v => decide (∃ s ∈ starts, Rc l s v)
theorem rch_len (l : List (List Int)) (starts : List Int) : (rch l starts).length = l.length := by simp [rch, iota_length]
theorem rch_at (l : List (List Int)) (starts : List Int) (v : Int) (h : nd l v) : rdOf false (rch l starts) v = decide (∃ s ∈ starts, Rc l s v) := by
 obtain ⟨i, rfl⟩ := Int.eq_ofNat_of_zero_le h.1
 have hi : i < l.length := by have := h.2; omega
 rw [rdOf_at _ i (by rw [rch_len]; exact hi)]
 simp [rch, iota]
theorem rc_nd {l : List (List Int)} (hv : Vld l) {a b : Int} (h : Rc l a b) (ha : nd l a) : nd l b := by
 induction h with
 | refl => exact ha
 | tail _ h2 ih => exact hv _ ih _ h2
theorem rch_eq {l : List (List Int)} (hv : Vld l) {starts : List Int} (hst : ∀ s ∈ starts, nd l s) {seen : List Bool} (hlen : seen.length = l.length) (hs : ∀ v, nd l v -> rdOf false seen v = true -> ∃ s ∈ starts, Rc l s v)
 (hc : ∀ v, nd l v -> rdOf false seen v = true -> ∀ w ∈ row l v, rdOf false seen w = true) (h0 : ∀ s ∈ starts, rdOf false seen s = true) : seen = rch l starts := by
 refine List.ext_getElem (by rw [rch_len, hlen]) fun i h1 h2 => ?_
 have hnd : nd l (i : Int) := ⟨by omega, by omega⟩
 rw [<- rdOf_at seen i h1, <- rdOf_at _ i h2, rch_at l starts i hnd]
 by_cases h : ∃ s ∈ starts, Rc l s i
 rotate_left
 · rw [decide_eq_false h]
   exact Bool.eq_false_iff.2 fun e => h (hs _ hnd e)
 rw [decide_eq_true h]
 obtain ⟨s, hsm, hr⟩ := h
 have key : ∀ b, Rc l s b -> nd l b /\ rdOf false seen b = true := by
  intro b hb
  induction hb with
  | refl => exact ⟨hst s hsm, h0 s hsm⟩
  | tail _ h2 ih => exact ⟨hv _ ih.1 _ h2, hc _ ih.1 ih.2 _ h2⟩
 exact (key _ hr).2
noncomputable def rchL (l : List (List Int)) (starts : List Int) : List Int := (iota l.length).filter fun v => decide (∃ s ∈ starts, Rc l s v)
theorem mem_rchL {l : List (List Int)} {starts : List Int} {x : Int} : x ∈ rchL l starts ↔ nd l x /\ ∃ s ∈ starts, Rc l s x := by
 unfold rchL nd
 rw [List.mem_filter, mem_iota]
 simp
theorem rchL_len (l : List (List Int)) (starts : List Int) : (rchL l starts).length <= l.length := by
 unfold rchL
 exact Nat.le_trans (List.length_filter_le _ _) (by rw [iota_length]; exact Nat.le_refl _)
theorem last_take (todo : List Int) (h : 0 < todo.length) : rd todo ((todo.length : Int) - 1) ∈ todo /\ todo = todo.take (todo.length - 1) ++ [rd todo ((todo.length : Int) - 1)] := by
 rw [show ((todo.length : Int) - 1) = ((todo.length - 1 : Nat) : Int) by omega, rd_at _ _ (by omega)]
 refine ⟨List.getElem_mem _, ?_⟩
 rw [<- List.take_succ_eq_append_getElem (by omega), List.take_of_length_le (by omega)]
theorem filt_snoc (p : Int -> Bool) (i : Nat) : (iota (i + 1)).filter p = (iota i).filter p ++ (if p i = true then [(i : Int)] else []) := by
 rw [iota_succ, List.filter_append]
 by_cases h : p i = true <;> simp [h]
theorem filt_len (p : Int -> Bool) (i : Nat) : ((iota i).filter p).length <= i := Nat.le_trans (List.length_filter_le _ _) (by rw [iota_length]; exact Nat.le_refl _)
theorem rchL_eq (l : List (List Int)) (starts : List Int) : (iota (rch l starts).length).filter (rdOf false (rch l starts)) = rchL l starts := by
 rw [rch_len]
 unfold rchL
 refine List.filter_congr fun x hx => ?_
 rw [mem_iota] at hx
 exact rch_at l starts x hx
noncomputable def reachM (l : List (List Int)) (i : Int) : List Int := if Vld l /\ nd l i then rchL l [i] else []
theorem contains_rchL' {l : List (List Int)} {i : Int} (hi : nd l i) (x : Int) (hx : nd l x) : (rchL l [i]).contains x = decide (Rc l i x) := by
 rw [Bool.eq_iff_iff, List.contains_iff_mem, mem_rchL, decide_eq_true_iff]
 simp [hx]
theorem reachM_eq' {l : List (List Int)} {i : Int} (hv : Vld l) (hi : nd l i) : reachM l i = rchL l [i] := by
 unfold reachM
 rw [if_pos ⟨hv, hi⟩]
theorem nodup_sub : ∀ (a b : List Int), a.Nodup -> (∀ x ∈ a, x ∈ b) -> a.length <= b.length := by
 intro a
 induction a with
 | nil => intro b _ _; exact Nat.zero_le _
 | cons x a ih =>
  intro b hd h
  obtain ⟨h1, h2⟩ := List.nodup_cons.1 hd
  have hx := h x (by simp)
  have := ih (b.erase x) h2 (fun y hy => by
   have hne : y ≠ x := by rintro rfl; exact h1 hy
   exact (List.mem_erase_of_ne hne).2 (h y (by simp [hy])))
  rw [List.length_erase_of_mem hx] at this
  have := List.length_pos_of_mem hx
  rw [List.length_cons]
  omega
noncomputable def scc (es : List (List Int)) (m : Int) : List Int := (iota es.length).filter fun x => decide (Rc es m x /\ Rc es x m)
theorem mem_scc {es : List (List Int)} {m x : Int} : x ∈ scc es m ↔ nd es x /\ Rc es m x /\ Rc es x m := by
 unfold scc nd
 rw [List.mem_filter, mem_iota]
 simp
theorem scc_lt (es : List (List Int)) (m : Int) : (scc es m).Pairwise (· < ·) := (iota_lt _).filter _
def Ready (es : List (List Int)) (o : List (List Int)) (m : Int) : Prop := ∀ x, Rc es m x -> x ∈ o.flatten \/ Rc es x m
def Next (es : List (List Int)) (o : List (List Int)) (c : List Int) : Prop :=
 ∃ m, nd es m /\ m ∉ o.flatten /\ Ready es o m /\ (∀ x, nd es x -> x ∉ o.flatten -> Ready es o x -> m <= x) /\ c = scc es m
inductive Kahn (es : List (List Int)) : List (List Int) -> Prop
 | nil : Kahn es []
 | snoc {o : List (List Int)} {c : List Int} : Kahn es o -> Next es o c -> Kahn es (o ++ [c])
def Full (es : List (List Int)) (o : List (List Int)) : Prop := Kahn es o /\ ∀ v, nd es v -> v ∈ o.flatten
theorem next_unique {es o : List (List Int)} {c d : List Int} (h : Next es o c) (k : Next es o d) : c = d := by
 obtain ⟨m, m1, m2, m3, m4, rfl⟩ := h
 obtain ⟨x, x1, x2, x3, x4, rfl⟩ := k
 have h1 := m4 x x1 x2 x3
 have h2 := x4 m m1 m2 m3
 have : m = x := by omega
 rw [this]
theorem kahn_next {es o : List (List Int)} (h : Kahn es o) : ∀ i (hi : i < o.length), Next es (o.take i) o[i] := by
 induction h with
 | nil => intro i hi; cases hi
 | @snoc o c h1 h2 ih =>
  intro i hi
  rw [List.length_append, List.length_singleton] at hi
  by_cases e : i < o.length
  · rw [List.take_append_of_le_length (by omega), List.getElem_append_left e]
    exact ih i e
  have : i = o.length := by omega
  subst this
  simp only [List.take_left, List.getElem_concat_length]
  exact h2
theorem kahn_prefix {es o : List (List Int)} (h : Kahn es o) : ∀ o', Kahn es o' -> o.length <= o'.length -> o = o'.take o.length := by
 induction h with
 | nil => intro o' _ _; simp
 | @snoc o c h1 h2 ih =>
  intro o' ho hl
  rw [List.length_append, List.length_singleton] at hl ⊢
  have e := ih o' ho (by omega)
  have hn := kahn_next ho o.length (by omega)
  rw [<- e] at hn
  rw [List.take_succ_eq_append_getElem (by omega), <- e, next_unique h2 hn]
theorem full_unique {es o o' : List (List Int)} (h : Full es o) (k : Full es o') : o = o' := by
 have key : ∀ {a b : List (List Int)}, Full es a -> Full es b -> a.length <= b.length -> a = b := by
  intro a b ha hb hl
  have e := kahn_prefix ha.1 b hb.1 hl
  by_cases h2 : a.length < b.length
  rotate_left
  · rw [e, List.take_of_length_le (by omega)]
  obtain ⟨m, m1, m2, _⟩ := kahn_next hb.1 a.length h2
  rw [<- e] at m2
  exact absurd (ha.2 m m1) m2
 rcases Nat.le_total o.length o'.length with e | e
 · exact key h k e
 · exact (key k h e).symm
theorem rc_le {es : List (List Int)} {cm : List Int} {n : Int} (S : Sol es cm n) (hvld : Vld es) {a b : Int} (h : Rc es a b) (ha : nd es a) : rd cm b <= rd cm a := by
 induction h with
 | refl => exact Int.le_refl _
 | tail h1 h2 ih => exact Int.le_trans (S.back _ (rc_nd hvld h1 ha) _ h2) ih
theorem mut_iff {es : List (List Int)} {cm : List Int} {n : Int} (S : Sol es cm n) (hvld : Vld es) {a b : Int} (ha : nd es a) (hb : nd es b) : (Rc es a b /\ Rc es b a) ↔ rd cm b = rd cm a := by
 constructor
 · rintro ⟨h1, h2⟩
   have := rc_le S hvld h1 ha
   have := rc_le S hvld h2 hb
   omega
 · intro h
   exact ⟨S.same a b ha hb h.symm, S.same b a hb ha h⟩
theorem mem_scc_eq {es : List (List Int)} {cm : List Int} {n : Int} (S : Sol es cm n) (hvld : Vld es) {m : Int} (hm : nd es m) : mem cm (rd cm m) = scc es m := by
 unfold mem scc
 rw [S.len]
 refine List.filter_congr fun x hx => ?_
 rw [mem_iota] at hx
 rw [Bool.eq_iff_iff, beq_iff_eq, decide_eq_true_iff]
 exact (mut_iff S hvld hm hx).symm
theorem kahn_of_seq {es : List (List Int)} {cm : List Int} {n : Int} {ms : List (List Int)} (S : Sol es cm n) (hn : es.length < 1000000) (R : Rows es cm n ms) (hvld : Vld es) {D : List Int} (h : Seq es cm n ms D) :
 Kahn es (D.map (row ms)) /\ ∀ x, x ∈ (D.map (row ms)).flatten ↔ nd es x /\ rd cm x ∈ D := by
 have flat : ∀ {D : List Int}, Seq es cm n ms D -> ∀ x, x ∈ (D.map (row ms)).flatten ↔ nd es x /\ rd cm x ∈ D := by
  intro D hD x
  have hr := hD.rng.2.1
  rw [List.mem_flatten]
  constructor
  · rintro ⟨l, hl, hx⟩
    obtain ⟨c, hc, rfl⟩ := List.mem_map.1 hl
    rw [R.row c (hr c hc).1 (hr c hc).2, mem_mem, S.len] at hx
    exact ⟨hx.1, by rw [hx.2]; exact hc⟩
  · rintro ⟨h1, h2⟩
    refine ⟨_, List.mem_map.2 ⟨_, h2, rfl⟩, ?_⟩
    rw [R.row _ (hr _ h2).1 (hr _ h2).2, mem_mem, S.len]
    exact ⟨h1, rfl⟩
 have ready : ∀ {D : List Int}, Seq es cm n ms D -> ∀ m, nd es m -> (Ready es (D.map (row ms)) m ↔ ∀ d, Dep es cm (rd cm m) d -> d ∈ D) := by
  intro D hD m hm
  constructor
  · rintro h d ⟨hne, v, hv, w, hw, rfl⟩
    obtain ⟨v1, v2⟩ := mem_mem.1 hv
    rw [S.len] at v1
    have hwn := hvld v v1 w hw
    have hmv : Rc es m v := S.same m v hm v1 v2.symm
    rcases h w (hmv.tail hw) with e | e
    · exact ((flat hD w).1 e).2
    · have := (mut_iff S hvld hm hwn).1 ⟨hmv.tail hw, e⟩
      exact absurd this.symm hne
  · intro h x hx
    have key : nd es x /\ (rd cm x = rd cm m \/ rd cm x ∈ D) := by
     induction hx with
     | refl => exact ⟨hm, .inl rfl⟩
     | @tail b c h1 h2 ih =>
      obtain ⟨i1, i2⟩ := ih
      have hc := hvld _ i1 _ h2
      refine ⟨hc, ?_⟩
      by_cases e : rd cm c = rd cm b
      · rw [e]; exact i2
      have hd : Dep es cm (rd cm b) (rd cm c) := ⟨fun e2 => e e2.symm, b, mem_mem.2 ⟨by rw [S.len]; exact i1, rfl⟩, c, h2, rfl⟩
      rcases i2 with i2 | i2
      · rw [i2] at hd; exact .inr (h _ hd)
      · exact .inr (hD.rng.2.2 _ i2 _ hd)
    rcases key.2 with e | e
    · exact .inr ((mut_iff S hvld hm key.1).2 e).2
    · exact .inl ((flat hD x).2 ⟨key.1, e⟩)
 refine ⟨?_, flat h⟩
 induction h with
 | nil => exact .nil
 | @snoc D c hD c0 c1 c2 c3 c4 ih =>
  rw [List.map_append]
  obtain ⟨f1, ⟨f2, f3⟩, f4⟩ := fine_of S hn R c0 c1
  refine .snoc ih ⟨first ms c, f2, fun e => ?_, (ready hD _ f2).2 (by rw [f3]; exact c3), fun x hx hxD hxr => ?_, ?_⟩
  · have := ((flat hD _).1 e).2
    rw [f3] at this
    exact c2 this
  · have hr := S.rng x hx
    obtain ⟨_, _, g4⟩ := fine_of S hn R hr.1 hr.2
    have h1 := c4 (rd cm x) hr.1 hr.2 (fun e => hxD ((flat hD x).2 ⟨hx, e⟩)) ((ready hD x hx).1 hxr)
    have h2 := g4 x hx rfl
    omega
  · rw [R.row c c0 c1, <- mem_scc_eq S hvld f2, f3]
theorem ordered_ev {es : List (List Int)} (hvld : Vld es) {L : Nat} (hL : ∀ v, (row es v).length <= L) (hn : es.length < 1000000) : ∃ o, Full es o /\ graph_ordered.f es = some o := by
 have key : ∀ k, es.length * (L + 2) + 3 * es.length + L + 9 <= k -> ∃ o, Full es o /\ orderedF k es = some o := by
  intro k hk
  obtain ⟨cm, n, ms, D, S, R, h1, h2, h3⟩ := ordered_run hvld hL hn k hk
  obtain ⟨k1, k2⟩ := kahn_of_seq S hn R hvld h2
  exact ⟨_, ⟨k1, fun v hv => (k2 v).2 ⟨hv, h3 _ (S.rng v hv).1 (S.rng v hv).2⟩⟩, h1⟩
 obtain ⟨o, o1, o2⟩ := key _ (Nat.le_refl _)
 refine ⟨o, o1, Od.lim_of (k0 := es.length * (L + 2) + 3 * es.length + L + 9) fun k hk => ?_⟩
 obtain ⟨o', p1, p2⟩ := key k hk
 rw [p2, full_unique p1 o1]
structure Parts (es o : List (List Int)) : Prop where
 asc : ∀ c ∈ o, c.Pairwise (· < ·)
 scc : ∀ c ∈ o, ∃ m, nd es m /\ c = scc es m
 one : o.flatten.Nodup
 back : ∀ (i : Nat) (c : List Int), o[i]? = some c -> ∀ u ∈ c, ∀ w ∈ row es u, ∃ (j : Nat) (d : List Int), j <= i /\ o[j]? = some d /\ w ∈ d
theorem kahn_parts {es o : List (List Int)} (hvld : Vld es) (h : Kahn es o) : Parts es o := by
 induction h with
 | nil => exact ⟨by simp, by simp, by simp, by simp⟩
 | @snoc o c h1 h2 ih =>
  obtain ⟨m, m1, m2, m3, m4, rfl⟩ := h2
  refine ⟨?_, ?_, ?_, ?_⟩
  · intro c hc
    rcases List.mem_append.1 hc with e | e
    · exact ih.asc c e
    · rw [List.mem_singleton] at e; rw [e]; exact scc_lt _ _
  · intro c hc
    rcases List.mem_append.1 hc with e | e
    · exact ih.scc c e
    · rw [List.mem_singleton] at e; exact ⟨m, m1, e⟩
  · rw [List.flatten_append, List.nodup_append]
    refine ⟨ih.one, by rw [List.flatten_cons, List.flatten_nil, List.append_nil]; exact (scc_lt es m).imp (fun h e => by subst e; omega), ?_⟩
    rintro a ha b hb rfl
    have hb' : a ∈ Tp.scc es m := by simpa using hb
    obtain ⟨_, b2, b3⟩ := mem_scc.1 hb'
    obtain ⟨d, hd, had⟩ := List.mem_flatten.1 ha
    obtain ⟨x, _, rfl⟩ := ih.scc d hd
    obtain ⟨_, a2, a3⟩ := mem_scc.1 had
    exact m2 (List.mem_flatten.2 ⟨_, hd, mem_scc.2 ⟨m1, a2.trans b3, b2.trans a3⟩⟩)
  · intro i c hi u hu w hw
    by_cases e : i < o.length
    · rw [List.getElem?_append_left e] at hi
      obtain ⟨j, d, j1, j2, j3⟩ := ih.back i c hi u hu w hw
      exact ⟨j, d, j1, by rw [List.getElem?_append_left (by omega)]; exact j2, j3⟩
    have hil := (List.getElem?_eq_some_iff.1 hi).1
    rw [List.length_append, List.length_singleton] at hil
    have e2 : i = o.length := by omega
    subst e2
    rw [List.getElem?_append_right (Nat.le_refl _), Nat.sub_self, List.getElem?_cons_zero] at hi
    obtain rfl := Option.some.inj hi
    obtain ⟨u1, u2, u3⟩ := mem_scc.1 hu
    have hwn := hvld u u1 w hw
    rcases m3 w (u2.tail hw) with e | e
    · obtain ⟨d, hd, hwd⟩ := List.mem_flatten.1 e
      obtain ⟨j, hj, rfl⟩ := List.mem_iff_getElem.1 hd
      exact ⟨j, _, by omega, by rw [List.getElem?_append_left hj, List.getElem?_eq_getElem hj], hwd⟩
    · exact ⟨o.length, _, Nat.le_refl _, by rw [List.getElem?_append_right (Nat.le_refl _), Nat.sub_self, List.getElem?_cons_zero], mem_scc.2 ⟨hwn, u2.tail hw, e⟩⟩
theorem full_len {l o : List (List Int)} (hv : Vld l) (h : Full l o) : o.flatten.length = l.length /\ o.length <= l.length /\ ∀ c ∈ o, c.length <= l.length := by
 have P := kahn_parts hv h.1
 have hsub : ∀ x ∈ o.flatten, x ∈ iota l.length := by
  intro x hx
  obtain ⟨c, hc, hxc⟩ := List.mem_flatten.1 hx
  obtain ⟨m, _, rfl⟩ := P.scc c hc
  exact mem_iota.2 (mem_scc.1 hxc).1
 have h1 := nodup_sub _ _ P.one hsub
 have h2 := nodup_sub (iota l.length) o.flatten ((iota_lt _).imp (fun h e => by subst e; omega)) (fun x hx => h.2 x (mem_iota.1 hx))
 rw [iota_length] at h1 h2
 refine ⟨by omega, ?_, fun c hc => ?_⟩
 · have key : ∀ (q : List (List Int)), (∀ c ∈ q, 0 < c.length) -> q.length <= q.flatten.length := by
    intro q
    induction q with
    | nil => intro _; simp
    | cons a q ih =>
     intro hq
     have := hq a (by simp)
     have := ih (fun c hc => hq c (by simp [hc]))
     rw [List.flatten_cons, List.length_append, List.length_cons]
     omega
   have := key o (fun c hc => by
    obtain ⟨m, m1, rfl⟩ := P.scc c hc
    exact List.length_pos_of_mem (mem_scc.2 ⟨m1, .refl m, .refl m⟩))
   omega
 · obtain ⟨m, m1, rfl⟩ := P.scc c hc
   unfold scc
   exact Nat.le_trans (List.length_filter_le _ _) (by rw [iota_length]; exact Nat.le_refl _)
end Tp
end Go.Proofs.Ytpmjpngmmphkmaa
namespace Go.Proofs.Ytpmjpngmmphkmaa.P
open Go.RowKit Go.Proofs.Yw.A Go.Proofs.Yw.A.Kd Go.Proofs.Yw.B Go.Proofs.Yw.C
attribute [local go_sem] max2_int min2_int max_two min_two max_three min_three max_four min_four
end Go.Proofs.Ytpmjpngmmphkmaa.P
namespace Go.Proofs.Ytpmjpngmmphkmaa
open Go.RowKit Go.Proofs.Yw.A Go.Proofs.Yw.B Go.Proofs.Yw.C Go.Proofs.Ytpmjpngmmphkmaa.P
namespace Tp
open Tj Rw Od
open Classical
theorem rf_loop {l : List (List Int)} (hv : Vld l) (hsm : Sm l) {starts : List Int} (hst : ∀ s ∈ starts, nd l s) : ∀ (M : Nat) (seen : List Bool) (todo : List Int), seen.count false * 2001 + todo.length <= M -> M <= 1000000 -> seen.length = l.length -> (∀ v ∈ todo, nd l v) ->
 (∀ v, nd l v -> rdOf false seen v = true -> ∃ s ∈ starts, Rc l s v) -> (∀ v ∈ todo, ∃ s ∈ starts, Rc l s v) -> (∀ v, nd l v -> rdOf false seen v = true -> ∀ w ∈ row l v, rdOf false seen w = true \/ w ∈ todo) -> (∀ s ∈ starts, rdOf false seen s = true \/ s ∈ todo) ->
 Ev (fun k => lazycref09_from.l0 k seen todo l) (rch l starts) := by
 have done : ∀ (seen : List Bool), seen.length = l.length -> (∀ v, nd l v -> rdOf false seen v = true -> ∃ s ∈ starts, Rc l s v) -> (∀ v, nd l v -> rdOf false seen v = true -> ∀ w ∈ row l v, rdOf false seen w = true \/ w ∈ ([] : List Int)) -> (∀ s ∈ starts, rdOf false seen s = true \/ s ∈ ([] : List Int)) ->
  Ev (fun k => lazycref09_from.l0 k seen ([] : List Int) l) (rch l starts) := by
  intro seen h1 h2 h3 h4
  have he := rch_eq hv hst h1 h2 (fun v a b w c => by simpa using h3 v a b w c) (fun s a => by simpa using h4 s a)
  refine Ev.step (fun k => ?_) (Ev.now _)
  simp only [lazycref09_from.l0]
  rw [if_neg (by simp)]
  rw [<- he]
 intro M
 induction M with
 | zero =>
  intro seen todo hM hM2 hlen htd h1 h2 h3 h4
  obtain rfl : todo = [] := List.eq_nil_of_length_eq_zero (by omega)
  exact done seen hlen h1 h3 h4
 | succ M ih =>
  intro seen todo hM hM2 hlen htd h1 h2 h3 h4
  by_cases h0 : 0 < todo.length
  case neg =>
   obtain rfl : todo = [] := List.eq_nil_of_length_eq_zero (by omega)
   exact done seen hlen h1 h3 h4
  obtain ⟨hvm, htt⟩ := last_take todo h0
  have hw : wrap64 ((todo.length : Int) - 1) = (todo.length : Int) - 1 := w64 _ (by omega) (by omega)
  have htn : ((todo.length : Int) - 1).toNat = todo.length - 1 := by omega
  have hnv := htd _ hvm
  have hrv := h2 _ hvm
  generalize hvd : rd todo ((todo.length : Int) - 1) = v at *
  have hyl : (todo.take (todo.length - 1)).length = todo.length - 1 := by simp
  have hym : ∀ x, x ∈ todo ↔ x ∈ todo.take (todo.length - 1) \/ x = v := fun x => by
   constructor
   · intro h
     rw [htt] at h
     rcases List.mem_append.1 h with e | e
     · exact .inl e
     · exact .inr (List.mem_singleton.1 e)
   · rintro (h | h)
     · exact List.mem_of_mem_take h
     · rw [h]; exact hvm
  generalize htk : todo.take (todo.length - 1) = y at *
  by_cases hsv : rdOf false seen v = true
  · refine Ev.step (fun k => ?_) (ih seen y (by omega) (by omega) hlen (fun x hx => htd x ((hym x).2 (.inl hx))) h1 (fun x hx => h2 x ((hym x).2 (.inl hx))) (fun x a b w c => ?_) (fun s a => ?_))
    · simp only [lazycref09_from.l0]
      rw [if_pos (by omega), hw, htn, htk, hvd]
      simp only [Option.bind_some]
      rw [if_pos (show 0 <= (todo.length : Int) - 1 by omega), if_pos (show (todo.length : Int) - 1 < todo.length by omega), if_pos (show (todo.length : Int) - 1 <= todo.length by omega), if_pos hnv.1, if_pos (show v < (seen.length : Int) by have := hnv.2; omega), if_pos hsv]
    · rcases h3 x a b w c with e | e
      · exact .inl e
      · rcases (hym w).1 e with e | e
        · exact .inr e
        · rw [e]; exact .inl hsv
    · rcases h4 s a with e | e
      · exact .inl e
      · rcases (hym s).1 e with e | e
        · exact .inr e
        · rw [e]; exact .inl hsv
  have hsf : rdOf false seen v = false := by simpa using hsv
  have hct := count_setB seen v hnv.1 (by have := hnv.2; omega) hsf
  have hrl := hsm.row v
  have hset : ∀ u, 0 <= u -> rdOf false (seen.set v.toNat true) u = if u = v then true else rdOf false seen u := fun u hu => rdOf_set seen v u hnv.1 (by have := hnv.2; omega) hu
  refine Ev.step (fun k => ?_) (ih (seen.set v.toNat true) (y ++ row l v) (by rw [List.length_append]; exact meas hct hM (by omega) hrl) (by omega) (by rw [List.length_set]; exact hlen) (fun x hx => ?_) (fun x a b => ?_) (fun x hx => ?_) (fun x a b w c => ?_) (fun s a => ?_))
  · simp only [lazycref09_from.l0]
    rw [if_pos (by omega), hw, htn, htk, hvd]
    simp only [Option.bind_some]
    rw [L1_row]
    rw [if_pos (show 0 <= (todo.length : Int) - 1 by omega), if_pos (show (todo.length : Int) - 1 < todo.length by omega), if_pos (show (todo.length : Int) - 1 <= todo.length by omega), if_pos hnv.1, if_pos (show v < (seen.length : Int) by have := hnv.2; omega), if_neg hsv, if_pos (show v < (l.length : Int) from hnv.2), if_pos (by omega)]
  · rcases List.mem_append.1 hx with e | e
    · exact htd x ((hym x).2 (.inl e))
    · exact hv v hnv x e
  · rw [hset x a.1] at b
    by_cases e : x = v
    · rw [e]; exact hrv
    rw [if_neg e] at b; exact h1 x a b
  · rcases List.mem_append.1 hx with e | e
    · exact h2 x ((hym x).2 (.inl e))
    · obtain ⟨s, s1, s2⟩ := hrv
      exact ⟨s, s1, s2.tail e⟩
  · have hwn := hv x a w c
    rw [hset x a.1] at b
    rw [hset w hwn.1]
    by_cases e : x = v
    · subst e
      exact .inr (List.mem_append.2 (.inr c))
    rw [if_neg e] at b
    by_cases e2 : w = v
    · rw [if_pos e2]; exact .inl rfl
    rw [if_neg e2]
    rcases h3 x a b w c with e3 | e3
    · exact .inl e3
    · rcases (hym w).1 e3 with e4 | e4
      · exact .inr (List.mem_append.2 (.inl e4))
      · exact absurd e4 e2
  · rw [hset s (hst s a).1]
    by_cases e2 : s = v
    · rw [if_pos e2]; exact .inl rfl
    rw [if_neg e2]
    rcases h4 s a with e3 | e3
    · exact .inl e3
    · rcases (hym s).1 e3 with e4 | e4
      · exact .inr (List.mem_append.2 (.inl e4))
      · exact absurd e4 e2
theorem rf_start {l : List (List Int)} (hv : Vld l) (hsm : Sm l) {starts : List Int} (hst : ∀ s ∈ starts, nd l s) (hsl : starts.length <= 2000) : Ev (fun k => lazycref09_from.l0 k (List.replicate l.length false) starts l) (rch l starts) := by
 have h60 := hsm.1
 have hr : ∀ v, nd l v -> rdOf false (List.replicate l.length false) v = false := by
  intro v h
  obtain ⟨i, rfl⟩ := Int.eq_ofNat_of_zero_le h.1
  rw [rdOf_at _ i (by simp; have := h.2; omega)]
  simp
 refine rf_loop hv hsm hst 122060 _ _ ?_ (by omega) (by simp) hst (fun v a b => by rw [hr v a] at b; cases b) (fun v a => ⟨v, a, .refl v⟩) (fun v a b => by rw [hr v a] at b; cases b) (fun s a => .inr a)
 simp only [List.count_replicate_self]
 omega
theorem rf_ev {l : List (List Int)} (hv : Vld l) (hsm : Sm l) {starts : List Int} (hst : ∀ s ∈ starts, nd l s) (hsl : starts.length <= 2000) : Ev (fun k => lazycref09_from.f k l starts) (rch l starts) := by
 have h60 := hsm.1
 refine Ev.congr (fun k => ?_) (rf_start hv hsm hst hsl)
 unfold lazycref09_from.f
 rw [if_pos (by omega), if_pos (by omega), Option.bind_some, if_pos (by simp; omega), Int.toNat_natCast]
 rfl
theorem mk_ev (seen : List Bool) (hl : seen.length < 1000000) : Ev (fun k => lazycref09_marked.f k seen) ((iota seen.length).filter (rdOf false seen)) := by
 have key : ∀ (m i : Nat), i + m = seen.length -> Ev (fun k => lazycref09_marked.l0 k seen ((iota i).filter (rdOf false seen)) i) ((iota seen.length).filter (rdOf false seen)) := by
  intro m
  induction m with
  | zero =>
   intro i hi
   obtain rfl : i = seen.length := by omega
   refine Ev.step (fun k => ?_) (Ev.now _)
   simp only [lazycref09_marked.l0]
   rw [if_neg (by omega)]
  | succ m ih =>
   intro i hi
   have h := ih (i + 1) (by omega)
   have hlen := filt_len (rdOf false seen) i
   rw [filt_snoc] at h
   refine Ev.step (fun k => ?_) h
   simp only [lazycref09_marked.l0]
   rw [if_pos (by omega), if_pos (by omega), succ_cast i (by omega)]
   by_cases hp : rdOf false seen i = true
   rotate_left
   · rw [if_neg hp, if_neg hp, List.append_nil]
   rw [if_pos hp, if_pos hp, if_pos (by omega)]
 exact key seen.length 0 (by omega)
theorem refreach_ev {l : List (List Int)} (hsm : Sm l) (i : Int) : Ev (fun k => lazycref09_Reach.f k l i) (reachM l i) := by
 have h60 := hsm.1
 have hb := rv_ev l hsm
 have hnil : Ev (fun k => lazycref09_Reach.j0 k i true l) [] := Ev.step (fun k => by simp only [lazycref09_Reach.j0]; rw [if_pos trivial]) (Ev.now _)
 by_cases hv : Vld l
 rotate_left
 · have hf : vldB l = false := Bool.eq_false_iff.2 fun e => hv ((vldB_iff l).1 e)
   rw [hf] at hb
   have hm : reachM l i = [] := by unfold reachM; rw [if_neg (fun h => hv h.1)]
   rw [hm]
   refine Ev.congr (fun k => ?_) (Ev.bind hb (f := fun k t => if t = true then (if i < 0 then lazycref09_Reach.j0 k i true l else lazycref09_Reach.j0 k i (decide (i >= (l.length : Int))) l) else lazycref09_Reach.j0 k i true l) hnil)
   unfold lazycref09_Reach.f
   rfl
 rw [(vldB_iff l).2 hv] at hb
 by_cases hi : nd l i
 rotate_left
 · have hm : reachM l i = [] := by unfold reachM; rw [if_neg (fun h => hi h.2)]
   rw [hm]
   refine Ev.congr (fun k => ?_) (Ev.bind hb (f := fun k t => lazycref09_Reach.j0 k i true l) hnil)
   unfold lazycref09_Reach.f
   congr 1
   funext t
   by_cases h0 : i < 0
   · rw [if_pos h0]; split <;> rfl
   have h4 : decide (i >= (l.length : Int)) = true := decide_eq_true (by unfold nd at hi; omega)
   rw [if_neg h0, h4]; split <;> rfl
 have hm : reachM l i = rchL l [i] := by unfold reachM; rw [if_pos ⟨hv, hi⟩]
 rw [hm]
 have h1 := rf_ev hv hsm (starts := [i]) (fun s hs => by rw [List.mem_singleton.1 hs]; exact hi) (by simp)
 have h2 := mk_ev (rch l [i]) (by rw [rch_len]; omega)
 rw [rchL_eq] at h2
 have h3 : Ev (fun k => lazycref09_Reach.j0 k i false l) (rchL l [i]) := Ev.step (fun k => by simp only [lazycref09_Reach.j0]; rw [if_neg (by simp)]) (Ev.bind h1 (f := fun k t => (lazycref09_marked.f k t).bind fun t194 => some t194) (Ev.bind h2 (f := fun k t => some t) (Ev.now _)))
 refine Ev.congr (fun k => ?_) (Ev.bind hb (f := fun k t => if t = true then lazycref09_Reach.j0 k i false l else lazycref09_Reach.j0 k i true l) h3)
 unfold lazycref09_Reach.f
 have h4 : decide (i >= (l.length : Int)) = false := decide_eq_false (by have := hi.2; omega)
 rw [h4, if_neg (show ¬ i < 0 by have := hi.1; omega)]
end Tp
end Go.Proofs.Ytpmjpngmmphkmaa
namespace Go.Proofs.Ytpmjpngmmphkmaa
open Go.RowKit Go.Proofs.Yw.A Go.Proofs.Yw.B Go.Proofs.Yw.C Go.Proofs.Ytpmjpngmmphkmaa.P
namespace Tp
open Tj Rw Od
theorem rh_ev (l : List Int) (x : Int) (hl : l.length < 1000000) : Ev (fun k => lazycref09_has.f k l x) (l.contains x) := by
 have key : ∀ (m j : Nat), j + m = l.length -> Ev (fun k => lazycref09_has.l0 k l x j) ((l.drop j).contains x) := by
  intro m
  induction m with
  | zero =>
   intro j hj
   rw [List.drop_eq_nil_of_le (by omega)]
   refine Ev.step (fun k => ?_) (Ev.now _)
   simp only [lazycref09_has.l0]
   rw [if_neg (by omega)]
   rfl
  | succ m ih =>
   intro j hj
   have hjl : j < l.length := by omega
   rw [drop_row l j hjl, List.contains_cons]
   by_cases h : rd l j = x
   · rw [show (x == rd l j) = true by simp [h], Bool.true_or]
     refine Ev.step (fun k => ?_) (Ev.now _)
     simp only [lazycref09_has.l0]
     rw [if_pos (by omega), if_pos (by omega), if_pos h]
   rw [show (x == rd l j) = false by simpa using fun e => h e.symm, Bool.false_or]
   refine Ev.step (fun k => ?_) (ih (j + 1) (by omega))
   simp only [lazycref09_has.l0]
   rw [if_pos (by omega), if_pos (by omega), if_neg h, succ_cast j (by omega)]
 exact key l.length 0 (by omega)
end Tp
end Go.Proofs.Ytpmjpngmmphkmaa
namespace Go.Proofs.Ytpmjpngmmphkmaa
open Go.RowKit Go.Proofs.Yw.A Go.Proofs.Yw.B Go.Proofs.Yw.C Go.Proofs.Ytpmjpngmmphkmaa.P
namespace Tp
open Tj Rw Od
open Classical
theorem kahn_len {l o : List (List Int)} (hv : Vld l) (h : Kahn l o) : o.length <= l.length := by
  have P := kahn_parts hv h
  have hsub : ∀ x ∈ o.flatten, x ∈ iota l.length := by
    intro x hx
    obtain ⟨c, hc, hxc⟩ := List.mem_flatten.1 hx
    obtain ⟨m, _, rfl⟩ := P.scc c hc
    exact mem_iota.2 (mem_scc.1 hxc).1
  have h1 := nodup_sub _ _ P.one hsub
  rw [iota_length] at h1
  have key : ∀ (q : List (List Int)), (∀ c ∈ q, 0 < c.length) -> q.length <= q.flatten.length := by
    intro q
    induction q with
    | nil => intro _; simp
    | cons a q ih =>
      intro hq
      have := hq a (by simp)
      have := ih (fun c hc => hq c (by simp [hc]))
      rw [List.flatten_cons, List.length_append, List.length_cons]
      omega
  have := key o (fun c hc => by
    obtain ⟨m, m1, rfl⟩ := P.scc c hc
    exact List.length_pos_of_mem (mem_scc.2 ⟨m1, .refl m, .refl m⟩))
  omega
theorem scc_len (l : List (List Int)) (i : Int) : (scc l i).length <= l.length := by
  unfold scc
  exact Nat.le_trans (List.length_filter_le _ _) (by rw [iota_length]; exact Nat.le_refl _)
theorem kahn_ready {l o : List (List Int)} (hs : Sm l) (hv : Vld l) {v : Int} (hn : nd l v) (hvo : v ∉ o.flatten) : ∃ m, nd l m /\ m ∉ o.flatten /\ Ready l o m := by
  have h60 := hs.1
  obtain ⟨cm, n, _, S⟩ := strong_sol hv hs.row (by omega) _ (Nat.le_refl _)
  have key : ∀ (c : Nat) (v : Int), nd l v -> v ∉ o.flatten -> rd cm v = c -> ∃ m, nd l m /\ m ∉ o.flatten /\ Ready l o m := by
    intro c
    induction c using Nat.strongRecOn with
    | ind c ih =>
      intro v hn hvo hc
      by_cases h : Ready l o v
      · exact ⟨v, hn, hvo, h⟩
      · obtain ⟨x, hx⟩ := Classical.not_forall.1 h
        obtain ⟨h1, h2⟩ := Classical.not_imp.1 hx
        have hxo : x ∉ o.flatten := fun e => h2 (.inl e)
        have hxr : ¬ Rc l x v := fun e => h2 (.inr e)
        have hxn := rc_nd hv h1 hn
        have hle := rc_le S hv h1 hn
        have hne : rd cm x ≠ rd cm v := fun e => hxr (S.same x v hxn hn e)
        have h0 := (S.rng x hxn).1
        exact ih (rd cm x).toNat (by omega) x hxn hxo (by omega)
  have h0 := (S.rng v hn).1
  exact key (rd cm v).toNat v hn hvo (by omega)
theorem comp_ev {l : List (List Int)} (hs : Sm l) (hv : Vld l) {i : Int} (hi : nd l i) : Ev (fun k => lazycref09_component.f k l i) (scc l i) := by
  have h60 := hs.1
  have hl := rchL_len l [i]
  have e1 := refreach_ev hs i
  rw [reachM_eq' hv hi] at e1
  have key : ∀ (m q : Nat), q + m = (rchL l [i]).length -> Ev (fun k => lazycref09_component.l0 k i (((rchL l [i]).take q).filter fun x => decide (Rc l x i)) (rchL l [i]) q l) ((rchL l [i]).filter fun x => decide (Rc l x i)) := by
    intro m
    induction m with
    | zero =>
      intro q hq
      rw [List.take_of_length_le (by omega)]
      refine Ev.step (fun k => ?_) (Ev.now _)
      simp only [lazycref09_component.l0]
      rw [if_neg (show ¬ (q : Int) < ((rchL l [i]).length : Int) by omega)]
    | succ m ih =>
      intro q hq
      have hql : q < (rchL l [i]).length := by omega
      have hxm : rd (rchL l [i]) q ∈ rchL l [i] := by rw [rd_at _ q hql]; exact List.getElem_mem _
      have hxn := (mem_rchL.1 hxm).1
      have htk : (rchL l [i]).take (q + 1) = (rchL l [i]).take q ++ [rd (rchL l [i]) q] := by rw [rd_at _ q hql]; exact List.take_succ_eq_append_getElem hql
      have h2 := ih (q + 1) (by omega)
      rw [htk, List.filter_append] at h2
      have hfl : (((rchL l [i]).take q).filter fun x => decide (Rc l x i)).length <= q := Nat.le_trans (List.length_filter_le _ _) (by simp; omega)
      generalize hxd : rd (rchL l [i]) q = x at *
      have e2 := refreach_ev hs x
      rw [reachM_eq' hv hxn] at e2
      have hlx := rchL_len l [x]
      have e3 := rh_ev (rchL l [x]) i (by omega)
      rw [contains_rchL' hxn i hi] at e3
      refine Ev.step (fun k => ?_) (Ev.bind e2 (f := fun k t226 => (lazycref09_has.f k t226 i).bind fun t229 => if t229 = true then lazycref09_component.l0 k i ((((rchL l [i]).take q).filter fun x => decide (Rc l x i)) ++ [x]) (rchL l [i]) ((q + 1 : Nat) : Int) l else lazycref09_component.l0 k i (((rchL l [i]).take q).filter fun x => decide (Rc l x i)) (rchL l [i]) ((q + 1 : Nat) : Int) l)
        (Ev.bind e3 (f := fun k t229 => if t229 = true then lazycref09_component.l0 k i ((((rchL l [i]).take q).filter fun x => decide (Rc l x i)) ++ [x]) (rchL l [i]) ((q + 1 : Nat) : Int) l else lazycref09_component.l0 k i (((rchL l [i]).take q).filter fun x => decide (Rc l x i)) (rchL l [i]) ((q + 1 : Nat) : Int) l) (Ev.congr (fun k => ?_) h2)))
      · simp only [lazycref09_component.l0]
        rw [if_pos (show (q : Int) < ((rchL l [i]).length : Int) by omega), if_pos (show (0 : Int) <= q by omega), succ_cast q (by omega), hxd, if_pos (show (((rchL l [i]).take q).filter fun x => decide (Rc l x i)).length < 17592186044416 by omega)]
      · by_cases hr : Rc l x i
        · rw [decide_eq_true hr, if_pos rfl]
          simp [hr]
        · rw [decide_eq_false hr, if_neg (by simp)]
          simp [hr]
  have h2 := key (rchL l [i]).length 0 (by omega)
  have he : ((rchL l [i]).filter fun x => decide (Rc l x i)) = scc l i := by
    unfold rchL scc
    rw [List.filter_filter]
    refine List.filter_congr fun x _ => ?_
    rw [Bool.eq_iff_iff]
    simp
    exact And.comm
  rw [he] at h2
  refine Ev.congr (fun k => ?_) (Ev.bind e1 (f := fun k t => lazycref09_component.l0 k i [] t 0 l) h2)
  rfl
theorem ready_ev {l o : List (List Int)} (hs : Sm l) (hv : Vld l) {i : Int} (hi : nd l i) {done : List Bool} (hd : done.length = l.length) (hdo : ∀ v, nd l v -> (rdOf false done v = true ↔ v ∈ o.flatten)) :
    Ev (fun k => lazycref09_ready.f k l (scc l i) done) (decide (Ready l o i)) := by
  have h60 := hs.1
  have hlen := scc_len l i
  have him : i ∈ scc l i := mem_scc.2 ⟨hi, .refl i, .refl i⟩
  have hpos := List.length_pos_of_mem him
  have hcm : rd (scc l i) 0 ∈ scc l i := rd_mem _ _ (Int.le_refl _) (by omega)
  obtain ⟨c1, c2, c3⟩ := mem_scc.1 hcm
  generalize hcd : rd (scc l i) 0 = c at *
  have e1 := refreach_ev hs c
  rw [reachM_eq' hv c1] at e1
  have hl := rchL_len l [c]
  have hR : Ready l o i ↔ ∀ x ∈ rchL l [c], x ∈ o.flatten \/ x ∈ scc l i := by
    constructor
    · intro h x hx
      obtain ⟨x1, s, s1, s2⟩ := mem_rchL.1 hx
      rw [List.mem_singleton] at s1
      subst s1
      rcases h x (c2.trans s2) with e | e
      · exact .inl e
      · exact .inr (mem_scc.2 ⟨x1, c2.trans s2, e⟩)
    · intro h x hx
      have hxn := rc_nd hv hx hi
      rcases h x (mem_rchL.2 ⟨hxn, c, by simp, c3.trans hx⟩) with e | e
      · exact .inl e
      · exact .inr (mem_scc.1 e).2.2
  have key : ∀ (m q : Nat), q + m = (rchL l [c]).length -> Ev (fun k => lazycref09_ready.l0 k (scc l i) done (rchL l [c]) q) (decide (∀ x ∈ (rchL l [c]).drop q, x ∈ o.flatten \/ x ∈ scc l i)) := by
    intro m
    induction m with
    | zero =>
      intro q hq
      rw [List.drop_eq_nil_of_le (by omega), decide_eq_true (by simp)]
      refine Ev.step (fun k => ?_) (Ev.now _)
      simp only [lazycref09_ready.l0]
      rw [if_neg (show ¬ (q : Int) < ((rchL l [c]).length : Int) by omega)]
    | succ m ih =>
      intro q hq
      have hql : q < (rchL l [c]).length := by omega
      have hxm : rd (rchL l [c]) q ∈ rchL l [c] := by rw [rd_at _ q hql]; exact List.getElem_mem _
      have hxn := (mem_rchL.1 hxm).1
      have h2 := ih (q + 1) (by omega)
      rw [drop_row _ q hql]
      generalize hxd : rd (rchL l [c]) q = x at *
      have e3 := rh_ev (scc l i) x (by omega)
      have p1 : (q : Int) < ((rchL l [c]).length : Int) := by omega
      have p2 : (0 : Int) <= q := by omega
      have p3 : x < (done.length : Int) := by have := hxn.2; omega
      have p4 := succ_cast q (by omega)
      by_cases hdx : rdOf false done x = true
      · have he : (∀ y ∈ x :: (rchL l [c]).drop (q + 1), y ∈ o.flatten \/ y ∈ scc l i) ↔ (∀ y ∈ (rchL l [c]).drop (q + 1), y ∈ o.flatten \/ y ∈ scc l i) := by
          simp only [List.mem_cons, forall_eq_or_imp]
          exact ⟨fun h => h.2, fun h => ⟨.inl ((hdo x hxn).1 hdx), h⟩⟩
        rw [decide_eq_decide.2 he]
        refine Ev.step (fun k => ?_) h2
        simp only [lazycref09_ready.l0]
        rw [if_pos p1, if_pos p2, hxd, if_pos hxn.1, if_pos p3, if_pos hdx, p4]
      · have hxo : x ∉ o.flatten := fun e => hdx ((hdo x hxn).2 e)
        by_cases hxs : x ∈ scc l i
        · have he : (∀ y ∈ x :: (rchL l [c]).drop (q + 1), y ∈ o.flatten \/ y ∈ scc l i) ↔ (∀ y ∈ (rchL l [c]).drop (q + 1), y ∈ o.flatten \/ y ∈ scc l i) := by
            simp only [List.mem_cons, forall_eq_or_imp]
            exact ⟨fun h => h.2, fun h => ⟨.inr hxs, h⟩⟩
          rw [decide_eq_decide.2 he]
          rw [List.contains_iff_mem.2 hxs] at e3
          refine Ev.step (fun k => ?_) (Ev.bind e3 (f := fun k t242 => if t242 = true then lazycref09_ready.l0 k (scc l i) done (rchL l [c]) ((q + 1 : Nat) : Int) else some false) h2)
          simp only [lazycref09_ready.l0]
          rw [if_pos p1, if_pos p2, hxd, if_pos hxn.1, if_pos p3, if_neg hdx, p4]
        · rw [decide_eq_false (fun h => (h x (by simp)).elim hxo hxs)]
          rw [show (scc l i).contains x = false from Bool.eq_false_iff.2 fun e => hxs (List.contains_iff_mem.1 e)] at e3
          refine Ev.step (fun k => ?_) (Ev.bind e3 (f := fun k t242 => if t242 = true then lazycref09_ready.l0 k (scc l i) done (rchL l [c]) ((q + 1 : Nat) : Int) else some false) (Ev.now _))
          simp only [lazycref09_ready.l0]
          rw [if_pos p1, if_pos p2, hxd, if_pos hxn.1, if_pos p3, if_neg hdx, p4]
  have h2 := key (rchL l [c]).length 0 (by omega)
  rw [List.drop_zero, <- decide_eq_decide.2 hR] at h2
  refine Ev.congr (fun k => ?_) (Ev.bind e1 (f := fun k t => lazycref09_ready.l0 k (scc l i) done t 0) h2)
  unfold lazycref09_ready.f
  rw [if_pos (by omega), hcd]
theorem mark_ev {l : List (List Int)} (o : List (List Int)) (c : List Int) (r : List (List Int)) (hcn : ∀ x ∈ c, nd l x) (hcl : c.length < 1000000) :
    ∀ (m q : Nat) (done : List Bool), q + m = c.length -> done.length = l.length ->
      (∀ d2 : List Bool, d2.length = l.length -> (∀ v, nd l v -> (rdOf false d2 v = true ↔ rdOf false done v = true \/ v ∈ c.drop q)) -> Ev (fun k => lazycref09_Components.l0 k o d2 0 l) r) ->
      Ev (fun k => lazycref09_Components.l1 k o done c q l) r := by
  intro m
  induction m with
  | zero =>
    intro q done hq hd h
    have h2 := h done hd (fun v _ => by rw [List.drop_eq_nil_of_le (by omega)]; simp)
    refine Ev.step (fun k => ?_) h2
    simp only [lazycref09_Components.l1]
    rw [if_neg (show ¬ (q : Int) < (c.length : Int) by omega)]
    rfl
  | succ m ih =>
    intro q done hq hd h
    have hql : q < c.length := by omega
    have hx := hcn (rd c q) (by rw [rd_at _ q hql]; exact List.getElem_mem _)
    have h2 := ih (q + 1) (done.set (rd c q).toNat true) (by omega) (by rw [List.length_set]; exact hd) (fun d2 hd2 h3 => h d2 hd2 (fun v hv => by
      rw [h3 v hv, rdOf_set _ _ _ hx.1 (by rw [hd]; exact hx.2) hv.1, drop_row c q hql, List.mem_cons]
      by_cases e : v = rd c q
      · simp [e]
      · simp [e]))
    refine Ev.step (fun k => ?_) h2
    simp only [lazycref09_Components.l1]
    rw [if_pos (show (q : Int) < (c.length : Int) by omega), if_pos (show (0 : Int) <= q by omega), if_pos hx.1, if_pos (show rd c q < (done.length : Int) by rw [hd]; exact hx.2), succ_cast q (by omega)]
theorem refcomps_loop {l r : List (List Int)} (hs : Sm l) (hv : Vld l) (hr : Full l r) : ∀ (M : Nat) (o : List (List Int)), o.length + M = l.length -> Kahn l o -> ∀ (m i : Nat) (done : List Bool), i + m = l.length -> done.length = l.length ->
    (∀ v, nd l v -> (rdOf false done v = true ↔ v ∈ o.flatten)) -> (∀ x, nd l x -> x < i -> x ∈ o.flatten \/ ¬ Ready l o x) -> Ev (fun k => lazycref09_Components.l0 k o done i l) r := by
  have h60 := hs.1
  intro M
  induction M with
  | zero =>
    intro o hM ho m
    induction m with
    | zero =>
      intro i done hi hd hdo hx
      have hf : Full l o := ⟨ho, fun v hv2 => Classical.byContradiction fun hno => by
        obtain ⟨y, y1, y2, y3⟩ := kahn_ready hs hv hv2 hno
        rcases hx y y1 (by have := y1.2; omega) with e | e
        · exact y2 e
        · exact e y3⟩
      rw [full_unique hr hf]
      refine Ev.step (fun k => ?_) (Ev.now _)
      simp only [lazycref09_Components.l0]
      rw [if_neg (show ¬ (i : Int) < (l.length : Int) by omega)]
    | succ m ih =>
      intro i done hi hd hdo hx
      have hin : nd l (i : Int) := ⟨by omega, by omega⟩
      have p1 : (i : Int) < (done.length : Int) := by omega
      have p4 := succ_cast i (by omega)
      by_cases hdi : rdOf false done i = true
      · refine Ev.step (fun k => ?_) (ih (i + 1) done (by omega) hd hdo (fun x h1 h2 => by
          by_cases e : x = i
          · subst e; exact .inl ((hdo _ hin).1 hdi)
          · exact hx x h1 (by omega)))
        simp only [lazycref09_Components.l0]
        rw [if_pos (show (i : Int) < (l.length : Int) from hin.2), if_pos hin.1, if_pos p1, if_pos hdi, p4]
      · have hio : (i : Int) ∉ o.flatten := fun e => hdi ((hdo _ hin).2 e)
        have e1 := comp_ev hs hv hin
        have e2 := ready_ev hs hv hin hd hdo
        by_cases hrd : Ready l o i
        · have hk : Kahn l (o ++ [scc l i]) := .snoc ho ⟨i, hin, hio, hrd, fun x h1 h2 h3 => by
            by_cases e : (i : Int) <= x
            · exact e
            · rcases hx x h1 (by omega) with e | e
              · exact absurd e h2
              · exact absurd h3 e, rfl⟩
          have := kahn_len hv hk
          simp at this
          omega
        · rw [decide_eq_false hrd] at e2
          refine Ev.step (fun k => ?_) (Ev.bind e1 (f := fun k t235 => (lazycref09_ready.f k l t235 done).bind fun t238 => if t238 = true then if o.length < 5864062014805 then lazycref09_Components.l1 k (o ++ [t235]) done t235 0 l else none else lazycref09_Components.l0 k o done ((i + 1 : Nat) : Int) l)
            (Ev.bind e2 (f := fun k t238 => if t238 = true then if o.length < 5864062014805 then lazycref09_Components.l1 k (o ++ [scc l i]) done (scc l i) 0 l else none else lazycref09_Components.l0 k o done ((i + 1 : Nat) : Int) l) (ih (i + 1) done (by omega) hd hdo (fun x h1 h2 => by
              by_cases e : x = i
              · subst e; exact .inr hrd
              · exact hx x h1 (by omega)))))
          simp only [lazycref09_Components.l0]
          rw [if_pos (show (i : Int) < (l.length : Int) from hin.2), if_pos hin.1, if_pos p1, if_neg hdi, p4]
  | succ M IH =>
    intro o hM ho m
    induction m with
    | zero =>
      intro i done hi hd hdo hx
      have hf : Full l o := ⟨ho, fun v hv2 => Classical.byContradiction fun hno => by
        obtain ⟨y, y1, y2, y3⟩ := kahn_ready hs hv hv2 hno
        rcases hx y y1 (by have := y1.2; omega) with e | e
        · exact y2 e
        · exact e y3⟩
      rw [full_unique hr hf]
      refine Ev.step (fun k => ?_) (Ev.now _)
      simp only [lazycref09_Components.l0]
      rw [if_neg (show ¬ (i : Int) < (l.length : Int) by omega)]
    | succ m ih =>
      intro i done hi hd hdo hx
      have hin : nd l (i : Int) := ⟨by omega, by omega⟩
      have p1 : (i : Int) < (done.length : Int) := by omega
      have p4 := succ_cast i (by omega)
      by_cases hdi : rdOf false done i = true
      · refine Ev.step (fun k => ?_) (ih (i + 1) done (by omega) hd hdo (fun x h1 h2 => by
          by_cases e : x = i
          · subst e; exact .inl ((hdo _ hin).1 hdi)
          · exact hx x h1 (by omega)))
        simp only [lazycref09_Components.l0]
        rw [if_pos (show (i : Int) < (l.length : Int) from hin.2), if_pos hin.1, if_pos p1, if_pos hdi, p4]
      · have hio : (i : Int) ∉ o.flatten := fun e => hdi ((hdo _ hin).2 e)
        have e1 := comp_ev hs hv hin
        have e2 := ready_ev hs hv hin hd hdo
        by_cases hrd : Ready l o i
        · have hk : Kahn l (o ++ [scc l i]) := .snoc ho ⟨i, hin, hio, hrd, fun x h1 h2 h3 => by
            by_cases e : (i : Int) <= x
            · exact e
            · rcases hx x h1 (by omega) with e | e
              · exact absurd e h2
              · exact absurd h3 e, rfl⟩
          rw [decide_eq_true hrd] at e2
          have hsl := scc_len l i
          have h3 := mark_ev (l := l) (o ++ [scc l i]) (scc l i) r (fun x hx => (mem_scc.1 hx).1) (by omega) (scc l i).length 0 done (by omega) hd (fun d2 hd2 hdd => IH (o ++ [scc l i]) (by rw [List.length_append, List.length_singleton]; omega) hk l.length 0 d2 (by omega) hd2 (fun v hv2 => by
            rw [hdd v hv2, hdo v hv2, List.drop_zero, List.flatten_append, List.mem_append]
            simp) (fun x h1 h2 => by have := h1.1; omega))
          refine Ev.step (fun k => ?_) (Ev.bind e1 (f := fun k t235 => (lazycref09_ready.f k l t235 done).bind fun t238 => if t238 = true then if o.length < 5864062014805 then lazycref09_Components.l1 k (o ++ [t235]) done t235 0 l else none else lazycref09_Components.l0 k o done ((i + 1 : Nat) : Int) l)
            (Ev.bind e2 (f := fun k t238 => if t238 = true then if o.length < 5864062014805 then lazycref09_Components.l1 k (o ++ [scc l i]) done (scc l i) 0 l else none else lazycref09_Components.l0 k o done ((i + 1 : Nat) : Int) l) (Ev.congr (fun k => ?_) h3)))
          · simp only [lazycref09_Components.l0]
            rw [if_pos (show (i : Int) < (l.length : Int) from hin.2), if_pos hin.1, if_pos p1, if_neg hdi, p4]
          · rw [if_pos rfl, if_pos (by omega)]
            rfl
        · rw [decide_eq_false hrd] at e2
          refine Ev.step (fun k => ?_) (Ev.bind e1 (f := fun k t235 => (lazycref09_ready.f k l t235 done).bind fun t238 => if t238 = true then if o.length < 5864062014805 then lazycref09_Components.l1 k (o ++ [t235]) done t235 0 l else none else lazycref09_Components.l0 k o done ((i + 1 : Nat) : Int) l)
            (Ev.bind e2 (f := fun k t238 => if t238 = true then if o.length < 5864062014805 then lazycref09_Components.l1 k (o ++ [scc l i]) done (scc l i) 0 l else none else lazycref09_Components.l0 k o done ((i + 1 : Nat) : Int) l) (ih (i + 1) done (by omega) hd hdo (fun x h1 h2 => by
              by_cases e : x = i
              · subst e; exact .inr hrd
              · exact hx x h1 (by omega)))))
          simp only [lazycref09_Components.l0]
          rw [if_pos (show (i : Int) < (l.length : Int) from hin.2), if_pos hin.1, if_pos p1, if_neg hdi, p4]
theorem refcomps_ev {l r : List (List Int)} (hs : Sm l) (hv : Vld l) (hr : Full l r) : Ev (fun k => lazycref09_Components.f k l) r := by
  have h60 := hs.1
  have hb := rv_ev l hs
  rw [(vldB_iff l).2 hv] at hb
  have h0 := refcomps_loop hs hv hr l.length [] (by simp) .nil l.length 0 (List.replicate l.length false) (by omega) (by simp) (fun v hn => by
    obtain ⟨i, rfl⟩ := Int.eq_ofNat_of_zero_le hn.1
    rw [rdOf_at _ i (by simp; have := hn.2; omega)]
    simp) (fun x h1 h2 => by have := h1.1; omega)
  refine Ev.congr (fun k => ?_) (Ev.bind hb (f := fun k t => if t = true then lazycref09_Components.l0 k [] (List.replicate l.length false) 0 l else some []) h0)
  unfold lazycref09_Components.f
  rw [if_pos (show (0 : Int) <= (l.length : Int) by omega), Int.toNat_natCast, if_pos (show l.length <= 281474976710656 by omega)]
end Tp
end Go.Proofs.Ytpmjpngmmphkmaa
namespace Go.Proofs.Ytpmjpngmmphkmaa
open Go.RowKit Go.Proofs.Yw.A Go.Proofs.Yw.B Go.Proofs.Yw.C Go.Proofs.Ytpmjpngmmphkmaa.P
namespace Tp
open Tj Rw Od Gp
theorem t40_at (l : List S40) (i : Nat) (h : i < l.length) : rd_T40 l (i : Int) = l[i] := by
 simp [rd_T40, List.getD_eq_getElem?_getD, List.getElem?_eq_getElem h]
def posI (L : List S40) (x : S40) : Int := match posK L x with | none => -1 | some i => i
theorem posI_neg {L : List S40} {x : S40} : posI L x < 0 ↔ posK L x = none := by
 unfold posI
 cases posK L x with
 | none => simp
 | some i => simp
theorem pos_loop (L : List S40) (x : S40) (hl : L.length < 1000000) : ∀ (m i : Nat), i + m = L.length -> (∀ (j : Nat) (hj : j < L.length), j < i -> eqK L[j] x = false) -> Ev (fun k => lazyclaw09_position.l0 k L i x.f0 x.f1) (posI L x) := by
 intro m
 induction m with
 | zero =>
  intro i hi hno
  have : posI L x = -1 := by
   unfold posI posK
   have : L.findIdx? (fun y => eqK y x) = none := by
    rw [List.findIdx?_eq_none_iff]
    intro y hy
    obtain ⟨j, hj, rfl⟩ := List.mem_iff_getElem.1 hy
    exact hno j hj (by omega)
   rw [this]
  rw [this]
  refine Ev.step (fun k => ?_) (Ev.now _)
  simp only [lazyclaw09_position.l0]
  rw [if_neg (by omega)]
 | succ m ih =>
  intro i hi hno
  have hil : i < L.length := by omega
  by_cases he : eqK L[i] x = true
  rotate_left
  · refine Ev.step (fun k => ?_) (ih (i + 1) (by omega) (fun j hj hji => by
     by_cases h : j = i
     · subst h; simpa using he
     exact hno j hj (by omega)))
    simp only [lazyclaw09_position.l0]
    rw [if_pos (by omega), if_pos (by omega), t40_at L i hil, if_neg (show ¬ (L[i].f0 == x.f0 && L[i].f1 == x.f1) = true from he), succ_cast i (by omega)]
  have : posI L x = i := by
   unfold posI posK
   have : L.findIdx? (fun y => eqK y x) = some i := by
    rw [List.findIdx?_eq_some_iff_getElem]
    exact ⟨hil, he, fun j hj => by simpa using hno j (by omega) hj⟩
   rw [this]
  rw [this]
  refine Ev.step (fun k => ?_) (Ev.now _)
  simp only [lazyclaw09_position.l0]
  rw [if_pos (by omega), if_pos (by omega), t40_at L i hil, if_pos (show (L[i].f0 == x.f0 && L[i].f1 == x.f1) = true from he)]
theorem pos_ev (L : List S40) (x : S40) (hl : L.length < 1000000) : Ev (fun k => lazyclaw09_position.f k L x.f0 x.f1) (posI L x) :=
 pos_loop L x hl L.length 0 (by omega) (fun j _ h => by omega)
theorem diff_loop (l : List S40) (hl : l.length <= 60) : ∀ (m i : Nat) (acc : List S40), i + m = l.length -> acc.length <= i -> Ev (fun k => lazyclaw09_different.l0 k l acc i) (firstsA (l.drop i) acc) := by
 intro m
 induction m with
 | zero =>
  intro i acc hi ha
  rw [List.drop_of_length_le (by omega)]
  refine Ev.step (fun k => ?_) (Ev.now acc)
  simp only [lazyclaw09_different.l0]
  rw [if_neg (by omega)]
 | succ m ih =>
  intro i acc hi ha
  have hil : i < l.length := by omega
  rw [List.drop_eq_getElem_cons hil]
  unfold firstsA
  have h1 := ih (i + 1) (acc ++ [l[i]]) (by omega) (by simp; omega)
  have h2 := ih (i + 1) acc (by omega) (by omega)
  refine Ev.step (f := fun k => (lazyclaw09_position.f k acc l[i].f0 l[i].f1).bind fun t => if t < 0 then lazyclaw09_different.l0 k l (acc ++ [l[i]]) ((i + 1 : Nat) : Int) else lazyclaw09_different.l0 k l acc ((i + 1 : Nat) : Int)) (fun k => ?_) (Ev.bind (pos_ev acc l[i] (by omega)) (f := fun k t => if t < 0 then lazyclaw09_different.l0 k l (acc ++ [l[i]]) ((i + 1 : Nat) : Int) else lazyclaw09_different.l0 k l acc ((i + 1 : Nat) : Int)) ?_)
  · simp only [lazyclaw09_different.l0]
    rw [if_pos (by omega), if_pos (by omega), t40_at l i hil, succ_cast i (by omega)]
    congr 1
    funext t
    rw [if_pos (show acc.length < 8796093022208 by omega)]
  · cases hp : posK acc l[i] with
    | none =>
     have : posI acc l[i] < 0 := posI_neg.2 hp
     simp only [if_pos this, Option.isSome_none, Bool.false_eq_true, if_false]
     exact h1
    | some p =>
     have : ¬ posI acc l[i] < 0 := fun e => by rw [posI_neg.1 e] at hp; cases hp
     simp only [if_neg this, Option.isSome_some, if_true]
     exact h2
theorem diff_ev (l : List S40) (hl : l.length <= 60) : Ev (fun k => lazyclaw09_different.f k l) (firsts l) := diff_loop l hl l.length 0 [] (by omega) (by simp)
def cU (x : S40) (i : Int) : Bool := decide ((Go.bits .and .i64 (shr .i64 x.f1 (wrap64 (x.f0 + (wrap64 (4 * i))))) 1) = 1)
def yU (x : S40) (i : Int) : S40 := ⟨Int.tmod (wrap64 ((wrap64 (x.f0 * i)) + (Int.tmod x.f1 7))) 8, x.f1⟩
def u1 (x : S40) (i : Int) : List S40 := if cU x i = true then [yU x i] else []
def usV (x : S40) : List S40 := u1 x 1 ++ u1 x 2
def inK (x : S40) : Prop := 0 <= x.f0 /\ x.f0 <= 7 /\ 0 <= x.f1 /\ x.f1 <= 2147483648
theorem us_step {x : S40} (hx : inK x) (i : Int) (hi : i = 1 \/ i = 2) (acc r : List S40) (ha : acc.length < 10) (h : Ev (fun k => lazyclaw09_Uses.l0 k (acc ++ u1 x i) (i + 1) x.f0 x.f1) r) : Ev (fun k => lazyclaw09_Uses.l0 k acc i x.f0 x.f1) r := by
 obtain ⟨h0, h7, _, _⟩ := hx
 refine Ev.step (fun k => ?_) h
 simp only [lazyclaw09_Uses.l0]
 have hs : 0 <= wrap64 (x.f0 + wrap64 (4 * i)) := by unfold wrap64; omega
 have hw : wrap64 (i + 1) = i + 1 := by unfold wrap64; omega
 rw [if_pos (by omega), if_pos hs, hw, if_pos (show acc.length < 8796093022208 by omega)]
 by_cases hc : cU x i = true
 · have : u1 x i = [yU x i] := by unfold u1; rw [if_pos hc]
   rw [this, if_pos (of_decide_eq_true hc)]
   rfl
 have : u1 x i = [] := by unfold u1; rw [if_neg hc]
 rw [this, if_neg (fun e => hc (decide_eq_true e)), List.append_nil]
theorem u1_len (x : S40) (i : Int) : (u1 x i).length <= 1 := by unfold u1; split <;> simp
theorem uses_ev {x : S40} (hx : inK x) : Ev (fun k => lazyclaw09_Uses.f k x.f0 x.f1) (usV x) := by
 have h1 := u1_len x 1
 refine us_step hx 1 (.inl rfl) [] _ (by simp) (us_step hx (1 + 1) (.inr rfl) _ _ (by simp; omega) ?_)
 refine Ev.step (fun k => ?_) (Ev.now _)
 simp only [lazyclaw09_Uses.l0]
 rw [if_neg (by omega)]
 rfl
theorem yU_ok {x : S40} (hx : inK x) (i : Int) : okK (yU x i) = true := by
 obtain ⟨_, _, h2, h3⟩ := hx
 have m1 : IntKind.i64.min = -9223372036854775808 := by decide
 have m2 : IntKind.i64.max = 9223372036854775807 := by decide
 have t1 := Int.tmod_lt_of_pos (wrap64 ((wrap64 (x.f0 * i)) + (Int.tmod x.f1 7))) (b := 8) (by omega)
 have t2 := Int.lt_tmod_of_pos (wrap64 ((wrap64 (x.f0 * i)) + (Int.tmod x.f1 7))) (b := 8) (by omega)
 simp only [okK, yU, Lit.wf, m1, m2, Bool.and_eq_true, decide_eq_true_eq]
 omega
theorem inK_ok {x : S40} (hx : inK x) : okK x = true := by
 obtain ⟨h0, h1, h2, h3⟩ := hx
 have m1 : IntKind.i64.min = -9223372036854775808 := by decide
 have m2 : IntKind.i64.max = 9223372036854775807 := by decide
 simp only [okK, Lit.wf, m1, m2, Bool.and_eq_true, decide_eq_true_eq]
 omega
theorem usV_len (x : S40) : (usV x).length <= 2 := by
 have h1 := u1_len x 1
 have h2 := u1_len x 2
 unfold usV
 rw [List.length_append]
 omega
theorem usV_ok {x : S40} (hx : inK x) : okR (usV x) = true := by
 have hl := usV_len x
 have : ∀ i, (u1 x i).all okK = true := fun i => by
  unfold u1
  split
  · simp [yU_ok hx i]
  · rfl
 rw [okR, Bool.and_eq_true]
 refine ⟨decide_eq_true (by omega), ?_⟩
 unfold usV
 rw [List.all_append, this 1, this 2]
 rfl
def edL (L : List S40) : List (List Int) := L.map fun x => outs L (usV x)
theorem edL_len (L : List S40) : (edL L).length = L.length := List.length_map ..
theorem edL_row (L : List S40) (i : Nat) (h : i < L.length) : row (edL L) (i : Int) = outs L (usV L[i]) := by
 rw [row_mem _ i (by rw [edL_len]; exact h)]
 simp [edL]
theorem outs_nd (L ys : List S40) : ∀ w ∈ outs L ys, 0 <= w /\ w < (L.length : Int) := by
 intro w hw
 obtain ⟨y, _, hy⟩ := List.mem_filterMap.1 hw
 cases hp : posK L y with
 | none => rw [hp] at hy; cases hy
 | some i =>
  rw [hp] at hy
  have := posK_lt hp
  have e : ((i : Nat) : Int) = w := Option.some.inj hy
  subst e
  omega
theorem outs_len (L ys : List S40) : (outs L ys).length <= ys.length := List.length_filterMap_le ..
theorem edL_vld (L : List S40) : Vld (edL L) := by
 intro v hv w hw
 obtain ⟨h0, h1⟩ := hv
 obtain ⟨i, rfl⟩ := Int.eq_ofNat_of_zero_le h0
 rw [edL_len] at h1
 rw [edL_row L i (by omega)] at hw
 have := outs_nd L _ w hw
 unfold nd
 rw [edL_len]
 exact this
theorem edL_rows (L : List S40) (v : Int) : (row (edL L) v).length <= 2 := by
 unfold Tj.row
 rw [List.getD_eq_getElem?_getD]
 by_cases h : v.toNat < (edL L).length
 rotate_left
 · rw [List.getElem?_eq_none (by omega)]
   simp
 rw [List.getElem?_eq_getElem h]
 have : (edL L)[v.toNat] = outs L (usV (L[v.toNat]'(by rwa [edL_len] at h))) := by simp [edL]
 rw [Option.getD_some, this]
 exact Nat.le_trans (outs_len _ _) (usV_len _)
theorem edL_sm {L : List S40} (h : L.length <= 60) : Sm (edL L) := ⟨by rw [edL_len]; exact h, fun j hj => Nat.le_trans (edL_rows L _) (by omega)⟩
theorem mapM_ev (L : List S40) : ∀ (M : List S40), (∀ x ∈ M, inK x) -> Ev (fun k => M.mapM (usesF k L)) (M.map fun x => outs L (usV x)) := by
 intro M
 induction M with
 | nil => intro _; exact Ev.congr (fun k => by simp) (Ev.now [])
 | cons x M ih =>
  intro h
  have h1 := ih (fun y hy => h y (List.mem_cons_of_mem _ hy))
  have hx := h x List.mem_cons_self
  have hu : Ev (fun k => usesF k L x) (outs L (usV x)) := by
   unfold usesF
   exact Ev.bind (uses_ev hx) (f := fun k ys => if okR ys = true then some (outs L ys) else none) (by
    rw [if_pos (usV_ok hx)]
    exact Ev.now _)
  refine Ev.congr (f := fun k => (usesF k L x).bind fun b => (M.mapM (usesF k L)).bind fun bs => some (b :: bs)) (fun k => ?_) ?_
  · rw [List.mapM_cons]; rfl
  · exact Ev.bind hu (f := fun k b => (M.mapM (usesF k L)).bind fun bs => some (b :: bs)) (Ev.bind h1 (f := fun k bs => some (outs L (usV x) :: bs)) (Ev.now _))
theorem full_ok {E o : List (List Int)} (hv : Vld E) (hn : E.length <= 60) (h : Full E o) : okC E.length o = true := by
 obtain ⟨_, f2, f3⟩ := full_len hv h
 have P := kahn_parts hv h.1
 rw [okC, Bool.and_eq_true]
 refine ⟨decide_eq_true (by omega), List.all_eq_true.2 fun c hc => ?_⟩
 rw [Bool.and_eq_true]
 refine ⟨decide_eq_true (by have := f3 c hc; omega), List.all_eq_true.2 fun i hi => ?_⟩
 obtain ⟨m, _, rfl⟩ := P.scc c hc
 obtain ⟨h0, h1⟩ := (mem_scc.1 hi).1
 rw [Bool.and_eq_true]
 exact ⟨decide_eq_true h0, decide_eq_true h1⟩
theorem firsts_mem : ∀ (l acc : List S40) (x : S40), x ∈ firstsA l acc -> x ∈ l \/ x ∈ acc := by
 intro l
 induction l with
 | nil => intro acc x h; exact .inr h
 | cons y l ih =>
  intro acc x h
  unfold firstsA at h
  split at h
  · exact (ih _ _ h).imp (List.mem_cons_of_mem _) id
  · rcases ih _ _ h with h | h
    · exact .inl (List.mem_cons_of_mem _ h)
    · rcases List.mem_append.1 h with h | h
      · exact .inr h
      · exact .inl (by rw [List.mem_singleton.1 h]; exact List.mem_cons_self)
theorem firsts_in {l : List S40} (h : ∀ x ∈ l, inK x) : ∀ x ∈ firsts l, inK x := fun x hx => by
 rcases firsts_mem l [] x hx with h2 | h2
 · exact h x h2
 · cases h2
theorem okR_in {l : List S40} (hl : l.length <= 60) (h : ∀ x ∈ l, inK x) : okR l = true := by
 rw [okR, Bool.and_eq_true]
 exact ⟨decide_eq_true (by omega), List.all_eq_true.2 fun x hx => inK_ok (h x hx)⟩
theorem group_uses {l : List S40} {C : List (List Int)} (hl : l.length <= 60) (h : ∀ x ∈ l, inK x) (ho : Full (edL (firsts l)) C) (hg : graph_ordered.f (edL (firsts l)) = some C) :
 graph_Group_Uses.f l = some (C.map (fun c => c.map (rd_T40 (firsts l)))) := by
 have hL : (firsts l).length <= 60 := Nat.le_trans (firsts_length l) hl
 have hev : Ev (fun k => groupF k l) (C.map (fun c => c.map (rd_T40 (firsts l)))) := by
  unfold groupF
  refine Ev.congr (f := fun k => ((firsts l).mapM (usesF k (firsts l))).bind (told (firsts l))) (fun k => if_pos (okR_in hl h)) ?_
  refine Ev.bind (mapM_ev (firsts l) (firsts l) (firsts_in h)) (f := fun k => told (firsts l)) ?_
  have hc := full_ok (edL_vld (firsts l)) (by rw [edL_len]; exact hL) ho
  rw [edL_len] at hc
  have : told (firsts l) (edL (firsts l)) = some (C.map (fun c => c.map (rd_T40 (firsts l)))) := by
   unfold told
   rw [hg, Option.bind_some, if_pos hc]
  exact Ev.congr (fun k => this) (Ev.now _)
 obtain ⟨K, hK⟩ := hev
 exact Od.lim_of hK
theorem scc_nil {n : Nat} {m : Int} (hm : nd (List.replicate n []) m) : (scc (List.replicate n []) m).length = 1 := by
 have hr : ∀ {a b : Int}, Rc (List.replicate n []) a b -> a = b := by
  intro a b h
  induction h with
  | refl => rfl
  | tail _ h _ => rw [row_rep] at h; cases h
 have hall : ∀ x, x ∈ scc (List.replicate n []) m ↔ x = m := fun x => by
  rw [mem_scc]
  constructor
  · intro h; exact (hr h.2.1).symm
  · rintro rfl; exact ⟨hm, .refl _, .refl _⟩
 have hp := scc_lt (List.replicate n []) m
 generalize scc (List.replicate n []) m = s at *
 match s, hall, hp with
 | [], ha, _ => exact absurd ((ha m).2 rfl) (by simp)
 | [a], _, _ => rfl
 | a :: b :: r, ha, hp =>
  have h1 := (ha a).1 (by simp)
  have h2 := (ha b).1 (by simp)
  have := List.rel_of_pairwise_cons hp (List.mem_cons_self)
  omega
theorem ones : ∀ (o : List (List Int)), (∀ c ∈ o, c.length = 1) -> o.flatten.length = o.length := by
 intro o
 induction o with
 | nil => intro _; rfl
 | cons c o ih =>
  intro h
  rw [List.flatten_cons, List.length_append, ih (fun d hd => h d (List.mem_cons_of_mem _ hd)), h c List.mem_cons_self, List.length_cons]
  omega
theorem group_nil {l : List S40} (hl : l.length <= 60) (h : ∀ x ∈ l, inK x) : ∃ r, graph_Group_nil.f l = some r /\ r.length = (firsts l).length := by
 have hL : (firsts l).length <= 60 := Nat.le_trans (firsts_length l) hl
 have hv : Vld (List.replicate (firsts l).length []) := fun v hv w hw => by rw [row_rep] at hw; cases hw
 obtain ⟨C, hC, hg⟩ := ordered_ev hv (L := 0) (fun v => by rw [row_rep]; simp) (by rw [List.length_replicate]; omega)
 have hc := full_ok hv (by rw [List.length_replicate]; exact hL) hC
 rw [List.length_replicate] at hc
 refine ⟨C.map (fun c => c.map (rd_T40 (firsts l))), ?_, ?_⟩
 · show groupN l = _
   unfold groupN told
   rw [if_pos (okR_in hl h), hg, Option.bind_some, if_pos hc]
 · rw [List.length_map]
   have P := kahn_parts hv hC.1
   have h1 := (full_len hv hC).1
   rw [ones C (fun c hcc => by
    obtain ⟨m, hm, rfl⟩ := P.scc c hcc
    exact scc_nil hm), List.length_replicate] at h1
   exact h1
section
variable {l : List S40} {C : List (List Int)}
theorem L6_at (L : List S40) (C : List (List Int)) (i : Nat) (h : i < C.length) : rd_L6 (C.map fun c => c.map (rd_T40 L)) (i : Int) = (row C (i : Int)).map (rd_T40 L) := by
  rw [row_mem C i h]
  simp [rd_L6, List.getD_eq_getElem?_getD, h]
theorem T40_map (L : List S40) (c : List Int) (i : Nat) (h : i < c.length) : rd_T40 (c.map (rd_T40 L)) (i : Int) = rd_T40 L (rd c (i : Int)) := by
  rw [t40_at _ i (by rw [List.length_map]; exact h), List.getElem_map, rd_at c i h]
theorem grp_l3 (hl : l.length <= 60) (hin : ∀ x ∈ l, inK x) (ho : Full (edL (firsts l)) C) : ∀ (m i : Nat), i + m = C.length -> Ev (fun k => lazyclaw09_GraphGroup.l3 k l (firsts l) C (C.map fun c => c.map (rd_T40 (firsts l))) i) true := by
  have hL : (firsts l).length <= 60 := Nat.le_trans (firsts_length l) hl
  obtain ⟨f1, f2, f3⟩ := full_len (edL_vld _) ho
  rw [edL_len] at f1 f2 f3
  have P := kahn_parts (edL_vld _) ho.1
  intro m
  induction m with
  | zero =>
    intro i hi
    obtain ⟨r, hr, hrl⟩ := group_nil hl hin
    refine Ev.step (fun k => ?_) (Ev.now true)
    simp only [lazyclaw09_GraphGroup.l3]
    rw [if_neg (by rw [List.length_map]; omega), hr, Option.bind_some, if_pos (by rw [hrl])]
    rfl
  | succ m ih =>
    intro i hi
    have hic : i < C.length := by omega
    have hcm := row_in C i hic
    have hcl := f3 _ hcm
    have inner : ∀ (m2 j : Nat), j + m2 = (row C (i : Int)).length -> Ev (fun k => lazyclaw09_GraphGroup.l4 k l (firsts l) C (C.map fun c => c.map (rd_T40 (firsts l))) i j) true := by
      intro m2
      induction m2 with
      | zero =>
        intro j hj
        refine Ev.step (fun k => ?_) (ih (i + 1) (by omega))
        simp only [lazyclaw09_GraphGroup.l4]
        rw [L6_at _ C i hic, if_pos (by omega), if_pos (by rw [List.length_map]; omega), if_neg (by rw [List.length_map]; omega), succ_cast i (by omega)]
      | succ m2 ih2 =>
        intro j hj
        have hjl : j < (row C (i : Int)).length := by omega
        have hx : rd (row C (i : Int)) j ∈ row C (i : Int) := by rw [rd_at _ j hjl]; exact List.getElem_mem _
        have hxn : nd (edL (firsts l)) (rd (row C (i : Int)) j) := by
          obtain ⟨m, _, e⟩ := P.scc _ hcm
          rw [e] at hx
          have := (mem_scc.1 hx).1
          rw [<- e] at this
          exact this
        obtain ⟨n0, n1⟩ := hxn
        rw [edL_len] at n1
        refine Ev.step (fun k => ?_) (ih2 (j + 1) (by omega))
        simp only [lazyclaw09_GraphGroup.l4]
        rw [L6_at _ C i hic, L1_row, T40_map _ _ j hjl, if_pos (by omega), if_pos (by rw [List.length_map]; omega), if_pos (by rw [List.length_map]; omega), if_pos (by omega), if_pos (by omega), if_pos (by omega), if_pos n0, if_pos n1, if_neg (by simp), succ_cast j (by omega)]
    refine Ev.step (fun k => ?_) (inner (row C (i : Int)).length 0 (by omega))
    simp only [lazyclaw09_GraphGroup.l3]
    rw [L6_at _ C i hic, L1_row, if_pos (by rw [List.length_map]; omega), if_pos (by omega), if_pos (by omega), if_pos (by rw [List.length_map])]
    rfl
theorem grp_l1 (hl : l.length <= 60) (hin : ∀ x ∈ l, inK x) (ho : Full (edL (firsts l)) C) (hg : graph_ordered.f (edL (firsts l)) = some C) : ∀ (m i : Nat), i + m = (firsts l).length -> Ev (fun k => lazyclaw09_GraphGroup.l1 k l (firsts l) i ((edL (firsts l)).take i)) true := by
  have hL : (firsts l).length <= 60 := Nat.le_trans (firsts_length l) hl
  intro m
  induction m with
  | zero =>
    intro i hi
    rw [List.take_of_length_le (by rw [edL_len]; omega)]
    refine Ev.step (fun k => ?_) (Ev.bind (refcomps_ev (edL_sm hL) (edL_vld _) ho) (f := fun k t => (graph_Group_Uses.f l).bind fun t369 => if (t369.length : Int) = (t.length : Int) then lazyclaw09_GraphGroup.l3 k l (firsts l) t t369 0 else some false) ?_)
    · simp only [lazyclaw09_GraphGroup.l1]
      rw [if_neg (by omega)]
    · rw [group_uses hl hin ho hg]
      refine Ev.congr (fun k => ?_) (grp_l3 hl hin ho C.length 0 (by omega))
      rw [Option.bind_some, if_pos (by rw [List.length_map])]
      rfl
  | succ m ih =>
    intro i hi
    have hil : i < (firsts l).length := by omega
    have hx := firsts_in hin _ (List.getElem_mem hil)
    have hul := usV_len (firsts l)[i]
    have inner : ∀ (m2 j : Nat) (acc : List Int), j + m2 = (usV (firsts l)[i]).length -> acc.length <= j -> acc ++ outs (firsts l) ((usV (firsts l)[i]).drop j) = row (edL (firsts l)) (i : Int) ->
        Ev (fun k => lazyclaw09_GraphGroup.l2 k l (firsts l) i acc (usV (firsts l)[i]) ((usV (firsts l)[i]).length : Int) j ((edL (firsts l)).take i)) true := by
      intro m2
      induction m2 with
      | zero =>
        intro j acc hj ha he
        rw [List.drop_of_length_le (by omega), outs, List.filterMap_nil, List.append_nil] at he
        subst he
        have ht : (edL (firsts l)).take (i + 1) = (edL (firsts l)).take i ++ [row (edL (firsts l)) (i : Int)] := by
          have hie : i < (edL (firsts l)).length := by rw [edL_len]; exact hil
          rw [row_mem _ i hie]
          exact List.take_succ_eq_append_getElem hie
        have h1 := ih (i + 1) (by omega)
        rw [ht] at h1
        refine Ev.step (fun k => ?_) h1
        simp only [lazyclaw09_GraphGroup.l2]
        rw [if_neg (by omega), if_pos (show ((edL (firsts l)).take i).length < 5864062014805 by rw [List.length_take]; omega), succ_cast i (by omega)]
      | succ m2 ih2 =>
        intro j acc hj ha he
        have hjl : j < (usV (firsts l)[i]).length := by omega
        rw [List.drop_eq_getElem_cons hjl] at he
        refine Ev.step (fun k => ?_) (Ev.bind (pos_ev (firsts l) (usV (firsts l)[i])[j] (by omega)) (f := fun k t => if t >= 0 then lazyclaw09_GraphGroup.l2 k l (firsts l) i (acc ++ [t]) (usV (firsts l)[i]) ((usV (firsts l)[i]).length : Int) ((j + 1 : Nat) : Int) ((edL (firsts l)).take i) else lazyclaw09_GraphGroup.l2 k l (firsts l) i acc (usV (firsts l)[i]) ((usV (firsts l)[i]).length : Int) ((j + 1 : Nat) : Int) ((edL (firsts l)).take i)) ?_)
        · simp only [lazyclaw09_GraphGroup.l2]
          rw [if_pos (by omega), if_pos (by omega), if_pos (by omega), t40_at _ j hjl, succ_cast j (by omega)]
          congr 1
          funext t
          rw [if_pos (show acc.length < 17592186044416 by omega)]
        · cases hp : posK (firsts l) (usV (firsts l)[i])[j] with
          | none =>
            have h0 : ¬ posI (firsts l) (usV (firsts l)[i])[j] >= 0 := by have := posI_neg.2 hp; omega
            simp only [if_neg h0]
            refine ih2 (j + 1) acc (by omega) (by omega) ?_
            rw [<- he]
            unfold outs
            rw [List.filterMap_cons, hp]
            rfl
          | some q =>
            have h1 : posI (firsts l) (usV (firsts l)[i])[j] = (q : Int) := by unfold posI; rw [hp]
            have h0 : posI (firsts l) (usV (firsts l)[i])[j] >= 0 := by omega
            simp only [if_pos h0]
            rw [h1]
            refine ih2 (j + 1) (acc ++ [(q : Int)]) (by omega) (by simp; omega) ?_
            rw [<- he]
            unfold outs
            rw [List.filterMap_cons, hp]
            simp
    refine Ev.step (fun k => ?_) (Ev.bind (uses_ev hx) (f := fun k t => lazyclaw09_GraphGroup.l2 k l (firsts l) i [] t (t.length : Int) 0 ((edL (firsts l)).take i)) (inner (usV (firsts l)[i]).length 0 [] (by omega) (by simp) (by rw [edL_row _ i hil]; rfl)))
    simp only [lazyclaw09_GraphGroup.l1]
    rw [if_pos (by omega), if_pos (by omega), t40_at _ i hil]
theorem grp_l0 (hl : l.length <= 60) : ∀ (m i : Nat), i + m = l.length -> (∀ (j : Nat) (hj : j < l.length), j < i -> inK l[j]) -> Ev (fun k => lazyclaw09_GraphGroup.l0 k l i) true := by
  intro m
  induction m with
  | zero =>
    intro i hi hin
    have hall : ∀ x ∈ l, inK x := fun x hx => by
      obtain ⟨j, hj, rfl⟩ := List.mem_iff_getElem.1 hx
      exact hin j hj (by omega)
    have hL : (firsts l).length <= 60 := Nat.le_trans (firsts_length l) hl
    obtain ⟨C, hC, hg⟩ := ordered_ev (edL_vld (firsts l)) (L := 2) (edL_rows _) (by rw [edL_len]; omega)
    refine Ev.step (fun k => ?_) (Ev.bind (diff_ev l hl) (f := fun k t => lazyclaw09_GraphGroup.l1 k l t 0 ([] : List (List Int))) (grp_l1 hl hall hC hg (firsts l).length 0 (by omega)))
    simp only [lazyclaw09_GraphGroup.l0]
    rw [if_neg (by omega)]
  | succ m ih =>
    intro i hi hin
    have hil : i < l.length := by omega
    by_cases h0 : l[i].f0 < 0
    · refine Ev.step (fun k => ?_) (Ev.now true)
      simp only [lazyclaw09_GraphGroup.l0]
      rw [if_pos (by omega), if_pos (by omega), t40_at l i hil, if_pos h0]
      rfl
    · by_cases h1 : l[i].f0 > 7
      · refine Ev.step (fun k => ?_) (Ev.now true)
        simp only [lazyclaw09_GraphGroup.l0]
        rw [if_pos (by omega), if_pos (by omega), t40_at l i hil, if_neg h0, if_pos h1]
        rfl
      · by_cases h2 : l[i].f1 < 0
        · refine Ev.step (fun k => ?_) (Ev.now true)
          simp only [lazyclaw09_GraphGroup.l0]
          rw [if_pos (by omega), if_pos (by omega), t40_at l i hil, if_neg h0, if_neg h1, if_pos h2]
          rfl
        · by_cases h3 : l[i].f1 > 2147483648
          · refine Ev.step (fun k => ?_) (Ev.now true)
            simp only [lazyclaw09_GraphGroup.l0]
            rw [if_pos (by omega), if_pos (by omega), t40_at l i hil, if_neg h0, if_neg h1, if_neg h2, if_pos h3]
            rfl
          · refine Ev.step (fun k => ?_) (ih (i + 1) (by omega) (fun j hj hji => by
              by_cases e : j = i
              · subst e; exact ⟨by omega, by omega, by omega, by omega⟩
              · exact hin j hj (by omega)))
            simp only [lazyclaw09_GraphGroup.l0]
            rw [if_pos (by omega), if_pos (by omega), t40_at l i hil, if_neg h0, if_neg h1, if_neg h2, if_neg h3, succ_cast i (by omega)]
end
theorem GraphGroup (l : List S40) : ∃ k, lazyclaw09_GraphGroup.f k l = some true := by
  refine Ev.rounds (g := fun k => lazyclaw09_GraphGroup.f k l) ?_
  by_cases hl : (l.length : Int) > 60
  · refine Ev.congr (fun k => ?_) (Ev.now true)
    unfold lazyclaw09_GraphGroup.f
    rw [if_pos hl]
    rfl
  · refine Ev.congr (fun k => ?_) (grp_l0 (l := l) (by omega) l.length 0 (by omega) (fun j _ h => by omega))
    unfold lazyclaw09_GraphGroup.f
    rw [if_neg hl]
    rfl
end Tp
end Go.Proofs.Ytpmjpngmmphkmaa
namespace Go.Proofs.Ytpmjpngmmphkmaa.graphGroup
open Go.ChangeShapes Go.WideShapes Go.ChangeAt Go.RowKit Go.Proofs.Yw.A
theorem own : ownKnob Try.prog.godebug = none := by kernel_rfl
theorem laidOut : laidOutB Try.prog = true := by kernel_rfl
theorem lifted (os : Os) (started : os.Started) (H : Type) (enc : TypeId × Value -> H) :
 ReturnsInHanded {} Try.checked os 8 .any (Rows.graphGroupSpec.pre6 enc Try.prog Try.f8 Rows.graphGroupRow.domain false) (Rows.graphGroupSpec.post enc Try.prog Try.f8 false true false false) := by
 refine returnsInHanded_of_change_sized (C := Try.checked) own started (by kernel_rfl) Try.func8
  (ChangeSpec.witness6 (enc := enc) (C := Try.checked) false ⟨#[], #[.slice none 0 0], []⟩ 8 (by kernel_rfl) (by kernel_rfl) (by kernel_rfl) (by kernel_rfl)) ?_
 intro W base args ds gs before hval0 hW hcnd hsz0 _
 have hsz : (DataW.weightsEach Try.prog (Try.f8.params.toList ++ Rows.graphGroupSpec.plain.varTypes Try.prog) (ds ++ gs)).all (· <= reachBytes) = true := hsz0
 have hval : ∀ (j : Nat) t v, Try.f8.params[j]? = some t -> args[j]? = some v -> Value.okWide Try.prog W .any base t v := hval0
 have hW' := hW
 obtain ⟨p, q, hA0, hV, rfl, hfz, hnd⟩ := hW
 have hA : DataW.TrodAll enc Try.prog W 0 (fun _ => true) true Try.f8.params.toList args.toList ds p := hA0
 rw [Try.params8] at hA hval hsz
 obtain ⟨v0, vs0, d0, ds0, p0, q0, hargs, rfl, rfl, h0, r0⟩ := trodAll_cons hA
 obtain ⟨rfl, rfl, rfl⟩ := trodAll_nil r0
 obtain rfl : args = #[v0] := by cases args; simp_all
 obtain ⟨rfl, rfl⟩ := trodVars_none hV
 have k0 := h0
 have lt0 : ∀ x ∈ p0, x.block < W.heap.size := by obtain ⟨m, hm⟩ := k0; exact DataW.trod_lt m _ _ _ hm
 obtain ⟨A0, c0, l0, rfl, hc0, hr0, y0⟩ := Op.Opens.arg Try.underlying38 Op.opens38 (hval 0 38 v0 rfl rfl) h0
 clear hA0 hval0 hsz0 hsz
 obtain ⟨kr, hkr⟩ := Tp.GraphGroup l0
 refine (P.lazyclaw09_GraphGroup.calls kr A0 c0 l0 true W hr0 hc0 hkr).mono fun e W' ⟨he, bel⟩ => ?_
 subst he
 exact ⟨_, rfl, _, _, _, [], _, [], hW', trodAll_mk1 (shut_bool Try.underlying4 _), (trodAll_cons_mk (Below.trod laidOut (by kernel_rfl) (of_decide_eq_true (by kernel_rfl)) k0 bel lt0) trodAll_mk0), rfl, bel.frame _, fun h => by cases h⟩
theorem over : Rows.graphGroupRow.holds Try.pinned (OpenSpec.ofChange Rows.graphGroupSpec) :=
 OpenClaim.holds_of_wide 8 Try.f8 rfl rfl rfl rfl rfl rfl rfl ⟨rfl, rfl, rfl, rfl, rfl⟩ rfl rfl rfl rfl rfl (by kernel_rfl) Try.func8 (by kernel_rfl)
  (of_decide_eq_true (by kernel_rfl)) (by unfold Func.isWrapper; first | (rw [if_pos (by decide +kernel)]; kernel_rfl) | (rw [if_neg (by decide +kernel)]; exact ⟨rfl, rfl⟩))
  (fun os started H enc _ => lifted os started H enc)
theorem proved : Rows.GraphGroupSaid := over
#print axioms proved
end Go.Proofs.Ytpmjpngmmphkmaa.graphGroup
namespace Go.Proofs.Ytpmjpngmmphkmaa
theorem graphGroup_holds : Rows.GraphGroupSaid := graphGroup.proved
end Go.Proofs.Ytpmjpngmmphkmaa
