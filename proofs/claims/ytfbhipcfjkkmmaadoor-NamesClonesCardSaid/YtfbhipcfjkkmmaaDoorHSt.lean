/- The two supplies side by side: one call on both (step). -/
import Derived.Test.YtfbhipcfjkkmmaaDoorHRs
namespace Go.Proofs.YtfbhipcfjkkmmaaDoor
open Go.RowKit Go.Proofs.YtfbhipcfjkkmmaaDoorW.PrintWords Go.Proofs.YtfbhipcfjkkmmaaDoorW.PrintLast Go.Proofs.YtfbhipcfjkkmmaaDoorW.PrintMore
attribute [local go_sem] max2_int min2_int max_two min_two max_three min_three max_four min_four
open P _root_.Go.Proofs.YtfbhipcfjkkmmaaDoor.Nm
namespace Su
set_option linter.unusedVariables false
set_option linter.unusedSimpArgs false

abbrev bls (L : List ByteArray) : List (List UInt8) := L.map (·.data.toList)
/-- The program's supply behind p: the names L, c numbers kept; its blocks. -/
def PS (w : World) (p : Value) (c : Nat) (L : List ByteArray) (o : List Nat) : Prop :=
  ∃ b mu mn M, p = .pointer (some ⟨b, 0, none⟩) ∧ o = [b, mu, mn] ∧ Sup w b mu mn (bls L) c M ∧ TabOK (bls L) M
/-- The reference's supply behind q. -/
def RS (w : World) (q : Value) (L : List ByteArray) (o : List Nat) : Prop := ∃ r, q = .pointer (some ⟨r, 0, none⟩) ∧ RSup w r L o
theorem PS.lt {w : World} {p : Value} {c : Nat} {L : List ByteArray} {o : List Nat} (h : PS w p c L o) : ∀ k ∈ o, k < w.heap.size := by
  obtain ⟨b, mu, mn, M, rfl, rfl, hs, _⟩ := h
  intro k hk
  have h1 := World.block_lt_of_cell? _ _ hs.cell0
  have h2 := hs.set.lt
  have h3 := hs.num.lt
  rcases List.mem_cons.mp hk with rfl | hk
  · exact h1
  rcases List.mem_cons.mp hk with rfl | hk
  · exact h2
  rcases List.mem_cons.mp hk with rfl | hk
  · exact h3
  cases hk
theorem PS.but {w w' : World} {p : Value} {c : Nat} {L : List ByteArray} {o B : List Nat} (h : PS w p c L o) (hb : But B w w') (hd : ∀ k ∈ o, k ∉ B) : PS w' p c L o := by
  obtain ⟨b, mu, mn, M, rfl, rfl, hs, ht⟩ := h
  exact ⟨b, mu, mn, M, rfl, rfl, hs.but hb (hd b (by simp)) (hd mu (by simp)) (hd mn (by simp)), ht⟩
theorem PS.below {w w' : World} {p : Value} {c : Nat} {L : List ByteArray} {o : List Nat} (h : PS w p c L o) (hb : Below w.heap.size w w') : PS w' p c L o :=
  h.but (B := []) (But.of_below hb) (fun _ _ hk => by cases hk)
theorem RS.lt {w : World} {q : Value} {L : List ByteArray} {o : List Nat} (h : RS w q L o) : ∀ k ∈ o, k < w.heap.size := by
  obtain ⟨r, rfl, hs⟩ := h
  exact hs.lt
theorem RS.but {w w' : World} {q : Value} {L : List ByteArray} {o B : List Nat} (h : RS w q L o) (hb : But B w w') (hd : ∀ k ∈ o, k ∉ B) : RS w' q L o := by
  obtain ⟨r, rfl, hs⟩ := h
  exact ⟨r, rfl, hs.but hb hd⟩
theorem RS.below {w w' : World} {q : Value} {L : List ByteArray} {o : List Nat} (h : RS w q L o) (hb : Below w.heap.size w w') : RS w' q L o :=
  h.but (B := []) (But.of_below hb) (fun _ _ hk => by cases hk)
theorem bls_snoc (L : List ByteArray) (x : ByteArray) : bls (L ++ [x]) = bls L ++ [x.data.toList] := by simp [bls]

/-- What a call of Fresh answers. -/
structure Ans (L : List ByteArray) (x y : ByteArray) (L' : List ByteArray) : Prop where
  out : (stemB (freshBase x) = false ∧ y = ⟨#[]⟩ ∧ L' = L) ∨ (∃ n, stemB (freshBase x) = true ∧ Least (bls L) (freshBase x) n ∧ y = madeA (freshBase x) n ∧ L' = L ++ [y])
theorem Ans.uniq {L L1 L2 : List ByteArray} {x y1 y2 : ByteArray} (h1 : Ans L x y1 L1) (h2 : Ans L x y2 L2) : y1 = y2 ∧ L1 = L2 := by
  rcases h1.out with ⟨a, b, c⟩ | ⟨n, a, b, c, d⟩ <;> rcases h2.out with ⟨a', b', c'⟩ | ⟨n', a', b', c', d'⟩
  · exact ⟨b.trans b'.symm, c.trans c'.symm⟩
  · rw [a] at a'; cases a'
  · rw [a] at a'; cases a'
  · obtain rfl := b.uniq b'
    obtain rfl := c.trans c'.symm
    exact ⟨rfl, d.trans d'.symm⟩
theorem Ans.len {L L' : List ByteArray} {x y : ByteArray} (h : Ans L x y L') : L.length ≤ L'.length ∧ L'.length ≤ L.length + 1 := by
  rcases h.out with ⟨a, b, rfl⟩ | ⟨n, a, b, c, rfl⟩
  · omega
  · simp
theorem PS_Fresh (w : World) (hG : Glob w) {p : Value} {c : Nat} {L : List ByteArray} {o : List Nat} (h : PS w p c L o) (x : ByteArray) (hx : x.size ≤ 20000) (hL : L.length < 4000) (hc : c < 4000) :
    Calls Tryd.prog 26 #[p, .string x] w fun e w' => ∃ y L' c', e = .returned (.string y) ∧ Ans L x y L' ∧ PS w' p c' L' o ∧ c' ≤ c + 1 ∧ But o w w' := by
  obtain ⟨b, mu, mn, M, rfl, rfl, hs, ht⟩ := h
  cases hst : stemB (freshBase x)
  · refine (Fresh_no w hG hs x (by omega) hst).mono fun e w' ⟨he, hb⟩ => ?_
    exact ⟨_, L, c, he, ⟨.inl ⟨hst, rfl, rfl⟩⟩, ⟨b, mu, mn, M, rfl, rfl, hs.below hb, ht⟩, by omega, But.of_below hb⟩
  · obtain ⟨n, hn⟩ := least_free _ (bls L) hst (by simpa using hL)
    have hle := hn.le
    rw [List.length_map] at hle
    refine (Fresh_calls w hG hs x (by omega) (by simpa using hL) hc n (ht _).1 (ht.le hn) (by omega) (fun j h1 h2 => hn.used j (by omega) h2) hn.free).mono fun e w' hp => ?_
    rcases hp with ⟨h1, _⟩ | ⟨_, he, hs2, hb⟩
    · rw [hst] at h1; cases h1
    · refine ⟨_, L ++ [madeA (freshBase x) n], c + 1, he, ⟨.inr ⟨n, hst, hn, rfl, rfl⟩⟩, ⟨b, mu, mn, (fun z => if z = (freshBase x).data.toList then (n : Int) + 1 else M z), rfl, rfl, ?_, ?_⟩, Nat.le_refl _, hb.mono (by intro k hk; simp at hk ⊢; omega)⟩
      · rw [bls_snoc]; exact hs2
      · rw [bls_snoc]; exact ht.next hn
theorem RS_Fresh (w : World) (hG : Glob w) {q : Value} {L : List ByteArray} {o : List Nat} (h : RS w q L o) (x : ByteArray) (hx : x.size ≤ 20000) (hL : L.length < 4000) :
    Calls Tryd.prog 48 #[q, .string x] w fun e w' => ∃ y L' o', e = .returned (.string y) ∧ Ans L x y L' ∧ RS w' q L' o' ∧ But o w w' ∧ ∀ k ∈ o', k ∈ o ∨ w.heap.size ≤ k := by
  obtain ⟨r, rfl, hs⟩ := h
  obtain ⟨n, hn⟩ : ∃ n, stemB (freshBase x) = true → Least (bls L) (freshBase x) n := by
    cases hst : stemB (freshBase x)
    · exact ⟨0, fun h => by cases h⟩
    · obtain ⟨n, hn⟩ := least_free _ (bls L) hst (by simpa using hL)
      exact ⟨n, fun _ => hn⟩
  refine (RFresh_calls w hG hs x hx hL n hn).mono fun e w' hp => ?_
  rcases hp with ⟨h1, he, hb⟩ | ⟨h1, he, ⟨Q', h2, h3, h4⟩⟩
  · exact ⟨_, L, o, he, ⟨.inl ⟨h1, rfl, rfl⟩⟩, ⟨r, rfl, hs.below hb⟩, But.of_below hb, fun k hk => .inl hk⟩
  · exact ⟨_, _, Q', he, ⟨.inr ⟨n, h1, hn h1, rfl, rfl⟩⟩, ⟨r, rfl, h2⟩, h3, h4⟩
/-- What a call of Take leaves. -/
def tk (L : List ByteArray) (x : ByteArray) : List ByteArray := if hasB L x = true then L else L ++ [x]
theorem tk_len (L : List ByteArray) (x : ByteArray) : L.length ≤ (tk L x).length ∧ (tk L x).length ≤ L.length + 1 := by
  unfold tk
  split
  · omega
  · simp
theorem drawn_below0 {w w' : World} (h : Drawn0 w w') : Below w.heap.size w w' := by
  obtain ⟨n, rfl⟩ := h
  exact pw_below_drewN (Below.refl _ _) n
theorem PS_Take (w : World) {p : Value} {c : Nat} {L : List ByteArray} {o : List Nat} (h : PS w p c L o) (x : ByteArray) (hx : x.size ≤ maxLen) (hL : L.length < 4000) :
    Calls Tryd.prog 24 #[p, .string x] w fun e w' => e = .returned (.bool (!hasB L x)) ∧ PS w' p c (tk L x) o ∧ But o w w' := by
  obtain ⟨b, mu, mn, M, rfl, rfl, hs, ht⟩ := h
  refine (Take_calls w hs x hx (by rw [List.length_map]; exact Nat.lt_trans hL (by decide))).mono fun e w' hp => ?_
  rcases hp with ⟨h1, he, hd⟩ | ⟨h1, he, hs2, hb⟩
  · have h1' : hasB L x = true := h1
    rw [h1']
    refine ⟨he, ⟨b, mu, mn, M, rfl, rfl, ?_, ?_⟩, But.of_below (drawn_below0 hd)⟩
    · unfold tk; rw [if_pos h1']; exact hs.below (drawn_below0 hd)
    · unfold tk; rw [if_pos h1']; exact ht
  · have h1' : hasB L x = false := h1
    have ht' : tk L x = L ++ [x] := by unfold tk; rw [h1']; rfl
    rw [h1', ht']
    refine ⟨he, ⟨b, mu, mn, M, rfl, rfl, ?_, ?_⟩, But.of_grown hb (by simp)⟩
    · rw [bls_snoc]; exact hs2
    · rw [bls_snoc]; exact ht.snoc _
theorem RS_Take (w : World) {q : Value} {L : List ByteArray} {o : List Nat} (h : RS w q L o) (x : ByteArray) (hL : L.length < 4000) :
    Calls Tryd.prog 49 #[q, .string x] w fun e w' => ∃ o', e = .returned (.bool (!hasB L x)) ∧ RS w' q (tk L x) o' ∧ But o w w' ∧ ∀ k ∈ o', k ∈ o ∨ w.heap.size ≤ k := by
  obtain ⟨r, rfl, hs⟩ := h
  refine (RTake_calls w hs x hL).mono fun e w' hp => ?_
  rcases hp with ⟨h1, he, hd⟩ | ⟨h1, he, ⟨Q', h2, h3, h4⟩⟩
  · refine ⟨o, ?_, ?_, But.of_below (drawn_below0 hd), fun k hk => .inl hk⟩
    · rw [h1]; exact he
    · unfold tk; rw [if_pos h1]; exact ⟨r, rfl, hs.below (drawn_below0 hd)⟩
  · refine ⟨Q', ?_, ?_, h3, h4⟩
    · rw [h1]; exact he
    · unfold tk; rw [h1]; exact ⟨r, rfl, h2⟩
theorem PS_Clone (w : World) {p : Value} {c : Nat} {L : List ByteArray} {o : List Nat} (h : PS w p c L o) :
    Calls Tryd.prog 28 #[p] w fun e w' => ∃ b o', e = .returned (.pointer (some ⟨b, 0, none⟩)) ∧ PS w' (.pointer (some ⟨b, 0, none⟩)) c L o' ∧ (∀ k ∈ o', w.heap.size ≤ k) ∧ Below w.heap.size w w' := by
  obtain ⟨b, mu, mn, M, rfl, rfl, hs, ht⟩ := h
  refine (Clone_calls w hs).mono fun e w' ⟨b', mu', mn', he, hs2, h1, h2, h3, hb⟩ => ?_
  refine ⟨b', [b', mu', mn'], he, ⟨b', mu', mn', M, rfl, rfl, hs2, ht⟩, ?_, hb⟩
  intro k hk
  simp at hk
  omega

/-- Both, over a world w0 in which the package variables lie. -/
structure Both (w0 w : World) (p q : Value) (c : Nat) (L L' : List ByteArray) (o1 o2 : List Nat) : Prop where
  ps : PS w p c L o1
  rs : RS w q L' o2
  ne : ∀ k ∈ o2, k ∉ o1
  bel : Below w0.heap.size w0 w
  lo1 : ∀ k ∈ o1, w0.heap.size ≤ k
  lo2 : ∀ k ∈ o2, w0.heap.size ≤ k
theorem Both.prog {w0 w w' : World} {p q p' : Value} {c c' : Nat} {L L' L1 : List ByteArray} {o1 o2 : List Nat} (h : Both w0 w p q c L L' o1 o2) (hp : PS w' p' c' L1 o1) (hb : But o1 w w') : Both w0 w' p' q c' L1 L' o1 o2 :=
  ⟨hp, h.rs.but hb h.ne, h.ne, h.bel.trans (hb.below h.bel.size h.lo1), h.lo1, h.lo2⟩
theorem Both.ref {w0 w w' : World} {p q q' : Value} {c : Nat} {L L' L1 : List ByteArray} {o1 o2 o3 : List Nat} (h : Both w0 w p q c L L' o1 o2) (hr : RS w' q' L1 o3) (hb : But o2 w w') (hq : ∀ k ∈ o3, k ∈ o2 ∨ w.heap.size ≤ k) : Both w0 w' p q' c L L1 o1 o3 :=
  ⟨h.ps.but hb (fun k hk hk2 => h.ne k hk2 hk), hr, fun k hk hk1 => by
    rcases hq k hk with h2 | h2
    · exact h.ne k h2 hk1
    · have := h.ps.lt k hk1; omega, h.bel.trans (hb.below h.bel.size h.lo2), h.lo1, fun k hk => by
    rcases hq k hk with h2 | h2
    · exact h.lo2 k h2
    · have := h.bel.size; omega⟩
theorem Both.below {w0 w w' : World} {p q : Value} {c : Nat} {L L' : List ByteArray} {o1 o2 : List Nat} (h : Both w0 w p q c L L' o1 o2) (hb : Below w.heap.size w w') : Both w0 w' p q c L L' o1 o2 :=
  ⟨h.ps.below hb, h.rs.below hb, h.ne, h.bel.trans (hb.mono h.bel.size), h.lo1, h.lo2⟩
/-- On the way from W: the reference's blocks are its own of W, or new. -/
structure Mid (w0 W w : World) (p q : Value) (c : Nat) (L L' : List ByteArray) (o1 o2 o3 : List Nat) : Prop where
  both : Both w0 w p q c L L' o1 o3
  but : But (o1 ++ o2) W w
  sub : ∀ k ∈ o3, k ∈ o2 ∨ W.heap.size ≤ k
theorem Mid.prog {w0 W w w' : World} {p q p' : Value} {c c' : Nat} {L L' L1 : List ByteArray} {o1 o2 o3 : List Nat} (h : Mid w0 W w p q c L L' o1 o2 o3) (hp : PS w' p' c' L1 o1) (hb : But o1 w w') : Mid w0 W w' p' q c' L1 L' o1 o2 o3 :=
  ⟨h.both.prog hp hb, h.but.trans (hb.mono fun k hk => List.mem_append_left _ hk), h.sub⟩
theorem But.to {L L' : List Nat} {a b c : World} (h : But L a b) (h' : But L' b c) (hs : ∀ k ∈ L', k ∈ L ∨ a.heap.size ≤ k) : But L a c :=
  ⟨h'.os.trans h.os, h'.tape.trans h.tape, h'.output.trans h.output, Nat.le_trans h.size h'.size, fun k hk hn => (h'.block k (Nat.lt_of_lt_of_le hk h.size) (fun hl => by
    rcases hs k hl with e | e
    · exact hn e
    · omega)).trans (h.block k hk hn)⟩
theorem Mid.ref {w0 W w w' : World} {p q q' : Value} {c : Nat} {L L' L1 : List ByteArray} {o1 o2 o3 o4 : List Nat} (h : Mid w0 W w p q c L L' o1 o2 o3) (hr : RS w' q' L1 o4) (hb : But o3 w w') (hq : ∀ k ∈ o4, k ∈ o3 ∨ w.heap.size ≤ k) : Mid w0 W w' p q' c L L1 o1 o2 o4 :=
  ⟨h.both.ref hr hb hq, h.but.to hb (fun k hk => by
    rcases h.sub k hk with e | e
    · exact .inl (List.mem_append_right _ e)
    · exact .inr e), fun k hk => by
    rcases hq k hk with e | e
    · exact h.sub k e
    · have := h.but.size; exact .inr (by omega)⟩
/-- What step leaves. -/
structure Went (w0 w w' : World) (p q : Value) (c : Nat) (L : List ByteArray) (o1 o2 : List Nat) : Prop where
  out : ∃ c' L' o3, Both w0 w' p q c' L' L' o1 o3 ∧ But (o1 ++ o2) w w' ∧ (∀ k ∈ o3, k ∈ o2 ∨ w.heap.size ≤ k) ∧ c' ≤ c + 1 ∧ L'.length ≤ L.length + 1
theorem Went.of {w0 w W w' : World} {p q : Value} {c c' : Nat} {L L' : List ByteArray} {o1 o2 o3 : List Nat} (hb : Below w.heap.size w W) (h : Mid w0 W w' p q c' L' L' o1 o2 o3) (hc : c' ≤ c + 1) (hl : L'.length ≤ L.length + 1) : Went w0 w w' p q c L o1 o2 :=
  ⟨c', L', o3, h.both, (But.of_below hb).trans h.but, fun k hk => by
    rcases h.sub k hk with e | e
    · exact .inl e
    · have := hb.size; exact .inr (by omega), hc, hl⟩
theorem step_cell (w : World) (d : Int) (x : ByteArray) : (w.alloc (Obj.cells #[Value.int .i64 d, Value.string x] 41)).cell? ⟨w.heap.size, 1, none⟩ = some (.string x) := by
  have hb := (MapKept.heap_alloc w (Obj.cells #[Value.int .i64 d, Value.string x] 41)).1
  unfold World.cell?
  simp only [hb]
  rfl
set_option maxHeartbeats 8000000 in
set_option maxRecDepth 100000 in
theorem step_calls (w0 w : World) (hG : Glob w0) {p q : Value} {c : Nat} {L : List ByteArray} {o1 o2 : List Nat} (h : Both w0 w p q c L L o1 o2) (d : Int) (x : ByteArray) (hx : x.size ≤ 20000) (hL : L.length < 3000) (hc : c < 3000) :
    Calls Tryd.prog 29 #[p, q, .agg #[.int .i64 d, .string x]] w fun e w' => e = .returned (.bool true) ∧ Went w0 w w' p q c L o1 o2 := by
  have HH := Aside0.mk h
  have HG := Aside0.mk hG
  have HX := Aside0.mk hx
  have HL := Aside0.mk hL
  have HCC := Aside0.mk hc
  have HN := Aside0.mk (show w.heap.size ∉ o1 ++ o2 from fun hk => by
    rcases List.mem_append.mp hk with e | e
    · exact absurd (h.ps.lt _ e) (Nat.lt_irrefl _)
    · exact absurd (h.rs.lt _ e) (Nat.lt_irrefl _))
  have HA := Aside0.mk (Below.alloc (Below.refl w.heap.size w) (Nat.le_refl _) (Obj.cells #[Value.int .i64 d, Value.string x] 41))
  have HCB := Aside0.mk (step_cell w d x)
  have HM0 := Aside0.mk (h.below HA.out)
  clear h hG hx hL hc
  by_cases hd : d = 0
  · subst hd
    go_enter Tryd.func29, Tryd.ntmps29
    go_upto_region 2 with fail
    generalize w.alloc (Obj.cells #[Value.int .i64 0, Value.string x] 41) = W at *
    have HM := Aside0.mk (Mid.mk (o2 := o2) (HM0.out.below (below_drew (Below.refl _ _))) (But.of_below (below_drew (Below.refl _ W))) (fun k hk => .inl hk))
    have cx : W.cell? ⟨w.heap.size, 1, none⟩ = some (.string x) := HCB.out
    have HA1 : Aside0 True := ⟨trivial⟩
    have HA2 : Aside0 True := ⟨trivial⟩
    clear HM0 HH
    go_region_with (first | (go_at_call 26; (refine (PS_Fresh _ (Glob.below HG.out HM.out.both.bel) HM.out.both.ps x HX.out (Nat.lt_trans HL.out (by decide)) (Nat.lt_trans HCC.out (by decide))).mono ?_); rintro e w2 ⟨y1, L1, c1, rfl, ha1, hp1, hcc1, hb1⟩; have n1_ := Aside0.mk (HM.out.prog hp1 hb1); have cx2 : w2.cell? ⟨w.heap.size, 1, none⟩ = some (.string x) := n1_.out.but.cell HCB.out HN.out; clear HM HA1; have HM := n1_; clear n1_ hb1 hp1; have HA1 := Aside0.mk ha1; have HC1 := Aside0.mk hcc1; clear ha1 hcc1; (try (obtain ⟨rfl, rfl⟩ := HA1.out.uniq HA2.out))) | (go_at_call 48; (refine (RS_Fresh _ (Glob.below HG.out HM.out.both.bel) HM.out.both.rs x HX.out (Nat.lt_trans HL.out (by decide))).mono ?_); rintro e w3 ⟨y2, L2, o3, rfl, ha2, hp2, hb2, hq2⟩; have n1_ := Aside0.mk (HM.out.ref hp2 hb2 hq2); have cx3 : w3.cell? ⟨w.heap.size, 1, none⟩ = some (.string x) := n1_.out.but.cell HCB.out HN.out; clear HM HA2; have HM := n1_; clear n1_ hb2 hp2 hq2; have HA2 := Aside0.mk ha2; clear ha2; (try (obtain ⟨rfl, rfl⟩ := HA1.out.uniq HA2.out))))
    all_goals go_wp2
    all_goals go_ret
    all_goals exact ⟨rfl, Went.of HA.out HM.out HC1.out HA1.out.len.2⟩
  · have hd2 : (d == 0) = false := by simpa using hd
    clear hd
    go_enter Tryd.func29, Tryd.ntmps29
    go_upto_region 3 with fail
    generalize w.alloc (Obj.cells #[Value.int .i64 d, Value.string x] 41) = W at *
    have HM := Aside0.mk (Mid.mk (o2 := o2) (HM0.out.below (below_drew (Below.refl _ _))) (But.of_below (below_drew (Below.refl _ W))) (fun k hk => .inl hk))
    have cx : W.cell? ⟨w.heap.size, 1, none⟩ = some (.string x) := HCB.out
    have HXM : Aside0 (x.size ≤ maxLen) := ⟨Nat.le_trans HX.out (by decide)⟩
    clear HM0 HH hd2
    go_region_with (first | (go_at_call 24; (refine (PS_Take _ HM.out.both.ps x HXM.out (Nat.lt_trans HL.out (by decide))).mono ?_); rintro e w2 ⟨rfl, hp1, hb1⟩; have n1_ := Aside0.mk (HM.out.prog hp1 hb1); have cx2 : w2.cell? ⟨w.heap.size, 1, none⟩ = some (.string x) := n1_.out.but.cell HCB.out HN.out; clear HM; have HM := n1_; clear n1_ hb1 hp1) | (go_at_call 49; (refine (RS_Take _ HM.out.both.rs x (Nat.lt_trans HL.out (by decide))).mono ?_); rintro e w3 ⟨o3, rfl, hp2, hb2, hq2⟩; have n1_ := Aside0.mk (HM.out.ref hp2 hb2 hq2); have cx3 : w3.cell? ⟨w.heap.size, 1, none⟩ = some (.string x) := n1_.out.but.cell HCB.out HN.out; clear HM; have HM := n1_; clear n1_ hb2 hp2 hq2))
    all_goals go_wp2
    all_goals go_ret
    all_goals exact ⟨rfl, Went.of HA.out HM.out (by omega) (tk_len _ _).2⟩
end Su
end Go.Proofs.YtfbhipcfjkkmmaaDoor
