/- The supply: a set of strings and a table of numbers, both maps of the call's own; made, Take, NewSupply. -/
import Derived.Test.YtfbhipcfjkkmmaaDoorHS1
import Derived.Maps.OwnOps
import Derived.Maps.OwnSet
import Derived.Maps.Views
import Derived.StringKeys
namespace Go.Proofs.YtfbhipcfjkkmmaaDoor
open Go.RowKit Go.Proofs.YtfbhipcfjkkmmaaDoorW.PrintWords Go.Proofs.YtfbhipcfjkkmmaaDoorW.PrintLast Go.Proofs.YtfbhipcfjkkmmaaDoorW.PrintMore
attribute [local go_sem] max2_int min2_int max_two min_two max_three min_three max_four min_four
open P
namespace Su
set_option linter.unusedVariables false
set_option linter.unusedSimpArgs false

theorem keys9 : Maps.Keyed Tryd.prog 9 := Maps.string_keyed Tryd.underlying9
theorem zero4 (w : World) : (zeroValue 4).run Tryd.prog w = .ok (.bool false) w := by kernel_rfl
theorem zero3 (w : World) : (zeroValue 3).run Tryd.prog w = .ok (.int .i64 0) w := by kernel_rfl
theorem key9 {x : ByteArray} (hx : x.size ≤ maxLen) : keyOf Tryd.prog 9 (.string x) = some (.string x.data.toList) := WideMaps.keyOf_string_mk Tryd.underlying9 hx

/-- A map[string]bool in which nothing but true is stored. -/
def SetAt (w : World) (b : Nat) (S : List (List UInt8)) : Prop := ∃ (n : Nat) (D : DataW Unit), w.ownsMap Tryd.prog 9 (plainElem Tryd.prog 4) b n D ∧ n ≤ S.length ∧ Maps.IsMap D ∧
  ∀ x : ByteArray, x.size ≤ maxLen → D.atKey (.string x.data.toList) (.lit (.bool false)) = .lit (.bool (S.contains x.data.toList))
/-- A map[string]int. -/
def NumAt (w : World) (b c : Nat) (M : List UInt8 → Int) : Prop := ∃ (n : Nat) (D : DataW Unit), w.ownsMap Tryd.prog 9 (plainElem Tryd.prog 3) b n D ∧ n ≤ c ∧ Maps.IsMap D ∧
  ∀ x : ByteArray, x.size ≤ maxLen → D.atKey (.string x.data.toList) (.lit (.int .i64 0)) = .lit (.int .i64 (M x.data.toList))

theorem SetAt.made (w : World) : SetAt (w.alloc (.map #[] 0)) w.heap.size [] :=
  ⟨0, .map [], World.ownsMap_made _ _ _ _, Nat.le_refl _, Maps.isMap_empty, fun x _ => by simp [DataW.atKey]⟩
theorem SetAt.kept {w w' : World} {b : Nat} {S : List (List UInt8)} {row : Option Nat} (h : SetAt w b S) (hg : w.grownBy w' row) (hne : some b ≠ row) : SetAt w' b S := by
  obtain ⟨n, D, h1, h2⟩ := h
  exact ⟨n, D, h1.kept hg hne, h2⟩
theorem SetAt.lt {w : World} {b : Nat} {S : List (List UInt8)} (h : SetAt w b S) : b < w.heap.size := by
  obtain ⟨n, D, h1, h2⟩ := h
  exact h1.lt
set_option maxRecDepth 100000 in
theorem SetAt.look {w : World} {b : Nat} {S : List (List UInt8)} (h : SetAt w b S) (x : ByteArray) (hx : x.size ≤ maxLen) : (Instr.lookup 49 (.map (some b)) (.string x) false).run Tryd.prog w = .ok (.bool (S.contains x.data.toList)) w := by
  obtain ⟨n, D, h1, h2, _, h3⟩ := h
  obtain ⟨v, ps, hrun, hv⟩ := h1.lookup keys9 Tryd.underlying49 (zero4 w) (plainElem_bool Tryd.underlying4 false) (key9 hx)
  rw [h3 x hx] at hv
  rw [hrun]
  unfold plainElem at hv
  rw [Tryd.underlying4] at hv
  cases v <;> simp at hv
  obtain ⟨rfl, _⟩ := hv
  simp
theorem SetAt.put {w : World} {b : Nat} {S : List (List UInt8)} (h : SetAt w b S) (hn : S.length < maxLen) (x : ByteArray) (hx : x.size ≤ maxLen) :
    ∃ w', (Instr.mapUpdate 49 (.map (some b)) (.string x) (.bool true)).run Tryd.prog w = .ok () w' ∧ SetAt w' b (S ++ [x.data.toList]) ∧ w.grownBy w' (some b) := by
  obtain ⟨n, D, h1, h2, hm, h3⟩ := h
  obtain ⟨w', hrun, h4, hg⟩ := h1.update keys9 Tryd.underlying49 (Nat.lt_of_le_of_lt h2 hn) (key9 hx) (plainElem_bool Tryd.underlying4 true)
  refine ⟨w', hrun, ⟨n + 1, _, h4, by rw [List.length_append]; exact Nat.succ_le_succ h2, hm.put _ _, fun y hy => ?_⟩, hg⟩
  by_cases hyx : y.data.toList = x.data.toList
  · rw [hyx, Maps.atKey_put_same hm (by simp [WideAt.IsKeyLit])]
    simp
  · rw [Maps.atKey_put_other (by intro e; injection e with e; exact hyx e), h3 y hy]
    simp [hyx]

theorem NumAt.made (w : World) : NumAt (w.alloc (.map #[] 0)) w.heap.size 0 (fun _ => 0) :=
  ⟨0, .map [], World.ownsMap_made _ _ _ _, Nat.le_refl _, Maps.isMap_empty, fun x _ => by simp [DataW.atKey]⟩
theorem NumAt.kept {w w' : World} {b c : Nat} {M : List UInt8 → Int} {row : Option Nat} (h : NumAt w b c M) (hg : w.grownBy w' row) (hne : some b ≠ row) : NumAt w' b c M := by
  obtain ⟨n, D, h1, h2⟩ := h
  exact ⟨n, D, h1.kept hg hne, h2⟩
theorem NumAt.lt {w : World} {b c : Nat} {M : List UInt8 → Int} (h : NumAt w b c M) : b < w.heap.size := by
  obtain ⟨n, D, h1, h2⟩ := h
  exact h1.lt
set_option maxRecDepth 100000 in
theorem NumAt.look {w : World} {b c : Nat} {M : List UInt8 → Int} (h : NumAt w b c M) (x : ByteArray) (hx : x.size ≤ maxLen) : (Instr.lookup 50 (.map (some b)) (.string x) false).run Tryd.prog w = .ok (.int .i64 (M x.data.toList)) w := by
  obtain ⟨n, D, h1, h2, _, h3⟩ := h
  obtain ⟨c', hrun, hat, _⟩ := h1.lookup_int keys9 Tryd.underlying50 Tryd.underlying3 (zero3 w) (key9 hx)
  rw [h3 x hx] at hat
  rw [hrun]
  injection hat with hat
  injection hat with _ hat
  rw [hat]
theorem NumAt.put {w : World} {b c : Nat} {M : List UInt8 → Int} (h : NumAt w b c M) (hn : c < maxLen) (x : ByteArray) (hx : x.size ≤ maxLen) (v : Int) (hv : (Lit.int .i64 v).wf = true) :
    ∃ w', (Instr.mapUpdate 50 (.map (some b)) (.string x) (.int .i64 v)).run Tryd.prog w = .ok () w' ∧ NumAt w' b (c + 1) (fun y => if y = x.data.toList then v else M y) ∧ w.grownBy w' (some b) := by
  obtain ⟨n, D, h1, h2, hm, h3⟩ := h
  obtain ⟨w', hrun, h4, hg⟩ := h1.update keys9 Tryd.underlying50 (Nat.lt_of_le_of_lt h2 hn) (key9 hx) (plainElem_int Tryd.underlying3 hv)
  refine ⟨w', hrun, ⟨n + 1, _, h4, Nat.succ_le_succ h2, hm.put _ _, fun y hy => ?_⟩, hg⟩
  by_cases hyx : y.data.toList = x.data.toList
  · rw [hyx, Maps.atKey_put_same hm (by simp [WideAt.IsKeyLit])]
    simp
  · rw [Maps.atKey_put_other (by intro e; injection e with e; exact hyx e), h3 y hy]
    simp [hyx]

theorem neq_map (w : World) (m : Nat) : Sem.run Tryd.prog (binOp BinOp.neq 49 (Value.map (some m)) (Value.map none)) w = .ok (.bool true) w := by kernel_rfl

/-- A supply in block b: its set in block mu, its table in block mn. -/
structure Sup (w : World) (b mu mn : Nat) (S : List (List UInt8)) (c : Nat) (M : List UInt8 → Int) : Prop where
  cell0 : w.cell? ⟨b, 0, none⟩ = some (.map (some mu))
  cell1 : w.cell? ⟨b, 1, none⟩ = some (.map (some mn))
  set : SetAt w mu S
  num : NumAt w mn c M
  ne : mu ≠ mn
  bu : b ≠ mu
  bn : b ≠ mn

set_option maxHeartbeats 8000000 in
set_option maxRecDepth 100000 in
theorem made_calls (w : World) {b mu mn : Nat} {S : List (List UInt8)} {c : Nat} {M : List UInt8 → Int} (h : Sup w b mu mn S c M) :
    Calls Tryd.prog 45 #[.pointer (some ⟨b, 0, none⟩)] w fun e w' => e = .returned (.bool true) ∧ Drawn0 w w' := by
  have c0 := h.cell0
  have c1 := h.cell1
  clear h
  have hne := neq_map w mu
  go_enter Tryd.func45, Tryd.ntmps45
  go_wp2
  go_ret
  exact ⟨rfl, Drawn0.refl _⟩
set_option maxHeartbeats 8000000 in
set_option maxRecDepth 100000 in
theorem Take_calls (w : World) {b mu mn : Nat} {S : List (List UInt8)} {c : Nat} {M : List UInt8 → Int} (h : Sup w b mu mn S c M) (x : ByteArray) (hx : x.size ≤ maxLen) (hS : S.length < maxLen) :
    Calls Tryd.prog 24 #[.pointer (some ⟨b, 0, none⟩), .string x] w fun e w' => (S.contains x.data.toList = true ∧ e = .returned (.bool false) ∧ Drawn0 w w') ∨
      (S.contains x.data.toList = false ∧ e = .returned (.bool true) ∧ Sup w' b mu mn (S ++ [x.data.toList]) c M ∧ w.grownBy w' (some mu)) := by
  have c0 := h.cell0
  have c1 := h.cell1
  have hl := h.set.look x hx
  have hne := neq_map w mu
  obtain ⟨w', hrun, hset, hg⟩ := h.set.put hS x hx
  have hh := Aside0.mk h
  have hset' := Aside0.mk hset
  have hg' := Aside0.mk hg
  clear h hset hg hx hS
  cases hc : S.contains x.data.toList
  · rw [hc] at hl
    go_enter Tryd.func24, Tryd.ntmps24
    go_wp2
    go_ret
    have hs := hh.out
    exact .inr ⟨trivial, rfl, ⟨hg'.out.cell c0 (by intro e; injection e with e; exact hs.bu e), hg'.out.cell c1 (by intro e; injection e with e; exact hs.bu e), hset'.out, hs.num.kept hg'.out (by intro e; injection e with e; exact hs.ne e.symm), hs.ne, hs.bu, hs.bn⟩, hg'.out⟩
  · rw [hc] at hl
    go_enter Tryd.func24, Tryd.ntmps24
    go_wp2
    go_ret
    exact .inl ⟨trivial, rfl, Drawn0.refl _⟩

/-- A row of strings, read from wherever it lies. -/
def Strs (w : World) (v : Value) (L : List ByteArray) : Prop := ∃ (a : Option Addr) (cp : Nat), v = .slice a L.length cp ∧ ∀ i (h : i < L.length), ∃ g o, a = some ⟨g, o, none⟩ ∧ w.cell? ⟨g, o + i, none⟩ = some (.string L[i])

theorem make49 (w : World) : Sem.run Tryd.prog (Instr.makeMap 49 none) w = .ok (.map (some w.heap.size)) (w.alloc (.map #[] 0)) := rfl
theorem make50 (w : World) : Sem.run Tryd.prog (Instr.makeMap 50 none) w = .ok (.map (some w.heap.size)) (w.alloc (.map #[] 0)) := rfl
set_option maxHeartbeats 8000000 in
set_option maxRecDepth 100000 in
theorem New_calls (w : World) (v : Value) (L : List ByteArray) (h : Strs w v L) (hL : L.length < 4000) (hs : ∀ x ∈ L, x.size ≤ maxLen) :
    Calls Tryd.prog 23 #[v] w fun e w' => ∃ b mu mn, e = .returned (.pointer (some ⟨b, 0, none⟩)) ∧ Sup w' b mu mn (L.map (·.data.toList)) 0 (fun _ => 0) ∧ w.heap.size ≤ b ∧ w.heap.size ≤ mu ∧ w.heap.size ≤ mn ∧ Below w.heap.size w w' := by
  obtain ⟨a, cp, rfl, hc⟩ := h
  have hm1 := make49 w
  have hm2 := make50 (w.alloc (.map #[] 0))
  go_enter Tryd.func23, Tryd.ntmps23
  go_wp2
  have hsup : Sup (((w.alloc (Obj.map #[] 0)).alloc (Obj.map #[] 0)).alloc (Obj.cells #[Value.map (some w.heap.size), Value.map (some (w.heap.size + 1))] 52)) (w.heap.size + 1 + 1) w.heap.size (w.heap.size + 1) [] 0 (fun _ => 0) := by
    have s1 := SetAt.made w
    have s2 := NumAt.made (w.alloc (Obj.map #[] 0))
    have e1 : (w.alloc (Obj.map #[] 0)).heap.size = w.heap.size + 1 := by simp
    rw [e1] at s2
    have g2 := World.grownBy_alloc (w.alloc (Obj.map #[] 0)) (Obj.map #[] 0) none
    have g3 := World.grownBy_alloc ((w.alloc (Obj.map #[] 0)).alloc (Obj.map #[] 0)) (Obj.cells #[Value.map (some w.heap.size), Value.map (some (w.heap.size + 1))] 52) none
    have e2 : ((w.alloc (Obj.map #[] 0)).alloc (Obj.map #[] 0)).heap.size = w.heap.size + 1 + 1 := by simp
    have hb := (MapKept.heap_alloc ((w.alloc (Obj.map #[] 0)).alloc (Obj.map #[] 0)) (Obj.cells #[Value.map (some w.heap.size), Value.map (some (w.heap.size + 1))] 52)).1
    rw [e2] at hb
    exact ⟨by unfold World.cell?; simp only [hb]; rfl, by unfold World.cell?; simp only [hb]; rfl, (s1.kept g2 (by simp)).kept g3 (by simp), s2.kept g3 (by simp), by omega, by omega, by omega⟩
  have hbel : Below w.heap.size w (((w.alloc (Obj.map #[] 0)).alloc (Obj.map #[] 0)).alloc (Obj.cells #[Value.map (some w.heap.size), Value.map (some (w.heap.size + 1))] 52)) := Below.alloc (Below.alloc (Below.alloc (Below.refl _ _) (Nat.le_refl _) _) (by simp) _) (by simp; omega) _
  generalize (((w.alloc (Obj.map #[] 0)).alloc (Obj.map #[] 0)).alloc (Obj.cells #[Value.map (some w.heap.size), Value.map (some (w.heap.size + 1))] 52)) = w1 at *
  have hcell := Aside0.mk hc
  have hsz := Aside0.mk hs
  have hLl := Aside0.mk hL
  clear hc hs hL hm1 hm2
  go_loopg [12] L.length (fun kq v12 w' => ∃ i : Nat, v12 = .int .i64 i ∧ Aside0 (i + kq = L.length) ∧ Sup w' (w.heap.size + 1 + 1) w.heap.size (w.heap.size + 1) ((L.take i).map (·.data.toList)) 0 (fun _ => 0) ∧ Below w.heap.size w w')
  case atStart => exact ⟨0, by first | rfl | simp, ⟨by omega⟩, by simpa using hsup, hbel⟩
  case round =>
    obtain ⟨i, rfl, hk, hS, hB⟩ := hrel
    clear hsup hbel
    by_cases hi : i < L.length
    · obtain ⟨g, o, ha, hci⟩ := hcell.out i hi
      have hci' : wr.cell? ⟨g, o + i, none⟩ = some (.string L[i]) := (hB.cell (World.block_lt_of_cell? _ _ hci)).trans hci
      have hxs := hsz.out _ (List.getElem_mem hi)
      have htk : (L.take (i + 1)).map (·.data.toList) = (L.take i).map (·.data.toList) ++ [L[i].data.toList] := by
        rw [List.take_add_one, List.getElem?_eq_getElem hi, List.map_append]; rfl
      generalize L[i] = x at *
      have q1 : decide ((i : Int) < (L.length : Int)) = true := decide_eq_true (by omega)
      have q2 : 0 ≤ (i : Int) := by omega
      have q3 : (i : Int) < (L.length : Int) := by omega
      have q4 := hi
      replace q2 := eq_true q2
      replace q3 := eq_true q3
      replace q4 := eq_true q4
      have c0 := hS.cell0
      obtain ⟨w2, hrun, hset, hg⟩ := hS.set.put (by rw [List.length_map, List.length_take]; exact Nat.lt_of_le_of_lt (Nat.le_trans (Nat.min_le_right _ _) (Nat.le_of_lt hLl.out)) (by decide)) x hxs
      rw [← htk] at hset
      have hS' := Aside0.mk hS
      have hset' := Aside0.mk hset
      have hg' := Aside0.mk hg
      have hi' := Aside0.mk hi
      have hB' := Aside0.mk hB
      clear hS hset hg hi hB hci hxs htk
      subst ha
      go_wp2
      go_roundg (gk - 1)
      case measure => have := hi'.out; have := hk.out; omega
      case rel =>
        have h1 := hi'.out
        have h2 := hk.out
        have h3 := hLl.out
        have hs := hS'.out
        have hgg := hg'.out
        exact ⟨i + 1, by rw [show wrap64 ((i : Int) + 1) = ((i + 1 : Nat) : Int) from by unfold wrap64; omega], ⟨by omega⟩, ⟨hgg.cell hs.cell0 (by intro e; injection e with e; exact hs.bu e), hgg.cell hs.cell1 (by intro e; injection e with e; exact hs.bu e), hset'.out, hs.num.kept hgg (by intro e; injection e with e; exact hs.ne e.symm), hs.ne, hs.bu, hs.bn⟩, hB'.out.grown hgg hB'.out.size (by intro k hk; injection hk with hk; omega)⟩
    · have hi' : i = L.length := by have := hk.out; omega
      have hS' := Aside0.mk hS
      have hB' := Aside0.mk hB
      clear hS hB
      subst hi'
      go_wp2
      go_ret
      have hs := hS'.out
      rw [List.take_length] at hs
      exact ⟨_, _, _, rfl, hs, by omega, by omega, by omega, hB'.out⟩
end Su
end Go.Proofs.YtfbhipcfjkkmmaaDoor
