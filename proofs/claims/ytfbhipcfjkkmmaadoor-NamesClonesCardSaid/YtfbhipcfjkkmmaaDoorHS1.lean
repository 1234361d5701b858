/- What is asked of the package variables that the library reads; strings.IndexByte, strings.Cut and strconv.Itoa in the form in which printed texts call them. -/
import Derived.Test.YtfbhipcfjkkmmaaDoorPx0
import Derived.Test.YtfbhipcfjkkmmaaDoorHL
import Derived.Lib.AppendIntMem
namespace Go.Proofs.YtfbhipcfjkkmmaaDoor
open Go.RowKit Go.Proofs.YtfbhipcfjkkmmaaDoorW.PrintWords Go.Proofs.YtfbhipcfjkkmmaaDoorW.PrintLast Go.Proofs.YtfbhipcfjkkmmaaDoorW.PrintMore
namespace P
set_option linter.unusedVariables false

/-- The package variables that are read: the two errors of strconv, the table of powers, and a number of the library's. -/
structure Glob (w : World) : Prop where
  es : ∃ tp p, w.var? Tryd.prog "strconv.ErrSyntax" = some #[.iface tp p]
  er : ∃ tp p, w.var? Tryd.prog "strconv.ErrRange" = some #[.iface tp p]
  tab : Lib.TabIs Tryd.prog w "internal/strconv.uint64pow10" .u64 Lib.pow10Tab
  ml : ∃ m, w.cell? ⟨0, 0, none⟩ = some (.int .i64 m)

theorem var_below {w W : World} {n : String} {cs : Array Value} (h : w.var? Tryd.prog n = some cs) (hb : Below w.heap.size w W) : W.var? Tryd.prog n = some cs := by
  unfold World.var? at *
  cases hg : Tryd.prog.globalNamed n with
  | none => simp [hg] at h
  | some g =>
    simp only [hg, Option.bind_some] at h ⊢
    cases hx : w.heap[g]? with
    | none => simp [hx] at h
    | some o =>
      rw [blk_below hx hb]
      rw [hx] at h
      exact h
theorem Glob.below {w W : World} (h : Glob w) (hb : Below w.heap.size w W) : Glob W := by
  obtain ⟨⟨t1, p1, e1⟩, ⟨t2, p2, e2⟩, e3, m, e4⟩ := h
  exact ⟨⟨t1, p1, var_below e1 hb⟩, ⟨t2, p2, var_below e2 hb⟩, var_below e3 hb, m, (hb.cell (World.block_lt_of_cell? _ _ e4)).trans e4⟩

def strings_IndexByte.f (a0 : ByteArray) (a1 : Int) : Option Int := some (Lib.indexByte a0.data.toList a1.toNat.toUInt8)
theorem strings_IndexByte.calls (a0 : ByteArray) (a1 : Int) (r : Int) (w : World) (h : strings_IndexByte.f a0 a1 = some r) :
    Calls Tryd.prog 65 #[.string a0, .int .u8 a1] w fun e w' => e = .returned (.int .i64 r) ∧ Drawn0 w w' := by
  obtain rfl := Option.some.inj h
  exact (Tryd.strings_IndexByte a0 a1 w).mono fun _ _ ⟨h1, h2⟩ => ⟨h1, by rw [h2]; exact Drawn0.refl _⟩

def strings_Cut.f (a0 a1 : ByteArray) : Option (ByteArray × ByteArray × Bool) :=
  if a0.size < 4294967281 then some (⟨(Lib.cut a0.data.toList a1.data.toList).1.toArray⟩, ⟨(Lib.cut a0.data.toList a1.data.toList).2.1.toArray⟩, (Lib.cut a0.data.toList a1.data.toList).2.2) else none
theorem strings_Cut.calls (a0 a1 : ByteArray) (r1 r2 : ByteArray) (r3 : Bool) (w : World) (hG_ : Glob w) (h : strings_Cut.f a0 a1 = some (r1, r2, r3)) :
    Calls Tryd.prog 36 #[.string a0, .string a1] w fun e w' => e = .returned (.tuple #[.string r1, .string r2, .bool r3]) ∧ Below w.heap.size w w' := by
  unfold strings_Cut.f at h
  by_cases hs : a0.size < 4294967281
  case neg => rw [if_neg hs] at h; cases h
  rw [if_pos hs] at h
  obtain ⟨rfl, h2⟩ := Prod.mk.inj (Option.some.inj h)
  obtain ⟨rfl, rfl⟩ := Prod.mk.inj h2
  obtain ⟨m, hm⟩ := hG_.ml
  exact (Tryd.strings_Cut a0 a1 m w hs hm).mono fun _ _ ⟨h1, n, h2⟩ => ⟨h1, by rw [h2]; exact pw_below_drewN (Below.refl _ _) n⟩

def strconv_Itoa.f (a0 : Int) : Option ByteArray := if -9223372036854775808 ≤ a0 ∧ a0 ≤ 9223372036854775807 then some ⟨(Lib.itoa a0).toArray⟩ else none
theorem strconv_Itoa.calls (a0 : Int) (r : ByteArray) (w : World) (hG_ : Glob w) (h : strconv_Itoa.f a0 = some r) :
    Calls Tryd.prog 44 #[.int .i64 a0] w fun e w' => e = .returned (.string r) ∧ Below w.heap.size w w' := by
  unfold strconv_Itoa.f at h
  by_cases hs : -9223372036854775808 ≤ a0 ∧ a0 ≤ 9223372036854775807
  case neg => rw [if_neg hs] at h; cases h
  rw [if_pos hs] at h
  obtain rfl := Option.some.inj h
  refine (Tryd.strconv_Itoa a0 hs.1 hs.2 w hG_.tab).mono fun _ _ ⟨h1, k, os, h2⟩ => ⟨h1, ?_⟩
  subst h2
  exact Lib.below_grow _ w (Nat.le_refl _) k os
end P
end Go.Proofs.YtfbhipcfjkkmmaaDoor
