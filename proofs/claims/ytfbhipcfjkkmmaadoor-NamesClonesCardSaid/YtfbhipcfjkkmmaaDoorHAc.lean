/- The examples of the chapter: what the functions tell of them. -/
import Derived.Test.YtfbhipcfjkkmmaaDoorHFr
namespace Go.Proofs.YtfbhipcfjkkmmaaDoor
open Go.RowKit
open P _root_.Go.Proofs.YtfbhipcfjkkmmaaDoor.Nm
namespace Su
theorem dec1 (u : Nat) (h : u < 10) : Lib.itoa (u : Int) = [UInt8.ofNat (48 + u)] := by
  unfold Lib.itoa
  rw [if_neg (by omega), Lib.decDigits, dif_pos (by simpa using h)]; rfl
theorem x_split : splitA ⟨#[77, 46, 46]⟩ = (⟨#[77]⟩, ⟨#[46]⟩, true) := by decide
theorem x_base : baseA ⟨#[43, 36, 36, 51]⟩ = (⟨#[43, 36]⟩, 3, true) := by decide
theorem x_c1 : classA ⟨#[120, 39]⟩ = 1 := by decide
theorem x_c2 : classA ⟨#[58]⟩ = 4 := by decide
theorem x_c3 : classA ⟨#[45, 45]⟩ = 0 := by decide
theorem x_c4 : classA ⟨#[45, 45, 62]⟩ = 3 := by decide
theorem x_c5 : classA ⟨#[119, 104, 101, 114, 101]⟩ = 5 := by decide
theorem x_join : joinA ⟨#[77]⟩ ⟨#[43]⟩ = ⟨#[77, 46, 43]⟩ := by decide
theorem x_stem1 : stemB ⟨#[77, 46, 102]⟩ = true := by decide
theorem x_stem2 : stemB ⟨#[120]⟩ = true := by decide
theorem x_stem3 : stemB ⟨#[121]⟩ = true := by decide
theorem x_made (s : ByteArray) (n : Nat) (h : n < 10) (hs : stemB s = true) : madeA s n = (s ++ (⟨#[36]⟩ : ByteArray)) ++ ⟨#[UInt8.ofNat (48 + n)]⟩ := by
  unfold madeA
  rw [if_pos ⟨by omega, hs⟩, dec1 n h]
theorem x_f1 : freshBase ⟨#[120]⟩ = ⟨#[120]⟩ := by decide
theorem x_f2 : freshBase ⟨#[120, 36, 55]⟩ = ⟨#[120]⟩ := by decide
theorem x_f3 : freshBase ⟨#[121]⟩ = ⟨#[121]⟩ := by decide
theorem x_m1 : madeA ⟨#[77, 46, 102]⟩ ((0 : Nat) : Int) = ⟨#[77, 46, 102, 36, 48]⟩ := by rw [x_made _ _ (by decide) x_stem1]; decide
theorem x_m2 : madeA ⟨#[120]⟩ ((1 : Nat) : Int) = ⟨#[120, 36, 49]⟩ := by rw [x_made _ _ (by decide) x_stem2]; decide
theorem x_m3 : madeA ⟨#[120]⟩ ((2 : Nat) : Int) = ⟨#[120, 36, 50]⟩ := by rw [x_made _ _ (by decide) x_stem2]; decide
theorem x_m4 : madeA ⟨#[120]⟩ ((3 : Nat) : Int) = ⟨#[120, 36, 51]⟩ := by rw [x_made _ _ (by decide) x_stem2]; decide
theorem x_m5 : madeA ⟨#[121]⟩ ((1 : Nat) : Int) = ⟨#[121, 36, 49]⟩ := by rw [x_made _ _ (by decide) x_stem3]; decide
end Su
end Go.Proofs.YtfbhipcfjkkmmaaDoor
