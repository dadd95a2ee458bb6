import Derived.Test.YtagihjlklbckmaaDoorScAa
import Derived.Lib.ValidLaws
namespace Go.Proofs.YtagihjlklbckmaaDoor.Sc
set_option linter.unusedVariables false
set_option linter.unusedSimpArgs false
open Go.RowKit Go.Proofs.YtagihjlklbckmaaDoorW.PrintWords Go.Proofs.YtagihjlklbckmaaDoorW.PrintLast Go.Proofs.YtagihjlklbckmaaDoorW.PrintMore Go.Proofs.YtagihjlklbckmaaDoor.Bs
theorem w64 (x : Int) (h : -1000000000 ≤ x ∧ x ≤ 1000000000) : wrap64 x = x := IntWalk.wrap64_in _ ⟨by omega, by omega⟩
/-- The document's character. -/
def oneN (n b0 b1 b2 b3 : Nat) : Int × Int := if (Lib.decodeN n b0 b1 b2 b3).2 = 1 ∧ 128 ≤ b0 then (0, 0) else (((Lib.decodeN n b0 b1 b2 b3).1 : Int), ((Lib.decodeN n b0 b1 b2 b3).2 : Int))
def endV (x6 x7 x5 : Int) : Int × Int := if x6 < x7 then (0, 0) else if x6 > 1114111 then (0, 0) else if x6 ≥ 55296 then (if x6 ≤ 57343 then (0, 0) else (x6, x5)) else (x6, x5)
theorem l0_end (k : Nat) (x0 : ByteArray) (x5 x6 x7 x8 : Int) (h : ¬ x8 < x5) : breviaryref01_One.l0 (k + 1) x0 x5 x6 x7 x8 = some (endV x6 x7 x5) := by
  rw [breviaryref01_One.l0, if_neg h]
  unfold endV
  repeat' split
  all_goals rfl
theorem l0_step (k : Nat) (x0 : ByteArray) (x5 x6 x7 : Int) (x8 : Nat) (b : Nat) (h : (x8 : Int) < x5) (h1 : x8 < x0.size) (hb : bt x0 (x8 : Int) = (b : Int)) (hb2 : b < 256) (h6 : 0 ≤ x6 ∧ x6 ≤ 1000000) (h8 : x8 ≤ 5) :
    breviaryref01_One.l0 (k + 1) x0 x5 x6 x7 (x8 : Int) = if b < 128 ∨ 191 < b then some (0, 0) else breviaryref01_One.l0 k x0 x5 (x6 * 64 + b - 128) x7 ((x8 + 1 : Nat) : Int) := by
  rw [breviaryref01_One.l0, if_pos h, if_pos (by omega), if_pos (by omega), hb, w64 (b : Int) (by omega), w64 (x6 * 64) (by omega), w64 (x6 * 64 + b) (by omega), w64 (x6 * 64 + b - 128) (by omega), w64 ((x8 : Int) + 1) (by omega)]
  by_cases c1 : b < 128
  · rw [if_pos (by omega), if_pos (.inl c1)]
  · by_cases c2 : 191 < b
    · rw [if_neg (by omega), if_pos (by omega), if_pos (.inr c2)]
    · rw [if_neg (by omega), if_neg (by omega), if_neg (by omega)]; rfl
theorem j_down (k : Nat) (x0 : ByteArray) (x : Nat) (h : 128 ≤ x ∧ x < 256) : ∀ b, b = decide (192 ≤ x ∧ x < 224) → breviaryref01_One.j0 (k + 8) x0 (x : Int) 0 0 0 b =
    if x < 192 then some (0, 0) else if x < 224 then (if (x0.size : Int) < 2 then some (0, 0) else breviaryref01_One.l0 (k + 1) x0 2 ((x - 192 : Nat) : Int) 128 ((1 : Nat) : Int))
    else if x < 240 then (if (x0.size : Int) < 3 then some (0, 0) else breviaryref01_One.l0 (k + 1) x0 3 ((x - 224 : Nat) : Int) 2048 ((1 : Nat) : Int))
    else if x < 248 then (if (x0.size : Int) < 4 then some (0, 0) else breviaryref01_One.l0 (k + 1) x0 4 ((x - 240 : Nat) : Int) 65536 ((1 : Nat) : Int)) else some (0, 0) := by
  rintro b rfl
  have e1 : wrap64 ((x : Int) - 192) = (x : Int) - 192 := w64 _ (by omega)
  have e2 : wrap64 ((x : Int) - 224) = (x : Int) - 224 := w64 _ (by omega)
  have e3 : wrap64 ((x : Int) - 240) = (x : Int) - 240 := w64 _ (by omega)
  rw [breviaryref01_One.j0, e1]
  by_cases c1 : x < 192
  · rw [if_pos c1, if_neg (by simp; omega), breviaryref01_One.j1, if_neg (by omega), breviaryref01_One.j2, if_neg (by decide), breviaryref01_One.j3, if_neg (by omega), breviaryref01_One.j4, if_neg (by decide), breviaryref01_One.j5, if_pos rfl, breviaryref01_One.j6, if_pos rfl]
  · rw [if_neg c1]
    by_cases c2 : x < 224
    · rw [if_pos c2, if_pos (by simp; omega), breviaryref01_One.j1, if_neg (by omega), breviaryref01_One.j2, if_neg (by decide), breviaryref01_One.j3, if_neg (by omega), breviaryref01_One.j4, if_neg (by decide), breviaryref01_One.j5, if_neg (by decide), breviaryref01_One.j6]
      by_cases hs : (x0.size : Int) < 2
      · rw [if_pos (by simpa using hs), if_pos hs]
      · rw [if_neg (by simpa using hs), if_neg hs, show ((x - 192 : Nat) : Int) = (x : Int) - 192 by omega]; rfl
    · rw [if_neg c2, if_neg (by simp; omega), breviaryref01_One.j1, if_pos (by omega), breviaryref01_One.j2, e2]
      by_cases c3 : x < 240
      · rw [if_pos c3, if_pos (by simp; omega), breviaryref01_One.j3, if_neg (by omega), breviaryref01_One.j4, if_neg (by decide), breviaryref01_One.j5, if_neg (by decide), breviaryref01_One.j6]
        by_cases hs : (x0.size : Int) < 3
        · rw [if_pos (by simpa using hs), if_pos hs]
        · rw [if_neg (by simpa using hs), if_neg hs, show ((x - 224 : Nat) : Int) = (x : Int) - 224 by omega]; rfl
      · rw [if_neg c3, if_neg (by simp; omega), breviaryref01_One.j3, if_pos (by omega), breviaryref01_One.j4, e3]
        by_cases c4 : x < 248
        · rw [if_pos c4, if_pos (by simp; omega), breviaryref01_One.j5, if_neg (by decide), breviaryref01_One.j6]
          by_cases hs : (x0.size : Int) < 4
          · rw [if_pos (by simpa using hs), if_pos hs]
          · rw [if_neg (by simpa using hs), if_neg hs, show ((x - 240 : Nat) : Int) = (x : Int) - 240 by omega]; rfl
        · rw [if_neg c4, if_neg (by simp; omega), breviaryref01_One.j5, if_pos rfl, breviaryref01_One.j6, if_pos rfl]
end Go.Proofs.YtagihjlklbckmaaDoor.Sc
