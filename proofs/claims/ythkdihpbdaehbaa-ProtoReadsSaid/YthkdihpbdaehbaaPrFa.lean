import Derived.Test.YthkdihpbdaehbaaPrF
namespace Go.Proofs.Ythkdihpbdaehbaa.Pr
set_option linter.unusedVariables false
set_option linter.unusedSimpArgs false
open Go.RowKit Go.Proofs.YthkdihpbdaehbaaW.PrintWords Go.Proofs.Ythkdihpbdaehbaa.Bs
theorem refnum_len (x n : Int) (i : Nat) (h : i ≤ 8) : [x].length + (be i n).length < 140737488355328 := by
  rw [be_length]; exact Nat.lt_of_le_of_lt (Nat.add_le_add_left h 1) (by decide)
theorem be_succ (i : Nat) (n : Int) : [n / 256 ^ i % 256] ++ be i n = be (i + 1) n := rfl
theorem refnum_one (m n : Int) (k size i : Nat) (l : List Int) (h2 : 0 ≤ m) (h3 : m ≤ 18446744073709551615) (hi : i < size) (hs : size ≤ 8) (h9 : [m % 256].length + l.length < 140737488355328) : refnum.l0 (k + 1) m size l i = refnum.l0 k (m / 256) size ([m % 256] ++ l) ((i + 1 : Nat) : Int) := by
  have h6 : IntKind.u64.wrap (m.tdiv 256) = m / 256 := by
    rw [Int.tdiv_eq_ediv_of_nonneg h2, IntKind.wrap_u64]; omega
  have h7 : m.tmod 256 % 256 = m % 256 := by rw [Int.tmod_eq_emod_of_nonneg h2]; omega
  have h8 : wrap64 ((i : Int) + 1) = ((i + 1 : Nat) : Int) := by rw [IntWalk.wrap64_in _ ⟨by omega, by omega⟩]; rfl
  rw [refnum.l0, if_pos (by omega : (i : Int) < size)]
  simp only [Option.bind_some]
  rw [h6, h7, h8, if_pos h9]
theorem refnum_step (n : Int) (size : Nat) (hn : 0 ≤ n) (h1 : n ≤ 18446744073709551615) (hs : size ≤ 8) : ∀ j i, i + j = size → refnum.l0 (j + 1) (n / 256 ^ i) size (be i n) i = some (be size n) := by
  intro j
  induction j with
  | zero => intro i hi; obtain rfl : i = size := by omega
            simp [refnum.l0]
  | succ j ih =>
    intro i hi
    have h2 : 0 ≤ n / 256 ^ i := Int.ediv_nonneg hn (Int.le_of_lt (Int.pow_pos (by decide)))
    have h3 : n / 256 ^ i / 256 = n / 256 ^ (i + 1) := by rw [Int.ediv_ediv_of_nonneg (Int.le_of_lt (Int.pow_pos (by decide))), Int.pow_succ]
    have h4 : n / 256 ^ i ≤ n := Int.ediv_le_self _ hn
    rw [refnum_one (n / 256 ^ i) n (j + 1) size i (be i n) h2 (Int.le_trans h4 h1) (by omega) hs (refnum_len _ _ _ (by omega)), h3, be_succ]
    exact ih (i + 1) (by omega)
theorem refnum_be (n : Int) (size : Nat) (hn : 0 ≤ n) (h1 : n ≤ 18446744073709551615) (hs : size ≤ 8) : refnum.f (size + 1) n size = some (be size n) := by
  have h := refnum_step n size hn h1 hs size 0 (by omega)
  simpa [refnum.f, be] using h
/-- A new row of bytes is what a call returns. -/
def Gives (w : World) (l : List Int) (e : Ending) (w' : World) : Prop := ∃ v, e = .returned v ∧ (Kd.int .u8).R 5 w' w.heap.size (fun _ => True) v l ∧ Below w.heap.size w w'
theorem refnum_calls (w : World) (n : Int) (size : Nat) (hn : 0 ≤ n) (h1 : n ≤ 18446744073709551615) (hs : size ≤ 8) : Calls Try.prog 27 #[.int .u64 n, .int .i64 size] w (Gives w (be size n)) :=
  (refnum.calls (size + 1) n size (be size n) w (refnum_be n size hn h1 hs)).mono (fun e w' h => h)
end Go.Proofs.Ythkdihpbdaehbaa.Pr
