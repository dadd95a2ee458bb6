import Derived.Test.YthkdihpbdaehbaaPrQ
namespace Go.Proofs.Ythkdihpbdaehbaa.Pr
set_option linter.unusedVariables false
set_option linter.unusedSimpArgs false
open Go.RowKit Go.Proofs.YthkdihpbdaehbaaW.PrintWords Go.Proofs.YthkdihpbdaehbaaW.PrintLast Go.Proofs.YthkdihpbdaehbaaW.PrintMore Go.Proofs.Ythkdihpbdaehbaa.Bs
theorem fold_be (m : Nat) : ∀ (s : Nat) (a : Int), (be s m).foldl (fun a c => a * 256 + c) a = a * ((256 ^ s : Nat) : Int) + ((m % 256 ^ s : Nat) : Int)
  | 0, a => by simp [be, Nat.mod_one]
  | s + 1, a => by
    have e1 : (m : Int) / 256 ^ s % 256 = ((m / 256 ^ s % 256 : Nat) : Int) := by
      rw [Int.natCast_emod, Int.natCast_ediv, Int.natCast_pow]; rfl
    rw [be, List.foldl_cons, fold_be m s, e1, Nat.pow_succ, Nat.mod_mul]
    generalize 256 ^ s = P
    generalize m / P % 256 = x
    generalize m % P = r
    rw [Int.natCast_mul, Int.natCast_add, Int.natCast_mul, Int.add_mul, Int.mul_assoc, Int.mul_comm (256 : Int) (P : Int)]
    rw [Int.mul_comm (x : Int) (P : Int)]
    show _ = a * ((P : Int) * 256) + _
    omega
theorem val_be (s : Nat) (n : Int) (h0 : 0 ≤ n) (h1 : n < ((256 ^ s : Nat) : Int)) : val (be s n) = n := by
  obtain ⟨m, rfl⟩ := Int.eq_ofNat_of_zero_le h0
  rw [val, fold_be, Nat.mod_eq_of_lt (by omega)]
  omega
theorem strOf_bytes (s : ByteArray) : strOfNums (bytesOf s) = s := by
  apply ByteArray.ext
  show ((bytesOf s).map fun n => UInt8.ofNat n.toNat).toArray = s.data
  rw [bytesOf, List.map_map]
  have : (fun n : Int => UInt8.ofNat n.toNat) ∘ (fun b : UInt8 => (b.toNat : Int)) = id := by
    funext b; simp
  rw [this, List.map_id]
theorem numP_be (s : Nat) (n : Int) (r : List Int) (h0 : 0 ≤ n) (h1 : n < ((256 ^ s : Nat) : Int)) : numP s (be s n ++ r) = some (n, r) := by
  have hl := be_length s n
  rw [numP, if_neg (by rw [List.length_append, hl]; omega), List.take_left' hl, List.drop_left' hl, val_be s n h0 h1]
theorem textP_b (s : ByteArray) (r : List Int) (h : s.size < 65536) : textP (textB s ++ r) = some (s, r) := by
  have hl := be_length 2 (s.size : Int)
  have hb := bytesOf_length s
  have hv : val (be 2 (s.size : Int)) = s.size := val_be 2 _ (by omega) (by simp; omega)
  have e : textB s ++ r = be 2 (s.size : Int) ++ (bytesOf s ++ r) := by rw [textB, List.append_assoc]
  rw [e, textP, List.take_left' hl, hv, Int.toNat_natCast, if_neg (by rw [List.length_append, hl, List.length_append, hb]; omega), List.drop_left' hl, List.take_left' hb, strOf_bytes, ← List.drop_drop, List.drop_left' hl, List.drop_left' hb]
theorem size0 (s : ByteArray) (h : s.size = 0) : s = nil8 := by
  apply ByteArray.ext
  exact Array.eq_empty_of_size_eq_zero h
theorem parse_bytes (q : Rq) (h : rightB q = true) : parseReq q.bytes = some (q, []) := by
  have hs := right_small q h
  obtain ⟨⟨ka, kb⟩, ⟨oa, ob⟩, ⟨ia, ib⟩, ⟨pa, pb⟩, sa, na, osa⟩ := hs
  rw [right_ref] at h
  obtain ⟨k, s, o, i, p, nm, os⟩ := q
  simp only [Rq.op] at *
  have P1 : ∀ n : Int, 0 ≤ n → n ≤ 255 → ∀ r, numP 1 (be 1 n ++ r) = some (n, r) := fun n h0 h1 r => numP_be 1 n r h0 (by show n < 256; omega)
  have P4 : ∀ n : Int, 0 ≤ n → n ≤ 2147483647 → ∀ r, numP 4 (be 4 n ++ r) = some (n, r) := fun n h0 h1 r => numP_be 4 n r h0 (by show n < 4294967296; omega)
  simp only [refN] at h
  rw [if_neg (by omega), if_neg (by omega), if_neg (by omega)] at h
  by_cases h4 : ¬ k = 2 ∧ ¬ s.size = 0
  · rw [if_pos h4] at h; cases h
  rw [if_neg h4] at h
  by_cases k3 : k = 3
  · subst k3
    have e : Rq.bytes ⟨3, s, o, i, p, nm, os⟩ = be 1 3 ++ (be 1 o ++ (be 4 i ++ (be 4 p ++ (textB nm ++ (textB os ++ []))))) := by simp [Rq.bytes]
    rw [size0 s (by omega)] at e ⊢
    rw [e, parseReq, P1 3 (by decide) (by decide)]
    simp only [show ¬ (3 : Int) = 2 by decide, if_false, if_true]
    rw [P1 o oa ob]
    simp only []
    rw [P4 i ia ib]
    simp only []
    rw [P4 p pa pb]
    simp only []
    rw [textP_b nm _ (by omega)]
    simp only []
    rw [textP_b os _ (by omega)]
  rw [if_neg k3] at h
  by_cases h5 : ¬ k = 6 ∧ ¬ i = 0
  · rw [if_pos h5] at h; cases h
  rw [if_neg h5] at h
  by_cases h6 : fitsB i = false
  · rw [if_pos h6] at h; cases h
  rw [if_neg h6] at h
  by_cases h7 : ¬ o = 0
  · rw [if_pos h7] at h; cases h
  rw [if_neg h7] at h
  by_cases h8 : ¬ p = 0
  · rw [if_pos h8] at h; cases h
  rw [if_neg h8] at h
  by_cases h9 : ¬ nm.size = 0
  · rw [if_pos h9] at h; cases h
  rw [if_neg h9] at h
  have h10 : os.size = 0 := of_decide_eq_true h
  obtain rfl : o = 0 := by omega
  obtain rfl : p = 0 := by omega
  rw [size0 nm (by omega), size0 os h10]
  by_cases k2 : k = 2
  · subst k2
    obtain rfl : i = 0 := by omega
    have e : Rq.bytes ⟨2, s, 0, 0, 0, nil8, nil8⟩ = be 1 2 ++ (textB s ++ []) := by simp [Rq.bytes]
    rw [e, parseReq, P1 2 (by decide) (by decide)]
    simp only [if_true]
    rw [textP_b s _ (by omega)]
  rw [size0 s (by omega)]
  by_cases k6 : k = 6
  · subst k6
    have e : Rq.bytes ⟨6, nil8, 0, i, 0, nil8, nil8⟩ = be 1 6 ++ (be 4 i ++ []) := by simp [Rq.bytes]
    rw [e, parseReq, P1 6 (by decide) (by decide)]
    simp only [show ¬ (6 : Int) = 2 by decide, show ¬ (6 : Int) = 3 by decide, if_false, if_true]
    rw [P4 i ia ib]
  obtain rfl : i = 0 := by omega
  have e : Rq.bytes ⟨k, nil8, 0, 0, 0, nil8, nil8⟩ = be 1 k ++ [] := by simp [Rq.bytes, k2, k3, k6]
  rw [e, parseReq, P1 k (by omega) (by omega)]
  simp only [if_neg k2, if_neg k3, if_neg k6]
theorem get_bytes (q : Rq) (h : rightB q = true) (hl : q.bytes.length ≤ 4200) : getReq q.bytes = (q, 0) := by
  rw [getReq, readReq, if_neg (by omega), parse_bytes q h, getOf, if_pos h]
def wq : Rq := ⟨2, ⟨#[97]⟩, 0, 0, 0, nil8, nil8⟩
theorem wq_right : rightB wq = true := by decide
theorem wq_bytes : wq.bytes = [2, 0, 1, 97] := by decide
theorem wq_put : putReq wq = ([2, 0, 1, 97], 0) := by
  rw [putReq, if_neg (by rw [wq_right]; decide), wq_bytes, if_neg (by decide)]
theorem wq_get : getReq [2, 0, 1, 97] = (wq, 0) := by
  rw [← wq_bytes]; exact get_bytes wq wq_right (by rw [wq_bytes]; decide)
theorem bys_bytes (q : Rq) : Bys q.bytes := by
  have ht : ∀ s : ByteArray, Bys (textB s) := by
    intro s x hx
    simp only [textB, List.mem_append] at hx
    rcases hx with hx | hx
    · exact be_bytes _ _ x hx
    · simp only [bytesOf, List.mem_map] at hx
      obtain ⟨b, _, rfl⟩ := hx
      have := b.toNat_lt
      omega
  intro x hx
  simp only [Rq.bytes, List.mem_append] at hx
  rcases hx with hx | hx
  · exact be_bytes _ _ x hx
  · split at hx
    · exact ht _ x hx
    · split at hx
      · simp only [List.mem_append] at hx
        rcases hx with (((hx | hx) | hx) | hx) | hx
        · exact be_bytes _ _ x hx
        · exact be_bytes _ _ x hx
        · exact be_bytes _ _ x hx
        · exact ht _ x hx
        · exact ht _ x hx
      · split at hx
        · exact be_bytes _ _ x hx
        · cases hx
end Go.Proofs.Ythkdihpbdaehbaa.Pr
