import Derived.Test.YtagihjlklbckmaaDoorScBd
namespace Go.Proofs.YtagihjlklbckmaaDoor.Sc
set_option linter.unusedVariables false
set_option linter.unusedSimpArgs false
open Go.RowKit Go.Proofs.YtagihjlklbckmaaDoorW.PrintWords Go.Proofs.YtagihjlklbckmaaDoorW.PrintLast Go.Proofs.YtagihjlklbckmaaDoorW.PrintMore Go.Proofs.YtagihjlklbckmaaDoor.Bs
theorem dec_hi (n b0 b1 b2 b3 : Nat) (h0 : 128 ≤ b0 ∧ b0 < 256) (h1 : b1 < 256) (h2 : b2 < 256) (h3 : b3 < 256) : Lib.decodeN n b0 b1 b2 b3 = (65533, 1) ∨ 2 ≤ (Lib.decodeN n b0 b1 b2 b3).2 := by
  by_cases c1 : b0 < 192
  · exact .inl (dec0 n b0 b1 b2 b3 (.inl ⟨h0.1, c1⟩))
  by_cases c2 : b0 < 224
  · rw [dec2 n b0 b1 b2 b3 ⟨by omega, c2⟩ h1]
    split
    · exact .inr (Nat.le_refl _)
    · exact .inl rfl
  by_cases c3 : b0 < 240
  · rw [dec3 n b0 b1 b2 b3 ⟨by omega, c3⟩ h1 h2]
    split
    · exact .inr (by simp only; omega)
    · exact .inl rfl
  by_cases c4 : b0 < 248
  · rw [dec4 n b0 b1 b2 b3 ⟨by omega, c4⟩ h1 h2 h3]
    split
    · exact .inr (by simp only; omega)
    · exact .inl rfl
  · exact .inl (dec0 n b0 b1 b2 b3 (.inr ⟨by omega, h0.2⟩))
/-- Does a text begin with no character? -/
abbrev badL (l : LB) : Prop := (Lib.decodeL l).1 = 65533 ∧ (Lib.decodeL l).2 = 1
theorem one_char (k : Nat) (l : LB) (hl : 0 < l.length) : breviaryref01_One.f (k + 11) (ofL l) = some (if badL l then (0, 0) else (((Lib.decodeL l).1 : Int), ((Lib.decodeL l).2 : Int))) := by
  rw [one_ref k l hl]
  have hD := Lib.decodeL_N l
  have l0 := (l.getD 0 0).toNat_lt
  unfold oneN
  by_cases c0 : 128 ≤ (l.getD 0 0).toNat
  · rcases dec_hi l.length (l.getD 0 0).toNat (l.getD 1 0).toNat (l.getD 2 0).toNat (l.getD 3 0).toNat ⟨c0, l0⟩ (l.getD 1 0).toNat_lt (l.getD 2 0).toNat_lt (l.getD 3 0).toNat_lt with h | h
    · rw [← hD] at h ⊢
      have hb : badL l := ⟨by rw [h], by rw [h]⟩
      rw [if_pos hb, if_pos ⟨hb.2, c0⟩]
    · rw [← hD] at h ⊢
      have hb : ¬ badL l := fun e => by have := e.2; omega
      rw [if_neg hb, if_neg (by omega)]
  · have hd : Lib.decodeN l.length (l.getD 0 0).toNat (l.getD 1 0).toNat (l.getD 2 0).toNat (l.getD 3 0).toNat = ((l.getD 0 0).toNat, 1) := by
      unfold Lib.decodeN
      rw [if_pos (by omega)]
    rw [hd] at hD ⊢
    have hb : ¬ badL l := fun e => by
      have h1 := e.1
      rw [hD] at h1
      simp only at h1
      omega
    rw [if_neg hb, hD, if_neg (by omega)]
def runesF : Nat → LB → List Int
  | 0, _ => []
  | n + 1, l => if l = [] then [] else ((Lib.decodeL l).1 : Int) :: runesF n (l.drop (Lib.decodeL l).2)
def runesL (l : LB) : List Int := runesF l.length l
theorem runesF_fuel : ∀ (n m : Nat) (l : LB), l.length ≤ n → l.length ≤ m → runesF n l = runesF m l
  | 0, 0, l, _, _ => rfl
  | 0, m + 1, l, h, _ => by
    have : l = [] := List.length_eq_zero_iff.1 (by omega)
    subst this; rfl
  | n + 1, 0, l, _, h => by
    have : l = [] := List.length_eq_zero_iff.1 (by omega)
    subst this; rfl
  | n + 1, m + 1, l, h1, h2 => by
    rw [runesF, runesF]
    by_cases h : l = []
    · rw [if_pos h, if_pos h]
    · have hw := width_one l
      have hp : 0 < l.length := List.length_pos_iff.2 h
      rw [if_neg h, if_neg h, runesF_fuel n m _ (by rw [List.length_drop]; omega) (by rw [List.length_drop]; omega)]
theorem runesL_step (l : LB) (h : l ≠ []) : runesL l = ((Lib.decodeL l).1 : Int) :: runesL (l.drop (Lib.decodeL l).2) := by
  have hp : 0 < l.length := List.length_pos_iff.2 h
  have hw := width_one l
  unfold runesL
  conv => lhs; rw [show l.length = (l.length - 1) + 1 by omega]
  rw [runesF, if_neg h, runesF_fuel (l.length - 1) _ _ (by rw [List.length_drop]; omega) (Nat.le_refl _)]
theorem runes_all (p : Int → Bool) : ∀ (n : Nat) (l : LB), l.length ≤ n → allR p l = (runesL l).all p
  | n, [], _ => rfl
  | 0, c :: r, h => by simp at h
  | n + 1, c :: r, h => by
    have hw := width_one (c :: r)
    rw [allR_step p _ (by simp), runesL_step _ (by simp), List.all_cons, runes_all p n _ (by rw [List.length_drop]; simp only [List.length_cons] at *; omega)]
theorem runes_len : ∀ (n : Nat) (l : LB), l.length ≤ n → (runesL l).length ≤ l.length
  | n, [], _ => Nat.le_refl _
  | 0, c :: r, h => by simp at h
  | n + 1, c :: r, h => by
    have hw := width_one (c :: r)
    have ih := runes_len n ((c :: r).drop (Lib.decodeL (c :: r)).2) (by rw [List.length_drop]; simp only [List.length_cons] at *; omega)
    rw [runesL_step _ (by simp), List.length_cons]
    rw [List.length_drop] at ih
    simp only [List.length_cons] at *
    omega
theorem validD_bad (l : LB) (h : l ≠ []) : Lib.validD l = if badL l then false else Lib.validD (l.drop (Lib.decodeL l).2) := Lib.validD_step l h
theorem chars_ref (l : LB) (hl : l.length ≤ 1000000) : ∀ (m k pos : Nat) (acc : List Int), pos ≤ l.length → l.length ≤ pos + m → acc.length ≤ pos → m + 12 ≤ k →
    breviaryref01_Chars.l0 k (ofL l) acc (pos : Int) = some (if Lib.validD (l.drop pos) = true then (acc ++ runesL (l.drop pos), true) else ([], false))
  | m, 0, pos, acc, hp, hm, ha, hk => by omega
  | m, k + 1, pos, acc, hp, hm, ha, hk => by
    rw [breviaryref01_Chars.l0]
    have hz := ofL_size l
    by_cases hlt : pos < l.length
    · obtain ⟨m, rfl⟩ : ∃ x, m = x + 1 := ⟨m - 1, by omega⟩
      obtain ⟨k, rfl⟩ : ∃ x, k = x + 11 := ⟨k - 11, by omega⟩
      have hne := drop_ne' hlt
      have hle := Lib.decodeL_le _ hne
      have hw := width_one (l.drop pos)
      rw [if_pos (by rw [hz]; omega), if_pos (by omega), if_pos (by rw [hz]; omega), Int.toNat_natCast, ofL_cut, one_char k _ (by rw [List.length_drop]; omega), Option.bind_some, validD_bad _ hne]
      by_cases hb : badL (l.drop pos)
      · rw [if_pos hb, if_pos hb, if_pos rfl, if_neg (by decide)]
      · rw [if_neg hb, if_neg hb, if_neg (by simp only; omega), if_pos (by omega)]
        rw [List.length_drop] at hle
        simp only
        have hwr : wrap64 ((pos : Int) + ((Lib.decodeL (l.drop pos)).2 : Int)) = ((pos + (Lib.decodeL (l.drop pos)).2 : Nat) : Int) := by rw [w64 _ (by omega)]; rfl
        rw [hwr, chars_ref l hl m (k + 11) _ _ (by omega) (by omega) (by rw [List.length_append, List.length_singleton]; omega) (by omega), runesL_step _ hne, List.drop_drop, List.append_assoc]; rfl
    · rw [if_neg (by rw [hz]; omega), List.drop_eq_nil_of_le (by omega)]
      rw [if_pos Lib.validD_nil, show runesL [] = [] from rfl, List.append_nil]
def flatI : List (Int × Int) → List Int
  | [] => []
  | (a, b) :: r => a :: b :: flatI r
theorem flatI_len : ∀ ps : List (Int × Int), (flatI ps).length = 2 * ps.length
  | [] => rfl
  | (a, b) :: r => by rw [flatI, List.length_cons, List.length_cons, flatI_len r, List.length_cons]; omega
theorem flatI_get : ∀ (ps : List (Int × Int)) (i : Nat) (h : i < ps.length), (flatI ps)[2 * i]? = some ps[i].1 ∧ (flatI ps)[2 * i + 1]? = some ps[i].2
  | (a, b) :: r, 0, h => ⟨rfl, rfl⟩
  | (a, b) :: r, i + 1, h => by
    have := flatI_get r i (by rw [List.length_cons] at h; omega)
    rw [show 2 * (i + 1) = 2 * i + 2 by omega, flatI]
    exact this
theorem in_ref (x : Int) (ps : List (Int × Int)) (hl : ps.length ≤ 100) : ∀ (m k i : Nat), i ≤ ps.length → ps.length ≤ i + m → m < k → breviaryref01_in.l0 k x (flatI ps) ((2 * i : Nat) : Int) = some (inR (ps.drop i) x)
  | m, 0, i, hi, hm, hk => by omega
  | m, k + 1, i, hi, hm, hk => by
    have hfl := flatI_len ps
    rw [breviaryref01_in.l0]
    have e1 : wrap64 (((2 * i : Nat) : Int) + 1) = ((2 * i + 1 : Nat) : Int) := by rw [w64 _ (by omega)]; rfl
    have e2 : wrap64 (((2 * i : Nat) : Int) + 2) = ((2 * (i + 1) : Nat) : Int) := by rw [w64 _ (by omega)]; rfl
    rw [e1, e2]
    by_cases hlt : i < ps.length
    · obtain ⟨m, rfl⟩ : ∃ x, m = x + 1 := ⟨m - 1, by omega⟩
      obtain ⟨g0, g1⟩ := flatI_get ps i hlt
      have r0 : rd (flatI ps) ((2 * i : Nat) : Int) = ps[i].1 := by unfold rd; rw [Int.toNat_natCast, List.getD, g0]; rfl
      have r1 : rd (flatI ps) ((2 * i + 1 : Nat) : Int) = ps[i].2 := by unfold rd; rw [Int.toNat_natCast, List.getD, g1]; rfl
      have hd : ps.drop i = ps[i] :: ps.drop (i + 1) := List.drop_eq_getElem_cons hlt
      have hin : inR (ps.drop i) x = ((decide (ps[i].1 ≤ x) && decide (x ≤ ps[i].2)) || inR (ps.drop (i + 1)) x) := by rw [hd]; rfl
      rw [if_pos (by rw [hfl]; omega), if_pos (by omega), if_pos (by rw [hfl]; omega), r0, r1, hin, in_ref x ps hl m k (i + 1) (by omega) (by omega) (by omega)]
      by_cases c1 : ps[i].1 ≤ x
      · rw [if_pos c1, if_pos (by omega)]
        by_cases c2 : x ≤ ps[i].2
        · rw [if_pos c2]; simp [c1, c2]
        · rw [if_neg c2]; simp [c2]
      · rw [if_neg c1]; simp [c1]
    · rw [if_neg (by rw [hfl]; omega), List.drop_eq_nil_of_le (by omega)]; rfl
theorem in_whole (k : Nat) (x : Int) (ps : List (Int × Int)) (hl : ps.length ≤ 100) (hk : ps.length < k) : breviaryref01_in.f k x (flatI ps) = some (inR ps x) := by
  have := in_ref x ps hl ps.length k 0 (Nat.zero_le _) (by omega) hk
  rwa [List.drop_zero] at this
theorem bool_iff {a b : Bool} (h : a = true ↔ b = true) : a = b := by cases a <;> cases b <;> simp_all
theorem is_ref (k : Nat) (x : Int) (hk : 7 ≤ k) : breviaryref01_Is.f k x = some (isR x) := by
  have h := in_whole k x [(9, 9), (10, 10), (13, 13), (32, 55295), (57344, 65533), (65536, 1114111)] (by decide) (by simp only [List.length_cons, List.length_nil]; omega)
  unfold breviaryref01_Is.f
  rw [show ([9, 9, 10, 10, 13, 13, 32, 55295, 57344, 65533, 65536, 1114111] : List Int) = flatI [(9, 9), (10, 10), (13, 13), (32, 55295), (57344, 65533), (65536, 1114111)] from rfl, h, Option.bind_some]
  congr 1
  refine bool_iff ?_
  simp [isR, isL, inR]
  omega
theorem start_ref (k : Nat) (x : Int) (hk : 16 ≤ k) : breviaryref01_Start.f k x = some (startR x) := by
  have h := in_whole k x [(65, 90), (95, 95), (97, 122), (192, 214), (216, 246), (248, 767), (880, 893), (895, 8191), (8204, 8205), (8304, 8591), (11264, 12271), (12289, 55295), (63744, 64975), (65008, 65533), (65536, 983039)] (by decide) (by simp only [List.length_cons, List.length_nil]; omega)
  unfold breviaryref01_Start.f
  rw [show ([65, 90, 95, 95, 97, 122, 192, 214, 216, 246, 248, 767, 880, 893, 895, 8191, 8204, 8205, 8304, 8591, 11264, 12271, 12289, 55295, 63744, 64975, 65008, 65533, 65536, 983039] : List Int) = flatI [(65, 90), (95, 95), (97, 122), (192, 214), (216, 246), (248, 767), (880, 893), (895, 8191), (8204, 8205), (8304, 8591), (11264, 12271), (12289, 55295), (63744, 64975), (65008, 65533), (65536, 983039)] from rfl, h, Option.bind_some]
  congr 1
  refine bool_iff ?_
  unfold startR
  by_cases hx : x < 128
  · rw [if_pos hx]
    simp [inR]
    omega
  · rw [if_neg hx]
    simp [inR, startL]
    omega
theorem part_ref (k : Nat) (x : Int) (hk : 16 ≤ k) : breviaryref01_Part.f k x = some (partR x) := by
  have h := in_whole k x partL (by decide) (by unfold partL; simp only [List.length_cons, List.length_nil]; omega)
  unfold breviaryref01_Part.f
  rw [start_ref k x hk, Option.bind_some, show ([45, 46, 48, 57, 183, 183, 768, 879, 8255, 8256] : List Int) = flatI partL from rfl, h, Option.bind_some]
  unfold partR
  cases startR x <;> rfl
theorem part_is (x : Int) (h : partR x = true) : isR x = true := by
  unfold partR startR at h
  by_cases hx : x < 128
  · rw [if_pos hx] at h
    simp [inR, partL, isR, isL] at *
    omega
  · rw [if_neg hx] at h
    simp [inR, partL, startL, isR, isL] at *
    omega
end Go.Proofs.YtagihjlklbckmaaDoor.Sc
