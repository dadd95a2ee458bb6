import Derived.Test.YtagihjlklbckmaaDoorScBc
namespace Go.Proofs.YtagihjlklbckmaaDoor.Sc
set_option linter.unusedVariables false
set_option linter.unusedSimpArgs false
open Go.RowKit Go.Proofs.YtagihjlklbckmaaDoorW.PrintWords Go.Proofs.YtagihjlklbckmaaDoorW.PrintLast Go.Proofs.YtagihjlklbckmaaDoorW.PrintMore Go.Proofs.YtagihjlklbckmaaDoor.Bs
theorem dec2 (n b0 b1 b2 b3 : Nat) (h0 : 192 ≤ b0 ∧ b0 < 224) (h1 : b1 < 256) : Lib.decodeN n b0 b1 b2 b3 = if 2 ≤ n ∧ 128 ≤ b1 ∧ b1 ≤ 191 ∧ 128 ≤ (b0 - 192) * 64 + (b1 - 128) then ((b0 - 192) * 64 + (b1 - 128), 2) else (65533, 1) := by
  unfold Lib.decodeN
  rw [if_neg (by omega)]
  by_cases hc : b0 / 32 = 6 ∧ (1 < n ∧ b1 / 64 = 2)
  · rw [if_pos hc, show b0 % 32 * 64 + b1 % 64 = (b0 - 192) * 64 + (b1 - 128) by omega]
    by_cases hv : 128 ≤ (b0 - 192) * 64 + (b1 - 128)
    · rw [if_pos hv, if_pos (by omega)]
    · rw [if_neg hv, if_neg (by omega)]
  · rw [if_neg hc, if_neg (by omega), if_neg (by omega), if_neg (by omega)]
theorem dec3 (n b0 b1 b2 b3 : Nat) (h0 : 224 ≤ b0 ∧ b0 < 240) (h1 : b1 < 256) (h2 : b2 < 256) : Lib.decodeN n b0 b1 b2 b3 = if 3 ≤ n ∧ 128 ≤ b1 ∧ b1 ≤ 191 ∧ 128 ≤ b2 ∧ b2 ≤ 191 ∧ 2048 ≤ (b0 - 224) * 4096 + (b1 - 128) * 64 + (b2 - 128) ∧ ((b0 - 224) * 4096 + (b1 - 128) * 64 + (b2 - 128) < 55296 ∨ 57344 ≤ (b0 - 224) * 4096 + (b1 - 128) * 64 + (b2 - 128)) then ((b0 - 224) * 4096 + (b1 - 128) * 64 + (b2 - 128), 3) else (65533, 1) := by
  unfold Lib.decodeN
  rw [if_neg (by omega), if_neg (by omega)]
  by_cases hc : b0 / 16 = 14 ∧ (1 < n ∧ b1 / 64 = 2) ∧ (2 < n ∧ b2 / 64 = 2)
  · rw [if_pos hc, show b0 % 16 * 4096 + b1 % 64 * 64 + b2 % 64 = (b0 - 224) * 4096 + (b1 - 128) * 64 + (b2 - 128) by omega]
    generalize hv : (b0 - 224) * 4096 + (b1 - 128) * 64 + (b2 - 128) = v
    by_cases hw : v ≥ 2048 ∧ (v < 55296 ∨ (57344 ≤ v ∧ v ≤ 1114111))
    · rw [if_pos hw, if_pos (by omega)]
    · rw [if_neg hw, if_neg (by omega)]
  · rw [if_neg hc, if_neg (by omega), if_neg (by omega)]
theorem dec4 (n b0 b1 b2 b3 : Nat) (h0 : 240 ≤ b0 ∧ b0 < 248) (h1 : b1 < 256) (h2 : b2 < 256) (h3 : b3 < 256) : Lib.decodeN n b0 b1 b2 b3 = if 4 ≤ n ∧ 128 ≤ b1 ∧ b1 ≤ 191 ∧ 128 ≤ b2 ∧ b2 ≤ 191 ∧ 128 ≤ b3 ∧ b3 ≤ 191 ∧ 65536 ≤ (b0 - 240) * 262144 + (b1 - 128) * 4096 + (b2 - 128) * 64 + (b3 - 128) ∧ (b0 - 240) * 262144 + (b1 - 128) * 4096 + (b2 - 128) * 64 + (b3 - 128) ≤ 1114111 then ((b0 - 240) * 262144 + (b1 - 128) * 4096 + (b2 - 128) * 64 + (b3 - 128), 4) else (65533, 1) := by
  unfold Lib.decodeN
  rw [if_neg (by omega), if_neg (by omega), if_neg (by omega)]
  by_cases hc : b0 / 8 = 30 ∧ (1 < n ∧ b1 / 64 = 2) ∧ (2 < n ∧ b2 / 64 = 2) ∧ (3 < n ∧ b3 / 64 = 2)
  · rw [if_pos hc, show b0 % 8 * 262144 + b1 % 64 * 4096 + b2 % 64 * 64 + b3 % 64 = (b0 - 240) * 262144 + (b1 - 128) * 4096 + (b2 - 128) * 64 + (b3 - 128) by omega]
    generalize hv : (b0 - 240) * 262144 + (b1 - 128) * 4096 + (b2 - 128) * 64 + (b3 - 128) = v
    by_cases hw : v ≥ 65536 ∧ (v < 55296 ∨ (57344 ≤ v ∧ v ≤ 1114111))
    · rw [if_pos hw, if_pos (by omega)]
    · rw [if_neg hw, if_neg (by omega)]
  · rw [if_neg hc, if_neg (by omega)]
theorem dec0 (n b0 b1 b2 b3 : Nat) (h0 : (128 ≤ b0 ∧ b0 < 192) ∨ (248 ≤ b0 ∧ b0 < 256)) : Lib.decodeN n b0 b1 b2 b3 = (65533, 1) := by
  unfold Lib.decodeN
  rw [if_neg (by omega), if_neg (by omega), if_neg (by omega), if_neg (by omega)]
theorem one_bad {n b0 b1 b2 b3 : Nat} (h : Lib.decodeN n b0 b1 b2 b3 = (65533, 1)) (h0 : 128 ≤ b0) : oneN n b0 b1 b2 b3 = (0, 0) := by
  unfold oneN
  rw [h, if_pos ⟨rfl, h0⟩]
theorem one_good {n b0 b1 b2 b3 v m : Nat} (h : Lib.decodeN n b0 b1 b2 b3 = (v, m)) (hm : 2 ≤ m) : oneN n b0 b1 b2 b3 = ((v : Int), (m : Int)) := by
  unfold oneN
  rw [h, if_neg (by simp only; omega)]
theorem bt_getD (l : LB) (i : Nat) (h : i < l.length) : bt (ofL l) (i : Int) = ((l.getD i 0).toNat : Int) := by
  rw [bt_ofL l i h]
  simp [List.getD, h]
/-- THE DOCUMENT's CHARACTER is the model's. -/
theorem one_ref (k : Nat) (l : LB) (hl : 0 < l.length) : breviaryref01_One.f (k + 11) (ofL l) = some (oneN l.length (l.getD 0 0).toNat (l.getD 1 0).toNat (l.getD 2 0).toNat (l.getD 3 0).toNat) := by
  have g0 : bt (ofL l) 0 = ((l.getD 0 0).toNat : Int) := bt_getD l 0 hl
  have g1 := fun h => bt_getD l 1 h
  have g2 := fun h => bt_getD l 2 h
  have g3 := fun h => bt_getD l 3 h
  have l0 := (l.getD 0 0).toNat_lt
  have l1 := (l.getD 1 0).toNat_lt
  have l2 := (l.getD 2 0).toNat_lt
  have l3 := (l.getD 3 0).toNat_lt
  have hz := ofL_size l
  generalize ofL l = s at *
  generalize (l.getD 0 0).toNat = b0 at *
  generalize (l.getD 1 0).toNat = b1 at *
  generalize (l.getD 2 0).toNat = b2 at *
  generalize (l.getD 3 0).toNat = b3 at *
  generalize l.length = n at *
  rw [breviaryref01_One.f, if_neg (by omega), if_pos (by omega), g0, w64 (b0 : Int) (by omega)]
  by_cases c0 : b0 < 128
  · rw [if_pos (by omega)]
    unfold oneN Lib.decodeN
    rw [if_pos c0, if_neg (by simp only; omega)]; rfl
  · rw [if_neg (by omega)]
    have key : ∀ X, (∀ b, b = decide (192 ≤ b0 ∧ b0 < 224) → breviaryref01_One.j0 (k + 3 + 8) s (b0 : Int) 0 0 0 b = X) → (if (b0 : Int) ≥ 192 then breviaryref01_One.j0 (k + 11) s (b0 : Int) 0 0 0 (decide ((b0 : Int) < 224)) else breviaryref01_One.j0 (k + 11) s (b0 : Int) 0 0 0 false) = X := by
      intro X h
      by_cases c1 : 192 ≤ b0
      · rw [if_pos (by omega)]
        exact h _ (by rw [decide_eq_decide]; omega)
      · rw [if_neg (by omega)]
        exact h _ (by rw [eq_comm, decide_eq_false_iff_not]; omega)
    rw [key _ (j_down (k + 3) s b0 ⟨by omega, by omega⟩)]
    clear key
    by_cases c1 : b0 < 192
    · rw [if_pos c1, one_bad (dec0 n b0 b1 b2 b3 (.inl ⟨by omega, c1⟩)) (by omega)]
    rw [if_neg c1]
    by_cases c2 : b0 < 224
    · rw [if_pos c2]
      have hd := dec2 n b0 b1 b2 b3 ⟨by omega, c2⟩ l1
      by_cases hn : n < 2
      · rw [if_pos (by omega), one_bad (hd.trans (if_neg (by omega))) (by omega)]
      · rw [if_neg (by omega), l0_step _ s _ _ _ 1 b1 (by omega) (by omega) (g1 (by omega)) l1 (by omega) (by omega)]
        by_cases e1 : b1 < 128 ∨ 191 < b1
        · rw [if_pos e1, one_bad (hd.trans (if_neg (by omega))) (by omega)]
        · rw [if_neg e1, l0_end _ _ _ _ _ _ (by omega)]
          have hv : ((b0 - 192 : Nat) : Int) * 64 + b1 - 128 = (((b0 - 192) * 64 + (b1 - 128) : Nat) : Int) := by omega
          rw [hv]
          generalize hvv : (b0 - 192) * 64 + (b1 - 128) = v at *
          unfold endV
          by_cases ev : v < 128
          · rw [if_pos (by omega), one_bad (hd.trans (if_neg (by omega))) (by omega)]
          · rw [if_neg (by omega), if_neg (by omega), if_neg (by omega), one_good (hd.trans (if_pos (by omega))) (by omega)]; rfl
    rw [if_neg c2]
    by_cases c3 : b0 < 240
    · rw [if_pos c3]
      have hd := dec3 n b0 b1 b2 b3 ⟨by omega, c3⟩ l1 l2
      by_cases hn : n < 3
      · rw [if_pos (by omega), one_bad (hd.trans (if_neg (by omega))) (by omega)]
      · rw [if_neg (by omega), l0_step _ s _ _ _ 1 b1 (by omega) (by omega) (g1 (by omega)) l1 (by omega) (by omega)]
        by_cases e1 : b1 < 128 ∨ 191 < b1
        · rw [if_pos e1, one_bad (hd.trans (if_neg (by omega))) (by omega)]
        · rw [if_neg e1, l0_step _ s _ _ _ 2 b2 (by omega) (by omega) (g2 (by omega)) l2 (by omega) (by omega)]
          by_cases e2 : b2 < 128 ∨ 191 < b2
          · rw [if_pos e2, one_bad (hd.trans (if_neg (by omega))) (by omega)]
          · rw [if_neg e2, l0_end _ _ _ _ _ _ (by omega)]
            have hv : (((b0 - 224 : Nat) : Int) * 64 + b1 - 128) * 64 + b2 - 128 = (((b0 - 224) * 4096 + (b1 - 128) * 64 + (b2 - 128) : Nat) : Int) := by omega
            rw [hv]
            generalize hvv : (b0 - 224) * 4096 + (b1 - 128) * 64 + (b2 - 128) = v at *
            unfold endV
            by_cases ev : v < 2048
            · rw [if_pos (by omega), one_bad (hd.trans (if_neg (by omega))) (by omega)]
            · rw [if_neg (by omega), if_neg (by omega)]
              by_cases ew : v < 55296
              · rw [if_neg (by omega), one_good (hd.trans (if_pos (by omega))) (by omega)]; rfl
              · rw [if_pos (by omega)]
                by_cases ex : v ≤ 57343
                · rw [if_pos (by omega), one_bad (hd.trans (if_neg (by omega))) (by omega)]
                · rw [if_neg (by omega), one_good (hd.trans (if_pos (by omega))) (by omega)]; rfl
    rw [if_neg c3]
    by_cases c4 : b0 < 248
    · rw [if_pos c4]
      have hd := dec4 n b0 b1 b2 b3 ⟨by omega, c4⟩ l1 l2 l3
      by_cases hn : n < 4
      · rw [if_pos (by omega), one_bad (hd.trans (if_neg (by omega))) (by omega)]
      · rw [if_neg (by omega), l0_step _ s _ _ _ 1 b1 (by omega) (by omega) (g1 (by omega)) l1 (by omega) (by omega)]
        by_cases e1 : b1 < 128 ∨ 191 < b1
        · rw [if_pos e1, one_bad (hd.trans (if_neg (by omega))) (by omega)]
        · rw [if_neg e1, l0_step _ s _ _ _ 2 b2 (by omega) (by omega) (g2 (by omega)) l2 (by omega) (by omega)]
          by_cases e2 : b2 < 128 ∨ 191 < b2
          · rw [if_pos e2, one_bad (hd.trans (if_neg (by omega))) (by omega)]
          · rw [if_neg e2, l0_step _ s _ _ _ 3 b3 (by omega) (by omega) (g3 (by omega)) l3 (by omega) (by omega)]
            by_cases e3 : b3 < 128 ∨ 191 < b3
            · rw [if_pos e3, one_bad (hd.trans (if_neg (by omega))) (by omega)]
            · rw [if_neg e3, l0_end _ _ _ _ _ _ (by omega)]
              have hv : ((((b0 - 240 : Nat) : Int) * 64 + b1 - 128) * 64 + b2 - 128) * 64 + b3 - 128 = (((b0 - 240) * 262144 + (b1 - 128) * 4096 + (b2 - 128) * 64 + (b3 - 128) : Nat) : Int) := by omega
              rw [hv]
              generalize hvv : (b0 - 240) * 262144 + (b1 - 128) * 4096 + (b2 - 128) * 64 + (b3 - 128) = v at *
              unfold endV
              by_cases ev : v < 65536
              · rw [if_pos (by omega), one_bad (hd.trans (if_neg (by omega))) (by omega)]
              · rw [if_neg (by omega)]
                by_cases ex : v ≤ 1114111
                · rw [if_neg (by omega), if_pos (by omega), if_neg (by omega), one_good (hd.trans (if_pos (by omega))) (by omega)]; rfl
                · rw [if_pos (by omega), one_bad (hd.trans (if_neg (by omega))) (by omega)]
    · rw [if_neg c4, one_bad (dec0 n b0 b1 b2 b3 (.inr ⟨by omega, l0⟩)) (by omega)]
end Go.Proofs.YtagihjlklbckmaaDoor.Sc
