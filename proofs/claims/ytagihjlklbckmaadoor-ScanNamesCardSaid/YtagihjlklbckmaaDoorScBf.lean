import Derived.Test.YtagihjlklbckmaaDoorScBe
namespace Go.Proofs.YtagihjlklbckmaaDoor.Sc
set_option linter.unusedVariables false
set_option linter.unusedSimpArgs false
open Go.RowKit Go.Proofs.YtagihjlklbckmaaDoorW.PrintWords Go.Proofs.YtagihjlklbckmaaDoorW.PrintLast Go.Proofs.YtagihjlklbckmaaDoorW.PrintMore Go.Proofs.YtagihjlklbckmaaDoor.Bs
theorem chars_whole (l : LB) (hl : l.length ≤ 1000000) (k : Nat) (hk : l.length + 12 ≤ k) : breviaryref01_Chars.f k (ofL l) = some (if Lib.validD l = true then (runesL l, true) else ([], false)) := by
  have := chars_ref l hl l.length k 0 [] (Nat.zero_le _) (by omega) (Nat.le_refl _) hk
  rwa [List.drop_zero, List.nil_append] at this
theorem rd_get (xs : List Int) (i : Nat) (h : i < xs.length) : rd xs (i : Int) = xs[i] := by
  unfold rd
  rw [Int.toNat_natCast]
  simp [List.getD, h]
theorem text_loop (xs : List Int) (hx : xs.length ≤ 1000000) : ∀ (m k i : Nat) (b : Bool), i ≤ xs.length → xs.length ≤ i + m → m + 8 ≤ k → breviaryref01_Text.l0 k xs b (i : Int) = some (b && (xs.drop i).all isR)
  | m, 0, i, b, hi, hm, hk => by omega
  | m, k + 1, i, b, hi, hm, hk => by
    rw [breviaryref01_Text.l0]
    by_cases hlt : i < xs.length
    · obtain ⟨m, rfl⟩ : ∃ x, m = x + 1 := ⟨m - 1, by omega⟩
      have e1 : wrap64 ((i : Int) + 1) = ((i + 1 : Nat) : Int) := by rw [w64 _ (by omega)]; rfl
      have hd : xs.drop i = xs[i] :: xs.drop (i + 1) := List.drop_eq_getElem_cons hlt
      rw [if_pos (by omega), e1, hd, List.all_cons]
      cases b with
      | true => rw [if_pos rfl, if_pos (by omega), rd_get xs i hlt, is_ref k _ (by omega), Option.bind_some, text_loop xs hx m k (i + 1) _ (by omega) (by omega) (by omega), Bool.true_and]
      | false => rw [if_neg (by decide), text_loop xs hx m k (i + 1) _ (by omega) (by omega) (by omega)]; rfl
    · rw [if_neg (by omega), List.drop_eq_nil_of_le (by omega), List.all_nil, Bool.and_true]
theorem name_loop (xs : List Int) (hx : xs.length ≤ 1000000) : ∀ (m k i : Nat), i ≤ xs.length → xs.length ≤ i + m → m + 17 ≤ k → breviaryref01_Name.l0 k xs (i : Int) = some ((xs.drop i).all partR)
  | m, 0, i, hi, hm, hk => by omega
  | m, k + 1, i, hi, hm, hk => by
    rw [breviaryref01_Name.l0]
    by_cases hlt : i < xs.length
    · obtain ⟨m, rfl⟩ : ∃ x, m = x + 1 := ⟨m - 1, by omega⟩
      have e1 : wrap64 ((i : Int) + 1) = ((i + 1 : Nat) : Int) := by rw [w64 _ (by omega)]; rfl
      have hd : xs.drop i = xs[i] :: xs.drop (i + 1) := List.drop_eq_getElem_cons hlt
      rw [if_pos (by omega), if_pos (by omega), rd_get xs i hlt, part_ref k _ (by omega), Option.bind_some, e1, hd, List.all_cons, name_loop xs hx m k (i + 1) (by omega) (by omega) (by omega)]
      cases partR xs[i] <;> rfl
    · rw [if_neg (by omega), List.drop_eq_nil_of_le (by omega), List.all_nil]
theorem text_ref (l : LB) (hl : l.length ≤ 1000000) : breviaryref01_Text.f (l.length + 20) (ofL l) = some (textL l) := by
  unfold breviaryref01_Text.f textL
  rw [chars_whole l hl _ (by omega), Option.bind_some]
  have hrl := runes_len _ l (Nat.le_refl _)
  by_cases hv : Lib.validD l = true
  · rw [if_pos hv, hv, runes_all isR _ l (Nat.le_refl _)]
    have := text_loop (runesL l) (by omega) l.length (l.length + 20) 0 true (Nat.zero_le _) (by omega) (by omega)
    rw [List.drop_zero] at this
    exact this
  · rw [if_neg hv, Bool.eq_false_iff.2 hv]
    have := text_loop [] (by decide) 0 (l.length + 20) 0 false (Nat.le_refl _) (Nat.le_refl _) (by omega)
    exact this
theorem all_part {l : LB} (h : allR partR l = true) : allR isR l = true := by
  rw [runes_all _ _ l (Nat.le_refl _)] at h ⊢
  exact List.all_eq_true.2 fun x hx => part_is x (List.all_eq_true.1 h x hx)
theorem name_ref (l : LB) (hl : l.length ≤ 1000000) : breviaryref01_Name.f (l.length + 40) (ofL l) = some (nameL l) := by
  unfold breviaryref01_Name.f nameL textL
  rw [chars_whole l hl _ (by omega), Option.bind_some]
  have hrl := runes_len _ l (Nat.le_refl _)
  have hz := ofL_size l
  by_cases hv : Lib.validD l = true
  · rw [if_pos hv, hv, if_pos rfl]
    by_cases h1 : 1 ≤ l.length
    · have hne : l ≠ [] := fun e => by rw [e] at h1; simp at h1
      have hst := runesL_step l hne
      rw [if_neg (by rw [hz]; omega), decide_eq_true h1]
      by_cases h32 : l.length ≤ 32
      · rw [if_neg (by rw [hz]; omega), decide_eq_true h32, if_pos (by rw [hst, List.length_cons]; omega)]
        have hr0 : rd (runesL l) 0 = ((Lib.decodeL l).1 : Int) := by rw [hst]; rfl
        rw [hr0, start_ref _ _ (by omega), Option.bind_some]
        cases hs : startR ((Lib.decodeL l).1 : Int) with
        | false =>
          rw [breviaryref01_Name.j0, if_pos (by decide)]; simp
        | true =>
          rw [breviaryref01_Name.j0, if_neg (by decide)]
          have := name_loop (runesL l) (by omega) l.length (l.length + 39) 0 (Nat.zero_le _) (by omega) (by omega)
          rw [List.drop_zero, ← runes_all partR _ l (Nat.le_refl _)] at this
          rw [show breviaryref01_Name.l0 (l.length + 39) (runesL l) 0 = _ from this]
          cases hp : allR partR l with
          | false => simp
          | true => rw [all_part hp]; rfl
      · rw [if_pos (by rw [hz]; omega), decide_eq_false h32, breviaryref01_Name.j0, if_pos rfl]; simp
    · rw [if_pos (by rw [hz]; omega), decide_eq_false h1, breviaryref01_Name.j0, if_pos rfl]; simp
  · rw [if_neg hv, if_neg (by decide), breviaryref01_Name.j0, if_pos rfl, Bool.eq_false_iff.2 hv]; simp
theorem reftext_calls (w : World) (l : LB) (hl : l.length ≤ 1000000) : Calls Tryd.prog 10 #[.string (ofL l)] w fun e w' => e = .returned (.bool (textL l)) ∧ Below w.heap.size w w' :=
  breviaryref01_Text.calls _ (ofL l) (textL l) w (text_ref l hl)
theorem refname_calls (w : World) (l : LB) (hl : l.length ≤ 1000000) : Calls Tryd.prog 11 #[.string (ofL l)] w fun e w' => e = .returned (.bool (nameL l)) ∧ Below w.heap.size w w' :=
  breviaryref01_Name.calls _ (ofL l) (nameL l) w (name_ref l hl)
/-! ### the ends of lines leave a text a text -/
theorem textL_step (l : LB) (h : l ≠ []) : textL l = (!decide (badL l) && isR ((Lib.decodeL l).1 : Int) && textL (l.drop (Lib.decodeL l).2)) := by
  unfold textL
  rw [validD_bad l h, allR_step isR l h]
  by_cases hb : badL l
  · rw [if_pos hb, decide_eq_true hb]; simp
  · rw [if_neg hb, decide_eq_false hb]
    cases isR ((Lib.decodeL l).1 : Int) <;> simp
theorem textL_low (c : UInt8) (r : LB) (h : c.toNat < 128) : textL (c :: r) = (isR (c.toNat : Int) && textL r) := by
  have hb : ¬ badL (c :: r) := fun e => by
    have h1 := e.1
    rw [Lib.decodeL_ascii c r h] at h1
    simp only at h1
    omega
  rw [textL_step _ (by simp), decide_eq_false hb, Lib.decodeL_ascii c r h]; rfl
theorem dec_same (n n' b0 b1 b2 b3 c1 c2 c3 : Nat) (h0 : 128 ≤ b0 ∧ b0 < 256) (h1 : b1 < 256) (h2 : b2 < 256) (h3 : b3 < 256) (k1 : c1 < 256) (k2 : c2 < 256) (k3 : c3 < 256) (hg : 2 ≤ (Lib.decodeN n b0 b1 b2 b3).2) (hn : (Lib.decodeN n b0 b1 b2 b3).2 ≤ n') (hc1 : c1 = b1) (hc2 : 3 ≤ (Lib.decodeN n b0 b1 b2 b3).2 → c2 = b2) (hc3 : 4 ≤ (Lib.decodeN n b0 b1 b2 b3).2 → c3 = b3) :
    Lib.decodeN n' b0 c1 c2 c3 = Lib.decodeN n b0 b1 b2 b3 ∧ 128 ≤ b1 ∧ (3 ≤ (Lib.decodeN n b0 b1 b2 b3).2 → 128 ≤ b2) ∧ (4 ≤ (Lib.decodeN n b0 b1 b2 b3).2 → 128 ≤ b3) ∧ (Lib.decodeN n b0 b1 b2 b3).2 ≤ 4 := by
  subst hc1
  by_cases e1 : b0 < 192
  · rw [dec0 n b0 c1 b2 b3 (.inl ⟨h0.1, e1⟩)] at hg; simp at hg
  by_cases e2 : b0 < 224
  · have hd := dec2 n b0 c1 b2 b3 ⟨by omega, e2⟩ h1
    have hd' := dec2 n' b0 c1 c2 c3 ⟨by omega, e2⟩ h1
    split at hd
    · rename_i hc
      rw [hd] at hn ⊢
      simp only at hn
      rw [hd', if_pos (by omega)]
      exact ⟨rfl, by omega, fun h => by simp at h, fun h => by simp at h, by simp⟩
    · rw [hd] at hg; simp at hg
  by_cases e3 : b0 < 240
  · have hd := dec3 n b0 c1 b2 b3 ⟨by omega, e3⟩ h1 h2
    have hd' := dec3 n' b0 c1 c2 c3 ⟨by omega, e3⟩ h1 k2
    split at hd
    · rename_i hc
      rw [hd] at hn hc2 ⊢
      simp only at hn
      obtain rfl := hc2 (Nat.le_refl _)
      rw [hd', if_pos (by omega)]
      exact ⟨rfl, by omega, fun h => by omega, fun h => by simp at h, by simp⟩
    · rw [hd] at hg; simp at hg
  by_cases e4 : b0 < 248
  · have hd := dec4 n b0 c1 b2 b3 ⟨by omega, e4⟩ h1 h2 h3
    have hd' := dec4 n' b0 c1 c2 c3 ⟨by omega, e4⟩ h1 k2 k3
    split at hd
    · rename_i hc
      rw [hd] at hn hc2 hc3 ⊢
      simp only at hn
      obtain rfl := hc2 (by simp)
      obtain rfl := hc3 (Nat.le_refl _)
      rw [hd', if_pos (by omega)]
      exact ⟨rfl, by omega, fun h => by omega, fun h => by omega, by simp⟩
    · rw [hd] at hg; simp at hg
  · rw [dec0 n b0 c1 b2 b3 (.inr ⟨by omega, h0.2⟩)] at hg; simp at hg
end Go.Proofs.YtagihjlklbckmaaDoor.Sc
