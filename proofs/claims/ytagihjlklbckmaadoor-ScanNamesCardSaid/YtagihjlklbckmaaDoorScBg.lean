import Derived.Test.YtagihjlklbckmaaDoorScBf
namespace Go.Proofs.YtagihjlklbckmaaDoor.Sc
set_option linter.unusedVariables false
set_option linter.unusedSimpArgs false
open Go.RowKit Go.Proofs.YtagihjlklbckmaaDoorW.PrintWords Go.Proofs.YtagihjlklbckmaaDoorW.PrintLast Go.Proofs.YtagihjlklbckmaaDoorW.PrintMore Go.Proofs.YtagihjlklbckmaaDoor.Bs
theorem lines_app : ∀ (p q : LB), (∀ c ∈ p, ¬ c = 13) → linesL (p ++ q) = p ++ linesL q
  | [], q, _ => rfl
  | c :: p, q, h => by
    rw [List.cons_append, lines_plain c _ (h c (List.mem_cons_self ..)), lines_app p q (fun d hd => h d (List.mem_cons_of_mem _ hd)), List.cons_append]
theorem getD_take (l z : LB) (m i : Nat) (hi : i < m) (hm : m ≤ l.length) : (l.take m ++ z).getD i 0 = l.getD i 0 := by
  simp only [List.getD]
  rw [List.getElem?_append_left (by rw [List.length_take]; omega), List.getElem?_take_of_lt hi]
/-- A character above ASCII stands whatever stands behind it. -/
theorem decode_keep (l z : LB) (hl : l ≠ []) (hb : ¬ badL l) (h0 : 128 ≤ (l.getD 0 0).toNat) : Lib.decodeL (l.take (Lib.decodeL l).2 ++ z) = Lib.decodeL l ∧ ∀ c ∈ l.take (Lib.decodeL l).2, 128 ≤ c.toNat := by
  have hle := Lib.decodeL_le l hl
  have hD := Lib.decodeL_N l
  have b0 := (l.getD 0 0).toNat_lt
  have b1 := (l.getD 1 0).toNat_lt
  have b2 := (l.getD 2 0).toNat_lt
  have b3 := (l.getD 3 0).toNat_lt
  have hg : 2 ≤ (Lib.decodeL l).2 := by
    rcases dec_hi l.length (l.getD 0 0).toNat (l.getD 1 0).toNat (l.getD 2 0).toNat (l.getD 3 0).toNat ⟨h0, b0⟩ b1 b2 b3 with h | h
    · rw [← hD] at h; exact absurd ⟨by rw [h], by rw [h]⟩ hb
    · rwa [← hD] at h
  obtain ⟨m, hm⟩ : ∃ x, x = (Lib.decodeL l).2 := ⟨_, rfl⟩
  rw [← hm] at hg hle ⊢
  have hN := Lib.decodeL_N (l.take m ++ z)
  have hlen : m ≤ (l.take m ++ z).length := by rw [List.length_append, List.length_take]; omega
  have hDm : (Lib.decodeN l.length (l.getD 0 0).toNat (l.getD 1 0).toNat (l.getD 2 0).toNat (l.getD 3 0).toNat).2 = m := by rw [← hD, hm]
  rw [getD_take l z m 0 (by omega) hle] at hN
  obtain ⟨s1, s2, s3, s4, s5⟩ := dec_same l.length (l.take m ++ z).length (l.getD 0 0).toNat (l.getD 1 0).toNat (l.getD 2 0).toNat (l.getD 3 0).toNat ((l.take m ++ z).getD 1 0).toNat ((l.take m ++ z).getD 2 0).toNat ((l.take m ++ z).getD 3 0).toNat ⟨h0, b0⟩ b1 b2 b3
    ((l.take m ++ z).getD 1 0).toNat_lt ((l.take m ++ z).getD 2 0).toNat_lt ((l.take m ++ z).getD 3 0).toNat_lt (by rw [hDm]; exact hg) (by rw [hDm]; exact hlen)
    (by rw [getD_take l z m 1 (by omega) hle]) (fun h => by rw [hDm] at h; rw [getD_take l z m 2 (by omega) hle]) (fun h => by rw [hDm] at h; rw [getD_take l z m 3 (by omega) hle])
  refine ⟨by rw [hN, s1, ← hD], fun c hc => ?_⟩
  obtain ⟨i, hi, rfl⟩ := List.getElem_of_mem hc
  rw [List.length_take] at hi
  rw [List.getElem_take]
  have hgi : l.getD i 0 = l[i] := by simp [List.getD, show i < l.length by omega]
  rw [← hgi]
  rw [hDm] at s3 s4 s5
  match i, hi with
  | 0, _ => exact h0
  | 1, _ => exact s2
  | 2, hi => exact s3 (by omega)
  | 3, hi => exact s4 (by omega)
  | i + 4, hi => omega
theorem text_lines : ∀ (n : Nat) (l : LB), l.length ≤ n → textL l = true → textL (linesL l) = true
  | n, [], _, h => h
  | 0, c :: r, hn, _ => by simp at hn
  | n + 1, c :: r, hn, h => by
    rw [List.length_cons] at hn
    by_cases hc : c.toNat < 128
    · rw [textL_low c r hc, Bool.and_eq_true] at h
      by_cases h13 : c = 13
      · subst h13
        cases r with
        | nil =>
          rw [lines_cr [] (fun d q e => by cases e), textL_low 10 _ (by decide), lines_nil, h.2, Bool.and_true]; decide
        | cons d q =>
          rw [List.length_cons] at hn
          by_cases h10 : d = 10
          · subst h10
            rw [lines_two, textL_low 10 _ (by decide)]
            have h2 := h.2
            rw [textL_low 10 q (by decide), Bool.and_eq_true] at h2
            rw [text_lines n q (by omega) h2.2, Bool.and_true]; decide
          · rw [lines_cr _ (fun e t he => by injection he with h1 _; rw [← h1]; exact h10), textL_low 10 _ (by decide), text_lines n (d :: q) (by rw [List.length_cons]; omega) h.2, Bool.and_true]; decide
      · rw [lines_plain c r h13, textL_low c _ hc, h.1, text_lines n r (by omega) h.2]; rfl
    · have hne : c :: r ≠ [] := by simp
      have h0 : 128 ≤ ((c :: r).getD 0 0).toNat := by show 128 ≤ c.toNat; omega
      have hs := h
      rw [textL_step _ hne, Bool.and_eq_true, Bool.and_eq_true] at hs
      have hb : ¬ badL (c :: r) := by
        have h1 := hs.1.1
        rw [Bool.not_eq_true', decide_eq_false_iff_not] at h1
        exact h1
      have hle := Lib.decodeL_le _ hne
      have hw := width_one (c :: r)
      have hk := fun z => decode_keep (c :: r) z hne hb h0
      obtain ⟨m, hm⟩ : ∃ x, x = (Lib.decodeL (c :: r)).2 := ⟨_, rfl⟩
      have hlines : linesL (c :: r) = (c :: r).take m ++ linesL ((c :: r).drop m) := by
        conv => lhs; rw [← List.take_append_drop m (c :: r)]
        exact lines_app _ _ (fun d hd e => by
          have := (hk []).2 d (hm ▸ hd)
          rw [e] at this
          have h13 : (13 : UInt8).toNat = 13 := rfl
          omega)
      rw [hlines]
      have hz := (hk (linesL ((c :: r).drop m))).1
      rw [← hm] at hz hle hw
      have hne2 : (c :: r).take m ++ linesL ((c :: r).drop m) ≠ [] := by
        intro e
        have := congrArg List.length e
        rw [List.length_append, List.length_take, List.length_nil] at this
        omega
      have hb2 : ¬ badL ((c :: r).take m ++ linesL ((c :: r).drop m)) := by
        unfold badL
        rw [hz]
        exact hb
      have hdrop : ((c :: r).take m ++ linesL ((c :: r).drop m)).drop m = linesL ((c :: r).drop m) := by
        rw [List.drop_append_of_le_length (by rw [List.length_take]; omega), List.drop_eq_nil_of_le (by rw [List.length_take]; omega), List.nil_append]
      rw [textL_step _ hne2, decide_eq_false hb2, hz, ← hm, hdrop, hs.1.2, text_lines n ((c :: r).drop m) (by rw [List.length_drop]; simp only [List.length_cons] at *; omega) (by rw [hm]; exact hs.2)]
      rfl
theorem lines_mem : ∀ (l : LB) (c : UInt8), c ∈ linesL l → c ∈ l ∨ c = 10 := by
  intro l
  induction l using crlf.induct with
  | case1 => intro c h; cases h
  | case2 d =>
    intro c h
    unfold linesL at h
    simp only [crlf, List.map_cons, List.map_nil, List.mem_singleton] at h
    unfold nlB at h
    split at h
    · exact .inr h
    · exact .inl (by rw [h]; exact List.mem_singleton.2 rfl)
  | case3 d e r hd ih =>
    intro c h
    obtain ⟨rfl, rfl⟩ := hd
    rw [lines_two] at h
    rcases List.mem_cons.1 h with h | h
    · exact .inr h
    · exact (ih c h).elim (fun h => .inl (List.mem_cons_of_mem _ (List.mem_cons_of_mem _ h))) .inr
  | case4 d e r hd ih =>
    intro c h
    unfold linesL at h
    rw [crlf, if_neg hd, List.map_cons] at h
    rcases List.mem_cons.1 h with h | h
    · unfold nlB at h
      split at h
      · exact .inr h
      · exact .inl (by rw [h]; exact List.mem_cons_self ..)
    · exact (ih c h).elim (fun h => .inl (List.mem_cons_of_mem _ h)) .inr
theorem index_none : ∀ (l : LB), (∀ c ∈ l, ¬ c = 60) → Lib.indexByte l 60 = -1
  | [], _ => rfl
  | c :: r, h => by
    have hc := h c (List.mem_cons_self ..)
    rw [Lib.indexByte, if_neg (by simpa using hc), index_none r (fun d hd => h d (List.mem_cons_of_mem _ hd))]
    rfl
theorem esc_plain : ∀ (n : Nat) (l out : LB), l.length ≤ n → (∀ c ∈ l, ¬ c = 60 ∧ ¬ c = 38 ∧ ¬ c = 13) → escF id n l out = .ok (out ++ l)
  | 0, l, out, hn, _ => by
    have : l = [] := List.length_eq_zero_iff.1 (by omega)
    subst this
    rw [List.append_nil]; rfl
  | n + 1, [], out, _, _ => by rw [List.append_nil]; rfl
  | n + 1, c :: r, out, hn, h => by
    obtain ⟨h1, h2, h3⟩ := h c (List.mem_cons_self ..)
    simp only [escF]
    rw [if_neg h1, if_neg h2, if_neg h3, esc_plain n r _ (by rw [List.length_cons] at hn; omega) (fun d hd => h d (List.mem_cons_of_mem _ hd)), List.append_assoc]; rfl
/-- THE PLAIN LAW: a text without markup is one piece. -/
theorem scan_plain (l : LB) (hp : ∀ c ∈ l, ¬ c = 60 ∧ ¬ c = 38) (ht : textL l = true) (hne : l ≠ []) (hl : l.length ≤ 4000) : scanM l = .ok [⟨3, [], linesL l, [], false⟩] := by
  unfold scanM
  rw [if_neg (by omega), if_neg (by rw [ht]; decide)]
  have hsp : ∀ c ∈ linesL l, ¬ c = 60 ∧ ¬ c = 38 ∧ ¬ c = 13 := fun c hc => by
    have h13 := lines_free l c hc
    rcases lines_mem l c hc with h | h
    · exact ⟨(hp c h).1, (hp c h).2, h13⟩
    · subst h; decide
  have htx := text_lines _ l (Nat.le_refl _) ht
  have hsn : linesL l ≠ [] := by
    cases l with
    | nil => exact absurd rfl hne
    | cons c r =>
      intro e
      unfold linesL at e
      cases r with
      | nil => simp [crlf] at e
      | cons d q =>
        rw [crlf] at e
        split at e <;> simp at e
  generalize linesL l = s at *
  cases s with
  | nil => exact absurd rfl hsn
  | cons c r =>
    have hix := index_none (c :: r) (fun d hd => (hsp d hd).1)
    have hcut : cutAt (c :: r) = (c :: r).length := by unfold cutAt; rw [hix]; rfl
    have hpm : pieceM (c :: r) = .ok (⟨3, [], c :: r, [], false⟩, []) := by
      unfold pieceM
      simp only [if_neg (hsp c (List.mem_cons_self ..)).1]
      unfold textMk escM
      rw [hcut, List.take_length, List.drop_length, if_pos htx, esc_plain _ _ _ (Nat.le_refl _) hsp]; rfl
    rw [List.length_cons, scanF_cons, hpm]
    simp only
    rw [scanF_nil]; rfl
end Go.Proofs.YtagihjlklbckmaaDoor.Sc
