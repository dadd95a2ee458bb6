import Derived.Test.YtagihjlklbckmaaDoorScBg
namespace Go.Proofs.YtagihjlklbckmaaDoor.Sc
set_option linter.unusedVariables false
set_option linter.unusedSimpArgs false
open Go.RowKit Go.Proofs.YtagihjlklbckmaaDoorW.PrintWords Go.Proofs.YtagihjlklbckmaaDoorW.PrintLast Go.Proofs.YtagihjlklbckmaaDoorW.PrintMore Go.Proofs.YtagihjlklbckmaaDoor.Bs
theorem rune_app (a z : LB) (ha : a ≠ []) (hb : ¬ badL a) : Lib.decodeL (a ++ z) = Lib.decodeL a := by
  by_cases h0 : 128 ≤ (a.getD 0 0).toNat
  · have h := (decode_keep a (a.drop (Lib.decodeL a).2 ++ z) ha hb h0).1
    rwa [← List.append_assoc, List.take_append_drop] at h
  · cases a with
    | nil => exact absurd rfl ha
    | cons c r =>
      have hc : c.toNat < 128 := by have : ((c :: r).getD 0 0) = c := rfl; rw [this] at h0; omega
      rw [List.cons_append, Lib.decodeL_ascii c _ hc, Lib.decodeL_ascii c _ hc]
theorem text_parts {l : LB} (h : textL l = true) (hne : l ≠ []) : ¬ badL l ∧ isR ((Lib.decodeL l).1 : Int) = true ∧ textL (l.drop (Lib.decodeL l).2) = true := by
  rw [textL_step l hne, Bool.and_eq_true, Bool.and_eq_true, Bool.not_eq_true', decide_eq_false_iff_not] at h
  exact ⟨h.1.1, h.1.2, h.2⟩
theorem text_mk {l : LB} (hne : l ≠ []) (h1 : ¬ badL l) (h2 : isR ((Lib.decodeL l).1 : Int) = true) (h3 : textL (l.drop (Lib.decodeL l).2) = true) : textL l = true := by
  rw [textL_step l hne, decide_eq_false h1, h2, h3]; rfl
theorem textL_app : ∀ (n : Nat) (a b : LB), a.length ≤ n → textL a = true → textL b = true → textL (a ++ b) = true
  | n, [], b, _, _, h => h
  | 0, c :: r, b, hn, _, _ => by simp at hn
  | n + 1, c :: r, b, hn, ha, hb => by
    have hne : c :: r ≠ [] := by simp
    obtain ⟨p1, p2, p3⟩ := text_parts ha hne
    have hle := Lib.decodeL_le _ hne
    have hw := width_one (c :: r)
    have hd := rune_app (c :: r) b hne p1
    have ih := textL_app n _ b (by rw [List.length_drop]; simp only [List.length_cons] at *; omega) p3 hb
    refine text_mk (by simp) (fun e => p1 ?_) ?_ ?_
    · unfold badL at e ⊢
      rw [hd] at e; exact e
    · rw [hd]; exact p2
    · rw [hd, List.drop_append_of_le_length hle]; exact ih
theorem textL_split (c : UInt8) (hc : c.toNat < 128) (b : LB) : ∀ (n : Nat) (a : LB), a.length ≤ n → textL (a ++ c :: b) = true → textL a = true ∧ textL (c :: b) = true
  | n, [], _, h => ⟨rfl, h⟩
  | 0, x :: r, hn, _ => by simp at hn
  | n + 1, x :: r, hn, h => by
    have hne : x :: r ++ c :: b ≠ [] := by simp
    obtain ⟨p1, p2, p3⟩ := text_parts h hne
    by_cases hx : x.toNat < 128
    · rw [List.cons_append, textL_low x _ hx, Bool.and_eq_true] at h
      have ih := textL_split c hc b n r (by rw [List.length_cons] at hn; omega) h.2
      exact ⟨by rw [textL_low x _ hx, h.1, ih.1]; rfl, ih.2⟩
    · have h0 : 128 ≤ ((x :: r ++ c :: b).getD 0 0).toNat := by show 128 ≤ x.toNat; omega
      have hk := fun z => decode_keep _ z hne p1 h0
      have hw := width_one (x :: r ++ c :: b)
      have hle := Lib.decodeL_le _ hne
      obtain ⟨m, hm⟩ : ∃ y, y = (Lib.decodeL (x :: r ++ c :: b)).2 := ⟨_, rfl⟩
      rw [← hm] at hk hw hle p3
      have hma : m ≤ (x :: r).length := by
        refine Decidable.byContradiction fun hgt => ?_
        have hmem : c ∈ (x :: r ++ c :: b).take m := by
          rw [List.take_append]
          refine List.mem_append_right _ ?_
          obtain ⟨j, hj⟩ : ∃ j, m - (x :: r).length = j + 1 := ⟨m - (x :: r).length - 1, by omega⟩
          rw [hj, List.take_succ_cons]
          exact List.mem_cons_self ..
        have := (hk []).2 c hmem
        omega
      have htk : (x :: r ++ c :: b).take m = (x :: r).take m := List.take_append_of_le_length hma
      have hda : Lib.decodeL (x :: r) = Lib.decodeL (x :: r ++ c :: b) := by
        have := (hk ((x :: r).drop m)).1
        rwa [htk, List.take_append_drop] at this
      rw [List.drop_append_of_le_length hma] at p3
      have ih := textL_split c hc b n _ (by rw [List.length_drop]; simp only [List.length_cons] at *; omega) p3
      refine ⟨text_mk (by simp) (fun e => p1 ?_) (by rw [hda]; exact p2) (by rw [hda, ← hm]; exact ih.1), ih.2⟩
      unfold badL at e ⊢
      rwa [hda] at e
theorem text_tail {c : UInt8} {r : LB} (hc : c.toNat < 128) (h : textL (c :: r) = true) : textL r = true := by
  rw [textL_low c r hc, Bool.and_eq_true] at h
  exact h.2
theorem text_cut {a b : LB} {c : UInt8} (hc : c.toNat < 128) (h : textL (a ++ c :: b) = true) : textL a = true ∧ textL b = true :=
  have h2 := textL_split c hc b _ a (Nat.le_refl _) h
  ⟨h2.1, text_tail hc h2.2⟩
theorem text_drop : ∀ (p b : LB), (∀ c ∈ p, c.toNat < 128) → textL (p ++ b) = true → textL b = true
  | [], b, _, h => h
  | c :: p, b, hp, h => text_drop p b (fun d hd => hp d (List.mem_cons_of_mem _ hd)) (text_tail (hp c (List.mem_cons_self ..)) h)
theorem cut_split {l sep : LB} (h : (Lib.cut l sep).2.2 = true) : l = (Lib.cut l sep).1 ++ (sep ++ (Lib.cut l sep).2.1) := by
  unfold Lib.cut at h ⊢
  by_cases hi : 0 ≤ Lib.index l sep
  · rw [if_pos hi]
    simp only
    rcases Lib.index_spec l sep with ⟨h1, _⟩ | ⟨i, h1, h2, h3, _⟩
    · omega
    · rw [h1, Int.toNat_natCast]
      unfold Lib.occAt at h3
      obtain ⟨t, ht⟩ := List.isPrefixOf_iff_prefix.1 h3
      have hd : l.drop (i + sep.length) = t := by
        rw [← List.drop_drop, ← ht, List.drop_left]
      rw [hd, ht, List.take_append_drop]
  · rw [if_neg hi] at h
    cases h
theorem text_span (p : Int → Bool) : ∀ (n : Nat) (l : LB), l.length ≤ n → textL l = true → textL (l.drop (spanN p l)) = true
  | n, [], _, h => by rw [List.drop_nil]; exact h
  | 0, c :: r, hn, _ => by simp at hn
  | n + 1, c :: r, hn, h => by
    have hne : c :: r ≠ [] := by simp
    obtain ⟨p1, p2, p3⟩ := text_parts h hne
    have hw := width_one (c :: r)
    rw [spanN_step p _ hne]
    split
    · rw [← List.drop_drop]
      exact text_span p n _ (by rw [List.length_drop]; simp only [List.length_cons] at *; omega) p3
    · exact h
end Go.Proofs.YtagihjlklbckmaaDoor.Sc
