import Derived.Test.YtagihjlklbckmaaDoorScBk
namespace Go.Proofs.YtagihjlklbckmaaDoor.Sc
set_option linter.unusedVariables false
set_option linter.unusedSimpArgs false
open Go.RowKit Go.Proofs.YtagihjlklbckmaaDoorW.PrintWords Go.Proofs.YtagihjlklbckmaaDoorW.PrintLast Go.Proofs.YtagihjlklbckmaaDoorW.PrintMore Go.Proofs.YtagihjlklbckmaaDoor.Bs
structure GoodA (l : List (LB × LB)) : Prop where
  names : ∀ a ∈ l, nameL a.1 = true
  apart : l.Pairwise (fun a b => ¬ a.1 = b.1)
  few : l.length ≤ 8
theorem GoodA.nil : GoodA [] := ⟨(fun a h => by cases h), List.Pairwise.nil, by decide⟩
theorem GoodA.add {l : List (LB × LB)} (h : GoodA l) {x : LB × LB} (hn : nameL x.1 = true) (ht : twice x.1 l = false) (h8 : l.length < 8) : GoodA (l ++ [x]) := by
  refine ⟨fun a ha => ?_, List.pairwise_append.2 ⟨h.apart, List.pairwise_singleton _ _, fun a ha b hb => ?_⟩, by rw [List.length_append, List.length_singleton]; omega⟩
  · rcases List.mem_append.1 ha with ha | ha
    · exact h.names a ha
    · rw [List.mem_singleton.1 ha]; exact hn
  · rw [List.mem_singleton.1 hb]
    intro e
    have := List.any_eq_false.1 ht a ha
    exact this (by simpa using e)
theorem quot_ok {s a b : LB} (h : quotM s = .ok (a, b)) (hs : textL s = true) : textL b = true := by
  unfold quotM at h
  split at h
  · cases h
  · rename_i c r
    split at h
    · rename_i hc
      rcases hc with rfl | rfl
      · exact (upTo_ok (c := 34) (by decide) (fun d hd => by cases hd) h (text_tail (by decide) hs)).2
      · exact (upTo_ok (c := 39) (by decide) (fun d hd => by cases hd) h (text_tail (by decide) hs)).2
    · cases h
theorem attr_ok {l : List (LB × LB)} {s q : LB} {x : LB × LB} (h : attrM l s = .ok (x, q)) (hs : textL s = true) : nameL x.1 = true ∧ twice x.1 l = false ∧ l.length < 8 ∧ textL q = true := by
  have h8 := (attr_rest h).2
  unfold attrM at h
  split at h
  · cases h
  · rename_i h1
    split at h
    · cases h
    · rename_i h2
      split at h
      · cases h
      · rename_i h3
        split at h
        · cases h
        · split at h
          · cases h
          · rename_i h5
            split at h
            · cases h
            · cases h
              obtain ⟨n1, n2⟩ := name_ok h1 hs
              have m1 := must_ok (by decide) h2 (text_span spaceR _ _ (Nat.le_refl _) n2)
              exact ⟨n1, Bool.eq_false_iff.2 h5, h8, quot_ok h3 (text_span spaceR _ _ (Nat.le_refl _) m1)⟩
theorem startF_ok : ∀ (n : Nat) (l : List (LB × LB)) (s q : LB) (l' : List (LB × LB)) (em : Bool), startF n l s = .ok ((l', em), q) → GoodA l → textL s = true → GoodA l' ∧ textL q = true
  | 0, l, s, q, l', em, h, _, _ => by cases h
  | n + 1, l, s, q, l', em, h, hl, hs => by
    rw [startF_succ] at h
    have hs6 := text_span spaceR _ s (Nat.le_refl _) hs
    generalize s.drop (spanN spaceR s) = s6 at h hs6
    generalize s.take (spanN spaceR s) = t at h
    unfold startS at h
    split at h
    · cases h
    · rename_i c r6
      split at h
      · rename_i h47
        subst h47
        split at h
        · cases h
        · rename_i hm
          cases h
          exact ⟨hl, must_ok (by decide) hm (text_tail (by decide) hs6)⟩
      · split at h
        · rename_i h62
          subst h62
          cases h
          exact ⟨hl, text_tail (by decide) hs6⟩
        · split at h
          · cases h
          · split at h
            · cases h
            · rename_i x q' ha
              obtain ⟨a1, a2, a3, a4⟩ := attr_ok ha hs6
              exact startF_ok n _ _ _ _ _ h (hl.add a1 a2 a3) a4
theorem GoodT.plain {k : Int} {n t : LB} (hn : ¬ k = 3 → ¬ k = 4 → nameL n = true) (ht : textL t = true) (hl : t.length ≤ 1000000) (em : Bool) : GoodT ⟨k, n, t, [], em⟩ :=
  ⟨hn, ht, hl, (fun a h => by cases h), (fun i j hj => by simp at hj), by show 0 ≤ 1000; omega⟩
theorem start_ok {s q : LB} {x : Tok} (h : startM s = .ok (x, q)) (hs : textL s = true) : GoodT x ∧ textL q = true := by
  unfold startM at h
  split at h
  · cases h
  · rename_i h1
    split at h
    · cases h
    · rename_i h2
      cases h
      obtain ⟨n1, n2⟩ := name_ok h1 hs
      obtain ⟨a1, a2⟩ := startF_ok _ _ _ _ _ _ h2 GoodA.nil n2
      exact ⟨⟨fun _ _ => n1, rfl, by show 0 ≤ 1000000; omega, a1.names, fun i j hj hij => List.pairwise_iff_getElem.1 a1.apart i j (Nat.lt_trans hij hj) hj hij, Nat.le_trans a1.few (by decide)⟩, a2⟩
theorem take_len {l : LB} {n : Nat} {b : Nat} (h : l.length ≤ b) : (l.take n).length ≤ b := by rw [List.length_take]; omega
theorem instr_ok {s q : LB} {x : Tok} (h : instrM s = .ok (x, q)) (hs : textL s = true) (hl : s.length ≤ 100000) : GoodT x ∧ textL q = true := by
  unfold instrM at h
  split at h
  · cases h
  · rename_i a r h1
    obtain ⟨t1, t2⟩ := upTo_ok (c := 63) (by decide) (fun d hd => by rw [List.mem_singleton.1 hd]; decide) h1 hs
    have hal := (rest_len h1).1
    split at h
    · cases h
    · rename_i h2
      cases h
      unfold piM at h2
      split at h2
      · rename_i hn
        split at h2
        · cases h2
          refine ⟨GoodT.plain (fun _ _ => hn.1) (text_span spaceR _ _ (Nat.le_refl _) (text_span partR _ _ (Nat.le_refl _) t1)) ?_ _, t2⟩
          simp only [List.length_drop]; omega
        · cases h2
      · cases h2
theorem take_ok {i : Nat} {s q : LB} {x : Tok} (h : takeM i s = .ok (x, q)) (hs : textL s = true) (hl : s.length ≤ 100000) : GoodT x ∧ textL q = true := by
  unfold takeM at h
  split at h
  · unfold commentM at h
    split at h
    · cases h
    · rename_i t r h1
      obtain ⟨t1, t2⟩ := upTo_ok (c := 45) (by decide) (fun d hd => by rw [List.mem_singleton.1 hd]; decide) h1 hs
      have hal := (rest_len h1).1
      split at h
      · cases h
      · split at h
        · rename_i hc
          subst hc
          cases h
          exact ⟨GoodT.plain (fun _ h4 => absurd rfl h4) t1 (by omega) _, text_tail (by decide) t2⟩
        · cases h
  · unfold cdataM at h
    split at h
    · cases h
    · rename_i t r h1
      obtain ⟨t1, t2⟩ := upTo_ok (c := 93) (by decide) (fun d hd => by
        rcases List.mem_cons.1 hd with rfl | hd
        · decide
        · rw [List.mem_singleton.1 hd]; decide) h1 hs
      have hal := (rest_len h1).1
      cases h
      exact ⟨GoodT.plain (fun h3 => absurd rfl h3) t1 (by omega) _, t2⟩
  · exact instr_ok h hs hl
  · unfold endM at h
    split at h
    · cases h
    · rename_i h1
      split at h
      · cases h
      · rename_i h2
        cases h
        obtain ⟨n1, n2⟩ := name_ok h1 hs
        exact ⟨GoodT.plain (fun _ _ => n1) rfl (by show 0 ≤ 1000000; omega) _, must_ok (by decide) h2 (text_span spaceR _ _ (Nat.le_refl _) n2)⟩
theorem pre_text {s p : LB} (hp : Lib.hasPrefix s p = true) (ha : ∀ c ∈ p, c.toNat < 128) (hs : textL s = true) : textL (s.drop p.length) = true := by
  unfold Lib.hasPrefix at hp
  obtain ⟨t, ht⟩ := List.isPrefixOf_iff_prefix.1 hp
  rw [← ht] at hs ⊢
  rw [List.drop_left]
  exact text_drop p t ha hs
theorem preM_low (i : Nat) : ∀ c ∈ preM i, c.toNat < 128 := by
  unfold preM
  split <;> decide
theorem sort_ok (r : LB) (hs : textL (60 :: r) = true) (hl : (60 :: r).length ≤ 100000) : ∀ (n i : Nat) (x : Tok) (q : LB), sortM (60 :: r) n i = .ok (x, q) → GoodT x ∧ textL q = true
  | 0, i, x, q, h => by
    unfold sortM at h
    split at h
    · cases h
    · exact start_ok h (text_tail (by decide) hs)
  | n + 1, i, x, q, h => by
    unfold sortM at h
    split at h
    · rename_i hp
      exact take_ok h (pre_text hp (preM_low i) hs) (by rw [List.length_drop]; omega)
    · exact sort_ok r hs hl n (i + 1) x q h
theorem piece_ok {s q : LB} {x : Tok} (h : pieceM s = .ok (x, q)) (hs : textL s = true) (hl : s.length ≤ 100000) : GoodT x ∧ textL q = true := by
  unfold pieceM at h
  split at h
  · cases h
  · rename_i c r
    split at h
    · rename_i hc
      subst hc
      exact sort_ok r hs hl 4 0 x q h
    · unfold textMk at h
      split at h
      · cases h
      · rename_i t he
        cases h
        unfold escM at he
        split at he
        · rename_i htx
          obtain ⟨e1, e2⟩ := esc_text _ _ [] t (Nat.le_refl _) htx he
          have hlt := take_len (n := cutAt (c :: r)) hl
          refine ⟨GoodT.plain (fun h3 => absurd rfl h3) e1 (by rw [List.length_nil] at e2; omega) _, ?_⟩
          generalize c :: r = s at *
          unfold cutAt
          have hix := index_range 60 s
          split
          · rw [List.drop_length]; rfl
          · obtain ⟨o, ho⟩ : ∃ o : Nat, Lib.indexByte s 60 = o := ⟨(Lib.indexByte s 60).toNat, by omega⟩
            have hat := (Lib.indexByte_some ho).1
            rw [ho, Int.toNat_natCast]
            have hd := Lib.drop_at hat
            have hsp : textL (s.take o ++ s.drop o) = true := by rw [List.take_append_drop]; exact hs
            rw [hd] at hsp ⊢
            exact (textL_split 60 (by decide) _ _ _ (Nat.le_refl _) hsp).2
        · cases he
theorem scanF_ok : ∀ (n : Nat) (toks : List Tok) (s : LB) (l : List Tok), scanF n toks s = .ok l → (∀ x ∈ toks, GoodT x) → textL s = true → s.length ≤ 100000 → ∀ x ∈ l, GoodT x
  | 0, toks, s, l, h, ht, hs, hl => by
    unfold scanF at h
    split at h
    · cases h; exact ht
    · cases h
  | n + 1, toks, [], l, h, ht, hs, hl => by
    rw [scanF_nil] at h
    cases h; exact ht
  | n + 1, toks, c :: r, l, h, ht, hs, hl => by
    rw [scanF_cons] at h
    split at h
    · cases h
    · rename_i x q hp
      obtain ⟨p1, p2⟩ := piece_ok hp hs hl
      have hr := piece_rest hp
      refine scanF_ok n _ q l h (fun y hy => ?_) p2 (by rw [List.length_cons] at hl; omega)
      rcases List.mem_append.1 hy with hy | hy
      · exact ht y hy
      · rw [List.mem_singleton.1 hy]; exact p1
/-- THE PLAIN LAW: what is scanned is good. -/
theorem scan_good {l : LB} {toks : List Tok} (h : scanM l = .ok toks) : ∀ x ∈ toks, GoodT x := by
  unfold scanM at h
  split at h
  · cases h
  · rename_i h4
    split at h
    · cases h
    · rename_i ht
      have hlen := lines_len l
      exact scanF_ok _ _ _ _ h (fun x hx => by cases hx) (text_lines _ l (Nat.le_refl _) (by simpa using ht)) (by omega)
theorem scanF_few : ∀ (n : Nat) (toks : List Tok) (s : LB) (l : List Tok), scanF n toks s = .ok l → l.length ≤ toks.length + n
  | 0, toks, s, l, h => by
    unfold scanF at h
    split at h
    · cases h; omega
    · cases h
  | n + 1, toks, s, l, h => by
    unfold scanF at h
    split at h
    · cases h; omega
    · split at h
      · cases h
      · have := scanF_few n _ _ _ h
        rw [List.length_append, List.length_singleton] at this
        omega
theorem scan_few {l : LB} {toks : List Tok} (h : scanM l = .ok toks) : toks.length ≤ 4000 := by
  unfold scanM at h
  split at h
  · cases h
  · rename_i h4
    split at h
    · cases h
    · have := scanF_few _ _ _ _ h
      have hlen := lines_len l
      rw [List.length_nil] at this
      omega
end Go.Proofs.YtagihjlklbckmaaDoor.Sc
