import Derived.Test.YtagihjlklbckmaaDoorScBj
namespace Go.Proofs.YtagihjlklbckmaaDoor.Sc
set_option linter.unusedVariables false
set_option linter.unusedSimpArgs false
open Go.RowKit Go.Proofs.YtagihjlklbckmaaDoorW.PrintWords Go.Proofs.YtagihjlklbckmaaDoorW.PrintLast Go.Proofs.YtagihjlklbckmaaDoorW.PrintMore Go.Proofs.YtagihjlklbckmaaDoor.Bs
theorem of_nat {n : Nat} (h : n < 256) : (UInt8.ofNat n).toNat = n := by
  rw [UInt8.toNat_ofNat']; exact Nat.mod_eq_of_lt h
theorem one_rune {l : LB} {v : Nat} (hne : l ≠ []) (h : Lib.decodeL l = (v, l.length)) (hb : 2 ≤ l.length) (hr : isR (v : Int) = true) : textL l = true := by
  refine text_mk hne (fun e => ?_) (by rw [h]; exact hr) (by rw [h, List.drop_length]; rfl)
  have h2 := e.2
  rw [h] at h2
  simp only at h2
  omega
theorem isR_range {n : Int} (h : isR n = true) : 9 ≤ n ∧ n ≤ 1114111 ∧ (n < 55296 ∨ 57344 ≤ n) := by
  simp [isR, inR, isL] at h
  omega
theorem text_two (c : Nat) (h1 : 128 ≤ c) (h2 : c < 2048) (h : isR (c : Int) = true) (x y : UInt8) (hx : x.toNat = 192 + c / 64) (hy : y.toNat = 128 + c % 64) : textL [x, y] = true := by
  refine one_rune (l := [x, y]) (v := c) (by simp) ?_ (Nat.le_refl _) h
  rw [Lib.decodeL_N]
  show Lib.decodeN 2 x.toNat y.toNat (0 : UInt8).toNat (0 : UInt8).toNat = (c, 2)
  rw [dec2 _ _ _ _ _ ⟨by omega, by omega⟩ (by omega), if_pos (by omega), show (x.toNat - 192) * 64 + (y.toNat - 128) = c by omega]
theorem text_three (c : Nat) (h1 : 2048 ≤ c) (h2 : c < 65536) (h3 : c < 55296 ∨ 57344 ≤ c) (h : isR (c : Int) = true) (x y z : UInt8) (hx : x.toNat = 224 + c / 4096) (hy : y.toNat = 128 + c / 64 % 64) (hz : z.toNat = 128 + c % 64) : textL [x, y, z] = true := by
  refine one_rune (l := [x, y, z]) (v := c) (by simp) ?_ (by show 2 ≤ 3; omega) h
  rw [Lib.decodeL_N]
  show Lib.decodeN 3 x.toNat y.toNat z.toNat (0 : UInt8).toNat = (c, 3)
  have hv : (x.toNat - 224) * 4096 + (y.toNat - 128) * 64 + (z.toNat - 128) = c := by omega
  rw [dec3 _ _ _ _ _ ⟨by omega, by omega⟩ (by omega) (by omega), hv, if_pos (by omega)]
theorem text_four (c : Nat) (h1 : 65536 ≤ c) (h2 : c ≤ 1114111) (h : isR (c : Int) = true) (x y z u : UInt8) (hx : x.toNat = 240 + c / 262144) (hy : y.toNat = 128 + c / 4096 % 64) (hz : z.toNat = 128 + c / 64 % 64) (hu : u.toNat = 128 + c % 64) : textL [x, y, z, u] = true := by
  refine one_rune (l := [x, y, z, u]) (v := c) (by simp) ?_ (by show 2 ≤ 4; omega) h
  rw [Lib.decodeL_N]
  show Lib.decodeN 4 x.toNat y.toNat z.toNat u.toNat = (c, 4)
  have hv : (x.toNat - 240) * 262144 + (y.toNat - 128) * 4096 + (z.toNat - 128) * 64 + (u.toNat - 128) = c := by omega
  rw [dec4 _ _ _ _ _ ⟨by omega, by omega⟩ (by omega) (by omega) (by omega), hv, if_pos (by omega)]
set_option maxRecDepth 1000000 in
theorem text_enc (n : Int) (h : isR n = true) : textL (encL n) = true := by
  have hr := isR_range h
  obtain ⟨c, rfl⟩ : ∃ c : Nat, n = c := ⟨n.toNat, by omega⟩
  have hv : Utf8.valid (c : Int) = true := by
    unfold Utf8.valid
    simp only [Bool.and_eq_true, Bool.or_eq_true, decide_eq_true_eq]
    omega
  unfold encL Utf8.encode
  rw [if_pos hv, Int.toNat_natCast]
  dsimp only
  by_cases c1 : c < 128
  · rw [if_pos c1]
    have e : ∀ a : UInt8, ((⟨#[a]⟩ : ByteArray).data.toList) = [a] := fun _ => rfl
    rw [e, textL_low _ _ (by rw [of_nat (by omega)]; exact c1), of_nat (by omega), h]; rfl
  rw [if_neg c1]
  by_cases c2 : c < 2048
  · rw [if_pos c2]
    have e : ∀ a b : UInt8, ((⟨#[a, b]⟩ : ByteArray).data.toList) = [a, b] := fun _ _ => rfl
    rw [e]
    exact text_two c (by omega) c2 h _ _ (of_nat (by omega)) (of_nat (by omega))
  rw [if_neg c2]
  by_cases c3 : c < 65536
  · rw [if_pos c3]
    have e : ∀ a b c : UInt8, ((⟨#[a, b, c]⟩ : ByteArray).data.toList) = [a, b, c] := fun _ _ _ => rfl
    rw [e]
    exact text_three c (by omega) c3 (by omega) h _ _ _ (of_nat (by omega)) (of_nat (by omega)) (of_nat (by omega))
  · rw [if_neg c3]
    have e : ∀ a b c d : UInt8, ((⟨#[a, b, c, d]⟩ : ByteArray).data.toList) = [a, b, c, d] := fun _ _ _ _ => rfl
    rw [e]
    exact text_four c (by omega) (by omega) h _ _ _ _ (of_nat (by omega)) (of_nat (by omega)) (of_nat (by omega)) (of_nat (by omega))
theorem text_char {l t : LB} (h : charM l = some t) : textL t = true := by
  unfold charM at h
  repeat' split at h
  all_goals first | (cases h; done) | (cases h; decide) | skip
  rename_i hr
  cases h
  exact text_enc _ hr
theorem text_ref2 {r t rest : LB} (h : refM r = some (t, rest)) (hr : textL r = true) : textL t = true ∧ textL rest = true := by
  unfold refM at h
  split at h
  · rename_i hc
    have hs := cut_split hc
    rw [hs] at hr
    have h2 := (text_cut (c := 59) (by decide) hr).2
    cases hm : charM (Lib.cut r [59]).1 with
    | none => rw [hm] at h; cases h
    | some t' => rw [hm] at h; cases h; exact ⟨text_char hm, h2⟩
  · cases h
theorem esc_text : ∀ (n : Nat) (l out t : LB), l.length ≤ n → textL (out ++ l) = true → escF id n l out = .ok t → textL t = true ∧ t.length ≤ out.length + 4 * l.length
  | 0, l, out, t, hn, ht, h => by
    have : l = [] := List.length_eq_zero_iff.1 (by omega)
    subst this
    rw [List.append_nil] at ht
    cases h
    exact ⟨ht, by omega⟩
  | n + 1, [], out, t, hn, ht, h => by
    rw [List.append_nil] at ht
    cases h
    exact ⟨ht, by omega⟩
  | n + 1, c :: r, out, t, hn, ht, h => by
    rw [List.length_cons] at hn
    simp only [escF] at h
    split at h
    · cases h
    · split at h
      · rename_i h38
        subst h38
        have h2 := text_cut (c := 38) (by decide) ht
        cases hr : refM r with
        | none => rw [hr] at h; cases h
        | some p =>
          obtain ⟨t', rest⟩ := p
          rw [hr] at h
          obtain ⟨x1, x2⟩ := text_ref2 hr h2.2
          obtain ⟨y1, y2⟩ := refM_len hr
          have ih := esc_text n rest (out ++ t') t (by omega) (textL_app _ _ _ (Nat.le_refl _) (textL_app _ _ _ (Nat.le_refl _) h2.1 x1) x2) h
          exact ⟨ih.1, by have := ih.2; rw [List.length_append] at this; rw [List.length_cons]; omega⟩
      · split at h
        · rename_i h13
          subst h13
          have h2 := text_cut (c := 13) (by decide) ht
          have h3 : textL (Lib.trimPrefix r [10]) = true := by
            unfold Lib.trimPrefix
            split
            · rename_i hp
              cases r with
              | nil => rfl
              | cons d q =>
                rw [pre_cons] at hp
                have := of_decide_eq_true hp
                subst this
                exact text_tail (by decide) h2.2
            · exact h2.2
          have hl := trim_len r [10]
          have ih := esc_text n (Lib.trimPrefix r [10]) (out ++ [10]) t (by omega) (textL_app _ _ _ (Nat.le_refl _) (textL_app _ _ _ (Nat.le_refl _) h2.1 (by decide)) h3) h
          exact ⟨ih.1, by have := ih.2; rw [List.length_append, List.length_singleton] at this; rw [List.length_cons]; omega⟩
        · have ih := esc_text n r (out ++ [c]) t (by omega) (by rw [List.append_assoc]; exact ht) h
          exact ⟨ih.1, by have := ih.2; rw [List.length_append, List.length_singleton] at this; rw [List.length_cons]; omega⟩
/-- What the law asks of a piece. -/
structure GoodT (x : Tok) : Prop where
  name : ¬ x.kind = 3 → ¬ x.kind = 4 → nameL x.name = true
  text : textL x.text = true
  len : x.text.length ≤ 1000000
  attrs : ∀ a ∈ x.attrs, nameL a.1 = true
  twice : ∀ (i j : Nat) (hj : j < x.attrs.length) (hij : i < j), ¬ (x.attrs[i]).1 = (x.attrs[j]).1
  wide : x.attrs.length ≤ 1000
theorem nameL_len {n : LB} (h : nameL n = true) : n.length ≤ 32 := by
  unfold nameL at h
  simp only [Bool.and_eq_true, decide_eq_true_eq] at h
  omega
theorem name_ok {s t r : LB} (h : nameM s = .ok (t, r)) (hs : textL s = true) : nameL t = true ∧ textL r = true := by
  unfold nameM at h
  split at h
  · cases h
  · split at h
    · rename_i hn
      cases h
      exact ⟨hn, text_span partR _ s (Nat.le_refl _) hs⟩
    · cases h
theorem must_ok {c : UInt8} {s r : LB} (hc : c.toNat < 128) (h : mustM c s = .ok r) (hs : textL s = true) : textL r = true := by
  unfold mustM at h
  split at h
  · cases h
  · split at h
    · rename_i d q he
      subst he
      cases h
      exact text_tail hc hs
    · cases h
theorem upTo_ok {c : UInt8} {sep s a b : LB} (hc : c.toNat < 128) (hsep : ∀ d ∈ sep, d.toNat < 128) (h : upToM (c :: sep) s = .ok (a, b)) (hs : textL s = true) : textL a = true ∧ textL b = true := by
  unfold upToM at h
  split at h
  · rename_i hk
    rw [cut_split hk] at hs
    have h2 := text_cut (c := c) hc hs
    cases h
    exact ⟨h2.1, text_drop sep _ hsep h2.2⟩
  · cases h
end Go.Proofs.YtagihjlklbckmaaDoor.Sc
