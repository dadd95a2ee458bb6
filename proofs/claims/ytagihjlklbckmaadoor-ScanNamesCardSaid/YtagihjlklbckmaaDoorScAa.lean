import Derived.Test.YtagihjlklbckmaaDoorMz3
namespace Go.Proofs.YtagihjlklbckmaaDoor.Sc
set_option linter.unusedVariables false
set_option linter.unusedSimpArgs false
open Go.RowKit Go.Proofs.YtagihjlklbckmaaDoorW.PrintWords Go.Proofs.YtagihjlklbckmaaDoorW.PrintLast Go.Proofs.YtagihjlklbckmaaDoorW.PrintMore Go.Proofs.YtagihjlklbckmaaDoor.Bs
theorem ofL_app (a b : LB) : ofL a ++ ofL b = ofL (a ++ b) := by
  apply ByteArray.ext
  rw [ByteArray.data_append]
  show a.toArray ++ b.toArray = (a ++ b).toArray
  simp
theorem ofL_one (l : LB) (i : Nat) (h : i < l.length) : (ofL l).extract i (i + 1) = ofL [l[i]] := by
  rw [ofL_extract, List.take_succ_eq_append_getElem h, List.drop_append_of_le_length (by rw [List.length_take]; omega)]
  congr 1
  simp [List.drop_take]
theorem lines_nil : linesL [] = [] := rfl
theorem crlf_plain (c : UInt8) (r : LB) (h : ¬ c = 13) : crlf (c :: r) = c :: crlf r := by
  cases r with
  | nil => rfl
  | cons d r => rw [crlf, if_neg (fun e => h e.1)]
theorem lines_plain (c : UInt8) (r : LB) (h : ¬ c = 13) : linesL (c :: r) = c :: linesL r := by
  unfold linesL
  rw [crlf_plain c r h, List.map_cons, nlB, if_neg h]
theorem lines_two (r : LB) : linesL (13 :: 10 :: r) = 10 :: linesL r := by
  unfold linesL
  rw [crlf, if_pos ⟨rfl, rfl⟩, List.map_cons]; rfl
theorem lines_cr (r : LB) (h : ∀ d q, r = d :: q → ¬ d = 10) : linesL (13 :: r) = 10 :: linesL r := by
  cases r with
  | nil => rfl
  | cons d q =>
    unfold linesL
    rw [crlf, if_neg (fun e => h d q rfl e.2), List.map_cons]; rfl
theorem lines_free (l : LB) : ∀ c ∈ linesL l, ¬ c = 13 := by
  unfold linesL
  intro c hc
  obtain ⟨d, _, rfl⟩ := List.mem_map.1 hc
  unfold nlB
  split
  · decide
  · assumption
theorem lines_still : ∀ l : LB, (∀ c ∈ l, ¬ c = 13) → linesL l = l
  | [], _ => rfl
  | c :: r, h => by
    rw [lines_plain c r (h c (List.mem_cons_self ..)), lines_still r (fun d hd => h d (List.mem_cons_of_mem _ hd))]
theorem lines_again (l : LB) : linesL (linesL l) = linesL l := lines_still _ (lines_free l)
theorem ref_lines (l : LB) (hl : l.length ≤ 1000000) : ∀ (k i : Nat) (o : LB), i ≤ l.length → l.length < i + k → o.length ≤ i → breviaryref06_Lines.l0 k (ofL l) (ofL o) (i : Int) = some (ofL (o ++ linesL (l.drop i)))
  | 0, i, o, hi, hk, ho => by omega
  | k + 1, i, o, hi, hk, ho => by
    rw [breviaryref06_Lines.l0]
    have hz := ofL_size l
    have hoz := ofL_size o
    by_cases hlt : i < l.length
    · have w1 : wrap64 ((i : Int) + 1) = ((i + 1 : Nat) : Int) := by rw [IntWalk.wrap64_in _ ⟨by omega, by omega⟩]; rfl
      have w2 : wrap64 (((i + 1 : Nat) : Int) + 1) = ((i + 2 : Nat) : Int) := by rw [IntWalk.wrap64_in _ ⟨by omega, by omega⟩]; rfl
      have e10 : (⟨#[10]⟩ : ByteArray) = ofL [10] := rfl
      have hd : l.drop i = l[i] :: l.drop (i + 1) := List.drop_eq_getElem_cons hlt
      rw [if_pos (by rw [hz]; omega), if_pos (by omega), bt_ofL l i hlt, w1, w2, e10, ofL_app]
      by_cases h13 : l[i] = 13
      · have hc : ((l[i].toNat : Nat) : Int) = 13 := by rw [h13]; rfl
        rw [if_pos hc, if_pos (by rw [hoz]; omega)]
        by_cases hn : i + 1 < l.length
        · have hd2 : l.drop (i + 1) = l[i + 1] :: l.drop (i + 2) := List.drop_eq_getElem_cons hn
          rw [if_pos (by rw [hz]; omega), if_pos (by omega), bt_ofL l (i + 1) hn]
          by_cases h10 : l[i + 1] = 10
          · rw [if_pos (by rw [h10]; rfl), ref_lines l hl k (i + 2) _ (by omega) (by omega) (by rw [List.length_append, List.length_singleton]; omega), hd, hd2, h13, h10, lines_two, List.append_assoc]; rfl
          · rw [if_neg (fun e => h10 (UInt8.toNat_inj.1 (by have : (10 : UInt8).toNat = 10 := rfl; omega))), ref_lines l hl k (i + 1) _ (by omega) (by omega) (by rw [List.length_append, List.length_singleton]; omega), hd, h13, lines_cr _ (fun d q e => by rw [hd2] at e; injection e with e1 _; rw [← e1]; exact h10), List.append_assoc]; rfl
        · rw [if_neg (by rw [hz]; omega), ref_lines l hl k (i + 1) _ (by omega) (by omega) (by rw [List.length_append, List.length_singleton]; omega), hd, h13, lines_cr _ (fun d q e => by rw [List.drop_eq_nil_of_le (by omega)] at e; cases e), List.append_assoc]; rfl
      · rw [if_neg (fun e => h13 (UInt8.toNat_inj.1 (by have : (13 : UInt8).toNat = 13 := rfl; omega))), if_pos (by omega), if_pos (by rw [hz]; omega), Int.toNat_natCast, Int.toNat_natCast, ofL_one l i hlt, if_pos (by rw [hoz, ofL_size, List.length_singleton]; omega), ofL_app, ref_lines l hl k (i + 1) _ (by omega) (by omega) (by rw [List.length_append, List.length_singleton]; omega), hd, lines_plain _ _ h13, List.append_assoc]; rfl
    · rw [if_neg (by rw [hz]; omega), List.drop_eq_nil_of_le (by omega), lines_nil, List.append_nil]
theorem reflines_calls (w : World) (l : LB) (hl : l.length ≤ 1000000) : Calls Tryd.prog 8 #[.string (ofL l)] w fun e w' => e = .returned (.string (ofL (linesL l))) ∧ Below w.heap.size w w' :=
  (breviaryref06_Lines.calls (l.length + 1) (ofL l) (ofL (linesL l)) w (by
    have h := ref_lines l hl (l.length + 1) 0 [] (Nat.zero_le _) (by omega) (Nat.le_refl _)
    rw [List.nil_append, List.drop_zero] at h
    exact h)).mono fun e w' ⟨he, hd⟩ => ⟨he, hd.below⟩
end Go.Proofs.YtagihjlklbckmaaDoor.Sc
