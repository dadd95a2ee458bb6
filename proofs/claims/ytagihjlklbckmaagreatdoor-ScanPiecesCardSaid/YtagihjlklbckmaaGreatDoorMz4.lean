import Derived.Test.YtagihjlklbckmaaGreatDoorMz3
import Derived.Test.YtagihjlklbckmaaGreatDoorScPg
import Derived.Deep.QuietTactic
import Derived.BigQuiet
namespace Go.Proofs.YtagihjlklbckmaaGreatDoor.Sc
set_option linter.unusedVariables false
set_option linter.unusedSimpArgs false
open Go.RowKit Go.Proofs.YtagihjlklbckmaaGreatDoorW.PrintWords Go.Proofs.YtagihjlklbckmaaGreatDoorW.PrintLast Go.Proofs.YtagihjlklbckmaaGreatDoorW.PrintMore Go.Proofs.YtagihjlklbckmaaGreatDoor.Bs
def gave (r : Option LB) : ByteArray := match r with | none => ⟨#[]⟩ | some t => ofL t
def numV (v : Int) : Option LB := if v < 0 then none else if isR v = true then some (encL v) else none
theorem char_fin (v : Int) : (if v < 0 then some (⟨#[]⟩ : ByteArray) else (if isR v = true then breviaryref05_UTF8.f v else some ⟨#[]⟩)) = some (gave (numV v)) := by
  unfold numV
  by_cases h : v < 0
  · rw [if_pos h, if_pos h]; rfl
  · rw [if_neg h, if_neg h]
    cases hi : isR v with
    | true => rw [if_pos rfl, if_pos rfl, utf8_ref v hi]; rfl
    | false => rw [if_neg (by decide), if_neg (by decide)]; rfl
theorem char_j2 (l : LB) (hl : l.length ≤ 1000000) (base : Int) (hb : 10 ≤ base) (hb2 : base ≤ 16) (at0 : Nat) (k : Nat) (hk : l.length + 30 ≤ k) (h1 : 1 ≤ at0) (h35 : at0 < l.length → l[0]? = some 35) :
    breviaryref05_Char.j2 k (ofL l) base (at0 : Int) = some (gave (numV (numM (l.drop at0) base))) := by
  obtain ⟨k, rfl⟩ : ∃ x, k = x + 2 := ⟨k - 2, by omega⟩
  have hz := ofL_size l
  rw [breviaryref05_Char.j2]
  by_cases hlen : l.length ≤ at0
  · rw [if_pos (by rw [hz]; omega), breviaryref05_Char.j3, if_pos rfl, List.drop_eq_nil_of_le hlen]; rfl
  · have h := h35 (by omega)
    rw [List.getElem?_eq_getElem (show 0 < l.length by omega), Option.some.injEq] at h
    have hbt := bt_ofL l 0 (by omega)
    rw [h, show ((0 : Nat) : Int) = 0 from rfl] at hbt
    have hne : ¬ l.drop at0 = [] := drop_ne' (by omega)
    rw [if_neg (by rw [hz]; omega), if_pos (by rw [hz]; omega), hbt, breviaryref05_Char.j3, if_neg (by decide), digits_ref l hl base hb hb2 l.length k at0 0 (by omega) (by omega) (by omega) (by omega) (by omega), char_fin, numM, if_neg hne]
theorem char_j2x (l : LB) (hl : l.length ≤ 1000000) (base : Int) (at0 : Nat) (k : Nat) (hk : 2 ≤ k) (h1 : 1 ≤ at0) (h35 : at0 < l.length → ¬ l[0]? = some 35) :
    breviaryref05_Char.j2 k (ofL l) base (at0 : Int) = some (gave none) := by
  obtain ⟨k, rfl⟩ : ∃ x, k = x + 2 := ⟨k - 2, by omega⟩
  have hz := ofL_size l
  rw [breviaryref05_Char.j2]
  by_cases hlen : l.length ≤ at0
  · rw [if_pos (by rw [hz]; omega), breviaryref05_Char.j3, if_pos rfl]; rfl
  · have h := h35 (by omega)
    rw [List.getElem?_eq_getElem (show 0 < l.length by omega), Option.some.injEq] at h
    have hbt := bt_ofL l 0 (by omega)
    rw [show ((0 : Nat) : Int) = 0 from rfl] at hbt
    have hne : ((l[0].toNat : Int) != 35) = true := by
      rw [bne_iff_ne]; intro e; exact h (UInt8.toNat_inj.1 (by show _ = 35; omega))
    rw [if_neg (by rw [hz]; omega), if_pos (by rw [hz]; omega), hbt, hne, breviaryref05_Char.j3, if_pos rfl]; rfl
def tailV (k : Nat) (s : ByteArray) : Option ByteArray := if (s.size : Int) ≥ 2 then (if 0 < (s.size : Int) then (if (bt s 0) = 35 then (if 1 < (s.size : Int) then (breviaryref05_Char.j1 k s 10 1 ((bt s 1) == 120)) else (none)) else (breviaryref05_Char.j1 k s 10 1 false)) else (none)) else (breviaryref05_Char.j1 k s 10 1 false)
theorem char_tail : ∀ (l : LB) (hl : l.length ≤ 1000000) (k : Nat) (hk : l.length + 50 ≤ k), tailV k (ofL l) = some (gave (numV (charN l)))
  | [], hl, k, hk => by
    obtain ⟨k, rfl⟩ : ∃ x, k = x + 1 := ⟨k - 1, by omega⟩
    have hf : breviaryref05_Char.j1 (k + 1) (ofL []) 10 1 false = breviaryref05_Char.j2 k (ofL []) 10 ((1 : Nat) : Int) := by rw [breviaryref05_Char.j1, if_neg (by decide)]; rfl
    unfold tailV
    rw [if_neg (by rw [ofL_size]; decide), hf, char_j2x _ hl 10 1 k (by omega) (by omega) (fun h => absurd h (by simp))]; rfl
  | [x], hl, k, hk => by
    obtain ⟨k, rfl⟩ : ∃ x, k = x + 1 := ⟨k - 1, by omega⟩
    have hf : breviaryref05_Char.j1 (k + 1) (ofL [x]) 10 1 false = breviaryref05_Char.j2 k (ofL [x]) 10 ((1 : Nat) : Int) := by rw [breviaryref05_Char.j1, if_neg (by decide)]; rfl
    unfold tailV charN
    rw [if_neg (by rw [ofL_size]; simp), hf, char_j2x _ hl 10 1 k (by omega) (by omega) (fun h => absurd h (by simp)), if_neg (by simp [Lib.hasPrefix])]
    by_cases hx : x = 35
    · subst hx; rfl
    · rw [if_neg (by simp [Lib.hasPrefix, Ne.symm hx])]; rfl
  | x :: y :: r, hl, k, hk => by
    obtain ⟨k, rfl⟩ : ∃ x, k = x + 1 := ⟨k - 1, by omega⟩
    have hz := ofL_size (x :: y :: r)
    rw [List.length_cons, List.length_cons] at hz
    have hf : breviaryref05_Char.j1 (k + 1) (ofL (x :: y :: r)) 10 1 false = breviaryref05_Char.j2 k (ofL (x :: y :: r)) 10 ((1 : Nat) : Int) := by rw [breviaryref05_Char.j1, if_neg (by decide)]; rfl
    have ht : breviaryref05_Char.j1 (k + 1) (ofL (x :: y :: r)) 10 1 true = breviaryref05_Char.j2 k (ofL (x :: y :: r)) 16 ((2 : Nat) : Int) := by rw [breviaryref05_Char.j1, if_pos rfl]; rfl
    have hb0 : bt (ofL (x :: y :: r)) 0 = (x.toNat : Int) := bt_ofL (x :: y :: r) 0 (by simp)
    have hb1 : bt (ofL (x :: y :: r)) 1 = (y.toNat : Int) := bt_ofL (x :: y :: r) 1 (by simp)
    unfold tailV charN
    rw [if_pos (by rw [hz]; omega), if_pos (by rw [hz]; omega), hb0, hb1]
    by_cases hx : x = 35
    · subst hx
      rw [if_pos (by decide), if_pos (by rw [hz]; omega)]
      by_cases hy : y = 120
      · subst hy
        rw [show (((120 : UInt8).toNat : Int) == 120) = true from rfl, ht, char_j2 _ hl 16 (by omega) (by omega) 2 k (by omega) (by omega) (fun _ => rfl), if_pos (by simp [Lib.hasPrefix])]
      · have e : ((y.toNat : Int) == 120) = false := by rw [beq_eq_false_iff_ne]; intro e; exact hy (UInt8.toNat_inj.1 (by show _ = 120; omega))
        rw [e, hf, char_j2 _ hl 10 (by omega) (by omega) 1 k (by omega) (by omega) (fun _ => rfl), if_neg (by simp [Lib.hasPrefix, Ne.symm hy]), if_pos (by simp [Lib.hasPrefix])]; rfl
    · have e : ¬ ((x.toNat : Int) = 35) := fun e => hx (UInt8.toNat_inj.1 (by show _ = 35; omega))
      rw [if_neg e, hf, char_j2x _ hl 10 1 k (by omega) (by omega) (fun _ => by simp [hx]), if_neg (by simp [Lib.hasPrefix, Ne.symm hx]), if_neg (by simp [Lib.hasPrefix, Ne.symm hx])]; rfl
theorem name5 (a b c d e : ByteArray) : rdOf ByteArray.empty [a, b, c, d, e] 0 = a ∧ rdOf ByteArray.empty [a, b, c, d, e] 1 = b ∧ rdOf ByteArray.empty [a, b, c, d, e] 2 = c ∧ rdOf ByteArray.empty [a, b, c, d, e] 3 = d ∧ rdOf ByteArray.empty [a, b, c, d, e] 4 = e := ⟨rfl, rfl, rfl, rfl, rfl⟩
/-- THE DOCUMENT's reference. -/
theorem char_ref (l : LB) (hl : l.length ≤ 1000000) (k : Nat) (hk : l.length + 60 ≤ k) : breviaryref05_Char.f k (ofL l) = some (gave (charM l)) := by
  obtain ⟨k, rfl⟩ : ∃ x, k = x + 6 := ⟨k - 6, by omega⟩
  unfold breviaryref05_Char.f
  have t0 : (⟨#[97, 109, 112]⟩ : ByteArray).toList = [97, 109, 112] := ofL_toList [97, 109, 112]
  have t1 : (⟨#[108, 116]⟩ : ByteArray).toList = [108, 116] := ofL_toList [108, 116]
  have t2 : (⟨#[103, 116]⟩ : ByteArray).toList = [103, 116] := ofL_toList [103, 116]
  have t3 : (⟨#[113, 117, 111, 116]⟩ : ByteArray).toList = [113, 117, 111, 116] := ofL_toList [113, 117, 111, 116]
  have t4 : (⟨#[97, 112, 111, 115]⟩ : ByteArray).toList = [97, 112, 111, 115] := ofL_toList [97, 112, 111, 115]
  have w0 : wrap64 (0 + 1) = 1 := w64 _ (by omega)
  have w1 : wrap64 (1 + 1) = 2 := w64 _ (by omega)
  have w2 : wrap64 (2 + 1) = 3 := w64 _ (by omega)
  have w3 : wrap64 (3 + 1) = 4 := w64 _ (by omega)
  have w4 : wrap64 (4 + 1) = 5 := w64 _ (by omega)
  unfold charM
  rw [breviaryref05_Char.l0, if_pos (by decide), if_pos (by decide), if_pos (by simp), (name5 _ _ _ _ _).1, t0, ofL_toList]
  by_cases h0 : l = [97, 109, 112]
  · rw [if_pos h0, if_pos h0, w0, if_pos (by decide), if_pos (by decide)]; exact congrArg some (ofL_extract [38, 60, 62, 34, 39] 0 1)
  rw [if_neg h0, if_neg h0, w0, breviaryref05_Char.l0, if_pos (by decide), if_pos (by decide), if_pos (by simp), (name5 _ _ _ _ _).2.1, t1, ofL_toList]
  by_cases h1 : l = [108, 116]
  · rw [if_pos h1, if_pos h1, w1, if_pos (by decide), if_pos (by decide)]; exact congrArg some (ofL_extract [38, 60, 62, 34, 39] 1 2)
  rw [if_neg h1, if_neg h1, w1, breviaryref05_Char.l0, if_pos (by decide), if_pos (by decide), if_pos (by simp), (name5 _ _ _ _ _).2.2.1, t2, ofL_toList]
  by_cases h2 : l = [103, 116]
  · rw [if_pos h2, if_pos h2, w2, if_pos (by decide), if_pos (by decide)]; exact congrArg some (ofL_extract [38, 60, 62, 34, 39] 2 3)
  rw [if_neg h2, if_neg h2, w2, breviaryref05_Char.l0, if_pos (by decide), if_pos (by decide), if_pos (by simp), (name5 _ _ _ _ _).2.2.2.1, t3, ofL_toList]
  by_cases h3 : l = [113, 117, 111, 116]
  · rw [if_pos h3, if_pos h3, w3, if_pos (by decide), if_pos (by decide)]; exact congrArg some (ofL_extract [38, 60, 62, 34, 39] 3 4)
  rw [if_neg h3, if_neg h3, w3, breviaryref05_Char.l0, if_pos (by decide), if_pos (by decide), if_pos (by simp), (name5 _ _ _ _ _).2.2.2.2, t4, ofL_toList]
  by_cases h4 : l = [97, 112, 111, 115]
  · rw [if_pos h4, if_pos h4, w4, if_pos (by decide), if_pos (by decide)]; exact congrArg some (ofL_extract [38, 60, 62, 34, 39] 4 5)
  rw [if_neg h4, if_neg h4, w4, breviaryref05_Char.l0, if_neg (by decide)]; exact char_tail l hl k (by omega)
end Go.Proofs.YtagihjlklbckmaaGreatDoor.Sc
namespace Go.Proofs.YtagihjlklbckmaaGreatDoor.Sc
set_option linter.unusedVariables false
set_option linter.unusedSimpArgs false
open Go.RowKit Go.Proofs.YtagihjlklbckmaaGreatDoorW.PrintWords Go.Proofs.YtagihjlklbckmaaGreatDoorW.PrintLast Go.Proofs.YtagihjlklbckmaaGreatDoorW.PrintMore Go.Proofs.YtagihjlklbckmaaGreatDoor.Bs
theorem wr1 (p : Nat) (h : p ≤ 100000000) : wrap64 ((p : Int) + 1) = ((p + 1 : Nat) : Int) := by rw [w64 _ (by omega)]; omega
def semiAt : LB → Nat
  | [] => 0
  | c :: r => if c = 59 then 0 else semiAt r + 1
theorem semi_le : ∀ l : LB, semiAt l ≤ l.length
  | [] => Nat.le_refl _
  | c :: r => by
    have := semi_le r
    rw [semiAt, List.length_cons]
    split <;> omega
theorem semi_index : ∀ l : LB, Lib.index l [59] = if semiAt l < l.length then (semiAt l : Int) else -1
  | [] => rfl
  | c :: r => by
    have ih := semi_index r
    rw [Lib.index, semiAt, List.length_cons]
    by_cases hc : c = 59
    · subst hc; rw [if_pos (by simp), if_pos rfl, if_pos (by omega)]; rfl
    · rw [if_neg (by simp [Ne.symm hc]), if_neg hc, ih]
      by_cases h : semiAt r < r.length
      · rw [if_pos h, if_neg (by rw [beq_iff_eq]; omega), if_pos (show semiAt r + 1 < r.length + 1 by omega)]; rfl
      · rw [if_neg h, if_pos (by decide), if_neg (by omega)]
theorem semi_cut (l : LB) : Lib.cut l [59] = if semiAt l < l.length then (l.take (semiAt l), l.drop (semiAt l + 1), true) else (l, [], false) := by
  unfold Lib.cut
  rw [semi_index l]
  by_cases h : semiAt l < l.length
  · rw [if_pos h, if_pos (by omega), if_pos h, Int.toNat_natCast]; rfl
  · rw [if_neg h, if_neg (by omega), if_neg h]
theorem semi_ref (l : LB) (hl : l.length ≤ 1000000) (attr : Bool) (X : ByteArray) (pos : Int) : ∀ (m k q : Nat), q ≤ l.length → l.length ≤ q + m → m + 2 ≤ k →
    breviaryref05_Get.l1 k (ofL l) attr X pos (q : Int) = breviaryref05_Get.j2 (k - 1 - semiAt (l.drop q)) (ofL l) attr X pos ((q + semiAt (l.drop q) : Nat) : Int)
  | m, 0, q, hq, hm, hk => by omega
  | m, k + 1, q, hq, hm, hk => by
    have hz := ofL_size l
    rw [breviaryref05_Get.l1]
    by_cases hlt : q < l.length
    · obtain ⟨m, rfl⟩ : ∃ x, m = x + 1 := ⟨m - 1, by omega⟩
      have hd : l.drop q = l[q] :: l.drop (q + 1) := List.drop_eq_getElem_cons hlt
      rw [if_pos (by rw [hz]; omega), if_pos (by omega), bt_ofL l q hlt, hd, semiAt]
      by_cases hc : l[q] = 59
      · rw [hc, if_pos (by decide), if_pos rfl]; rfl
      · rw [if_neg (fun e => hc (UInt8.toNat_inj.1 (by show _ = 59; omega))), if_neg hc, wr1 q (by omega), semi_ref l hl attr X pos m k (q + 1) (by omega) (by omega) (by omega)]
        congr 1 <;> omega
    · rw [if_neg (by rw [hz]; omega), List.drop_eq_nil_of_le (by omega)]; rfl
def getR (r : Except Int LB) : ByteArray × Int := match r with | .error e => (⟨#[]⟩, e) | .ok t => (ofL t, 0)
def plOf (attr : Bool) : UInt8 → UInt8 := if attr = true then blankB else id
theorem lit10 : (⟨#[10]⟩ : ByteArray).toList = [10] := ofL_toList [10]
theorem get_j3 (k : Nat) (l out : LB) (attr : Bool) (pos : Nat) (b : Bool) (hp : pos ≤ 1000000) (ho : out.length ≤ 4000000) :
    breviaryref05_Get.j3 (k + 1) (ofL l) attr (ofL out) (pos : Int) ⟨#[10]⟩ b = breviaryref05_Get.l0 k (ofL l) attr (ofL (out ++ [plOf attr 10])) (((if b = true then pos + 2 else pos + 1 : Nat)) : Int) := by
  have hz := ofL_size out
  have hs : (⟨#[10]⟩ : ByteArray).size = 1 := rfl
  have a10 : ofL out ++ (⟨#[10]⟩ : ByteArray) = ofL (out ++ [10]) := ofL_app out [10]
  have a32 : ofL out ++ (⟨#[32]⟩ : ByteArray) = ofL (out ++ [32]) := ofL_app out [32]
  rw [breviaryref05_Get.j3, lit10, wr1 pos (by omega), wr1 (pos + 1) (by omega)]
  cases b with
  | true =>
    rw [if_pos rfl, if_pos rfl]
    cases attr with
    | true => rw [if_pos rfl, if_pos rfl, if_pos (by rw [hz]; omega), a32]; rfl
    | false => rw [if_neg (by decide), if_pos (by rw [hz, hs]; omega), a10]; rfl
  | false =>
    have h0 : ¬ (false = true) := by decide
    rw [if_neg h0, if_neg h0]
    cases attr with
    | true => rw [if_pos rfl, if_pos rfl, if_pos (by rw [hz]; omega), a32]; rfl
    | false => rw [if_neg h0, if_pos (by rw [hz, hs]; omega), a10]; rfl
theorem no_pre (a b : UInt8) (r : LB) (h : ¬ b = a) : Lib.hasPrefix (b :: r) [a] = false := by
  show (a == b && List.isPrefixOf [] r) = false
  rw [beq_eq_false_iff_ne.2 (Ne.symm h)]; rfl
theorem lit_ne {c : UInt8} {n : UInt8} (h : ¬ c = n) : ¬ ([c] = ([n] : List UInt8)) := fun e => h (List.cons.inj e).1
theorem get_amp (l out : LB) (hl : l.length ≤ 1000000) (attr : Bool) (k pos : Nat) (hlt : pos < l.length) (c2 : l[pos] = 38) (hk : 3 * (l.length - pos) + l.length + 78 ≤ k) (ho : out.length ≤ 4 * pos)
    (ih : ∀ (k' q : Nat) (t : LB), pos + 2 ≤ q → q ≤ l.length → 3 * (l.length - q) + l.length + 80 ≤ k' → t.length ≤ 4 → breviaryref05_Get.l0 k' (ofL l) attr (ofL (out ++ t)) (q : Int) = some (getR (escN (plOf attr) (l.drop q) (out ++ t)))) :
    breviaryref05_Get.l1 k (ofL l) attr (ofL out) (pos : Int) (pos : Int) = some (getR (match refM (l.drop (pos + 1)) with | none => .error 12 | some (t, rest) => escN (plOf attr) rest (out ++ t))) := by
  have hz := ofL_size l
  have hd : l.drop pos = l[pos] :: l.drop (pos + 1) := List.drop_eq_getElem_cons hlt
  have hs0 : semiAt (l.drop pos) = semiAt (l.drop (pos + 1)) + 1 := by rw [hd, semiAt, if_neg (by rw [c2]; decide)]
  have hle := semi_le (l.drop (pos + 1))
  rw [List.length_drop] at hle
  rw [semi_ref l hl attr (ofL out) (pos : Int) (l.length - pos) k pos (Nat.le_of_lt hlt) (by omega) (by omega), hs0]
  unfold refM
  rw [semi_cut, List.length_drop]
  generalize semiAt (l.drop (pos + 1)) = d at *
  clear hd hs0 c2
  obtain ⟨k', hk'⟩ : ∃ x, k - 1 - (d + 1) = x + 1 := ⟨k - 1 - (d + 1) - 1, by omega⟩
  rw [hk', breviaryref05_Get.j2]
  by_cases hend : d < l.length - (pos + 1)
  · have hcut : ((l.take (pos + (d + 1))).drop (pos + 1)) = (l.drop (pos + 1)).take d := by rw [List.drop_take, show pos + (d + 1) - (pos + 1) = d by omega]
    have hclen : ((l.drop (pos + 1)).take d).length ≤ l.length := by
      have h1 := List.length_take_le' d (l.drop (pos + 1))
      rw [List.length_drop] at h1
      omega
    rw [if_neg (by rw [hz]; omega), wr1 pos (by omega), wr1 (pos + (d + 1)) (by omega), if_pos (by omega), if_pos (by omega), if_pos (by rw [hz]; omega), Int.toNat_natCast, Int.toNat_natCast, ofL_extract, hcut, char_ref _ (by omega) k' (by omega), Option.bind_some, if_pos hend]
    clear hcut
    simp only [if_true]
    cases hch : charM ((l.drop (pos + 1)).take d) with
    | none => rw [show (gave none).toList = [] from ofL_toList [], if_pos rfl]; rfl
    | some t =>
      have htl := charM_len hch
      have htn := charM_ne hch
      clear hch
      have hsz : (ofL out).size + (ofL t).size ≤ 9223372036854775807 := by rw [ofL_size, ofL_size]; omega
      rw [show (gave (some t)) = ofL t from rfl, ofL_toList, if_neg htn, if_pos hsz, ofL_app, ih k' (pos + (d + 1) + 1) t (by omega) (by omega) (by omega) htl, List.drop_drop, show pos + 1 + (d + 1) = pos + (d + 1) + 1 by omega]
  · rw [if_pos (by rw [hz]; omega), if_neg hend]; rfl
set_option maxHeartbeats 1000000 in
theorem get_loop (l : LB) (hl : l.length ≤ 1000000) (attr : Bool) : ∀ (m k pos : Nat) (out : LB), pos ≤ l.length → l.length ≤ pos + m → 3 * (l.length - pos) + l.length + 80 ≤ k → out.length ≤ 4 * pos →
    breviaryref05_Get.l0 k (ofL l) attr (ofL out) (pos : Int) = some (getR (escN (plOf attr) (l.drop pos) out))
  | m, 0, pos, out, hp, hm, hk, ho => by omega
  | m, k + 1, pos, out, hp, hm, hk, ho => by
    have hz := ofL_size l
    have hzo := ofL_size out
    rw [breviaryref05_Get.l0]
    by_cases hlt : pos < l.length
    · obtain ⟨m, rfl⟩ : ∃ x, m = x + 1 := ⟨m - 1, by omega⟩
      have hd : l.drop pos = l[pos] :: l.drop (pos + 1) := List.drop_eq_getElem_cons hlt
      have hx : ((ofL l).extract pos (pos + 1)) = ofL [l[pos]] := by
        rw [ofL_extract, List.drop_take, show pos + 1 - pos = 1 by omega, hd]; rfl
      rw [wr1 pos (by omega), if_pos (by rw [hz]; omega), if_pos (by omega), if_pos (by omega), if_pos (by rw [hz]; omega), Int.toNat_natCast, Int.toNat_natCast, hx, ofL_toList, hd, escN_cons]
      by_cases c1 : l[pos] = 60
      · rw [if_pos (by rw [c1]), if_pos c1]; rfl
      rw [if_neg (lit_ne c1), if_neg c1]
      by_cases c2 : l[pos] = 38
      · rw [if_pos (by rw [c2]), if_pos c2]
        exact get_amp l out hl attr k pos hlt c2 (by omega) ho (fun k' q t h1 h2 h3 h4 => get_loop l hl attr m k' q (out ++ t) h2 (by omega) h3 (by rw [List.length_append]; omega))
      rw [if_neg (lit_ne c2), if_neg c2]
      by_cases c3 : l[pos] = 13
      · rw [if_pos (by rw [c3]), if_pos c3]
        obtain ⟨k, rfl⟩ : ∃ x, k = x + 1 := ⟨k - 1, by omega⟩
        by_cases hn : pos + 1 < l.length
        · have hd2 : l.drop (pos + 1) = l[pos + 1] :: l.drop (pos + 1 + 1) := List.drop_eq_getElem_cons hn
          rw [if_pos (by rw [hz]; omega), if_pos (by omega), bt_ofL l (pos + 1) hn, get_j3 k l out attr pos _ (by omega) (by omega)]
          by_cases c4 : l[pos + 1] = 10
          · rw [c4, show (((10 : UInt8).toNat : Int) == 10) = true from rfl, if_pos rfl, get_loop l hl attr m k (pos + 2) _ (by omega) (by omega) (by omega) (by rw [List.length_append, List.length_singleton]; omega), hd2, c4]; rfl
          · have e : ((l[pos + 1].toNat : Int) == 10) = false := by rw [beq_eq_false_iff_ne]; intro e; exact c4 (UInt8.toNat_inj.1 (by show _ = 10; omega))
            have htr : Lib.trimPrefix (l.drop (pos + 1)) [10] = l.drop (pos + 1) := by
              unfold Lib.trimPrefix; rw [hd2, no_pre _ _ _ c4]; rfl
            rw [e, if_neg (by decide), get_loop l hl attr m k (pos + 1) _ (by omega) (by omega) (by omega) (by rw [List.length_append, List.length_singleton]; omega), htr]
        · have hnil : l.drop (pos + 1) = [] := List.drop_eq_nil_of_le (by omega)
          rw [if_neg (by rw [hz]; omega), get_j3 k l out attr pos _ (by omega) (by omega), if_neg (by decide), get_loop l hl attr m k (pos + 1) _ (by omega) (by omega) (by omega) (by rw [List.length_append, List.length_singleton]; omega), hnil]; rfl
      rw [if_neg (lit_ne c3), if_neg c3]
      have hsz : ∀ c : UInt8, (ofL out).size + (ofL [c]).size ≤ 9223372036854775807 := fun c => by rw [hzo, ofL_size, List.length_singleton]; omega
      have hih := fun c => get_loop l hl attr m k (pos + 1) (out ++ [c]) (by omega) (by omega) (by omega) (by rw [List.length_append, List.length_singleton]; omega)
      have a32 : ofL out ++ (⟨#[32]⟩ : ByteArray) = ofL (out ++ [32]) := ofL_app out [32]
      cases attr with
      | false => rw [if_neg (by decide), if_pos (hsz _), ofL_app, hih]; rfl
      | true =>
        have hpl : plOf true l[pos] = if l[pos] = 9 ∨ l[pos] = 10 then 32 else l[pos] := rfl
        rw [if_pos rfl, hpl]
        by_cases c5 : l[pos] = 10
        · rw [if_pos (by rw [c5]), if_pos (by rw [hzo]; omega), a32, hih, if_pos (.inr c5)]
        · rw [if_neg (lit_ne c5)]
          by_cases c6 : l[pos] = 9
          · rw [if_pos (by rw [c6]), if_pos (by rw [hzo]; omega), a32, hih, if_pos (.inl c6)]
          · rw [if_neg (lit_ne c6), if_pos (hsz _), ofL_app, hih, if_neg (fun e => e.elim c6 c5)]
    · rw [if_neg (by rw [hz]; omega), List.drop_eq_nil_of_le (by omega), escN_nil]; rfl
theorem text_at (l : LB) (hl : l.length ≤ 1000000) : ∀ (d : Nat), breviaryref01_Text.f (l.length + 20 + d) (ofL l) = some (textL l)
  | 0 => text_ref l hl
  | d + 1 => breviaryref01_Text.mono (ofL l) (l.length + 20 + d) _ (text_at l hl d)
/-- THE DOCUMENT's text that stands in markup. -/
theorem get_ref (l : LB) (hl : l.length ≤ 1000000) (attr : Bool) (k : Nat) (hk : 4 * l.length + 80 ≤ k) : breviaryref05_Get.f k (ofL l) attr = some (getR (escM (plOf attr) l)) := by
  have ht := text_at l hl (k - (l.length + 20))
  rw [show l.length + 20 + (k - (l.length + 20)) = k by omega] at ht
  unfold breviaryref05_Get.f escM
  rw [ht, Option.bind_some]
  cases textL l with
  | true =>
    have h := get_loop l hl attr l.length k 0 [] (Nat.zero_le _) (by omega) (by omega) (Nat.zero_le _)
    rw [if_pos rfl, if_pos rfl]
    exact h
  | false => rfl
end Go.Proofs.YtagihjlklbckmaaGreatDoor.Sc
namespace Go.Proofs.YtagihjlklbckmaaGreatDoor.Sc
set_option linter.unusedVariables false
set_option linter.unusedSimpArgs false
open Go.RowKit Go.Proofs.YtagihjlklbckmaaGreatDoorW.PrintWords Go.Proofs.YtagihjlklbckmaaGreatDoorW.PrintLast Go.Proofs.YtagihjlklbckmaaGreatDoorW.PrintMore Go.Proofs.YtagihjlklbckmaaGreatDoor.Bs
structure GoodA (l : List (LB × LB)) : Prop where
  names : ∀ a ∈ l, nameL a.1 = true
  apart : l.Pairwise (fun a b => ¬ a.1 = b.1)
  few : l.length ≤ 8
theorem GoodA.nil : GoodA [] := ⟨(fun a h => by cases h), List.Pairwise.nil, by decide⟩
theorem GoodA.add {l : List (LB × LB)} (h : GoodA l) {x : LB × LB} (hn : nameL x.1 = true) (ht : twice x.1 l = false) (h8 : l.length < 8) : GoodA (l ++ [x]) := by
  refine ⟨fun a ha => ?_, List.pairwise_append.2 ⟨h.apart, List.pairwise_singleton _ _, fun a ha b hb => ?_⟩, by rw [List.length_append, List.length_singleton]; omega⟩
  · rcases List.mem_append.1 ha with ha | ha
    · exact h.names a ha
    · rw [List.mem_singleton.1 ha]; exact hn
  · rw [List.mem_singleton.1 hb]
    intro e
    have := List.any_eq_false.1 ht a ha
    exact this (by simpa using e)
theorem quot_ok {s a b : LB} (h : quotM s = .ok (a, b)) (hs : textL s = true) : textL b = true := by
  unfold quotM at h
  split at h
  · cases h
  · rename_i c r
    split at h
    · rename_i hc
      rcases hc with rfl | rfl
      · exact (upTo_ok (c := 34) (by decide) (fun d hd => by cases hd) h (text_tail (by decide) hs)).2
      · exact (upTo_ok (c := 39) (by decide) (fun d hd => by cases hd) h (text_tail (by decide) hs)).2
    · cases h
theorem attr_ok {l : List (LB × LB)} {s q : LB} {x : LB × LB} (h : attrM l s = .ok (x, q)) (hs : textL s = true) : nameL x.1 = true ∧ twice x.1 l = false ∧ l.length < 8 ∧ textL q = true := by
  have h8 := (attr_rest h).2
  unfold attrM at h
  split at h
  · cases h
  · rename_i h1
    split at h
    · cases h
    · rename_i h2
      split at h
      · cases h
      · rename_i h3
        split at h
        · cases h
        · split at h
          · cases h
          · rename_i h5
            split at h
            · cases h
            · cases h
              obtain ⟨n1, n2⟩ := name_ok h1 hs
              have m1 := must_ok (by decide) h2 (text_span spaceR _ _ (Nat.le_refl _) n2)
              exact ⟨n1, Bool.eq_false_iff.2 h5, h8, quot_ok h3 (text_span spaceR _ _ (Nat.le_refl _) m1)⟩
theorem startF_ok : ∀ (n : Nat) (l : List (LB × LB)) (s q : LB) (l' : List (LB × LB)) (em : Bool), startF n l s = .ok ((l', em), q) → GoodA l → textL s = true → GoodA l' ∧ textL q = true
  | 0, l, s, q, l', em, h, _, _ => by cases h
  | n + 1, l, s, q, l', em, h, hl, hs => by
    rw [startF_succ] at h
    have hs6 := text_span spaceR _ s (Nat.le_refl _) hs
    generalize s.drop (spanN spaceR s) = s6 at h hs6
    generalize s.take (spanN spaceR s) = t at h
    unfold startS at h
    split at h
    · cases h
    · rename_i c r6
      split at h
      · rename_i h47
        subst h47
        split at h
        · cases h
        · rename_i hm
          cases h
          exact ⟨hl, must_ok (by decide) hm (text_tail (by decide) hs6)⟩
      · split at h
        · rename_i h62
          subst h62
          cases h
          exact ⟨hl, text_tail (by decide) hs6⟩
        · split at h
          · cases h
          · split at h
            · cases h
            · rename_i x q' ha
              obtain ⟨a1, a2, a3, a4⟩ := attr_ok ha hs6
              exact startF_ok n _ _ _ _ _ h (hl.add a1 a2 a3) a4
theorem GoodT.plain {k : Int} {n t : LB} (hn : ¬ k = 3 → ¬ k = 4 → nameL n = true) (ht : textL t = true) (hl : t.length ≤ 1000000) (em : Bool) : GoodT ⟨k, n, t, [], em⟩ :=
  ⟨hn, ht, hl, (fun a h => by cases h), (fun i j hj => by simp at hj), by show 0 ≤ 1000; omega⟩
theorem start_ok {s q : LB} {x : Tok} (h : startM s = .ok (x, q)) (hs : textL s = true) : GoodT x ∧ textL q = true := by
  unfold startM at h
  split at h
  · cases h
  · rename_i h1
    split at h
    · cases h
    · rename_i h2
      cases h
      obtain ⟨n1, n2⟩ := name_ok h1 hs
      obtain ⟨a1, a2⟩ := startF_ok _ _ _ _ _ _ h2 GoodA.nil n2
      exact ⟨⟨fun _ _ => n1, rfl, by show 0 ≤ 1000000; omega, a1.names, fun i j hj hij => List.pairwise_iff_getElem.1 a1.apart i j (Nat.lt_trans hij hj) hj hij, Nat.le_trans a1.few (by decide)⟩, a2⟩
theorem take_len {l : LB} {n : Nat} {b : Nat} (h : l.length ≤ b) : (l.take n).length ≤ b := by rw [List.length_take]; omega
theorem instr_ok {s q : LB} {x : Tok} (h : instrM s = .ok (x, q)) (hs : textL s = true) (hl : s.length ≤ 100000) : GoodT x ∧ textL q = true := by
  unfold instrM at h
  split at h
  · cases h
  · rename_i a r h1
    obtain ⟨t1, t2⟩ := upTo_ok (c := 63) (by decide) (fun d hd => by rw [List.mem_singleton.1 hd]; decide) h1 hs
    have hal := (rest_len h1).1
    split at h
    · cases h
    · rename_i h2
      cases h
      unfold piM at h2
      split at h2
      · rename_i hn
        split at h2
        · cases h2
          refine ⟨GoodT.plain (fun _ _ => hn.1) (text_span spaceR _ _ (Nat.le_refl _) (text_span partR _ _ (Nat.le_refl _) t1)) ?_ _, t2⟩
          simp only [List.length_drop]; omega
        · cases h2
      · cases h2
theorem take_ok {i : Nat} {s q : LB} {x : Tok} (h : takeM i s = .ok (x, q)) (hs : textL s = true) (hl : s.length ≤ 100000) : GoodT x ∧ textL q = true := by
  unfold takeM at h
  split at h
  · unfold commentM at h
    split at h
    · cases h
    · rename_i t r h1
      obtain ⟨t1, t2⟩ := upTo_ok (c := 45) (by decide) (fun d hd => by rw [List.mem_singleton.1 hd]; decide) h1 hs
      have hal := (rest_len h1).1
      split at h
      · cases h
      · split at h
        · rename_i hc
          subst hc
          cases h
          exact ⟨GoodT.plain (fun _ h4 => absurd rfl h4) t1 (by omega) _, text_tail (by decide) t2⟩
        · cases h
  · unfold cdataM at h
    split at h
    · cases h
    · rename_i t r h1
      obtain ⟨t1, t2⟩ := upTo_ok (c := 93) (by decide) (fun d hd => by
        rcases List.mem_cons.1 hd with rfl | hd
        · decide
        · rw [List.mem_singleton.1 hd]; decide) h1 hs
      have hal := (rest_len h1).1
      cases h
      exact ⟨GoodT.plain (fun h3 => absurd rfl h3) t1 (by omega) _, t2⟩
  · exact instr_ok h hs hl
  · unfold endM at h
    split at h
    · cases h
    · rename_i h1
      split at h
      · cases h
      · rename_i h2
        cases h
        obtain ⟨n1, n2⟩ := name_ok h1 hs
        exact ⟨GoodT.plain (fun _ _ => n1) rfl (by show 0 ≤ 1000000; omega) _, must_ok (by decide) h2 (text_span spaceR _ _ (Nat.le_refl _) n2)⟩
theorem pre_text {s p : LB} (hp : Lib.hasPrefix s p = true) (ha : ∀ c ∈ p, c.toNat < 128) (hs : textL s = true) : textL (s.drop p.length) = true := by
  unfold Lib.hasPrefix at hp
  obtain ⟨t, ht⟩ := List.isPrefixOf_iff_prefix.1 hp
  rw [← ht] at hs ⊢
  rw [List.drop_left]
  exact text_drop p t ha hs
theorem preM_low (i : Nat) : ∀ c ∈ preM i, c.toNat < 128 := by
  unfold preM
  split <;> decide
theorem sort_ok (r : LB) (hs : textL (60 :: r) = true) (hl : (60 :: r).length ≤ 100000) : ∀ (n i : Nat) (x : Tok) (q : LB), sortM (60 :: r) n i = .ok (x, q) → GoodT x ∧ textL q = true
  | 0, i, x, q, h => by
    unfold sortM at h
    split at h
    · cases h
    · exact start_ok h (text_tail (by decide) hs)
  | n + 1, i, x, q, h => by
    unfold sortM at h
    split at h
    · rename_i hp
      exact take_ok h (pre_text hp (preM_low i) hs) (by rw [List.length_drop]; omega)
    · exact sort_ok r hs hl n (i + 1) x q h
theorem piece_ok {s q : LB} {x : Tok} (h : pieceM s = .ok (x, q)) (hs : textL s = true) (hl : s.length ≤ 100000) : GoodT x ∧ textL q = true := by
  unfold pieceM at h
  split at h
  · cases h
  · rename_i c r
    split at h
    · rename_i hc
      subst hc
      exact sort_ok r hs hl 4 0 x q h
    · unfold textMk at h
      split at h
      · cases h
      · rename_i t he
        cases h
        unfold escM at he
        split at he
        · rename_i htx
          obtain ⟨e1, e2⟩ := esc_text _ _ [] t (Nat.le_refl _) htx he
          have hlt := take_len (n := cutAt (c :: r)) hl
          refine ⟨GoodT.plain (fun h3 => absurd rfl h3) e1 (by rw [List.length_nil] at e2; omega) _, ?_⟩
          generalize c :: r = s at *
          unfold cutAt
          have hix := index_range 60 s
          split
          · rw [List.drop_length]; rfl
          · obtain ⟨o, ho⟩ : ∃ o : Nat, Lib.indexByte s 60 = o := ⟨(Lib.indexByte s 60).toNat, by omega⟩
            have hat := (Lib.indexByte_some ho).1
            rw [ho, Int.toNat_natCast]
            have hd := Lib.drop_at hat
            have hsp : textL (s.take o ++ s.drop o) = true := by rw [List.take_append_drop]; exact hs
            rw [hd] at hsp ⊢
            exact (textL_split 60 (by decide) _ _ _ (Nat.le_refl _) hsp).2
        · cases he
theorem scanF_ok : ∀ (n : Nat) (toks : List Tok) (s : LB) (l : List Tok), scanF n toks s = .ok l → (∀ x ∈ toks, GoodT x) → textL s = true → s.length ≤ 100000 → ∀ x ∈ l, GoodT x
  | 0, toks, s, l, h, ht, hs, hl => by
    unfold scanF at h
    split at h
    · cases h; exact ht
    · cases h
  | n + 1, toks, [], l, h, ht, hs, hl => by
    rw [scanF_nil] at h
    cases h; exact ht
  | n + 1, toks, c :: r, l, h, ht, hs, hl => by
    rw [scanF_cons] at h
    split at h
    · cases h
    · rename_i x q hp
      obtain ⟨p1, p2⟩ := piece_ok hp hs hl
      have hr := piece_rest hp
      refine scanF_ok n _ q l h (fun y hy => ?_) p2 (by rw [List.length_cons] at hl; omega)
      rcases List.mem_append.1 hy with hy | hy
      · exact ht y hy
      · rw [List.mem_singleton.1 hy]; exact p1
/-- THE PLAIN LAW: what is scanned is good. -/
theorem scan_good {l : LB} {toks : List Tok} (h : scanM l = .ok toks) : ∀ x ∈ toks, GoodT x := by
  unfold scanM at h
  split at h
  · cases h
  · rename_i h4
    split at h
    · cases h
    · rename_i ht
      have hlen := lines_len l
      exact scanF_ok _ _ _ _ h (fun x hx => by cases hx) (text_lines _ l (Nat.le_refl _) (by simpa using ht)) (by omega)
theorem scanF_few : ∀ (n : Nat) (toks : List Tok) (s : LB) (l : List Tok), scanF n toks s = .ok l → l.length ≤ toks.length + n
  | 0, toks, s, l, h => by
    unfold scanF at h
    split at h
    · cases h; omega
    · cases h
  | n + 1, toks, s, l, h => by
    unfold scanF at h
    split at h
    · cases h; omega
    · split at h
      · cases h
      · have := scanF_few n _ _ _ h
        rw [List.length_append, List.length_singleton] at this
        omega
theorem scan_few {l : LB} {toks : List Tok} (h : scanM l = .ok toks) : toks.length ≤ 4000 := by
  unfold scanM at h
  split at h
  · cases h
  · rename_i h4
    split at h
    · cases h
    · have := scanF_few _ _ _ _ h
      have hlen := lines_len l
      rw [List.length_nil] at this
      omega
end Go.Proofs.YtagihjlklbckmaaGreatDoor.Sc
namespace Go.Proofs.YtagihjlklbckmaaGreatDoor.Sc
set_option linter.unusedVariables false
set_option linter.unusedSimpArgs false
open Go.RowKit Go.Proofs.YtagihjlklbckmaaGreatDoorW.PrintWords Go.Proofs.YtagihjlklbckmaaGreatDoorW.PrintLast Go.Proofs.YtagihjlklbckmaaGreatDoorW.PrintMore Go.Proofs.YtagihjlklbckmaaGreatDoor.Bs
theorem nameM_err {s : LB} {e : Int} (h : nameM s = .error e) : ¬ e = 0 := by
  unfold nameM at h
  repeat' split at h
  all_goals first | (cases h; done) | (cases h; decide)
theorem nameM_ok {s n r : LB} (h : nameM s = .ok (n, r)) : n = s.take (spanN partR s) ∧ r = s.drop (spanN partR s) := by
  unfold nameM at h
  repeat' split at h
  all_goals first | (cases h; done) | (cases h; exact ⟨rfl, rfl⟩)
theorem mustM_err {c : UInt8} {s : LB} {e : Int} (h : mustM c s = .error e) : ¬ e = 0 := by
  unfold mustM at h
  repeat' split at h
  all_goals first | (cases h; done) | (cases h; decide)
theorem mustM_ok {c : UInt8} {s r : LB} (h : mustM c s = .ok r) : s = c :: r := by
  unfold mustM at h
  repeat' split at h
  all_goals first | (cases h; done) | skip
  rename_i d q hd
  cases h; rw [hd]
theorem escM_ne {pl : UInt8 → UInt8} {l : LB} {e : Int} (h : escM pl l = .error e) : ¬ e = 0 := by
  rcases escM_err h with h | h | h <;> omega
def attr1 (s : LB) : Except Int ((LB × LB) × LB) := match nameM s with
  | .error k => .error k
  | .ok (n, r) => match mustM 61 (r.drop (spanN spaceR r)) with
    | .error k => .error k
    | .ok r2 => match quotM (r2.drop (spanN spaceR r2)) with
      | .error k => .error k
      | .ok (v, r5) => match escM blankB v with
        | .error k => .error k
        | .ok t => .ok ((n, t), r5)
def placeA (l : LB) (r : Except Int ((LB × LB) × LB)) : ByteArray × ByteArray × Int × Int := match r with
  | .error e => (⟨#[]⟩, ⟨#[]⟩, 0, e)
  | .ok ((n, t), q) => (ofL n, ofL t, ((l.length - q.length : Nat) : Int), 0)
def quot1 (s : LB) : Except Int (LB × LB) := match quotM s with
  | .error k => .error k
  | .ok (v, r5) => match escM blankB v with
    | .error k => .error k
    | .ok t => .ok (t, r5)
theorem cut_byte (s : LB) (c : UInt8) : upToM [c] s = if Lib.index s [c] = -1 then .error 16 else .ok (s.take (Lib.index s [c]).toNat, s.drop ((Lib.index s [c]).toNat + 1)) := by
  have hge := Lib.index_ge s [c]
  unfold upToM
  by_cases h : Lib.index s [c] = -1
  · have e : Lib.cut s [c] = (s, [], false) := by unfold Lib.cut; rw [if_neg (by omega)]
    rw [e, if_pos h]; rfl
  · have e : Lib.cut s [c] = (s.take (Lib.index s [c]).toNat, s.drop ((Lib.index s [c]).toNat + 1), true) := by unfold Lib.cut; rw [if_pos (by omega)]; rfl
    rw [e, if_neg h]; rfl
theorem quot_place (l n : LB) (hl : l.length ≤ 100000) (p k : Nat) (hp : p < l.length) (hk : 4 * l.length + 150 ≤ k) (h : l[p] = 34 ∨ l[p] = 39) :
    breviaryref06_attribute.j0 k (ofL l) (p : Int) (ofL n) false = some (match quot1 (l.drop p) with | .error e => (⟨#[]⟩, ⟨#[]⟩, 0, e) | .ok (t, q) => (ofL n, ofL t, ((l.length - q.length : Nat) : Int), 0)) := by
  obtain ⟨k, rfl⟩ : ∃ x, k = x + 1 := ⟨k - 1, by omega⟩
  have hz := ofL_size l
  have hd : l.drop p = l[p] :: l.drop (p + 1) := List.drop_eq_getElem_cons hp
  have hx : ((ofL l).extract p (p + 1)) = ofL [l[p]] := by
    rw [ofL_extract, List.drop_take, show p + 1 - p = 1 by omega, hd]; rfl
  have hf := find_ref l [l[p]] (by omega) (by simp) (by simp) l.length k (p + 1) (by omega) (by omega) (by omega)
  have hge := Lib.index_ge (l.drop (p + 1)) [l[p]]
  have hroom := Lib.index_room (l.drop (p + 1)) [l[p]]
  rw [List.length_drop, List.length_singleton] at hroom
  unfold quot1 quotM
  rw [hd]
  dsimp only
  rw [if_pos h, cut_byte, breviaryref06_attribute.j0, if_neg (by decide), wr1 p (by omega), if_pos (by omega), if_pos (by omega), if_pos (by rw [hz]; omega), Int.toNat_natCast, Int.toNat_natCast, hx]
  unfold breviaryref06_Find.f
  rw [hf, Option.bind_some]
  clear hf hx hd
  generalize Lib.index (l.drop (p + 1)) [l[p]] = i at *
  by_cases hi : i = -1
  · rw [if_pos hi, if_pos (by decide), if_pos hi]
  · obtain ⟨i, rfl⟩ : ∃ x : Nat, i = x := ⟨i.toNat, by omega⟩
    have hr := hroom (by omega)
    clear hroom
    rw [if_neg hi, if_neg hi, if_neg (by omega), show (((p + 1 : Nat) : Int) + (i : Int)) = ((p + 1 + i : Nat) : Int) by omega, if_pos (by omega), if_pos (by omega), if_pos (by rw [hz]; omega), Int.toNat_natCast, Int.toNat_natCast, ofL_extract, List.drop_take, show p + 1 + i - (p + 1) = i by omega]
    dsimp only
    have hlen : ((l.drop (p + 1)).take i).length ≤ l.length := by
      have h1 := List.length_take_le' i (l.drop (p + 1))
      rw [List.length_drop] at h1
      omega
    rw [get_ref _ (by omega) true k (by omega), Option.bind_some, wr1 _ (by omega)]
    rw [show plOf true = blankB from rfl]
    cases he : escM blankB ((l.drop (p + 1)).take i) with
    | error e => rw [if_neg (show ¬ (getR (.error e)).2 = 0 from escM_ne he)]; rfl
    | ok t =>
      rw [if_pos (show (getR (.ok t)).2 = 0 from rfl)]
      dsimp only
      rw [List.drop_drop, List.length_drop, show l.length - (l.length - (p + 1 + (i + 1))) = p + 1 + i + 1 by omega]; rfl
theorem attr1_quot (s : LB) : attr1 s = match nameM s with
  | .error k => .error k
  | .ok (n, r) => match mustM 61 (r.drop (spanN spaceR r)) with
    | .error k => .error k
    | .ok r2 => match quot1 (r2.drop (spanN spaceR r2)) with
      | .error k => .error k
      | .ok (t, r5) => .ok ((n, t), r5) := by
  unfold attr1 quot1
  repeat' split
  all_goals simp_all
theorem attr_place (l : LB) (hl : l.length ≤ 100000) (pos k : Nat) (hp : pos ≤ l.length) (hk : 4 * l.length + 200 ≤ k) (ht : textL (l.drop pos) = true) :
    breviaryref06_attribute.f k (ofL l) (pos : Int) = some (placeA l (attr1 (l.drop pos))) := by
  have hz := ofL_size l
  unfold breviaryref06_attribute.f
  rw [name_place l (by omega) pos k hp (by omega) ht, Option.bind_some, attr1_quot]
  cases hn : nameM (l.drop pos) with
  | error e =>
    dsimp only
    rw [if_neg (nameM_err hn)]; rfl
  | ok nr =>
    obtain ⟨n, r⟩ := nr
    obtain ⟨rfl, rfl⟩ := nameM_ok hn
    clear hn
    have hsp := spanN_le partR (l.drop pos)
    rw [List.length_drop] at hsp
    rw [List.drop_drop]
    dsimp only
    generalize spanN partR (l.drop pos) = sp at *
    have hsp2 := spanN_le spaceR (l.drop (pos + sp))
    rw [List.length_drop] at hsp2
    have hx : ((ofL l).extract pos (pos + sp)) = ofL ((l.drop pos).take sp) := by
      rw [ofL_extract, List.drop_take, show pos + sp - pos = sp by omega]
    rw [if_pos rfl, if_pos (by omega), if_pos (by omega), if_pos (by rw [hz]; omega), Int.toNat_natCast, Int.toNat_natCast, hx]
    unfold breviaryref06_Spaces.f
    rw [spaces_ref l (by omega) l.length k (pos + sp) (by omega) (by omega) (by omega), Option.bind_some, List.drop_drop]
    clear hx
    generalize (l.drop pos).take sp = n at *
    generalize spanN spaceR (l.drop (pos + sp)) = s2 at *
    obtain ⟨p2, hp2⟩ : ∃ x, x = pos + sp + s2 := ⟨_, rfl⟩
    rw [← hp2]
    have hp2l : p2 ≤ l.length := by omega
    clear hp2 hsp2 hsp
    have hm : breviaryref06_must.f (ofL l) (p2 : Int) 61 = _ := must_place l p2 hp2l 61
    rw [hm, Option.bind_some]
    clear hm
    cases hm2 : mustM 61 (l.drop p2) with
    | error e =>
      dsimp only
      rw [if_neg (mustM_err hm2)]; rfl
    | ok r2 =>
      have hr2 := mustM_ok hm2
      have hlt : p2 < l.length := by
        refine Decidable.byContradiction fun h => ?_
        rw [List.drop_eq_nil_of_le (by omega)] at hr2
        cases hr2
      have hd2 : l.drop p2 = l[p2] :: l.drop (p2 + 1) := List.drop_eq_getElem_cons hlt
      rw [hd2] at hr2
      obtain ⟨hh, rfl⟩ := List.cons.inj hr2
      clear hr2 hd2 hm2 hh
      have hsp3 := spanN_le spaceR (l.drop (p2 + 1))
      rw [List.length_drop] at hsp3
      dsimp only
      rw [if_pos rfl, wr1 p2 (by omega), spaces_ref l (by omega) l.length k (p2 + 1) (by omega) (by omega) (by omega), Option.bind_some, List.drop_drop]
      generalize spanN spaceR (l.drop (p2 + 1)) = s3 at *
      obtain ⟨p3, hp3⟩ : ∃ x, x = p2 + 1 + s3 := ⟨_, rfl⟩
      rw [← hp3]
      have hp3l : p3 ≤ l.length := by omega
      clear hp3 hsp3 hlt hp2l
      by_cases hend : p3 = l.length
      · rw [if_pos (by rw [hz]; omega), List.drop_eq_nil_of_le (by omega)]; rfl
      · have hlt3 : p3 < l.length := by omega
        rw [if_neg (by rw [hz]; omega), if_pos (by omega), if_pos (by rw [hz]; omega), bt_ofL l p3 hlt3]
        by_cases hq : l[p3] = 34 ∨ l[p3] = 39
        · have hj := quot_place l n hl p3 k hlt3 (by omega) hq
          have e : (if (l[p3].toNat : Int) = 34 then breviaryref06_attribute.j0 k (ofL l) (p3 : Int) (ofL n) false else breviaryref06_attribute.j0 k (ofL l) (p3 : Int) (ofL n) ((l[p3].toNat : Int) != 39)) = breviaryref06_attribute.j0 k (ofL l) (p3 : Int) (ofL n) false := by
            rcases hq with h | h
            · rw [if_pos (by rw [h]; rfl)]
            · rw [if_neg (by rw [h]; decide), h]; rfl
          rw [e, hj]
          cases quot1 (l.drop p3) with
          | error e => rfl
          | ok tq => rfl
        · have h1 : ¬ ((l[p3].toNat : Int) = 34) := fun e => hq (.inl (UInt8.toNat_inj.1 (by show _ = 34; omega)))
          have h2 : ((l[p3].toNat : Int) != 39) = true := by rw [bne_iff_ne]; exact fun e => hq (.inr (UInt8.toNat_inj.1 (by show _ = 39; omega)))
          have hd3 : l.drop p3 = l[p3] :: l.drop (p3 + 1) := List.drop_eq_getElem_cons hlt3
          obtain ⟨k, rfl⟩ : ∃ x, k = x + 1 := ⟨k - 1, by omega⟩
          rw [if_neg h1, h2, breviaryref06_attribute.j0, if_pos rfl, hd3]
          unfold quot1 quotM
          dsimp only
          rw [if_neg hq]; rfl
end Go.Proofs.YtagihjlklbckmaaGreatDoor.Sc
namespace Go.Proofs.YtagihjlklbckmaaGreatDoor.Sc
set_option linter.unusedVariables false
set_option linter.unusedSimpArgs false
open Go.RowKit Go.Proofs.YtagihjlklbckmaaGreatDoorW.PrintWords Go.Proofs.YtagihjlklbckmaaGreatDoorW.PrintLast Go.Proofs.YtagihjlklbckmaaGreatDoorW.PrintMore Go.Proofs.YtagihjlklbckmaaGreatDoor.Bs
abbrev SA := S68
def aS (x : LB × LB) : SA := ⟨ofL x.1, ofL x.2⟩
theorem suf_len {q l : LB} (h : q <:+ l) : q.length ≤ l.length := h.length_le
theorem suf_drop {q l : LB} (h : q <:+ l) : q = l.drop (l.length - q.length) := List.suffix_iff_eq_drop.1 h
theorem suf_at {l q : LB} {p : Nat} (hp : p ≤ l.length) (h : q <:+ l.drop p) : q <:+ l ∧ q = l.drop (l.length - q.length) := by
  have h1 : q <:+ l := h.trans (List.drop_suffix p l)
  exact ⟨h1, suf_drop h1⟩
theorem quot_suf {s v r : LB} (h : quotM s = .ok (v, r)) : r <:+ s := by
  unfold quotM at h
  split at h
  · cases h
  · rename_i c r4
    split at h
    · rw [cut_byte] at h
      split at h
      · cases h
      · cases h
        exact (List.drop_suffix _ _).trans (List.suffix_cons _ _)
    · cases h
theorem must_suf {c : UInt8} {s r : LB} (h : mustM c s = .ok r) : r <:+ s := by
  rw [mustM_ok h]; exact List.suffix_cons _ _
theorem attr1_ok {s q : LB} {x : LB × LB} (h : attr1 s = .ok (x, q)) : q <:+ s := by
  unfold attr1 at h
  repeat' split at h
  all_goals first | (cases h; done) | skip
  rename_i n r hn _ r2 hm _ v r5 hq _ t he
  cases h
  have h1 := (nameM_ok hn).2
  subst h1
  exact (quot_suf hq).trans ((List.drop_suffix _ _).trans ((must_suf hm).trans ((List.drop_suffix _ _).trans (List.drop_suffix _ _))))
theorem attr1_err {s : LB} {e : Int} (h : attr1 s = .error e) : ¬ e = 0 := by
  unfold attr1 at h
  repeat' split at h
  all_goals first | (cases h; done) | skip
  · rename_i hn; cases h; exact nameM_err hn
  · rename_i hn; cases h; exact mustM_err hn
  · rename_i hn; cases h
    unfold quotM at hn
    repeat' split at hn
    all_goals first | (cases hn; done) | (cases hn; decide) | skip
    rw [cut_byte] at hn
    split at hn
    · cases hn; decide
    · cases hn
  · rename_i hn; cases h; exact escM_ne hn
theorem attrM_eq (l : List (LB × LB)) (s : LB) : attrM l s = match attr1 s with
  | .error k => .error k
  | .ok (x, q) => if twice x.1 l = true then .error 15 else if 8 ≤ l.length then .error 19 else .ok (x, q) := by
  unfold attrM attr1
  cases nameM s with
  | error k => rfl
  | ok nr =>
    obtain ⟨n, r⟩ := nr
    dsimp only
    cases mustM 61 (r.drop (spanN spaceR r)) with
    | error k => rfl
    | ok r2 =>
      dsimp only
      cases quotM (r2.drop (spanN spaceR r2)) with
      | error k => rfl
      | ok vr =>
        obtain ⟨v, r5⟩ := vr
        dsimp only
        cases escM blankB v with
        | error k => rfl
        | ok t => rfl
/-- What a start tag gives. -/
def placeS (l nm : LB) (r : Except Int ((List (LB × LB) × Bool) × LB)) (o : Option (Int × ByteArray × ByteArray × List SA × Bool × Int × Int)) : Prop := match r with
  | .error e => ∃ a b c d em p, o = some (a, b, c, d, em, p, e) ∧ ¬ e = 0
  | .ok ((av, em), q) => o = some (1, ofL nm, ⟨#[]⟩, av.map aS, em, ((l.length - q.length : Nat) : Int), 0) ∧ q <:+ l
theorem rd_map (av : List (LB × LB)) (i : Nat) (h : i < av.length) : rd_T68 (av.map aS) (i : Int) = aS av[i] := by
  unfold rd_T68
  rw [Int.toNat_natCast, List.getD_eq_getElem?_getD, List.getElem?_map, List.getElem?_eq_getElem h]; rfl
theorem twice_cons (n : LB) (a : LB × LB) (l : List (LB × LB)) : twice n (a :: l) = (a.1 == n || twice n l) := rfl
theorem twice_loop (l nm : LB) (av : List (LB × LB)) (x : LB × LB) (next : Int) (em : Bool) (h8 : av.length ≤ 8) : ∀ (m k i : Nat), i ≤ av.length → av.length ≤ i + m → m < k →
    breviaryref06_start.l1 k (ofL l) next (i : Int) 1 (ofL nm) ⟨#[]⟩ (av.map aS) em (ofL x.1) (ofL x.2) =
      if twice x.1 (av.drop i) = true then some (0, ⟨#[]⟩, ⟨#[]⟩, [], false, 0, 15) else if av.length = 8 then some (0, ⟨#[]⟩, ⟨#[]⟩, [], false, 0, 19)
      else breviaryref06_start.l0 (k - 1 - (av.length - i)) (ofL l) next 1 (ofL nm) ⟨#[]⟩ ((av ++ [x]).map aS) em
  | m, 0, i, hi, hm, hk => by omega
  | m, k + 1, i, hi, hm, hk => by
    have hlen : (av.map aS).length = av.length := List.length_map ..
    rw [breviaryref06_start.l1, hlen]
    by_cases hlt : i < av.length
    · obtain ⟨m, rfl⟩ : ∃ x, m = x + 1 := ⟨m - 1, by omega⟩
      have hd : av.drop i = av[i] :: av.drop (i + 1) := List.drop_eq_getElem_cons hlt
      rw [if_pos (by omega), if_pos (by omega), rd_map av i hlt, hd, twice_cons, show (aS av[i]).f0 = ofL av[i].1 from rfl, ofL_toList, ofL_toList]
      by_cases hn : av[i].1 = x.1
      · rw [if_pos hn, if_pos (by rw [beq_iff_eq.2 hn]; rfl)]
      · rw [if_neg hn, beq_eq_false_iff_ne.2 hn, Bool.false_or, wr1 i (by omega), twice_loop l nm av x next em h8 m k (i + 1) (by omega) (by omega) (by omega), show k + 1 - 1 - (av.length - i) = k - 1 - (av.length - (i + 1)) by omega]
    · have h0 : av.drop i = [] := List.drop_eq_nil_of_le (by omega)
      rw [if_neg (by omega), h0, if_neg (show ¬ twice x.1 [] = true from Bool.false_ne_true)]
      by_cases he : av.length = 8
      · rw [if_pos (by omega), if_pos he]
      · rw [if_neg (by omega), if_neg he, if_pos (by omega), show k + 1 - 1 - (av.length - i) = k by omega, List.map_append]; rfl
theorem placeA_err (l : LB) (e : Int) : placeA l (.error e) = (⟨#[]⟩, ⟨#[]⟩, 0, e) := rfl
theorem placeA_ok (l n t q : LB) : placeA l (.ok ((n, t), q)) = (ofL n, ofL t, ((l.length - q.length : Nat) : Int), 0) := rfl
theorem start_loop (l nm : LB) (hl : l.length ≤ 100000) : ∀ (n k pos : Nat) (av : List (LB × LB)), n + 1 + av.length = 9 → pos ≤ l.length → 20 * n + 4 * l.length + 300 ≤ k → textL (l.drop pos) = true →
    placeS l nm (startF (n + 1) av (l.drop pos)) (breviaryref06_start.l0 k (ofL l) (pos : Int) 1 (ofL nm) ⟨#[]⟩ (av.map aS) false)
  | n, 0, pos, av, hn, hp, hk, ht => by omega
  | n, k + 1, pos, av, hn, hp, hk, ht => by
    have hz := ofL_size l
    have hsp := spanN_le spaceR (l.drop pos)
    have ht2 := text_span spaceR _ _ (Nat.le_refl _) ht
    rw [List.length_drop] at hsp
    rw [startF_succ, breviaryref06_start.l0]
    unfold breviaryref06_Spaces.f
    rw [spaces_ref l (by omega) l.length k pos hp (by omega) (by omega), Option.bind_some]
    have hnil : (l.drop pos).take (spanN spaceR (l.drop pos)) = [] ↔ spanN spaceR (l.drop pos) = 0 := by
      rw [← List.length_eq_zero_iff, List.length_take, List.length_drop]; omega
    generalize (l.drop pos).take (spanN spaceR (l.drop pos)) = tk at *
    rw [List.drop_drop] at ht2 ⊢
    generalize spanN spaceR (l.drop pos) = sp at *
    obtain ⟨p, hpd⟩ : ∃ x, x = pos + sp := ⟨_, rfl⟩
    rw [← hpd] at ht2 ⊢
    have hpl : p ≤ l.length := by omega
    unfold startS
    by_cases hend : p = l.length
    · rw [List.drop_eq_nil_of_le (show l.length ≤ p by omega), if_pos (by rw [hz]; omega)]
      exact ⟨_, _, _, _, _, _, rfl, by decide⟩
    · have hlt : p < l.length := by omega
      have hd : l.drop p = l[p] :: l.drop (p + 1) := List.drop_eq_getElem_cons hlt
      rw [hd]
      dsimp only
      rw [if_neg (show ¬ ((p : Int) = ((ofL l).size : Int)) by rw [hz]; omega), if_pos (show (0 : Int) ≤ (p : Int) by omega), if_pos (show (p : Int) < ((ofL l).size : Int) by rw [hz]; omega), bt_ofL l p hlt]
      by_cases c1 : l[p] = 62
      · rw [if_pos (show (l[p].toNat : Int) = 62 by rw [c1]; rfl), if_neg (show ¬ l[p] = 47 by rw [c1]; decide), if_pos c1, wr1 p (by omega)]
        refine ⟨?_, List.drop_suffix _ _⟩
        rw [List.length_drop, show l.length - (l.length - (p + 1)) = p + 1 by omega]
      · rw [if_neg (show ¬ (l[p].toNat : Int) = 62 from fun e => c1 (UInt8.toNat_inj.1 (by show _ = 62; omega)))]
        by_cases c2 : l[p] = 47
        · have hw2 : wrap64 ((p : Int) + 2) = ((p + 2 : Nat) : Int) := by rw [w64 _ (by omega)]; omega
          rw [if_pos (show (l[p].toNat : Int) = 47 by rw [c2]; rfl), if_pos c2, wr1 p (by omega), hw2]
          clear hw2
          have hm : breviaryref06_must.f (ofL l) ((p + 1 : Nat) : Int) 62 = _ := must_place l (p + 1) (by omega) 62
          rw [hm, Option.bind_some]
          clear hm
          cases hm2 : mustM 62 (l.drop (p + 1)) with
          | error e => exact ⟨_, _, _, _, _, _, rfl, mustM_err hm2⟩
          | ok q =>
            have hq := mustM_ok hm2
            have hql := congrArg List.length hq
            rw [List.length_drop, List.length_cons] at hql
            refine ⟨?_, (must_suf hm2).trans (List.drop_suffix _ _)⟩
            rw [show l.length - q.length = p + 2 by omega]
        · rw [if_neg (show ¬ (l[p].toNat : Int) = 47 from fun e => c2 (UInt8.toNat_inj.1 (by show _ = 47; omega))), if_neg c2, if_neg c1]
          by_cases h0 : sp = 0
          · rw [if_pos (show (p : Int) = (pos : Int) by omega), if_pos (hnil.2 h0)]
            exact ⟨_, _, _, _, _, _, rfl, by decide⟩
          · rw [if_neg (show ¬ (p : Int) = (pos : Int) by omega), if_neg (fun e => h0 (hnil.1 e)), ← hd, attr_place l hl p k hpl (by omega) ht2, Option.bind_some]
            cases ha : attrM av (l.drop p) with
            | error e =>
              rw [attrM_eq] at ha
              cases h1 : attr1 (l.drop p) with
              | error e1 =>
                rw [h1] at ha
                cases ha
                rw [placeA_err]
                dsimp only
                rw [if_neg (attr1_err h1)]
                exact ⟨_, _, _, _, _, _, rfl, attr1_err h1⟩
              | ok xq =>
                obtain ⟨⟨n1, t1⟩, q⟩ := xq
                rw [h1] at ha
                dsimp only at ha
                rw [placeA_ok]
                dsimp only
                have htl := twice_loop l nm av (n1, t1) ((l.length - q.length : Nat) : Int) false (by omega) av.length k 0 (by omega) (by omega) (by omega)
                rw [List.drop_zero] at htl
                rw [if_pos rfl]
                dsimp only at htl
                rw [show ((0 : Nat) : Int) = 0 from rfl] at htl
                rw [htl]
                by_cases htw : twice n1 av = true
                · rw [if_pos htw] at ha ⊢
                  cases ha
                  exact ⟨_, _, _, _, _, _, rfl, by decide⟩
                · rw [if_neg htw] at ha ⊢
                  by_cases h8 : av.length = 8
                  · rw [if_pos (by omega)] at ha
                    rw [if_pos h8]
                    cases ha
                    exact ⟨_, _, _, _, _, _, rfl, by decide⟩
                  · rw [if_neg (by omega)] at ha
                    cases ha
            | ok xq =>
              obtain ⟨⟨n1, t1⟩, q⟩ := xq
              have hok := attr_ok ha ht2
              rw [attrM_eq] at ha
              cases h1 : attr1 (l.drop p) with
              | error e1 => rw [h1] at ha; cases ha
              | ok xq2 =>
                obtain ⟨⟨n2, t2⟩, q2⟩ := xq2
                rw [h1] at ha
                dsimp only at ha
                by_cases htw : twice n2 av = true
                · rw [if_pos htw] at ha; cases ha
                · rw [if_neg htw] at ha
                  by_cases h8 : 8 ≤ av.length
                  · rw [if_pos h8] at ha; cases ha
                  · rw [if_neg h8] at ha
                    cases ha
                    obtain ⟨n, rfl⟩ : ∃ x, n = x + 1 := ⟨n - 1, by omega⟩
                    have hsf := suf_at hpl (attr1_ok h1)
                    have hqle := suf_len hsf.1
                    rw [placeA_ok]
                    dsimp only
                    have htl := twice_loop l nm av (n1, t1) ((l.length - q.length : Nat) : Int) false (by omega) av.length k 0 (by omega) (by omega) (by omega)
                    rw [List.drop_zero] at htl
                    dsimp only at htl
                    rw [show ((0 : Nat) : Int) = 0 from rfl, if_neg htw, if_neg (show ¬ av.length = 8 by omega)] at htl
                    rw [if_pos rfl, htl]
                    have hih := start_loop l nm hl n (k - 1 - (av.length - 0)) (l.length - q.length) (av ++ [(n1, t1)]) (by rw [List.length_append, List.length_singleton]; omega) (by omega) (by omega) (by rw [← hsf.2]; exact hok.2.2.2)
                    rw [← hsf.2] at hih
                    exact hih
/-- What stands at a place. -/
def placeT (l : LB) (r : Except Int (Tok × LB)) (o : Option (Int × ByteArray × ByteArray × List SA × Bool × Int × Int)) : Prop := match r with
  | .error e => ∃ a b c d em p, o = some (a, b, c, d, em, p, e) ∧ ¬ e = 0
  | .ok (t, q) => o = some (t.kind, ofL t.name, ofL t.text, t.attrs.map aS, t.empty, ((l.length - q.length : Nat) : Int), 0) ∧ q <:+ l
theorem start_place (l : LB) (hl : l.length ≤ 100000) (pos k : Nat) (hp : pos ≤ l.length) (hk : 4 * l.length + 500 ≤ k) (ht : textL (l.drop pos) = true) :
    placeT l (startM (l.drop pos)) (breviaryref06_start.f k (ofL l) (pos : Int)) := by
  have hz := ofL_size l
  unfold breviaryref06_start.f startM
  rw [name_place l (by omega) pos k hp (by omega) ht, Option.bind_some]
  cases hn : nameM (l.drop pos) with
  | error e =>
    dsimp only
    rw [if_neg (nameM_err hn)]
    exact ⟨_, _, _, _, _, _, rfl, nameM_err hn⟩
  | ok nr =>
    obtain ⟨n, r⟩ := nr
    have ht2 := (name_ok hn ht).2
    obtain ⟨rfl, rfl⟩ := nameM_ok hn
    clear hn
    have hsp := spanN_le partR (l.drop pos)
    rw [List.length_drop] at hsp
    rw [List.drop_drop] at ht2 ⊢
    dsimp only
    generalize spanN partR (l.drop pos) = sp at *
    have hx : ((ofL l).extract pos (pos + sp)) = ofL ((l.drop pos).take sp) := by
      rw [ofL_extract, List.drop_take, show pos + sp - pos = sp by omega]
    rw [if_pos rfl, if_pos (by omega), if_pos (by omega), if_pos (by rw [hz]; omega), Int.toNat_natCast, Int.toNat_natCast, hx]
    generalize (l.drop pos).take sp = nm at *
    have h := start_loop l nm hl 8 k (pos + sp) [] (by simp) (by omega) (by omega) ht2
    cases hs : startF 9 [] (l.drop (pos + sp)) with
    | error e => rw [hs] at h; exact h
    | ok q =>
      obtain ⟨⟨av, em⟩, q⟩ := q
      rw [hs] at h; exact h
end Go.Proofs.YtagihjlklbckmaaGreatDoor.Sc
namespace Go.Proofs.YtagihjlklbckmaaGreatDoor.Sc
set_option linter.unusedVariables false
set_option linter.unusedSimpArgs false
open Go.RowKit Go.Proofs.YtagihjlklbckmaaGreatDoorW.PrintWords Go.Proofs.YtagihjlklbckmaaGreatDoorW.PrintLast Go.Proofs.YtagihjlklbckmaaGreatDoorW.PrintMore Go.Proofs.YtagihjlklbckmaaGreatDoor.Bs
theorem upTo_eq (s t : LB) : upToM t s = if Lib.index s t = -1 then .error 16 else .ok (s.take (Lib.index s t).toNat, s.drop ((Lib.index s t).toNat + t.length)) := by
  have hge := Lib.index_ge s t
  unfold upToM
  by_cases h : Lib.index s t = -1
  · have e : Lib.cut s t = (s, [], false) := by unfold Lib.cut; rw [if_neg (by omega)]
    rw [e, if_pos h]; rfl
  · have e : Lib.cut s t = (s.take (Lib.index s t).toNat, s.drop ((Lib.index s t).toNat + t.length), true) := by unfold Lib.cut; rw [if_pos (by omega)]
    rw [e, if_neg h]; rfl
theorem index_one (c : UInt8) : ∀ s : LB, Lib.index s [c] = Lib.indexByte s c
  | [] => rfl
  | b :: s => by
    rw [Lib.index, Lib.indexByte, index_one c s]
    by_cases h : b = c
    · subst h; rw [if_pos (by simp), if_pos (by simp)]
    · have e : List.isPrefixOf [c] (b :: s) = false := no_pre c b s h
      rw [e, if_neg Bool.false_ne_true, if_neg (show ¬ (b == c) = true by rw [beq_iff_eq]; exact h)]
theorem pre_len {l p : LB} {pos : Nat} (hp : pos ≤ l.length) (h : Lib.hasPrefix (l.drop pos) p = true) : pos + p.length ≤ l.length := by
  obtain ⟨r, hr⟩ := List.isPrefixOf_iff_prefix.1 h
  have := congrArg List.length hr
  rw [List.length_append, List.length_drop] at this
  omega
theorem wrn (p c : Nat) (h : p ≤ 100000000) (hc : c ≤ 1000) : wrap64 ((p : Int) + (c : Int)) = ((p + c : Nat) : Int) := by rw [w64 _ (by omega)]; omega
/-- What the document finds is where the program cuts. -/
theorem find_place (l t : LB) (hl : l.length ≤ 100000) (ht : t ≠ []) (htl : t.length ≤ 1000) (k p : Nat) (hp : p ≤ l.length) (hk : l.length < k) :
    (upToM t (l.drop p) = .error 16 ∧ breviaryref06_Find.f k (ofL l) (p : Int) (ofL t) = some (-1)) ∨
    ∃ i : Nat, p + i + t.length ≤ l.length ∧ upToM t (l.drop p) = .ok ((l.drop p).take i, l.drop (p + i + t.length)) ∧ breviaryref06_Find.f k (ofL l) (p : Int) (ofL t) = some ((p + i : Nat) : Int) ∧ l.drop (p + i) = t ++ l.drop (p + i + t.length) := by
  have hf := find_ref l t (by omega) ht htl l.length k p hp (by omega) (by omega)
  have hge := Lib.index_ge (l.drop p) t
  have hroom := Lib.index_room (l.drop p) t
  rw [List.length_drop] at hroom
  unfold breviaryref06_Find.f
  rw [upTo_eq, hf]
  have hsp : ∀ i : Nat, Lib.index (l.drop p) t = i → l.drop (p + i) = t ++ l.drop (p + i + t.length) := by
    intro i hi
    have hc : (Lib.cut (l.drop p) t).2.2 = true := by
      unfold Lib.cut; rw [if_pos (by omega)]
    have h := cut_split hc
    have e : Lib.cut (l.drop p) t = ((l.drop p).take i, (l.drop p).drop (i + t.length), true) := by
      unfold Lib.cut; rw [if_pos (by omega), hi, Int.toNat_natCast]
    rw [e] at h
    have h2 : (l.drop p).drop i = t ++ (l.drop p).drop (i + t.length) := by
      have h3 := List.take_append_drop i (l.drop p)
      exact List.append_cancel_left (h3.trans h)
    rw [List.drop_drop, List.drop_drop] at h2
    rw [h2, Nat.add_assoc]
  generalize Lib.index (l.drop p) t = i at *
  by_cases hi : i = -1
  · left; rw [if_pos hi, if_pos hi]; exact ⟨rfl, rfl⟩
  · obtain ⟨i, rfl⟩ : ∃ x : Nat, i = x := ⟨i.toNat, by omega⟩
    right
    have := hroom (by omega)
    refine ⟨i, by omega, ?_, ?_, hsp i rfl⟩
    · rw [if_neg hi, Int.toNat_natCast, List.drop_drop, Nat.add_assoc]
    · rw [if_neg hi]; exact congrArg some (by omega)
theorem text_place (l : LB) (hl : l.length ≤ 100000) (pos k : Nat) (hp : pos < l.length) (hk : 4 * l.length + 600 ≤ k) (hne : ¬ l[pos] = 60) (ht : textL (l.drop pos) = true) :
    placeT l (pieceM (l.drop pos)) (breviaryref06_one.f k (ofL l) (pos : Int)) := by
  have hz := ofL_size l
  have hd : l.drop pos = l[pos] :: l.drop (pos + 1) := List.drop_eq_getElem_cons hp
  have hpm : pieceM (l.drop pos) = textMk (l.drop pos) := by
    rw [hd]; unfold pieceM; dsimp only; rw [if_neg hne]
  have h60 : ¬ (bt (ofL l) (pos : Int) = 60) := by
    rw [bt_ofL l pos hp]; exact fun e => hne (UInt8.toNat_inj.1 (by show _ = 60; omega))
  unfold breviaryref06_one.f
  rw [hpm, if_pos (show (0 : Int) ≤ (pos : Int) by omega), if_pos (show (pos : Int) < ((ofL l).size : Int) by rw [hz]; omega), if_neg h60]
  clear hpm h60 hd
  have hf : breviaryref06_Find.f k (ofL l) (pos : Int) ⟨#[60]⟩ = _ := find_ref l [60] (by omega) (by simp) (by simp) l.length k pos (by omega) (by omega) (by omega)
  have hge := Lib.index_ge (l.drop pos) [60]
  have hroom := Lib.index_room (l.drop pos) [60]
  rw [List.length_drop, List.length_singleton] at hroom
  rw [hf, Option.bind_some]
  unfold textMk cutAt
  rw [← index_one]
  clear hf
  generalize Lib.index (l.drop pos) [60] = i at *
  by_cases hi : i = -1
  · have hz2 : ((ofL l).size : Int).toNat = l.length := by rw [hz]; omega
    rw [if_pos hi, if_pos (show (-1 : Int) < 0 by decide), if_pos (show i < 0 by omega), if_pos (show (pos : Int) ≤ ((ofL l).size : Int) by rw [hz]; omega), if_pos (Int.le_refl _), Int.toNat_natCast, hz2, ofL_extract, List.take_length, List.take_length, get_ref _ (by rw [List.length_drop]; omega) false k (by rw [List.length_drop]; omega), Option.bind_some, show plOf false = id from rfl]
    cases he : escM id (l.drop pos) with
    | error e => exact ⟨_, _, _, _, _, _, rfl, escM_ne he⟩
    | ok t =>
      refine ⟨?_, by rw [List.drop_drop]; exact List.drop_suffix _ _⟩
      rw [List.drop_drop, List.length_drop, List.length_drop, hz, show l.length - (l.length - (pos + (l.length - pos))) = l.length by omega]; rfl
  · obtain ⟨i, rfl⟩ : ∃ x : Nat, i = x := ⟨i.toNat, by omega⟩
    have hr := hroom (by omega)
    clear hroom
    have hlen : ((l.drop pos).take i).length ≤ l.length := by
      have h1 := List.length_take_le' i (l.drop pos)
      rw [List.length_drop] at h1
      omega
    rw [if_neg hi, if_neg (show ¬ (pos : Int) + (i : Int) < 0 by omega), if_neg (show ¬ (i : Int) < 0 by omega), show (pos : Int) + (i : Int) = ((pos + i : Nat) : Int) by omega, if_pos (show (pos : Int) ≤ ((pos + i : Nat) : Int) by omega), if_pos (show ((pos + i : Nat) : Int) ≤ ((ofL l).size : Int) by rw [hz]; omega), Int.toNat_natCast, Int.toNat_natCast, Int.toNat_natCast, ofL_extract, List.drop_take, show pos + i - pos = i by omega, get_ref _ (by omega) false k (by omega), Option.bind_some, show plOf false = id from rfl]
    cases he : escM id ((l.drop pos).take i) with
    | error e => exact ⟨_, _, _, _, _, _, rfl, escM_ne he⟩
    | ok t =>
      refine ⟨?_, by rw [List.drop_drop]; exact List.drop_suffix _ _⟩
      rw [List.drop_drop, List.length_drop, show l.length - (l.length - (pos + i)) = pos + i by omega]; rfl
theorem piM_err {a : LB} {e : Int} (h : piM a = .error e) : ¬ e = 0 := by
  unfold piM at h
  repeat' split at h
  all_goals first | (cases h; done) | (cases h; decide)
end Go.Proofs.YtagihjlklbckmaaGreatDoor.Sc
namespace Go.Proofs.YtagihjlklbckmaaGreatDoor.Sc
set_option linter.unusedVariables false
set_option linter.unusedSimpArgs false
open Go.RowKit Go.Proofs.YtagihjlklbckmaaGreatDoorW.PrintWords Go.Proofs.YtagihjlklbckmaaGreatDoorW.PrintLast Go.Proofs.YtagihjlklbckmaaGreatDoorW.PrintMore Go.Proofs.YtagihjlklbckmaaGreatDoor.Bs
theorem cut_text (l : LB) (a b : Nat) : (ofL l).extract a (a + b) = ofL ((l.drop a).take b) := by
  rw [ofL_extract, List.drop_take, show a + b - a = b by omega]
set_option maxHeartbeats 1000000 in
theorem markup_place (l : LB) (hl : l.length ≤ 100000) (pos k : Nat) (hp : pos < l.length) (hk : 4 * l.length + 600 ≤ k) (h60 : l[pos] = 60) (ht : textL (l.drop pos) = true) :
    placeT l (pieceM (l.drop pos)) (breviaryref06_one.f k (ofL l) (pos : Int)) := by
  have hz := ofL_size l
  have hpm : pieceM (l.drop pos) = sortM (l.drop pos) 4 0 := by
    rw [List.drop_eq_getElem_cons hp]; unfold pieceM; dsimp only; rw [if_pos h60]
  have hb60 : bt (ofL l) (pos : Int) = 60 := by rw [bt_ofL l pos hp, h60]; rfl
  have b0 : breviaryref06_begins.f (ofL l) (pos : Int) ⟨#[60, 33, 45, 45]⟩ = some (Lib.hasPrefix (l.drop pos) (preM 0)) := begins_ref l (preM 0) (by omega) (by decide) pos (by omega)
  have b1 : breviaryref06_begins.f (ofL l) (pos : Int) ⟨#[60, 33, 91, 67, 68, 65, 84, 65, 91]⟩ = some (Lib.hasPrefix (l.drop pos) (preM 1)) := begins_ref l (preM 1) (by omega) (by decide) pos (by omega)
  have b2 : breviaryref06_begins.f (ofL l) (pos : Int) ⟨#[60, 63]⟩ = some (Lib.hasPrefix (l.drop pos) (preM 2)) := begins_ref l (preM 2) (by omega) (by decide) pos (by omega)
  have b3 : breviaryref06_begins.f (ofL l) (pos : Int) ⟨#[60, 47]⟩ = some (Lib.hasPrefix (l.drop pos) (preM 3)) := begins_ref l (preM 3) (by omega) (by decide) pos (by omega)
  have b4 : breviaryref06_begins.f (ofL l) (pos : Int) ⟨#[60, 33]⟩ = some (Lib.hasPrefix (l.drop pos) [60, 33]) := begins_ref l [60, 33] (by omega) (by decide) pos (by omega)
  unfold breviaryref06_one.f
  rw [hpm, if_pos (show (0 : Int) ≤ (pos : Int) by omega), if_pos (show (pos : Int) < ((ofL l).size : Int) by rw [hz]; omega), if_pos hb60, b0, Option.bind_some, sortM]
  clear hpm hb60 b0
  by_cases p0 : Lib.hasPrefix (l.drop pos) (preM 0) = true
  · have hlen : pos + 4 ≤ l.length := pre_len (Nat.le_of_lt hp) p0
    rw [if_pos p0, if_pos p0, show (wrap64 ((pos : Int) + 4)) = ((pos + 4 : Nat) : Int) from wrn pos 4 (by omega) (by omega)]
    clear b1 b2 b3 b4 p0
    show placeT l (commentM ((l.drop pos).drop 4)) _
    rw [List.drop_drop]
    unfold commentM
    rcases find_place l [45, 45] hl (by simp) (by simp) k (pos + 4) hlen (by omega) with ⟨hu, hf⟩ | ⟨i, hi, hu, hf, hs⟩
    · rw [hu, show breviaryref06_Find.f k (ofL l) ((pos + 4 : Nat) : Int) ⟨#[45, 45]⟩ = some (-1) from hf, Option.bind_some, if_pos (show (-1 : Int) < 0 by decide)]
      exact ⟨_, _, _, _, _, _, rfl, by decide⟩
    · rw [show ([45, 45] : LB).length = 2 from rfl] at hi hu hs
      have hb : breviaryref06_begins.f (ofL l) ((pos + 4 + i : Nat) : Int) ⟨#[45, 45, 62]⟩ = some (Lib.hasPrefix (l.drop (pos + 4 + i)) [45, 45, 62]) := begins_ref l [45, 45, 62] (by omega) (by decide) (pos + 4 + i) (by omega)
      rw [hu, show breviaryref06_Find.f k (ofL l) ((pos + 4 : Nat) : Int) ⟨#[45, 45]⟩ = some ((pos + 4 + i : Nat) : Int) from hf, Option.bind_some, if_neg (show ¬ (((pos + 4 + i : Nat) : Int) < 0) by omega), hb, Option.bind_some, hs]
      clear hu hf hb hs
      dsimp only
      cases hr : l.drop (pos + 4 + i + 2) with
      | nil =>
        rw [if_neg (by decide)]
        exact ⟨_, _, _, _, _, _, rfl, by decide⟩
      | cons c q =>
        have hq : q = l.drop (pos + 4 + i + 3) := by
          have h := congrArg (List.drop 1) hr
          rw [List.drop_drop] at h
          exact h.symm
        have hcl := congrArg List.length hr
        rw [List.length_drop, List.length_cons] at hcl
        by_cases hc : c = 62
        · subst hc
          dsimp only
          rw [if_pos rfl, if_pos (show Lib.hasPrefix ([45, 45] ++ 62 :: q) [45, 45, 62] = true by simp [Lib.hasPrefix]), if_pos (show (0 : Int) ≤ ((pos + 4 : Nat) : Int) by omega), if_pos (show ((pos + 4 : Nat) : Int) ≤ ((pos + 4 + i : Nat) : Int) by omega), if_pos (show ((pos + 4 + i : Nat) : Int) ≤ ((ofL l).size : Int) by rw [hz]; omega), Int.toNat_natCast, Int.toNat_natCast, cut_text, show (wrap64 (((pos + 4 + i : Nat) : Int) + 3)) = ((pos + 4 + i + 3 : Nat) : Int) from wrn (pos + 4 + i) 3 (by omega) (by omega)]
          refine ⟨?_, by rw [hq]; exact List.drop_suffix _ _⟩
          rw [show l.length - q.length = pos + 4 + i + 3 by omega]; rfl
        · dsimp only
          rw [if_neg hc, if_neg (show ¬ Lib.hasPrefix ([45, 45] ++ c :: q) [45, 45, 62] = true by simp [Lib.hasPrefix, Ne.symm hc])]
          exact ⟨_, _, _, _, _, _, rfl, by decide⟩
  rw [if_neg p0, if_neg p0, b1, Option.bind_some, sortM]
  clear b1 p0
  by_cases p1 : Lib.hasPrefix (l.drop pos) (preM 1) = true
  · have hlen : pos + 9 ≤ l.length := pre_len (Nat.le_of_lt hp) p1
    rw [if_pos p1, if_pos p1, show (wrap64 ((pos : Int) + 9)) = ((pos + 9 : Nat) : Int) from wrn pos 9 (by omega) (by omega)]
    clear b2 b3 b4 p1
    show placeT l (cdataM ((l.drop pos).drop 9)) _
    rw [List.drop_drop]
    unfold cdataM
    rcases find_place l [93, 93, 62] hl (by simp) (by simp) k (pos + 9) hlen (by omega) with ⟨hu, hf⟩ | ⟨i, hi, hu, hf, hs⟩
    · rw [hu, show breviaryref06_Find.f k (ofL l) ((pos + 9 : Nat) : Int) ⟨#[93, 93, 62]⟩ = some (-1) from hf, Option.bind_some, if_pos (show (-1 : Int) < 0 by decide)]
      exact ⟨_, _, _, _, _, _, rfl, by decide⟩
    · rw [show ([93, 93, 62] : LB).length = 3 from rfl] at hi hu hs
      rw [hu, show breviaryref06_Find.f k (ofL l) ((pos + 9 : Nat) : Int) ⟨#[93, 93, 62]⟩ = some ((pos + 9 + i : Nat) : Int) from hf, Option.bind_some, if_neg (show ¬ (((pos + 9 + i : Nat) : Int) < 0) by omega), if_pos (show (0 : Int) ≤ ((pos + 9 : Nat) : Int) by omega), if_pos (show ((pos + 9 : Nat) : Int) ≤ ((pos + 9 + i : Nat) : Int) by omega), if_pos (show ((pos + 9 + i : Nat) : Int) ≤ ((ofL l).size : Int) by rw [hz]; omega), Int.toNat_natCast, Int.toNat_natCast, cut_text, show (wrap64 (((pos + 9 + i : Nat) : Int) + 3)) = ((pos + 9 + i + 3 : Nat) : Int) from wrn (pos + 9 + i) 3 (by omega) (by omega)]
      refine ⟨?_, List.drop_suffix _ _⟩
      rw [List.length_drop, show l.length - (l.length - (pos + 9 + i + 3)) = pos + 9 + i + 3 by omega]; rfl
  rw [if_neg p1, if_neg p1, b2, Option.bind_some, sortM]
  clear b2 p1
  by_cases p2 : Lib.hasPrefix (l.drop pos) (preM 2) = true
  · have hlen : pos + 2 ≤ l.length := pre_len (Nat.le_of_lt hp) p2
    have ht2 : textL ((l.drop pos).drop 2) = true := pre_text p2 (preM_low 2) ht
    rw [if_pos p2, if_pos p2, show (wrap64 ((pos : Int) + 2)) = ((pos + 2 : Nat) : Int) from wrn pos 2 (by omega) (by omega)]
    clear b3 b4 p2
    show placeT l (instrM ((l.drop pos).drop 2)) _
    rw [List.drop_drop] at ht2 ⊢
    unfold instrM
    rcases find_place l [63, 62] hl (by simp) (by simp) k (pos + 2) hlen (by omega) with ⟨hu, hf⟩ | ⟨i, hi, hu, hf, hs⟩
    · rw [hu, show breviaryref06_Find.f k (ofL l) ((pos + 2 : Nat) : Int) ⟨#[63, 62]⟩ = some (-1) from hf, Option.bind_some, if_pos (show (-1 : Int) < 0 by decide)]
      exact ⟨_, _, _, _, _, _, rfl, by decide⟩
    · have hta := (upTo_ok (by decide) (by decide) hu ht2).1
      rw [show ([63, 62] : LB).length = 2 from rfl] at hi hu hs
      have hal : ((l.drop (pos + 2)).take i).length ≤ l.length := by
        have h1 := List.length_take_le' i (l.drop (pos + 2))
        rw [List.length_drop] at h1
        omega
      obtain ⟨k, rfl⟩ : ∃ x, k = x + 1 := ⟨k - 1, by omega⟩
      rw [hu, show breviaryref06_Find.f (k + 1) (ofL l) ((pos + 2 : Nat) : Int) ⟨#[63, 62]⟩ = some ((pos + 2 + i : Nat) : Int) from hf, Option.bind_some, if_neg (show ¬ (((pos + 2 + i : Nat) : Int) < 0) by omega), if_pos (show (0 : Int) ≤ ((pos + 2 : Nat) : Int) by omega), if_pos (show ((pos + 2 : Nat) : Int) ≤ ((pos + 2 + i : Nat) : Int) by omega), if_pos (show ((pos + 2 + i : Nat) : Int) ≤ ((ofL l).size : Int) by rw [hz]; omega), Int.toNat_natCast, Int.toNat_natCast, cut_text, pi_place _ (by omega) k (by omega) hta, Option.bind_some, show (wrap64 (((pos + 2 + i : Nat) : Int) + 2)) = ((pos + 2 + i + 2 : Nat) : Int) from wrn (pos + 2 + i) 2 (by omega) (by omega)]
      clear hu hf hs hta
      dsimp only
      cases hpi : piM ((l.drop (pos + 2)).take i) with
      | error e => exact ⟨_, _, _, _, _, _, rfl, piM_err hpi⟩
      | ok tr =>
        obtain ⟨t, rest⟩ := tr
        refine ⟨?_, List.drop_suffix _ _⟩
        rw [List.length_drop, show l.length - (l.length - (pos + 2 + i + 2)) = pos + 2 + i + 2 by omega]; rfl
  rw [if_neg p2, if_neg p2, b3, Option.bind_some, sortM]
  clear b3 p2
  by_cases p3 : Lib.hasPrefix (l.drop pos) (preM 3) = true
  · have hlen : pos + 2 ≤ l.length := pre_len (Nat.le_of_lt hp) p3
    have ht2 : textL ((l.drop pos).drop 2) = true := pre_text p3 (preM_low 3) ht
    rw [if_pos p3, if_pos p3, show (wrap64 ((pos : Int) + 2)) = ((pos + 2 : Nat) : Int) from wrn pos 2 (by omega) (by omega)]
    clear b4 p3
    show placeT l (endM ((l.drop pos).drop 2)) _
    rw [List.drop_drop] at ht2 ⊢
    unfold endM
    rw [name_place l (by omega) (pos + 2) k hlen (by omega) ht2, Option.bind_some]
    cases hn : nameM (l.drop (pos + 2)) with
    | error e =>
      dsimp only
      rw [if_neg (nameM_err hn)]
      exact ⟨_, _, _, _, _, _, rfl, nameM_err hn⟩
    | ok nr =>
      obtain ⟨n, r⟩ := nr
      obtain ⟨rfl, rfl⟩ := nameM_ok hn
      clear hn ht2
      have hsp := spanN_le partR (l.drop (pos + 2))
      rw [List.length_drop] at hsp
      rw [List.drop_drop]
      dsimp only
      generalize spanN partR (l.drop (pos + 2)) = sp at *
      have hsp2 := spanN_le spaceR (l.drop (pos + 2 + sp))
      rw [List.length_drop] at hsp2
      unfold breviaryref06_Spaces.f
      rw [if_pos rfl, spaces_ref l (by omega) l.length k (pos + 2 + sp) (by omega) (by omega) (by omega), Option.bind_some, if_pos (show (0 : Int) ≤ ((pos + 2 : Nat) : Int) by omega), if_pos (show ((pos + 2 : Nat) : Int) ≤ ((pos + 2 + sp : Nat) : Int) by omega), if_pos (show ((pos + 2 + sp : Nat) : Int) ≤ ((ofL l).size : Int) by rw [hz]; omega), Int.toNat_natCast, Int.toNat_natCast, cut_text, List.drop_drop]
      generalize (l.drop (pos + 2)).take sp = nm at *
      generalize spanN spaceR (l.drop (pos + 2 + sp)) = s2 at *
      obtain ⟨p2, hp2⟩ : ∃ x, x = pos + 2 + sp + s2 := ⟨_, rfl⟩
      rw [← hp2]
      have hp2l : p2 ≤ l.length := by omega
      clear hp2 hsp2 hsp
      have hm : breviaryref06_must.f (ofL l) (p2 : Int) 62 = _ := must_place l p2 hp2l 62
      rw [hm, Option.bind_some, wr1 p2 (by omega)]
      clear hm
      cases hm2 : mustM 62 (l.drop p2) with
      | error e => exact ⟨_, _, _, _, _, _, rfl, mustM_err hm2⟩
      | ok q =>
        have hql := congrArg List.length (mustM_ok hm2)
        rw [List.length_drop, List.length_cons] at hql
        refine ⟨?_, (must_suf hm2).trans (List.drop_suffix _ _)⟩
        rw [show l.length - q.length = p2 + 1 by omega]; rfl
  rw [if_neg p3, if_neg p3, b4, Option.bind_some, sortM]
  clear b4 p3
  by_cases p4 : Lib.hasPrefix (l.drop pos) [60, 33] = true
  · rw [if_pos p4, if_pos p4]
    exact ⟨_, _, _, _, _, _, rfl, by decide⟩
  · have ht1 : textL (l.drop (pos + 1)) = true := by
      rw [List.drop_eq_getElem_cons hp] at ht
      exact text_tail (by rw [h60]; decide) ht
    have h := start_place l hl (pos + 1) k (by omega) (by omega) ht1
    rw [if_neg p4, if_neg p4, List.drop_drop, wr1 pos (by omega)]
    cases hs : startM (l.drop (pos + 1)) with
    | error e =>
      rw [hs] at h
      obtain ⟨a, b, c, d, em, p, h1, h2⟩ := h
      rw [h1]
      exact ⟨_, _, _, _, _, _, rfl, h2⟩
    | ok tq =>
      obtain ⟨t, q⟩ := tq
      rw [hs] at h
      rw [h.1]
      exact ⟨rfl, h.2⟩
theorem piece_place (l : LB) (hl : l.length ≤ 100000) (pos k : Nat) (hp : pos < l.length) (hk : 4 * l.length + 600 ≤ k) (ht : textL (l.drop pos) = true) :
    placeT l (pieceM (l.drop pos)) (breviaryref06_one.f k (ofL l) (pos : Int)) := by
  by_cases h : l[pos] = 60
  · exact markup_place l hl pos k hp hk h ht
  · exact text_place l hl pos k hp hk h ht
end Go.Proofs.YtagihjlklbckmaaGreatDoor.Sc
namespace Go.Proofs.YtagihjlklbckmaaGreatDoor.Sc
set_option linter.unusedVariables false
set_option linter.unusedSimpArgs false
open Go.RowKit Go.Proofs.YtagihjlklbckmaaGreatDoorW.PrintWords Go.Proofs.YtagihjlklbckmaaGreatDoorW.PrintLast Go.Proofs.YtagihjlklbckmaaGreatDoorW.PrintMore Go.Proofs.YtagihjlklbckmaaGreatDoor.Bs
abbrev ST := S33
def tS (t : Tok) : ST := ⟨t.kind, ofL t.name, ofL t.text, t.attrs.map aS, t.empty⟩
def scanR (r : Except Int (List Tok)) : List ST × Int := match r with
  | .error e => ([], e)
  | .ok ts => (ts.map tS, 0)
theorem scan_loop (l : LB) (hl : l.length ≤ 100000) : ∀ (n k pos : Nat) (toks : List Tok), pos ≤ l.length → l.length ≤ pos + n → n + 4 * l.length + 700 ≤ k → textL (l.drop pos) = true → toks.length ≤ pos →
    breviaryref06_Scan.l0 k (ofL l) (toks.map tS) (pos : Int) = some (scanR (scanF n toks (l.drop pos)))
  | n, 0, pos, toks, hp, hn, hk, ht, hto => by omega
  | 0, k + 1, pos, toks, hp, hn, hk, ht, hto => by
    have hz := ofL_size l
    rw [breviaryref06_Scan.l0, if_neg (by rw [hz]; omega), List.drop_eq_nil_of_le (by omega), scanF_nil]; rfl
  | n + 1, k + 1, pos, toks, hp, hn, hk, ht, hto => by
    have hz := ofL_size l
    rw [breviaryref06_Scan.l0]
    by_cases hlt : pos < l.length
    · have hd : l.drop pos = l[pos] :: l.drop (pos + 1) := List.drop_eq_getElem_cons hlt
      have hpl := piece_place l hl pos k hlt (by omega) ht
      rw [if_pos (by rw [hz]; omega), hd, scanF_cons, ← hd]
      cases hpm : pieceM (l.drop pos) with
      | error e =>
        rw [hpm] at hpl
        obtain ⟨a, b, c, d, em, p, ho, hne⟩ := hpl
        rw [ho, Option.bind_some]
        dsimp only
        rw [if_neg hne]; rfl
      | ok xq =>
        obtain ⟨x, q⟩ := xq
        have hok := piece_ok hpm ht (by rw [List.length_drop]; omega)
        have hrest : q.length ≤ (l.drop (pos + 1)).length := by
          rw [hd] at hpm; exact piece_rest hpm
        rw [List.length_drop] at hrest
        rw [hpm] at hpl
        obtain ⟨ho, hsuf⟩ := hpl
        have hq := suf_drop hsuf
        have hih := scan_loop l hl n k (l.length - q.length) (toks ++ [x]) (by omega) (by omega) (by omega) (by rw [← hq]; exact hok.2) (by rw [List.length_append, List.length_singleton]; omega)
        rw [← hq, List.map_append] at hih
        rw [ho, Option.bind_some]
        dsimp only
        rw [if_pos rfl, List.length_map, if_pos (by omega)]
        exact hih
    · rw [if_neg (by rw [hz]; omega), List.drop_eq_nil_of_le (by omega), scanF_nil]; rfl
/-- THE DOCUMENT's PIECES. -/
theorem scan_ref (l : LB) (hl : l.length ≤ 1000000) (k : Nat) (hk : 10 * l.length + 1000 ≤ k) : breviaryref06_Scan.f k (ofL l) = some (scanR (scanM l)) := by
  have hz := ofL_size l
  have htx := text_at l hl (k - (l.length + 20))
  rw [show l.length + 20 + (k - (l.length + 20)) = k by omega] at htx
  unfold breviaryref06_Scan.f scanM
  by_cases h4 : 4000 < l.length
  · rw [if_pos (by rw [hz]; omega), if_pos h4]; rfl
  · rw [if_neg (by rw [hz]; omega), if_neg h4, htx, Option.bind_some]
    cases ht : textL l with
    | false => rfl
    | true =>
      rw [if_pos rfl, if_neg (show ¬ true = false by decide)]
      have hli := ref_lines l hl k 0 [] (Nat.zero_le _) (by omega) (Nat.zero_le _)
      rw [List.drop_zero, List.nil_append] at hli
      have hll := lines_len l
      have hs := scan_loop (linesL l) (by omega) (linesL l).length k 0 [] (Nat.zero_le _) (by omega) (by omega) (by rw [List.drop_zero]; exact text_lines _ _ (Nat.le_refl _) ht) (Nat.zero_le _)
      rw [List.drop_zero] at hs
      unfold breviaryref06_Lines.f
      rw [show breviaryref06_Lines.l0 k (ofL l) ⟨#[]⟩ 0 = some (ofL (linesL l)) from hli, Option.bind_some]
      exact hs
theorem rows_map {α β : Type} {R : α → List Value → Prop} {R' : β → List Value → Prop} {sz n : Nat} {w : World} {A : Option Addr} {xs : List α} (f : α → β) (h : ReadsRow R sz w A n xs) (hR : ∀ x c, R x c → R' (f x) c) : ReadsRow R' sz w A n (xs.map f) := by
  refine ⟨by rw [List.length_map]; exact h.1, h.2.1, fun hn => ?_⟩
  obtain ⟨ad, e, hc⟩ := h.2.2 hn
  refine ⟨ad, e, fun j p hp => ?_⟩
  rw [List.getElem?_map] at hp
  obtain ⟨x, hx, rfl⟩ := Option.map_eq_some_iff.1 hp
  obtain ⟨c, h1, h2, h3⟩ := hc j x hx
  exact ⟨c, h1, hR x c h2, h3⟩
theorem attr_map {w : World} {A : Option Addr} {n : Nat} {l : List (LB × LB)} (h : kAttr.C w A n l) : k68.C w A n (l.map aS) := by
  refine rows_map aS h (fun x c hx => ?_)
  rw [kAttr_open hx]
  exact k68_mk w (aS x)
theorem tok_map {w : World} {A : Option Addr} {n : Nat} {l : List Tok} (h : kTok.C w A n l) : k33.C w A n (l.map tS) := by
  refine rows_map tS h (fun x c hx => ?_)
  obtain ⟨A3, c3, rfl, hl, hC⟩ := kTok_open hx
  have h3 := attr_map hC
  have hlen : (x.attrs.map aS).length = x.attrs.length := List.length_map ..
  rw [← hlen] at h3 hl ⊢
  exact k33_mk w (tS x) hl h3
/-- A list is the same as itself. -/
theorem attrs_refl (l : List SA) (hl : l.length ≤ 1000000) : ∀ (m k i : Nat), i ≤ l.length → l.length ≤ i + m → m < k → breviaryref06_SameAttrs.l0 k l l (i : Int) = some true
  | m, 0, i, hi, hm, hk => by omega
  | m, k + 1, i, hi, hm, hk => by
    rw [breviaryref06_SameAttrs.l0]
    by_cases hlt : i < l.length
    · obtain ⟨m, rfl⟩ : ∃ x, m = x + 1 := ⟨m - 1, by omega⟩
      rw [if_pos (by omega), if_pos (by omega), if_pos (by omega), if_neg (by simp), wr1 i (by omega)]
      exact attrs_refl l hl m k (i + 1) (by omega) (by omega) (by omega)
    · rw [if_neg (by omega)]
end Go.Proofs.YtagihjlklbckmaaGreatDoor.Sc
namespace Go.Proofs.YtagihjlklbckmaaGreatDoor.Sc
set_option linter.unusedVariables false
set_option linter.unusedSimpArgs false
open Go.RowKit Go.Proofs.YtagihjlklbckmaaGreatDoorW.PrintWords Go.Proofs.YtagihjlklbckmaaGreatDoorW.PrintLast Go.Proofs.YtagihjlklbckmaaGreatDoorW.PrintMore Go.Proofs.YtagihjlklbckmaaGreatDoor.Bs
theorem toks_get {w : World} {A : Option Addr} {l : List ST} (h : k33.C w A l.length l) (i : Nat) (hi : i < l.length) : ∃ ad Aa c, A = some ad ∧ w.cell? (ad.add (i * 5)) = some (.int .i64 l[i].f0) ∧ w.cell? ⟨(ad.add (i * 5)).block, (ad.add (i * 5)).off + 1, none⟩ = some (.string l[i].f1) ∧ w.cell? ⟨(ad.add (i * 5)).block, (ad.add (i * 5)).off + 2, none⟩ = some (.string l[i].f2) ∧ w.cell? ⟨(ad.add (i * 5)).block, (ad.add (i * 5)).off + 3, none⟩ = some (.slice Aa l[i].f3.length c) ∧ w.cell? ⟨(ad.add (i * 5)).block, (ad.add (i * 5)).off + 4, none⟩ = some (.bool l[i].f4) ∧ l[i].f3.length ≤ c ∧ k68.C w Aa l[i].f3.length l[i].f3 := by
  obtain ⟨ad, c, e, _, hK, hc0⟩ := Kd.C_get h z33 (i : Int) (by omega) (by omega)
  rw [show l.getD (i : Int).toNat z33 = l[i] by simp [List.getD, hi], Int.toNat_natCast] at *
  have hc : ∀ j u, c[j]? = some u → w.cell? (ad.add (i * 5 + j)) = some u := hc0
  obtain ⟨Aa, cc, rfl, hl, hC⟩ := k33_open hK
  exact ⟨ad, Aa, cc, e, hc 0 _ rfl, by rw [← add_field _ _ 1 (by omega)]; exact hc 1 _ rfl, by rw [← add_field _ _ 2 (by omega)]; exact hc 2 _ rfl, by rw [← add_field _ _ 3 (by omega)]; exact hc 3 _ rfl, by rw [← add_field _ _ 4 (by omega)]; exact hc 4 _ rfl, hl, hC⟩
theorem quiet_drawn {P : Program} {f : FuncId} {args : Array Value} {w : World} {n : Nat} {v : Value}
    (h : Calls P f args (w.drewN n) fun e w' => e = .returned v ∧ Drawn0 (w.drewN n) w') : Calls P f args (w.drewN n) fun e w'' => e = .returned v ∧ ∃ m, w'' = w.drewN m :=
  Calls.quiet_of (h.mono fun _ _ ⟨he, hm⟩ => ⟨he, hm.out⟩)
theorem below_n {w : World} (n : Nat) : Below w.heap.size w (w.drewN n) := (Drawn0.mk ⟨n, rfl⟩).below
set_option maxRecDepth 100000 in
set_option maxHeartbeats 4000000 in
/-- A list of pieces is the same as itself. -/
theorem toksame_calls (w : World) (A B : Option Addr) (c d : Nat) (l : List ST) (hA : k33.C w A l.length l) (hB : k33.C w B l.length l) (hl : l.length ≤ 1000000) (hs : ∀ x ∈ l, x.f3.length ≤ 1000000) :
    Calls Tryz.prog 7 #[.slice A l.length c, .slice B l.length d] w fun e w' => e = .returned (.bool true) ∧ Below w.heap.size w w' := by
  have HA := Aside0.mk hA
  have HB := Aside0.mk hB
  have HS := Aside0.mk hs
  clear hA hB hs
  go_enter Tryz.func7, Tryz.ntmps7
  go_wp2
  go_loopw [5] (fun v5 wr => ∃ j : Nat, v5 = .int .i64 j ∧ j ≤ l.length ∧ Aside0 (Below w.heap.size w wr)) (fun v5 _ => l.length - (intOf v5).toNat)
  case atStart => exact ⟨0, rfl, Nat.zero_le _, ⟨Below.refl _ _⟩⟩
  case round =>
    obtain ⟨j, rfl, hj, HD⟩ := hrel
    by_cases hjl : j < l.length
    · obtain ⟨a, A3, c3, ea, a0, a1, a2, a3, a4, l3, g3⟩ := toks_get (Kd.C_below HA.out HD.out) j hjl
      obtain ⟨b, B3, d3, eb, b0, b1, b2, b3, b4, m3, n3⟩ := toks_get (Kd.C_below HB.out HD.out) j hjl
      cases ea
      cases eb
      have hsz := HS.out _ (List.getElem_mem hjl)
      generalize l[j] = x at *
      obtain ⟨x0, x1, x2, x3, x4⟩ := x
      simp only at a0 a1 a2 a3 a4 b0 b1 b2 b3 b4 l3 m3 g3 n3 hsz
      have CR := Aside0.mk (fun n => quiet_drawn (breviaryref06_SameAttrs.calls (x3.length + 1) A3 c3 x3 B3 d3 x3 true (wr.drewN n) (Kd.C_below g3 (below_n n)) l3 (Kd.C_below n3 (below_n n)) m3 (by
        unfold breviaryref06_SameAttrs.f; rw [if_pos rfl]; exact attrs_refl x3 hsz x3.length (x3.length + 1) 0 (Nat.zero_le _) (by omega) (by omega))))
      clear g3 n3 hsz l3 m3
      have hj0 : (0 : Int) ≤ (j : Int) := by omega
      have hj1 : (j : Int) < (l.length : Int) := by omega
      go_upto_region 6 with (fail)
      go_quiet ((go_at_call 15; exact CR.out _))
      have HB9 := Aside0.mk (below_step HD.out (below_n nq))
      have hw1 : wrap64 ((j : Int) + 1) = (j : Int) + 1 := IntWalk.wrap64_in _ ⟨by omega, by omega⟩
      have hw0 : IntKind.i64.wrap ((j : Int) + 1) = (j : Int) + 1 := (IntWalk.i64_left _).trans hw1
      go_wp2
      go_roundw
      case rel => exact ⟨j + 1, rfl, by omega, HB9⟩
      case measure => simp only [intOf]; omega
    · have hjn : j = l.length := by omega
      subst hjn
      go_wp2
      go_ret
      exact ⟨rfl, HD.out⟩
end Go.Proofs.YtagihjlklbckmaaGreatDoor.Sc
namespace Go.Proofs.YtagihjlklbckmaaGreatDoor.Sc
set_option linter.unusedVariables false
set_option linter.unusedSimpArgs false
open Go.RowKit Go.Proofs.YtagihjlklbckmaaGreatDoorW.PrintWords Go.Proofs.YtagihjlklbckmaaGreatDoorW.PrintLast Go.Proofs.YtagihjlklbckmaaGreatDoorW.PrintMore Go.Proofs.YtagihjlklbckmaaGreatDoor.Bs
/-- Pieces, and an error, that a call gives. -/
def GavePieces (w : World) (xs : List ST) (k : Int) (e : Ending) (w' : World) : Prop := ∃ A c, e = .returned (.tuple #[.slice A xs.length c, .int .i64 k]) ∧ k33.C w' A xs.length xs ∧ Below w.heap.size w w'
theorem pieces_nil (w : World) : k33.C w none 0 [] := ⟨rfl, by decide, fun h => absurd h (by decide)⟩
theorem scan_both (w : World) (l : LB) (E : Env w) : Calls Tryz.prog 5 #[.string (ofL l)] w (GavePieces w (scanR (scanM l)).1 (scanR (scanM l)).2) := by
  refine (scan_calls w l E).mono ?_
  intro e w' h
  cases hs : scanM l with
  | error k =>
    rw [hs] at h
    obtain ⟨rfl, hb⟩ := h
    exact ⟨none, 0, rfl, pieces_nil _, hb⟩
  | ok ts =>
    rw [hs] at h
    obtain ⟨⟨v, rfl, hR⟩, hb⟩ := h
    obtain ⟨A, c, rfl, hlen, hC⟩ := Kd.R_reads hR
    have h2 := tok_map hC
    have hm : (ts.map tS).length = ts.length := List.length_map ..
    rw [← hm] at h2
    refine ⟨A, c, ?_, h2, hb⟩
    show _ = Ending.returned (.tuple #[.slice A (ts.map tS).length c, .int .i64 0])
    rw [hm]
theorem refscan_calls (w : World) (l : LB) (hl : l.length ≤ 1000000) : Calls Tryz.prog 6 #[.string (ofL l)] w (GavePieces w (scanR (scanM l)).1 (scanR (scanM l)).2) := by
  refine (breviaryref06_Scan.calls (10 * l.length + 1000) (ofL l) (scanR (scanM l)).1 (scanR (scanM l)).2 w (scan_ref l hl _ (Nat.le_refl _))).mono ?_
  rintro e w' ⟨v, rfl, hS, hb⟩
  obtain ⟨A, c, rfl, hlen, hC⟩ := Kd.R_reads (Kd.S_R hS)
  exact ⟨A, c, rfl, hC, hb⟩
theorem scanR_few (l : LB) : (scanR (scanM l)).1.length ≤ 1000000 ∧ ∀ x ∈ (scanR (scanM l)).1, x.f3.length ≤ 1000000 := by
  cases hs : scanM l with
  | error k => exact ⟨Nat.zero_le _, fun x hx => by cases hx⟩
  | ok ts =>
    have h1 := scan_few hs
    have h2 := scan_good hs
    refine ⟨by show (ts.map tS).length ≤ _; rw [List.length_map]; omega, fun x hx => ?_⟩
    obtain ⟨t, ht, rfl⟩ := List.mem_map.1 (show x ∈ ts.map tS from hx)
    have h3 := (h2 t ht).wide
    show (t.attrs.map aS).length ≤ _
    rw [List.length_map]; omega
set_option maxRecDepth 100000 in
set_option maxHeartbeats 4000000 in
/-- LAW 'ScanPieces'. -/
theorem law_pieces (w : World) (l : LB) (E : Env w) (hmax : l.length ≤ maxLen) :
    Calls Tryz.prog 3 #[.string (ofL l)] w fun e w' => e = .returned (.bool true) ∧ Below w.heap.size w w' := by
  have hsz : ((ofL l).size : Int) = (l.length : Int) := by rw [ofL_size]
  have HE := Aside0.mk E
  clear E
  by_cases hlong : 4100 < l.length
  · have h1 : (4100 : Int) < (l.length : Int) := by omega
    have CW := Aside0.mk (works_calls w HE.out)
    clear hmax hlong
    go_enter Tryz.func3, Tryz.ntmps3
    go_wp2_with fail
    (with_reducible refine CW.out.mono ?_)
    rintro e w2 ⟨rfl, hb⟩
    have HB2 := Aside0.mk hb
    clear hb CW
    go_wp2_with fail
    go_ret
    exact ⟨rfl, HB2.out⟩
  · have h1 : ¬ (4100 : Int) < (l.length : Int) := by omega
    have hl : l.length ≤ 1000000 := by omega
    have C1 := Aside0.mk (scan_both w l HE.out)
    have C2 := Aside0.mk (fun W => refscan_calls W l hl)
    have HF := Aside0.mk (scanR_few l)
    generalize (scanR (scanM l)).1 = xs at *
    generalize (scanR (scanM l)).2 = k at *
    clear hmax hlong hl
    go_enter Tryz.func3, Tryz.ntmps3
    go_wp2_with fail
    (with_reducible refine C1.out.mono ?_)
    rintro e w2 ⟨A, c, rfl, hA, hb⟩
    have HB2 := Aside0.mk hb
    have HA := Aside0.mk hA
    clear hb hA C1
    go_wp2_with fail
    (with_reducible refine (C2.out _).mono ?_)
    rintro e w3 ⟨B, d, rfl, hB, hb⟩
    have HB3 := Aside0.mk (below_step HB2.out hb)
    have CS := Aside0.mk (toksame_calls w3 A B c d xs (Kd.C_below HA.out hb) hB HF.out.1 HF.out.2)
    clear hb hB C2 HA
    go_wp2_with fail
    (with_reducible refine CS.out.mono ?_)
    rintro e w4 ⟨rfl, hb⟩
    have HB4 := Aside0.mk (below_step HB3.out hb)
    have CW := Aside0.mk (works_calls w4 (HE.out.below HB4.out))
    clear hb CS
    go_wp2_with fail
    (with_reducible refine CW.out.mono ?_)
    rintro e w5 ⟨rfl, hb⟩
    have HB5 := Aside0.mk (below_step HB4.out hb)
    clear hb CW
    go_wp2_with fail
    go_ret
    exact ⟨rfl, HB5.out⟩
end Go.Proofs.YtagihjlklbckmaaGreatDoor.Sc
