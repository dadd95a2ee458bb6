import Derived.Test.YtagihjlklbckmaaGreatDoorScPa
import Derived.Test.YtagihjlklbckmaaGreatDoorScPb
import Derived.Test.YtagihjlklbckmaaGreatDoorBs
import Derived.Lib.OthersKept
import Derived.Shelf.Unicode.ValidAny
import Derived.Shelf.Strings.FuncGrows
import Derived.Test.YtagihjlklbckmaaGreatDoorSh
import Derived.Lib.MapLaws
import Derived.Lib.TrimUEq
import Derived.Shelf.Strings.Cut
import Derived.Test.YtagihjlklbckmaaGreatDoorBt
import Derived.Lib.UnsafeStr
import Derived.WalkMore
namespace Go.Proofs.YtagihjlklbckmaaGreatDoor.Sc
set_option linter.unusedVariables false
set_option linter.unusedSimpArgs false
open Go.RowKit Go.Proofs.YtagihjlklbckmaaGreatDoorW.PrintWords Go.Proofs.YtagihjlklbckmaaGreatDoorW.PrintLast Go.Proofs.YtagihjlklbckmaaGreatDoorW.PrintMore Go.Proofs.YtagihjlklbckmaaGreatDoor.Bs
/-- Is a rune within spans? -/
def inR (l : List (Int × Int)) (r : Int) : Bool := l.any fun p => decide (p.1 ≤ r) && decide (r ≤ p.2)
def isL : List (Int × Int) := [(9, 10), (13, 13), (32, 55295), (57344, 65533), (65536, 1114111)]
def startL : List (Int × Int) := [(192, 214), (216, 246), (248, 767), (880, 893), (895, 8191), (8204, 8205), (8304, 8591), (11264, 12271), (12289, 55295), (63744, 64975), (65008, 65533), (65536, 983039)]
def partL : List (Int × Int) := [(45, 46), (48, 57), (183, 183), (768, 879), (8255, 8256)]
def isR (r : Int) : Bool := inR isL r
def startR (r : Int) : Bool := if r < 128 then (decide (65 ≤ r) && decide (r ≤ 90)) || (decide (97 ≤ r) && decide (r ≤ 122)) || r == 95 else inR startL r
def partR (r : Int) : Bool := startR r || inR partL r
def spaceR (r : Int) : Bool := r == 32 || r == 9 || r == 10 || r == 13
abbrev kSpan : Kd (Int × Int) := Kd.pair (Kd.int .i32) (Kd.int .i32)
theorem kSpan_open {w : World} {x : Int × Int} {cs : List Value} (h : kSpan.K w x cs) : cs = [.int .i32 x.1, .int .i32 x.2] := by
  obtain ⟨a, b, rfl, ha, hb⟩ := h
  rw [show a = [.int .i32 x.1] from ha, show b = [.int .i32 x.2] from hb]; rfl
theorem inR_take {l : List (Int × Int)} {r : Int} (i : Nat) (hi : i < l.length) : inR (l.take (i + 1)) r = (inR (l.take i) r || (decide (l[i].1 ≤ r) && decide (r ≤ l[i].2))) := by
  unfold inR
  rw [List.take_succ_eq_append_getElem hi, List.any_append]; simp
theorem inR_hit {l : List (Int × Int)} {r : Int} (i : Nat) (hi : i < l.length) (h : decide (l[i].1 ≤ r) && decide (r ≤ l[i].2)) : inR l r = true := by
  unfold inR
  exact List.any_eq_true.2 ⟨l[i], List.getElem_mem hi, h⟩
theorem spans_at {w : World} {A : Option Addr} {l : List (Int × Int)} (h : kSpan.C w A l.length l) (i : Nat) (hi : i < l.length) : ∃ ad, A = some ad ∧ w.cell? (ad.add (i * 2)) = some (.int .i32 l[i].1) ∧ w.cell? ⟨(ad.add (i * 2)).block, (ad.add (i * 2)).off + 1, none⟩ = some (.int .i32 l[i].2) := by
  obtain ⟨ad, c, e, _, hK, hc0⟩ := Kd.C_get h ((0, 0) : Int × Int) (i : Int) (by omega) (by omega)
  rw [show l.getD (i : Int).toNat (0, 0) = l[i] by simp [List.getD, hi], Int.toNat_natCast] at *
  have hc : ∀ j u, c[j]? = some u → w.cell? (ad.add (i * 2 + j)) = some u := hc0
  obtain rfl := kSpan_open hK
  exact ⟨ad, e, hc 0 _ rfl, by rw [← add_field _ _ 1 (by omega)]; exact hc 1 _ rfl⟩
set_option maxRecDepth 100000 in
set_option maxHeartbeats 400000 in
theorem within_calls (w : World) (A : Option Addr) (c : Nat) (l : List (Int × Int)) (r : Int) (hC : kSpan.C w A l.length l) (hc : l.length ≤ c) :
    Calls Tryz.prog 39 #[.int .i32 r, .slice A l.length c] w fun e w' => e = .returned (.bool (inR l r)) ∧ Below w.heap.size w w' := by
  have HC := Aside0.mk hC
  have HB0 := Aside0.mk (Below.refl w.heap.size w)
  have hl := Kd.C_max hC
  clear hC
  go_enter Tryz.func39, Tryz.ntmps39
  go_wp2
  go_loopw [9] (fun v9 wr => ∃ i : Nat, v9 = .int .i64 i ∧ i ≤ l.length ∧ Aside0 (inR (l.take i) r = false) ∧ Aside0 (Below w.heap.size w wr)) (fun v9 _ => l.length - (intOf v9).toNat)
  case atStart => exact ⟨0, rfl, Nat.zero_le _, ⟨rfl⟩, HB0⟩
  case round =>
    obtain ⟨i, rfl, hi, HN, HB⟩ := hrel
    by_cases hlt : i < l.length
    · obtain ⟨ad, rfl, a0, a1⟩ := spans_at (Kd.C_below HC.out HB.out) i hlt
      have h1 : (i : Int) < (l.length : Int) := by omega
      have h0 : (0 : Int) ≤ (i : Int) := by omega
      have HT := Aside0.mk (inR_take (r := r) i hlt)
      have HH := Aside0.mk (inR_hit (r := r) i hlt)
      generalize l[i] = p at *
      obtain ⟨lo, hi'⟩ := p
      simp only at a0 a1 HT HH
      by_cases hlo : lo ≤ r
      · by_cases hhi : r ≤ hi'
        · have HE := Aside0.mk (HH.out (by simp [hlo, hhi]))
          clear HH HT
          go_wp2
          go_ret
          rw [HE.out]
          exact ⟨rfl, below_alloc HB.out _⟩
        · have HE := Aside0.mk (show inR (l.take (i + 1)) r = false by rw [HT.out, HN.out]; simp [hhi])
          have HB2 := Aside0.mk (below_alloc HB.out (.cells #[.int .i32 lo, .int .i32 hi'] 76))
          clear HH HT
          go_wp2
          go_roundw
          case rel => exact ⟨i + 1, by first | rfl | rw [wrap_succ i (by omega)] | simp, by omega, HE, HB2⟩
          case measure => simp [intOf]; omega
      · have HE := Aside0.mk (show inR (l.take (i + 1)) r = false by rw [HT.out, HN.out]; simp [hlo])
        have HB2 := Aside0.mk (below_alloc HB.out (.cells #[.int .i32 lo, .int .i32 hi'] 76))
        clear HH HT
        go_wp2
        go_roundw
        case rel => exact ⟨i + 1, by first | rfl | rw [wrap_succ i (by omega)] | simp, by omega, HE, HB2⟩
        case measure => simp [intOf]; omega
    · have hE : inR l r = false := by have := HN.out; rwa [List.take_of_length_le (by omega)] at this
      have HE := Aside0.mk hE
      clear hE
      go_wp2
      go_ret
      rw [HE.out]
      exact ⟨rfl, HB.out⟩
end Go.Proofs.YtagihjlklbckmaaGreatDoor.Sc
namespace Go.Proofs.YtagihjlklbckmaaGreatDoor.Sc
set_option linter.unusedVariables false
set_option linter.unusedSimpArgs false
open Go.RowKit Go.Proofs.YtagihjlklbckmaaGreatDoorW.PrintWords Go.Proofs.YtagihjlklbckmaaGreatDoorW.PrintLast Go.Proofs.YtagihjlklbckmaaGreatDoorW.PrintMore Go.Proofs.YtagihjlklbckmaaGreatDoor.Bs
def flatR : List (Int × Int) → List Value
  | [] => []
  | p :: l => .int .i32 p.1 :: .int .i32 p.2 :: flatR l
theorem flatR_get : ∀ (l : List (Int × Int)) (j : Nat) (p : Int × Int), l[j]? = some p → (flatR l)[j * 2]? = some (.int .i32 p.1) ∧ (flatR l)[j * 2 + 1]? = some (.int .i32 p.2)
  | [], j, p, h => by simp at h
  | q :: l, 0, p, h => by
    simp only [List.getElem?_cons_zero, Option.some.injEq] at h
    subst h; exact ⟨rfl, rfl⟩
  | q :: l, j + 1, p, h => by
    have := flatR_get l j p (by simpa using h)
    rw [show (j + 1) * 2 = j * 2 + 1 + 1 by omega]
    exact this
theorem spans_C {w : World} {g t : Nat} {cs : Array Value} {l : List (Int × Int)} (h : w.heap[g]? = some (.cells cs t (0, 0))) (hcs : cs.toList = flatR l) (hl : l.length ≤ 1000) : kSpan.C w (some ⟨g, 0, none⟩) l.length l := by
  refine ⟨rfl, by omega, fun _ => ⟨⟨g, 0, none⟩, rfl, fun j p hj => ⟨[.int .i32 p.1, .int .i32 p.2], rfl, ⟨[.int .i32 p.1], [.int .i32 p.2], rfl, rfl, rfl⟩, fun i u hu => ?_⟩⟩⟩
  have hg := flatR_get l j p hj
  rw [← hcs] at hg
  have hc : ∀ k v, cs.toList[k]? = some v → w.cell? ((⟨g, 0, none⟩ : Addr).add k) = some v := by
    intro k v hv
    have e : (⟨g, 0, none⟩ : Addr).add k = ⟨g, k, none⟩ := by
      unfold Addr.add; split
      · subst_vars; rfl
      · simp
    rw [e]
    exact blk_cell h k |>.trans (by rw [← Array.getElem?_toList]; exact hv)
  rcases i with _ | _ | i
  · simp only [List.getElem?_cons_zero, Option.some.injEq] at hu
    subst hu; exact hc _ _ hg.1
  · simp only [List.getElem?_cons_succ, List.getElem?_cons_zero, Option.some.injEq] at hu
    subst hu; exact hc _ _ hg.2
  · simp at hu
theorem ret_bool {a b : Bool} (h : a = b) : Ending.returned (.bool a) = Ending.returned (.bool b) := by rw [h]
set_option maxRecDepth 100000 in
set_option maxHeartbeats 400000 in
theorem is_calls (w : World) (r : Int) : Calls Tryz.prog 17 #[.int .i32 r] w fun e w' => e = .returned (.bool (isR r)) ∧ Below w.heap.size w w' := by
  have hB := below_alloc (Below.refl w.heap.size w) (.cells #[.int .i32 9, .int .i32 10, .int .i32 13, .int .i32 13, .int .i32 32, .int .i32 55295, .int .i32 57344, .int .i32 65533, .int .i32 65536, .int .i32 1114111] 77)
  have hq := heap_alloc_new w (.cells #[.int .i32 9, .int .i32 10, .int .i32 13, .int .i32 13, .int .i32 32, .int .i32 55295, .int .i32 57344, .int .i32 65533, .int .i32 65536, .int .i32 1114111] 77)
  have CW := Aside0.mk (show Calls _ _ #[.int .i32 r, .slice (some ⟨w.heap.size, 0, none⟩) 5 5] _ _ from within_calls (w.alloc (.cells #[.int .i32 9, .int .i32 10, .int .i32 13, .int .i32 13, .int .i32 32, .int .i32 55295, .int .i32 57344, .int .i32 65533, .int .i32 65536, .int .i32 1114111] 77)) (some ⟨w.heap.size, 0, none⟩) 5 isL r (spans_C hq rfl (by decide)) (by decide))
  have HB := Aside0.mk hB
  clear hB hq
  go_enter Tryz.func17, Tryz.ntmps17
  go_wp2_with (go_at_call 39; (with_reducible refine CW.out.mono ?_); rintro e w' ⟨rfl, hb⟩; have HB2 := Aside0.mk (below_step HB.out hb); clear hb)
  go_ret
  exact ⟨rfl, HB2.out⟩
def startA (r : Int) : Bool := (decide (65 ≤ r) && decide (r ≤ 90)) || (decide (97 ≤ r) && decide (r ≤ 122)) || r == 95
set_option maxRecDepth 100000 in
set_option maxHeartbeats 1000000 in
theorem start_lo (w : World) (r : Int) (h : r < 128) : Calls Tryz.prog 74 #[.int .i32 r] w fun e w' => e = .returned (.bool (startA r)) ∧ Below w.heap.size w w' := by
  unfold startA
  go_enter Tryz.func74, Tryz.ntmps74
  go_wp2
  all_goals
    go_ret
    refine ⟨ret_bool ?_, Below.refl _ _⟩
    first
      | rfl
      | (rw [Bool.eq_iff_iff]; simp; done)
      | (rw [Bool.eq_iff_iff]; simp; omega)
      | (rw [Bool.eq_iff_iff]; simp_all; done)
      | (rw [Bool.eq_iff_iff]; simp_all; omega)
section
variable {P : Program} {ops : Array Oper} {rest : List Oper} {o : Oper} {a : Act} {Q : Exit → Act → World → Prop}
theorem row_event {w : World} (hgd : o.guard = none) (ty : TypeId) (x y : Operand) (ho : o.op = .store ty x y) (cells zeros : Array Value) (hx : a.eval x = .pointer (some ⟨w.heap.size, 0, none⟩)) (hy : a.eval y = .agg cells)
    (hi : (P.info? ty).map (·.size) = some cells.size) (hold : zeros.size = cells.size) (h1 : cells.all (·.oneCell') = true)
    (h : ∀ W1, W1.heap[w.heap.size]? = some (.cells cells ty (0, 0)) → Below w.heap.size w W1 → wpList P ops Q rest (a.put o.dst undef) W1) : wpList P ops Q (o :: rest) a (w.alloc (.cells zeros ty)) := by
  refine wpList_store_row hgd ty x y ho w.heap.size cells hx hy ty zeros (heap_alloc_new w _) hi hold h1 ?_
  refine h _ (setRow_heap _ _ _ _ _ _ (heap_alloc_new w _)) ?_
  have hc : Ch (fun k => k = w.heap.size) (w.alloc (.cells zeros ty)) ((w.alloc (.cells zeros ty)).setRow w.heap.size cells) := ⟨rfl, rfl, rfl, by simp, fun k hk hne => setRow_other _ _ _ _ hne⟩
  exact (below_alloc (Below.refl _ _) _).trans (Ch.to_below hc (fun k hk => by omega) (by simp))
end
def startCells : Array Value := #[.int .i32 192, .int .i32 214, .int .i32 216, .int .i32 246, .int .i32 248, .int .i32 767, .int .i32 880, .int .i32 893, .int .i32 895, .int .i32 8191, .int .i32 8204, .int .i32 8205, .int .i32 8304, .int .i32 8591, .int .i32 11264, .int .i32 12271, .int .i32 12289, .int .i32 55295, .int .i32 63744, .int .i32 64975, .int .i32 65008, .int .i32 65533, .int .i32 65536, .int .i32 983039]
theorem info106 : (Tryz.prog.info? 122).map (·.size) = some 24 := by kernel_rfl
set_option maxRecDepth 100000 in
set_option maxHeartbeats 1000000 in
theorem start_hi (w : World) (r : Int) (h : ¬ r < 128) : Calls Tryz.prog 74 #[.int .i32 r] w fun e w' => e = .returned (.bool (inR startL r)) ∧ Below w.heap.size w w' := by
  go_enter Tryz.func74, Tryz.ntmps74
  go_wp2_with (first
    | ((with_reducible refine gate_store (t := 122) (p := 3) rfl ?_); go_loud (refine row_event rfl 122 (.tmp 3) (.tmp 36) rfl #[.int .i32 192, .int .i32 214, .int .i32 216, .int .i32 246, .int .i32 248, .int .i32 767, .int .i32 880, .int .i32 893, .int .i32 895, .int .i32 8191, .int .i32 8204, .int .i32 8205, .int .i32 8304, .int .i32 8591, .int .i32 11264, .int .i32 12271, .int .i32 12289, .int .i32 55295, .int .i32 63744, .int .i32 64975, .int .i32 65008, .int .i32 65533, .int .i32 65536, .int .i32 983039] _ rfl rfl info106 rfl (by kernel_rfl) ?_); intro W1 hq hb; have HB := Aside0.mk hb; have CW := Aside0.mk (show Calls _ _ #[.int .i32 r, .slice (some ⟨w.heap.size, 0, none⟩) 12 12] W1 _ from within_calls W1 (some ⟨w.heap.size, 0, none⟩) 12 startL r (spans_C hq rfl (by decide)) (by decide)); clear hq hb)
    | (go_at_call 39; (with_reducible refine CW.out.mono ?_); rintro e w' ⟨rfl, hb⟩; have HB2 := Aside0.mk (below_step HB.out hb); clear hb))
  go_ret
  exact ⟨rfl, HB2.out⟩
theorem start_calls (w : World) (r : Int) : Calls Tryz.prog 74 #[.int .i32 r] w fun e w' => e = .returned (.bool (startR r)) ∧ Below w.heap.size w w' := by
  unfold startR
  by_cases h : r < 128
  · rw [if_pos h]; exact start_lo w r h
  · rw [if_neg h]; exact start_hi w r h
set_option maxRecDepth 100000 in
set_option maxHeartbeats 1000000 in
theorem part_calls (w : World) (r : Int) : Calls Tryz.prog 46 #[.int .i32 r] w fun e w' => e = .returned (.bool (partR r)) ∧ Below w.heap.size w w' := by
  unfold partR
  have hB := below_alloc (Below.refl w.heap.size w) (.cells #[.int .i32 45, .int .i32 46, .int .i32 48, .int .i32 57, .int .i32 183, .int .i32 183, .int .i32 768, .int .i32 879, .int .i32 8255, .int .i32 8256] 77)
  have hq := heap_alloc_new w (.cells #[.int .i32 45, .int .i32 46, .int .i32 48, .int .i32 57, .int .i32 183, .int .i32 183, .int .i32 768, .int .i32 879, .int .i32 8255, .int .i32 8256] 77)
  have CS := Aside0.mk (start_calls (w.alloc (.cells #[.int .i32 45, .int .i32 46, .int .i32 48, .int .i32 57, .int .i32 183, .int .i32 183, .int .i32 768, .int .i32 879, .int .i32 8255, .int .i32 8256] 77)) r)
  have HB := Aside0.mk hB
  have HQ := Aside0.mk hq
  clear hB hq
  cases hs : startR r with
  | true =>
    rw [hs] at CS
    go_enter Tryz.func46, Tryz.ntmps46
    go_wp2_with (go_at_call 74; (with_reducible refine CS.out.mono ?_); rintro e w' ⟨rfl, hb⟩; have HB2 := Aside0.mk (below_step HB.out hb); clear hb)
    go_ret
    exact ⟨rfl, HB2.out⟩
  | false =>
    rw [hs] at CS
    go_enter Tryz.func46, Tryz.ntmps46
    go_wp2_with fail
    (with_reducible refine CS.out.mono ?_)
    rintro e w2 ⟨rfl, hb⟩
    have HB2 := Aside0.mk (below_step HB.out hb)
    have CW := Aside0.mk (show Calls _ _ #[.int .i32 r, .slice (some ⟨w.heap.size, 0, none⟩) 5 5] _ _ from within_calls w2 (some ⟨w.heap.size, 0, none⟩) 5 partL r (spans_C ((hb.block _ (blk_lt HQ.out)).trans HQ.out) rfl (by decide)) (by decide))
    clear hb CS
    go_wp2_with (go_at_call 39; (with_reducible refine CW.out.mono ?_); rintro e w' ⟨rfl, hb⟩; have HB3 := Aside0.mk (below_step HB2.out hb); clear hb)
    go_ret
    exact ⟨rfl, HB3.out⟩
theorem space_calls (w : World) (r : Int) : Calls Tryz.prog 50 #[.int .i32 r] w fun e w' => e = .returned (.bool (spaceR r)) ∧ Below w.heap.size w w' := by
  refine (char_Space.calls r (spaceR r) w ?_).mono (fun e w' h => ⟨h.1, h.2.below⟩)
  unfold char_Space.f spaceR
  by_cases h1 : r = 32
  · simp [h1]
  by_cases h2 : r = 9
  · simp [h2]
  by_cases h3 : r = 10
  · simp [h3]
  · simp [h1, h2, h3]
end Go.Proofs.YtagihjlklbckmaaGreatDoor.Sc
namespace Go.Proofs.YtagihjlklbckmaaGreatDoor.Sc
set_option linter.unusedVariables false
set_option linter.unusedSimpArgs false
open Go.RowKit Go.Proofs.YtagihjlklbckmaaGreatDoorW.PrintWords Go.Proofs.YtagihjlklbckmaaGreatDoorW.PrintLast Go.Proofs.YtagihjlklbckmaaGreatDoorW.PrintMore Go.Proofs.YtagihjlklbckmaaGreatDoor.Bs
/-- The library's tables, as every world of the seat has them. -/
structure Env (w : World) : Prop where
  tabs : Lib.Utf8Tabs 0 1 w
  most : ∃ m, w.cell? ⟨5, 0, none⟩ = some (.int .i64 m)
  fold : ∀ i : Nat, i < 128 → w.cell? ⟨2, i, none⟩ = some (.int .u16 (if 65 ≤ i ∧ i ≤ 90 then (i + 32 : Nat) else if i = 75 + 32 then (8490 : Int) else if i = 83 + 32 then (383 : Int) else if 97 ≤ i ∧ i ≤ 122 then (i - 32 : Nat) else (i : Nat)))
  big : 6 ≤ w.heap.size
theorem Env.below {w w' : World} (h : Env w) (hb : Below w.heap.size w w') : Env w' := by
  have hc : ∀ g o v, g < 6 → w.cell? ⟨g, o, none⟩ = some v → w'.cell? ⟨g, o, none⟩ = some v := fun g o v hg hv => (hb.cell (p := ⟨g, o, none⟩) (Nat.lt_of_lt_of_le hg h.big)).trans hv
  refine ⟨⟨fun c hc' => hc _ _ _ (by decide) (h.tabs.1 c hc'), fun i hi => ⟨hc _ _ _ (by decide) (h.tabs.2 i hi).1, hc _ _ _ (by decide) (h.tabs.2 i hi).2⟩⟩, ?_, fun i hi => hc _ _ _ (by decide) (h.fold i hi), Nat.le_trans h.big hb.size⟩
  obtain ⟨m, hm⟩ := h.most
  exact ⟨m, hc _ _ _ (by decide) hm⟩
theorem Env.below' {n : Nat} {w w' : World} (h : Env w) (hb : Below n w w') (hn : 6 ≤ n) (hw : n ≤ w.heap.size) : Env w' := by
  have hc : ∀ g o v, g < 6 → w.cell? ⟨g, o, none⟩ = some v → w'.cell? ⟨g, o, none⟩ = some v := fun g o v hg hv => (hb.cell (p := ⟨g, o, none⟩) (Nat.lt_of_lt_of_le hg hn)).trans hv
  refine ⟨⟨fun c hc' => hc _ _ _ (by decide) (h.tabs.1 c hc'), fun i hi => ⟨hc _ _ _ (by decide) (h.tabs.2 i hi).1, hc _ _ _ (by decide) (h.tabs.2 i hi).2⟩⟩, ?_, fun i hi => hc _ _ _ (by decide) (h.fold i hi), Nat.le_trans h.big hb.size⟩
  obtain ⟨m, hm⟩ := h.most
  exact ⟨m, hc _ _ _ (by decide) hm⟩
/-- Do all runes of a text answer yes? -/
def allF (p : Int → Bool) : Nat → List UInt8 → Bool
  | 0, _ => true
  | n + 1, l => if l = [] then true else p (Lib.decodeL l).1 && allF p n (l.drop (Lib.decodeL l).2)
def allR (p : Int → Bool) (l : List UInt8) : Bool := allF p l.length l
theorem width_one (l : List UInt8) : 1 ≤ (Lib.decodeL l).2 := Lib.width_pos _ _
theorem allF_fuel (p : Int → Bool) : ∀ (n m : Nat) (l : List UInt8), l.length ≤ n → l.length ≤ m → allF p n l = allF p m l
  | 0, 0, l, _, _ => rfl
  | 0, m + 1, l, h, _ => by
    have : l = [] := List.length_eq_zero_iff.1 (by omega)
    subst this; rfl
  | n + 1, 0, l, _, h => by
    have : l = [] := List.length_eq_zero_iff.1 (by omega)
    subst this; rfl
  | n + 1, m + 1, l, h1, h2 => by
    rw [allF, allF]
    by_cases h : l = []
    · rw [if_pos h, if_pos h]
    · have hw := width_one l
      have hp : 0 < l.length := List.length_pos_iff.2 h
      rw [if_neg h, if_neg h, allF_fuel p n m _ (by rw [List.length_drop]; omega) (by rw [List.length_drop]; omega)]
theorem allR_step (p : Int → Bool) (l : List UInt8) (h : l ≠ []) : allR p l = (p (Lib.decodeL l).1 && allR p (l.drop (Lib.decodeL l).2)) := by
  have hp : 0 < l.length := List.length_pos_iff.2 h
  have hw := width_one l
  unfold allR
  conv => lhs; rw [show l.length = (l.length - 1) + 1 by omega]
  rw [allF, if_neg h, allF_fuel p (l.length - 1) _ _ (by rw [List.length_drop]; omega) (Nat.le_refl _)]
/-- Is it a text? -/
def textL (l : List UInt8) : Bool := Lib.validD l && allR isR l
/-- Is it a name? -/
def nameL (l : List UInt8) : Bool := decide (1 ≤ l.length) && decide (l.length ≤ 32) && textL l && startR (Lib.decodeL l).1 && allR partR l
theorem drop_ne {s : ByteArray} {pos : Nat} (h : pos < s.size) : s.data.toList.drop pos ≠ [] := by
  intro e
  have := congrArg List.length e
  rw [List.length_drop, ← Lib.size_eq, List.length_nil] at this
  omega
theorem drop_nil {s : ByteArray} {pos : Nat} (h : ¬ pos < s.size) : s.data.toList.drop pos = [] := by
  apply List.drop_of_length_le
  rw [← Lib.size_eq]; omega
theorem allR_at (p : Int → Bool) {s : ByteArray} {pos : Nat} (h : pos < s.size) : allR p (s.data.toList.drop pos) = (p ((Utf8.decode s pos).1 : Int) && allR p (s.data.toList.drop (pos + (Utf8.decode s pos).2))) := by
  rw [allR_step p _ (drop_ne h), Lib.decodeL_drop, List.drop_drop]
theorem iter_at {w : World} {k : Nat} {s : ByteArray} {pos : Nat} (h : w.heap[k]? = some (.stringIter s pos)) : w.iterPos k = pos := by
  unfold World.iterPos; rw [h]
theorem decode_pos (s : ByteArray) (pos : Nat) : 1 ≤ (Utf8.decode s pos).2 := Lib.width_pos s pos
theorem below_iter {n k pos pos' : Nat} {w W : World} {s : ByteArray} (h : Below n w W) (hk : W.heap[k]? = some (.stringIter s pos)) (hn : n ≤ k) : Below n w (W.iterAt k s pos') := by
  have hc : Ch (fun j => j = k) W (W.iterAt k s pos') := ⟨rfl, rfl, rfl, by simp [World.iterAt], fun j hj hne => by
    show (W.heap.setIfInBounds k _)[j]? = _
    rw [Array.getElem?_setIfInBounds_ne (Ne.symm hne)]⟩
  exact h.trans (Ch.to_below hc (fun j hj => by omega) (Nat.le_of_lt (Nat.lt_of_le_of_lt hn (blk_lt hk))))
set_option maxRecDepth 100000 in
set_option maxHeartbeats 400000 in
theorem text_calls (w : World) (s : ByteArray) (hs : s.size ≤ 9223372036854775807) (E : Env w) :
    Calls Tryz.prog 8 #[.string s] w fun e w' => e = .returned (.bool (textL s.data.toList)) ∧ Below w.heap.size w w' := by
  have CV := Aside0.mk (Tryz.utf8_ValidString s w hs E.tabs)
  unfold textL
  have HE := Aside0.mk E
  clear E
  cases hv : Lib.validD s.data.toList with
  | false =>
    rw [hv] at CV
    go_enter Tryz.func8, Tryz.ntmps8
    go_wp2_with (go_at_call 16; (with_reducible refine CV.out.mono ?_); rintro e w' ⟨rfl, hb⟩; have HB := Aside0.mk hb; clear hb)
    go_ret
    exact ⟨rfl, HB.out⟩
  | true =>
    rw [hv] at CV
    have HV := Aside0.mk hv
    clear hv
    obtain ⟨res, hres⟩ : ∃ x, x = allR isR s.data.toList := ⟨_, rfl⟩
    rw [Bool.true_and, ← hres]
    have HR0 := Aside0.mk (show res = allR isR (s.data.toList.drop 0) from hres)
    clear hres
    go_enter Tryz.func8, Tryz.ntmps8
    go_wp2_with fail
    (with_reducible refine CV.out.mono ?_)
    rintro e w2 ⟨rfl, hb⟩
    have HB2 := Aside0.mk (below_step hb (below_alloc (Below.refl _ _) (.stringIter s 0)))
    obtain ⟨k, hk⟩ : ∃ x, x = w2.heap.size := ⟨_, rfl⟩
    have HI0 := Aside0.mk (show (w2.iter s 0).heap[k]? = some (.stringIter s 0) from hk ▸ World.iter_heap w2 s 0)
    have HK := Aside0.mk (show w.heap.size ≤ k from hk ▸ hb.size)
    have hk2 := Aside0.mk hk
    clear hb CV hk
    go_wp2_with fail
    rw [← hk2.out]
    clear hk2
    go_loopw [4] (fun v4 wr => ∃ pos : Nat, Aside0 (wr.heap[k]? = some (.stringIter s pos)) ∧ Aside0 (res = allR isR (s.data.toList.drop pos)) ∧ Aside0 (Below w.heap.size w wr)) (fun _ wr => s.size - wr.iterPos k)
    case atStart => exact ⟨0, HI0, HR0, HB2⟩
    case round =>
      clear HI0 HR0 HB2
      obtain ⟨pos, HI, HR, HB⟩ := hrel
      by_cases hp : pos < s.size
      · have hnx : ∀ ty, (Instr.next (.pointer (some ⟨k, 0, none⟩)) true ty).run Tryz.prog wr = _ := fun ty => Lib.run_next_any_at wr k s pos ty HI.out hp
        have HS := Aside0.mk (HR.out.trans (allR_at isR hp))
        have hw := decode_pos s pos
        have HI2 := Aside0.mk (Lib.iterAt_heap wr k s pos (pos + (Utf8.decode s pos).2) HI.out)
        have HBI := Aside0.mk (below_iter (pos' := pos + (Utf8.decode s pos).2) HB.out HI.out HK.out)
        obtain ⟨r, hr⟩ : ∃ x, x = (Utf8.decode s pos).1 := ⟨_, rfl⟩
        obtain ⟨q, hq⟩ : ∃ x, x = pos + (Utf8.decode s pos).2 := ⟨_, rfl⟩
        rw [← hr, ← hq] at HS hnx
        rw [← hq] at HI2 HBI
        have HQ := Aside0.mk (show pos < q by omega)
        have HP := Aside0.mk hp
        have HIP := Aside0.mk (iter_at HI.out)
        clear hr hq hw HI HR hp HB
        obtain ⟨W1, hW1⟩ : ∃ x, x = wr.iterAt k s q := ⟨_, rfl⟩
        rw [← hW1] at hnx HI2 HBI
        clear hW1
        have CI := Aside0.mk (is_calls W1 (r : Int))
        generalize isR (r : Int) = b at *
        cases b with
        | true =>
          go_wp2_with (go_at_call 17; (with_reducible refine CI.out.mono ?_); rintro e w4 ⟨rfl, hb⟩; have HI4 := Aside0.mk ((hb.block _ (blk_lt HI2.out)).trans HI2.out); have HB4 := Aside0.mk (below_step HBI.out hb); clear hb)
          go_roundw
          case rel => exact ⟨q, HI4, ⟨by rw [HS.out, Bool.true_and]⟩, HB4⟩
          case measure => rw [iter_at HI4.out, HIP.out]; have := HP.out; have := HQ.out; omega
        | false =>
          go_wp2_with (go_at_call 17; (with_reducible refine CI.out.mono ?_); rintro e w4 ⟨rfl, hb⟩; have HI4 := Aside0.mk ((hb.block _ (blk_lt HI2.out)).trans HI2.out); have HB4 := Aside0.mk (below_step HBI.out hb); clear hb)
          go_ret
          exact ⟨by rw [HS.out]; rfl, HB4.out⟩
      · have hnx : ∀ ty, (Instr.next (.pointer (some ⟨k, 0, none⟩)) true ty).run Tryz.prog wr = _ := fun ty => Lib.run_next_end_at wr k s pos ty HI.out hp
        have HE := Aside0.mk (show res = true by rw [HR.out, drop_nil hp]; rfl)
        go_wp2_with fail
        go_ret
        rw [HE.out]
        exact ⟨rfl, HB.out⟩
set_option maxRecDepth 100000 in
set_option maxHeartbeats 1000000 in
theorem name_calls (w : World) (s : ByteArray) (hs : s.size ≤ 9223372036854775807) (E : Env w) :
    Calls Tryz.prog 47 #[.string s] w fun e w' => e = .returned (.bool (nameL s.data.toList)) ∧ Below w.heap.size w w' := by
  have CT := Aside0.mk (text_calls w s hs E)
  unfold nameL
  rw [← Lib.size_eq]
  by_cases h1 : 1 ≤ s.size
  · by_cases h2 : s.size ≤ 32
    · have h1' : ¬ (s.size : Int) < 1 := by omega
      have h2' : ¬ (32 : Int) < (s.size : Int) := by omega
      rw [decide_eq_true h1, decide_eq_true h2, Bool.true_and, Bool.true_and]
      cases ht : textL s.data.toList with
      | false =>
        rw [ht] at CT
        clear ht
        go_enter Tryz.func47, Tryz.ntmps47
        go_wp2_with (go_at_call 8; (with_reducible refine CT.out.mono ?_); rintro e w' ⟨rfl, hb⟩; have HB := Aside0.mk hb; clear hb)
        go_ret
        exact ⟨rfl, HB.out⟩
      | true =>
        rw [ht] at CT
        clear ht
        obtain ⟨res, hres⟩ : ∃ x, x = (startR (Lib.decodeL s.data.toList).1 && allR partR s.data.toList) := ⟨_, rfl⟩
        rw [Bool.true_and, ← hres]
        have HR0 := Aside0.mk (show res = ((if (0 : Nat) = 0 then startR (Utf8.decode s 0).1 else true) && allR partR (s.data.toList.drop 0)) by rw [hres, if_pos rfl, ← Lib.decodeL_drop]; rfl)
        clear hres h1
        go_enter Tryz.func47, Tryz.ntmps47
        go_wp2_with fail
        (with_reducible refine CT.out.mono ?_)
        rintro e w2 ⟨rfl, hb⟩
        have HB2 := Aside0.mk (below_step hb (below_alloc (Below.refl _ _) (.stringIter s 0)))
        obtain ⟨k, hk⟩ : ∃ x, x = w2.heap.size := ⟨_, rfl⟩
        have HI0 := Aside0.mk (show (w2.iter s 0).heap[k]? = some (.stringIter s 0) from hk ▸ World.iter_heap w2 s 0)
        have HK := Aside0.mk (show w.heap.size ≤ k from hk ▸ hb.size)
        have hk2 := Aside0.mk hk
        clear hb CT hk
        go_wp2_with fail
        rw [← hk2.out]
        clear hk2
        go_loopw [3, 4] (fun v3 v4 wr => ∃ pos : Nat, Aside0 (wr.heap[k]? = some (.stringIter s pos)) ∧ Aside0 (res = ((if pos = 0 then startR (Utf8.decode s 0).1 else true) && allR partR (s.data.toList.drop pos))) ∧ Aside0 (Below w.heap.size w wr)) (fun _ _ wr => s.size - wr.iterPos k)
        case atStart => exact ⟨0, HI0, HR0, HB2⟩
        case round =>
          clear HI0 HR0 HB2
          obtain ⟨pos, HI, HR, HB⟩ := hrel
          by_cases hp : pos < s.size
          · have hnx : ∀ ty, (Instr.next (.pointer (some ⟨k, 0, none⟩)) true ty).run Tryz.prog wr = _ := fun ty => Lib.run_next_any_at wr k s pos ty HI.out hp
            have HS := Aside0.mk (HR.out.trans (congrArg _ (allR_at partR hp)))
            have hw := decode_pos s pos
            have HI2 := Aside0.mk (Lib.iterAt_heap wr k s pos (pos + (Utf8.decode s pos).2) HI.out)
            have HBI := Aside0.mk (below_iter (pos' := pos + (Utf8.decode s pos).2) HB.out HI.out HK.out)
            have HZ := Aside0.mk (show pos = 0 → (Utf8.decode s 0).1 = (Utf8.decode s pos).1 by rintro rfl; rfl)
            obtain ⟨r, hr⟩ : ∃ x, x = (Utf8.decode s pos).1 := ⟨_, rfl⟩
            obtain ⟨q, hq⟩ : ∃ x, x = pos + (Utf8.decode s pos).2 := ⟨_, rfl⟩
            rw [← hr, ← hq] at HS hnx
            rw [← hr] at HZ
            rw [← hq] at HI2 HBI
            have hpq : pos < q := by omega
            have HQ := Aside0.mk hpq
            have HP := Aside0.mk hp
            have HIP := Aside0.mk (iter_at HI.out)
            clear hr hq hw HI HR hp HB hpq
            obtain ⟨W1, hW1⟩ : ∃ x, x = wr.iterAt k s q := ⟨_, rfl⟩
            rw [← hW1] at hnx HI2 HBI
            clear hW1
            have CS := Aside0.mk (fun W => start_calls W (r : Int))
            have CP := Aside0.mk (fun W => part_calls W (r : Int))
            by_cases hz : pos = 0
            · rw [if_pos hz, HZ.out hz] at HS
              have hz' : (pos : Int) = 0 := by omega
              have hz2 : ((pos : Int) == 0) = true := by simp [hz']
              cases hb1 : startR (r : Int) with
              | false =>
                rw [hb1] at HS CS
                clear hb1
                go_wp2_with (go_at_call 74; (with_reducible refine (CS.out _).mono ?_); rintro e w4 ⟨rfl, hb⟩; have HB4 := Aside0.mk (below_step HBI.out hb); clear hb)
                go_ret
                exact ⟨by rw [HS.out]; rfl, HB4.out⟩
              | true =>
                rw [hb1] at HS CS
                clear hb1
                cases hb2 : partR (r : Int) with
                | false =>
                  rw [hb2] at HS CP
                  clear hb2
                  go_wp2_with (first | (go_at_call 74; (with_reducible refine (CS.out _).mono ?_); rintro e w4 ⟨rfl, hb⟩; have HB4 := Aside0.mk (below_step HBI.out hb); clear hb) | (go_at_call 46; (with_reducible refine (CP.out _).mono ?_); rintro e w5 ⟨rfl, hb⟩; have HB5 := Aside0.mk (below_step HB4.out hb); clear hb))
                  go_ret
                  exact ⟨by rw [HS.out]; rfl, HB5.out⟩
                | true =>
                  rw [hb2] at HS CP
                  clear hb2
                  go_wp2_with (first | (go_at_call 74; (with_reducible refine (CS.out _).mono ?_); rintro e w4 ⟨rfl, hb⟩; have HB4 := Aside0.mk (below_step HBI.out hb); have HI4 := Aside0.mk ((hb.block _ (blk_lt HI2.out)).trans HI2.out); clear hb) | (go_at_call 46; (with_reducible refine (CP.out _).mono ?_); rintro e w5 ⟨rfl, hb⟩; have HB5 := Aside0.mk (below_step HB4.out hb); have HI5 := Aside0.mk ((hb.block _ (blk_lt HI4.out)).trans HI4.out); clear hb))
                  go_roundw
                  case rel => exact ⟨q, HI5, ⟨by rw [HS.out, if_neg (by have := HQ.out; omega)]; rfl⟩, HB5⟩
                  case measure => rw [iter_at HI5.out, HIP.out]; have := HP.out; have := HQ.out; omega
            · rw [if_neg hz] at HS
              have hz' : ¬ (pos : Int) = 0 := by omega
              have hz2 : ((pos : Int) == 0) = false := by simp [hz]
              cases hb2 : partR (r : Int) with
              | false =>
                rw [hb2] at HS CP
                clear hb2
                go_wp2_with (go_at_call 46; (with_reducible refine (CP.out _).mono ?_); rintro e w5 ⟨rfl, hb⟩; have HB5 := Aside0.mk (below_step HBI.out hb); clear hb)
                go_ret
                exact ⟨by rw [HS.out]; rfl, HB5.out⟩
              | true =>
                rw [hb2] at HS CP
                clear hb2
                go_wp2_with (go_at_call 46; (with_reducible refine (CP.out _).mono ?_); rintro e w5 ⟨rfl, hb⟩; have HB5 := Aside0.mk (below_step HBI.out hb); have HI5 := Aside0.mk ((hb.block _ (blk_lt HI2.out)).trans HI2.out); clear hb)
                go_roundw
                case rel => exact ⟨q, HI5, ⟨by rw [HS.out, if_neg (by have := HQ.out; omega)]; rfl⟩, HB5⟩
                case measure => rw [iter_at HI5.out, HIP.out]; have := HP.out; have := HQ.out; omega
          · have hnx : ∀ ty, (Instr.next (.pointer (some ⟨k, 0, none⟩)) true ty).run Tryz.prog wr = _ := fun ty => Lib.run_next_end_at wr k s pos ty HI.out hp
            have HE := Aside0.mk (show res = true by rw [HR.out, drop_nil hp, if_neg (by omega)]; rfl)
            go_wp2_with fail
            go_ret
            rw [HE.out]
            exact ⟨rfl, HB.out⟩
    · have h1' : ¬ (s.size : Int) < 1 := by omega
      have h2' : (32 : Int) < (s.size : Int) := by omega
      rw [decide_eq_false h2]
      clear CT
      go_enter Tryz.func47, Tryz.ntmps47
      go_wp2_with fail
      go_ret
      exact ⟨by simp, Below.refl _ _⟩
  · have h1' : (s.size : Int) < 1 := by omega
    rw [decide_eq_false h1]
    clear CT
    go_enter Tryz.func47, Tryz.ntmps47
    go_wp2_with fail
    go_ret
    exact ⟨by simp, Below.refl _ _⟩
end Go.Proofs.YtagihjlklbckmaaGreatDoor.Sc
namespace Go.Proofs.YtagihjlklbckmaaGreatDoor.Sc
set_option linter.unusedVariables false
set_option linter.unusedSimpArgs false
open Go.RowKit Go.Proofs.YtagihjlklbckmaaGreatDoorW.PrintWords Go.Proofs.YtagihjlklbckmaaGreatDoorW.PrintLast Go.Proofs.YtagihjlklbckmaaGreatDoorW.PrintMore Go.Proofs.YtagihjlklbckmaaGreatDoor.Bs
abbrev LB := List UInt8
/-- The string of bytes. -/
def ofL (l : LB) : ByteArray := ⟨l.toArray⟩
theorem ofL_list (l : LB) : (ofL l).data.toList = l := rfl
theorem ofL_toList (l : LB) : (ofL l).toList = l := by rw [ByteArray.toList_eq]; rfl
theorem ofL_size (l : LB) : (ofL l).size = l.length := by rw [Lib.size_eq, ofL_list]
theorem of_list (s : ByteArray) : ofL s.data.toList = s := rfl
theorem ofL_extract (l : LB) (a b : Nat) : (ofL l).extract a b = ofL ((l.take b).drop a) := by
  rw [← of_list ((ofL l).extract a b)]
  congr 1
  rw [ByteArray.data_extract, Array.toList_extract]
  show List.extract l a b = _
  rw [List.extract_eq_take_drop, List.drop_take]
theorem ofL_cut (l : LB) (a : Nat) : (ofL l).extract a (ofL l).size = ofL (l.drop a) := by
  rw [ofL_extract, ofL_size, List.take_length]
theorem ofL_head (l : LB) (a : Nat) : (ofL l).extract 0 a = ofL (l.take a) := by
  rw [ofL_extract, List.drop_zero]
theorem decode_ofL (l : LB) (h : l ≠ []) : Lib.decodeGo (ofL l) = Lib.decodeL l := by
  unfold Lib.decodeGo
  have : 0 < l.length := List.length_pos_iff.2 h
  rw [if_neg (by rw [ofL_size]; omega)]
  rfl
/-- Why the scanner gives up. -/
def Bad (k : Int) (e : Ending) : Prop := e = .panicked [{ v := .iface 35 (.agg #[.int .i64 k]), recovered := false }]
set_option maxRecDepth 100000 in
theorem need_ok (w : World) (k : Int) : Calls Tryz.prog 25 #[.bool true, .int .i64 k] w fun e w' => e = .returned (.tuple #[]) ∧ w' = w := by
  go_enter Tryz.func25, Tryz.ntmps25
  go_wp2
  simp [bodyPost, results, Tryz.results25]
set_option maxRecDepth 100000 in
theorem need_no (w : World) (k : Int) : Calls Tryz.prog 25 #[.bool false, .int .i64 k] w fun e w' => Bad k e ∧ w' = w := by
  go_enter Tryz.func25, Tryz.ntmps25
  go_wp2
  exact ⟨rfl, rfl, rfl⟩
/-- How many bytes the runes take that answer yes. -/
def spanF (p : Int → Bool) : Nat → LB → Nat
  | 0, _ => 0
  | n + 1, l => if l = [] then 0 else if p (Lib.decodeL l).1 then (Lib.decodeL l).2 + spanF p n (l.drop (Lib.decodeL l).2) else 0
def spanN (p : Int → Bool) (l : LB) : Nat := spanF p l.length l
theorem spanF_fuel (p : Int → Bool) : ∀ (n m : Nat) (l : LB), l.length ≤ n → l.length ≤ m → spanF p n l = spanF p m l
  | 0, 0, l, _, _ => rfl
  | 0, m + 1, l, h, _ => by
    have : l = [] := List.length_eq_zero_iff.1 (by omega)
    subst this; rfl
  | n + 1, 0, l, _, h => by
    have : l = [] := List.length_eq_zero_iff.1 (by omega)
    subst this; rfl
  | n + 1, m + 1, l, h1, h2 => by
    rw [spanF, spanF]
    by_cases h : l = []
    · rw [if_pos h, if_pos h]
    · have hw := width_one l
      have hp : 0 < l.length := List.length_pos_iff.2 h
      rw [if_neg h, if_neg h, spanF_fuel p n m _ (by rw [List.length_drop]; omega) (by rw [List.length_drop]; omega)]
theorem spanN_nil (p : Int → Bool) : spanN p [] = 0 := rfl
theorem spanN_step (p : Int → Bool) (l : LB) (h : l ≠ []) : spanN p l = if p (Lib.decodeL l).1 then (Lib.decodeL l).2 + spanN p (l.drop (Lib.decodeL l).2) else 0 := by
  have hp : 0 < l.length := List.length_pos_iff.2 h
  have hw := width_one l
  unfold spanN
  conv => lhs; rw [show l.length = (l.length - 1) + 1 by omega]
  rw [spanF, if_neg h, spanF_fuel p (l.length - 1) _ _ (by rw [List.length_drop]; omega) (Nat.le_refl _)]
theorem spanF_le (p : Int → Bool) : ∀ (n : Nat) (l : LB), spanF p n l ≤ l.length
  | 0, l => Nat.zero_le _
  | n + 1, l => by
    rw [spanF]
    split
    · exact Nat.zero_le _
    · split
      · have h1 := Lib.decodeL_le l ‹_›
        have h2 := spanF_le p n (l.drop (Lib.decodeL l).2)
        rw [List.length_drop] at h2
        omega
      · exact Nat.zero_le _
theorem spanN_le (p : Int → Bool) (l : LB) : spanN p l ≤ l.length := spanF_le p _ l
theorem drop_ne' {l : LB} {n : Nat} (h : n < l.length) : l.drop n ≠ [] := by
  intro e
  have := congrArg List.length e
  rw [List.length_drop, List.length_nil] at this; omega
theorem Env.ch {g : Nat} {w w' : World} (h : Env w) (hc : Ch (fun k => k = g) w w') (hg : 6 ≤ g) : Env w' :=
  h.below' (Ch.to_below hc (B := 6) (fun k hk => by omega) h.big) (Nat.le_refl _) h.big
set_option maxRecDepth 100000 in
set_option maxHeartbeats 400000 in
theorem while_calls (w : World) (g : Nat) (l : LB) (tv : Value) (f : Nat) (p : Int → Bool) (hp : ∀ W (r : Int), Calls Tryz.prog f #[.int .i32 r] W fun e w' => e = .returned (.bool (p r)) ∧ Below W.heap.size W w')
    (hf : ∀ args w, (callFunc f args).run Tryz.prog w = .ok (.enter f args) w)
    (hq : w.heap[g]? = some (.cells #[.string (ofL l), tv] 40 (0, 0))) (E : Env w) (hl : l.length ≤ 1000000) :
    Calls Tryz.prog 45 #[.pointer (some ⟨g, 0, none⟩), .func (.func f) #[] #[]] w fun e w' => e = .returned (.string (ofL (l.take (spanN p l)))) ∧ w'.heap[g]? = some (.cells #[.string (ofL (l.drop (spanN p l))), tv] 40 (0, 0)) ∧ Ch (fun k => k = g) w w' := by
  have HP := Aside0.mk hp
  have HE := Aside0.mk E
  have HQ := Aside0.mk hq
  have HB0 := Aside0.mk (Below.refl w.heap.size w)
  have hsz := ofL_size l
  have HSZ := Aside0.mk hsz
  obtain ⟨N, hN⟩ : ∃ x, x = spanN p l := ⟨_, rfl⟩
  rw [← hN]
  have HN0 := Aside0.mk (show N = 0 + spanN p (l.drop 0) by rw [hN, List.drop_zero, Nat.zero_add])
  have HNL := Aside0.mk (show N ≤ l.length from hN ▸ spanN_le p l)
  clear hp E hq hN hsz
  go_enter Tryz.func45, Tryz.ntmps45
  go_wp2_with fail
  go_loopw [5] (fun v5 wr => ∃ n : Nat, v5 = .int .i64 n ∧ n ≤ l.length ∧ Aside0 (N = n + spanN p (l.drop n)) ∧ Aside0 (Below w.heap.size w wr)) (fun v5 _ => l.length - (intOf v5).toNat)
  case atStart => exact ⟨0, rfl, Nat.zero_le _, HN0, HB0⟩
  case round =>
    clear HN0 HB0
    obtain ⟨n, rfl, hn, HN, HB⟩ := hrel
    have HQ2 := Aside0.mk ((HB.out.block _ (blk_lt HQ.out)).trans HQ.out)
    obtain ⟨q0, q1, q2⟩ := blk2 HQ2.out
    have hsz : ((ofL l).size : Int) = (l.length : Int) := by rw [HSZ.out]
    by_cases hlt : n < l.length
    · have h1 : (n : Int) < (l.length : Int) := by omega
      have h2 : (n : Int) ≤ ((ofL l).size : Int) := by omega
      have hcut := ofL_cut l n
      have CD := Aside0.mk (Tryz.utf8_DecodeRuneInString (ofL (l.drop n)) wr (HE.out.below HB.out).tabs)
      rw [decode_ofL _ (drop_ne' hlt)] at CD
      have HST := Aside0.mk (spanN_step p _ (drop_ne' hlt))
      have HW := Aside0.mk (And.intro (width_one (l.drop n)) (Lib.decodeL_le _ (drop_ne' hlt)))
      obtain ⟨r, hr⟩ : ∃ x, x = (Lib.decodeL (l.drop n)).1 := ⟨_, rfl⟩
      obtain ⟨m, hm⟩ : ∃ x, x = (Lib.decodeL (l.drop n)).2 := ⟨_, rfl⟩
      rw [← hr, ← hm] at CD HST
      rw [← hm] at HW
      clear hr hm
      go_wp2_with fail
      (with_reducible refine CD.out.mono ?_)
      rintro e w2 ⟨rfl, hb⟩
      have HB2 := Aside0.mk (below_step HB.out hb)
      clear hb CD
      have CP := Aside0.mk (HP.out w2 (r : Int))
      generalize p (r : Int) = b at CP HST
      go_wp2_with fail
      (with_reducible refine CP.out.mono ?_)
      rintro e w3 ⟨rfl, hb⟩
      have HB3 := Aside0.mk (below_step HB2.out hb)
      clear hb CP
      cases b with
      | true =>
        have hnm : n + m ≤ l.length := by have := HW.out.2; rw [List.length_drop] at this; omega
        have HN2 := Aside0.mk (show N = (n + m) + spanN p (l.drop (n + m)) by rw [HN.out, HST.out, if_pos rfl, List.drop_drop]; omega)
        have hm1 : 1 ≤ m := HW.out.1
        go_wp2_with fail
        go_roundw
        case rel => exact ⟨n + m, by first | rfl | simp, hnm, HN2, HB3⟩
        case measure => simp [intOf]; omega
      | false =>
        have hNn : N = n := by rw [HN.out, HST.out, if_neg (by simp)]; rfl
        have HQ3 := Aside0.mk ((HB3.out.block _ (blk_lt HQ.out)).trans HQ.out)
        clear q0 q1 q2 HST HN
        obtain ⟨q0, q1, q2⟩ := blk2 HQ3.out
        have hhead := ofL_head l n
        have HNN := Aside0.mk hNn
        clear hNn
        go_wp2_with fail
        go_ret
        rw [HNN.out]
        exact ⟨rfl, blk_upd 0 _ HQ3.out rfl, (Ch.refl (fun k => k = g) w).below HB3.out |>.setCell (p := ⟨g, 0, none⟩) (.inl rfl) _⟩
    · have h1 : ¬ (n : Int) < (l.length : Int) := by omega
      have hnl : n = l.length := by omega
      have hNn : N = n := by rw [HN.out, List.drop_of_length_le (by omega), spanN_nil]; rfl
      have hhead := ofL_head l n
      have hcut := ofL_cut l n
      have h2 : (n : Int) ≤ ((ofL l).size : Int) := by omega
      have HNN := Aside0.mk hNn
      clear hNn HN hnl
      go_wp2_with fail
      go_ret
      rw [HNN.out]
      exact ⟨rfl, blk_upd 0 _ HQ2.out rfl, (Ch.refl (fun k => k = g) w).below HB.out |>.setCell (p := ⟨g, 0, none⟩) (.inl rfl) _⟩
end Go.Proofs.YtagihjlklbckmaaGreatDoor.Sc
namespace Go.Proofs.YtagihjlklbckmaaGreatDoor.Sc
set_option linter.unusedVariables false
set_option linter.unusedSimpArgs false
open Go.RowKit Go.Proofs.YtagihjlklbckmaaGreatDoorW.PrintWords Go.Proofs.YtagihjlklbckmaaGreatDoorW.PrintLast Go.Proofs.YtagihjlklbckmaaGreatDoorW.PrintMore Go.Proofs.YtagihjlklbckmaaGreatDoor.Bs
/-- What a method that takes a piece gives. -/
def Took (w : World) (g : Nat) (tv : Value) (r : Except Int (LB × LB)) (e : Ending) (w' : World) : Prop := match r with
  | .error k => Bad k e ∧ Ch (fun j => j = g) w w'
  | .ok (t, rest) => e = .returned (.string (ofL t)) ∧ w'.heap[g]? = some (.cells #[.string (ofL rest), tv] 40 (0, 0)) ∧ Ch (fun j => j = g) w w'
/-- .. that takes and gives nothing. -/
def Took0 (w : World) (g : Nat) (tv : Value) (r : Except Int LB) (e : Ending) (w' : World) : Prop := match r with
  | .error k => Bad k e ∧ Ch (fun j => j = g) w w'
  | .ok rest => e = .returned (.tuple #[]) ∧ w'.heap[g]? = some (.cells #[.string (ofL rest), tv] 40 (0, 0)) ∧ Ch (fun j => j = g) w w'
def upToM (t l : LB) : Except Int (LB × LB) := if (Lib.cut l t).2.2 = true then .ok ((Lib.cut l t).1, (Lib.cut l t).2.1) else .error 16
def mustM (b : UInt8) (l : LB) : Except Int LB := match l with
  | [] => .error 16
  | c :: r => if c = b then .ok r else .error 13
def nameM (l : LB) : Except Int (LB × LB) :=
  if l.take (spanN partR l) = [] ∧ l.drop (spanN partR l) = [] then .error 16
  else if nameL (l.take (spanN partR l)) = true then .ok (l.take (spanN partR l), l.drop (spanN partR l)) else .error 11
set_option maxRecDepth 100000 in
set_option maxHeartbeats 400000 in
theorem upTo_calls (w : World) (g : Nat) (l t : LB) (tv : Value) (hq : w.heap[g]? = some (.cells #[.string (ofL l), tv] 40 (0, 0))) (E : Env w) (hl : l.length ≤ 1000000) :
    Calls Tryz.prog 44 #[.pointer (some ⟨g, 0, none⟩), .string (ofL t)] w (Took w g tv (upToM t l)) := by
  obtain ⟨m, hm⟩ := E.most
  have CC := Aside0.mk (Tryz.strings_Cut (ofL l) (ofL t) m w (by rw [ofL_size]; omega) hm)
  rw [ofL_list, ofL_list] at CC
  have HQ := Aside0.mk hq
  obtain ⟨q0, q1, q2⟩ := blk2 hq
  unfold upToM
  have CC2 : Aside0 (Calls Tryz.prog 73 #[.string (ofL l), .string (ofL t)] w fun e w' => e = .returned (.tuple #[.string (ofL (Lib.cut l t).1), .string (ofL (Lib.cut l t).2.1), .bool (Lib.cut l t).2.2]) ∧ ∃ n, w' = w.drewN n) := CC
  clear CC hq hm E
  generalize Lib.cut l t = x at CC2 ⊢
  obtain ⟨a, b, c⟩ := x
  simp only at CC2 ⊢
  cases c with
  | true =>
    rw [if_pos rfl]
    go_enter Tryz.func44, Tryz.ntmps44
    go_wp2_with (first | (go_at_call 73; (with_reducible refine CC2.out.mono ?_); rintro e w2 ⟨rfl, n, rfl⟩) | (go_at_call 25; (with_reducible refine (need_ok _ _).mono ?_); rintro e w3 ⟨rfl, rfl⟩))
    go_ret
    exact ⟨rfl, blk_upd 0 _ (show (w.drewN n).heap[g]? = _ from HQ.out) rfl, ((Ch.refl (fun j => j = g) w).drewN n).setCell (p := ⟨g, 0, none⟩) (.inl rfl) _⟩
  | false =>
    rw [if_neg (by simp)]
    go_enter Tryz.func44, Tryz.ntmps44
    go_wp2_with (first | (go_at_call 73; (with_reducible refine CC2.out.mono ?_); rintro e w2 ⟨rfl, n, rfl⟩))
    (with_reducible refine (need_no _ _).mono ?_)
    rintro e w3 ⟨rfl, rfl⟩
    exact ⟨rfl, rfl, (Ch.refl (fun j => j = g) w).drewN n⟩
set_option maxRecDepth 100000 in
set_option maxHeartbeats 400000 in
theorem must_calls (w : World) (g : Nat) (l : LB) (b : UInt8) (tv : Value) (hq : w.heap[g]? = some (.cells #[.string (ofL l), tv] 40 (0, 0))) :
    Calls Tryz.prog 52 #[.pointer (some ⟨g, 0, none⟩), .int .u8 b.toNat] w (Took0 w g tv (mustM b l)) := by
  have HQ := Aside0.mk hq
  obtain ⟨q0, q1, q2⟩ := blk2 hq
  cases l with
  | nil =>
    have hn : (ofL ([] : LB)).toList = [] := ofL_toList []
    go_enter Tryz.func52, Tryz.ntmps52
    go_wp2_with fail
    (with_reducible refine (need_no _ _).mono ?_)
    rintro e w3 ⟨rfl, rfl⟩
    exact ⟨rfl, rfl, Ch.refl _ _⟩
  | cons c r =>
    have hn : ¬ (ofL (c :: r)).toList = [] := by rw [ofL_toList]; simp
    have hne : (ofL (c :: r)).toList.isEmpty = false := by rw [ofL_toList]; rfl
    have hz : 0 < (ofL (c :: r)).size := by rw [ofL_size]; simp
    have hz' : (0 : Int) < ((ofL (c :: r)).size : Int) := by omega
    have hz1 : (1 : Int) ≤ ((ofL (c :: r)).size : Int) := by omega
    have hget : (ofL (c :: r))[0]'hz = c := rfl
    have hcut : (ofL (c :: r)).extract 1 (ofL (c :: r)).size = ofL r := ofL_cut (c :: r) 1
    unfold mustM
    by_cases hc : c = b
    · subst hc
      simp only [if_pos]
      go_enter Tryz.func52, Tryz.ntmps52
      go_wp2_with (go_at_call 25; (with_reducible refine (need_ok _ _).mono ?_); rintro e w3 ⟨rfl, rfl⟩)
      refine bodyPost_ret (v := .tuple #[]) (by simp [results, Tryz.results52]) rfl ?_
      exact ⟨rfl, blk_upd 0 _ HQ.out rfl, ((Ch.refl (fun j => j = g) _)).setCell (p := ⟨g, 0, none⟩) (.inl rfl) _⟩
    · have hcn : ¬ (c.toNat : Int) = (b.toNat : Int) := by
        intro e; exact hc (UInt8.toNat_inj.1 (by omega))
      have hcb : ((c.toNat : Int) == (b.toNat : Int)) = false := by simp [hcn]
      simp only [if_neg hc]
      go_enter Tryz.func52, Tryz.ntmps52
      go_wp2_with fail
      (with_reducible refine (need_ok _ _).mono ?_)
      rintro e w3 ⟨rfl, rfl⟩
      go_wp2_with fail
      (with_reducible refine (need_no _ _).mono ?_)
      rintro e w3 ⟨rfl, rfl⟩
      exact ⟨rfl, rfl, Ch.refl _ _⟩
theorem enter_part : ∀ args w, (callFunc 46 args).run Tryz.prog w = .ok (.enter 46 args) w := fun args w => by kernel_rfl
theorem enter_space : ∀ args w, (callFunc 50 args).run Tryz.prog w = .ok (.enter 50 args) w := fun args w => by kernel_rfl
set_option maxRecDepth 100000 in
set_option maxHeartbeats 400000 in
theorem name_get (w : World) (g : Nat) (l : LB) (tv : Value) (hq : w.heap[g]? = some (.cells #[.string (ofL l), tv] 40 (0, 0))) (E : Env w) (hg : 6 ≤ g) (hl : l.length ≤ 1000000) :
    Calls Tryz.prog 51 #[.pointer (some ⟨g, 0, none⟩)] w (Took w g tv (nameM l)) := by
  have CW := Aside0.mk (while_calls w g l tv 46 partR part_calls enter_part hq E hl)
  have HE := Aside0.mk E
  have HTL := Aside0.mk (show (l.take (spanN partR l)).length ≤ 1000000 by rw [List.length_take]; omega)
  unfold nameM
  generalize l.take (spanN partR l) = t at *
  generalize l.drop (spanN partR l) = r at *
  clear E hq
  by_cases ht : t = []
  · subst ht
    have hn : (ofL ([] : LB)).toList = [] := ofL_toList []
    by_cases hr : r = []
    · subst hr
      rw [if_pos ⟨rfl, rfl⟩]
      go_enter Tryz.func51, Tryz.ntmps51
      go_wp2_with fail
      (with_reducible refine CW.out.mono ?_)
      rintro e w2 ⟨rfl, hq, hch⟩
      obtain ⟨q0, q1, q2⟩ := blk2 hq
      have HC := Aside0.mk hch
      clear hq hch
      go_wp2_with fail
      (with_reducible refine (need_no _ _).mono ?_)
      rintro e w3 ⟨rfl, rfl⟩
      exact ⟨rfl, rfl, HC.out⟩
    · rw [if_neg (fun h => hr h.2), if_neg (by decide)]
      have hn2 : ¬ (ofL r).toList = [] := by rw [ofL_toList]; exact hr
      have hn3 : (ofL r).toList.isEmpty = false := by rw [ofL_toList]; cases r with | nil => exact absurd rfl hr | cons => rfl
      go_enter Tryz.func51, Tryz.ntmps51
      go_wp2_with fail
      (with_reducible refine CW.out.mono ?_)
      rintro e w2 ⟨rfl, hq, hch⟩
      obtain ⟨q0, q1, q2⟩ := blk2 hq
      have HC := Aside0.mk hch
      have CN := Aside0.mk (name_calls w2 (ofL []) (by rw [ofL_size]; simp) (HE.out.ch hch hg))
      rw [ofL_list, show nameL [] = false from rfl] at CN
      clear hq hch
      go_wp2_with fail
      (with_reducible refine (need_ok _ _).mono ?_)
      rintro e w3 ⟨rfl, rfl⟩
      go_wp2_with fail
      (with_reducible refine CN.out.mono ?_)
      rintro e w4 ⟨rfl, hb⟩
      have HC4 := Aside0.mk (HC.out.below hb)
      clear hb
      go_wp2_with fail
      (with_reducible refine (need_no _ _).mono ?_)
      rintro e w3 ⟨rfl, rfl⟩
      exact ⟨rfl, rfl, HC4.out⟩
  · rw [if_neg (fun h => ht h.1)]
    have hn2 : ¬ (ofL t).toList = [] := by rw [ofL_toList]; exact ht
    have hn3 : (ofL t).toList.isEmpty = false := by rw [ofL_toList]; cases t with | nil => exact absurd rfl ht | cons => rfl
    obtain ⟨R, hR⟩ : ∃ x, x = (if nameL t = true then Except.ok (t, r) else Except.error 11 : Except Int (LB × LB)) := ⟨_, rfl⟩
    rw [← hR]
    have HR := Aside0.mk hR
    clear hR
    go_enter Tryz.func51, Tryz.ntmps51
    go_wp2_with fail
    (with_reducible refine CW.out.mono ?_)
    rintro e w2 ⟨rfl, hq, hch⟩
    obtain ⟨q0, q1, q2⟩ := blk2 hq
    have HC := Aside0.mk hch
    have HQ := Aside0.mk hq
    have CN := Aside0.mk (name_calls w2 (ofL t) (by rw [ofL_size]; have := HTL.out; omega) (HE.out.ch hch hg))
    rw [ofL_list] at CN
    generalize nameL t = b at CN HR
    clear hq hch
    go_wp2_with fail
    (with_reducible refine (need_ok _ _).mono ?_)
    rintro e w3 ⟨rfl, rfl⟩
    go_wp2_with fail
    (with_reducible refine CN.out.mono ?_)
    rintro e w4 ⟨rfl, hb⟩
    have HC4 := Aside0.mk (HC.out.below hb)
    have HQ4 := Aside0.mk ((hb.block _ (blk_lt HQ.out)).trans HQ.out)
    clear hb
    cases b with
    | true =>
      go_wp2_with fail
      (with_reducible refine (need_ok _ _).mono ?_)
      rintro e w3 ⟨rfl, rfl⟩
      go_wp2_with fail
      go_ret
      rw [show R = Except.ok (t, r) by rw [HR.out]; simp]
      exact ⟨rfl, HQ4.out, HC4.out⟩
    | false =>
      go_wp2_with fail
      (with_reducible refine (need_no _ _).mono ?_)
      rintro e w3 ⟨rfl, rfl⟩
      rw [show R = Except.error 11 by rw [HR.out]; simp]
      exact ⟨rfl, rfl, HC4.out⟩
end Go.Proofs.YtagihjlklbckmaaGreatDoor.Sc
namespace Go.Proofs.YtagihjlklbckmaaGreatDoor.Sc
set_option linter.unusedVariables false
set_option linter.unusedSimpArgs false
open Go.RowKit Go.Proofs.YtagihjlklbckmaaGreatDoorW.PrintWords Go.Proofs.YtagihjlklbckmaaGreatDoorW.PrintLast Go.Proofs.YtagihjlklbckmaaGreatDoorW.PrintMore Go.Proofs.YtagihjlklbckmaaGreatDoor.Bs
structure Grew (B : Nat) (w : World) (v v' : Value) (xs : List Int) (w' : World) : Prop where
  row : (Kd.int .u8).R 5 w' B (fun _ => True) v' xs
  at_ : ∀ k, some k = v'.ownBlock → some k = v.ownBlock ∨ w.heap.size ≤ k
  ch : Ch (fun k => some k = v.ownBlock) w w'
theorem Ch.rowI {k : IntKind} {e base : Nat} {ok S : Nat → Prop} {v : Value} {xs : List Int} {a b : World} (h : Ch S a b) (hr : (Kd.int k).R e a base ok v xs) (hn : ∀ j, base ≤ j → ¬ S j) : (Kd.int k).R e b base ok v xs :=
  Kd.R_mono (Kd.R_step (Kd.R_tight rfl hr) (fun j hj hlt => h.block j hlt (hn j (Kd.R_base hr j hj.symm)))) (fun j hj => hr.1 j hj.symm)
section
variable {P : Program} {ops : Array Oper} {rest : List Oper} {o : Oper} {a : Act} {Q : Exit → Act → World → Prop}
/-- append(v, s...) with a string. -/
theorem gstr {W : World} (base : Nat) (hgd : o.guard = none) (s x : Operand) (t u : TypeId)
    (ho : o.op = .call { callee := .builtin .append, args := #[s, x], argTypes := #[t, u] })
    (ht : P.underlying t = some (.slice 5)) (hu : P.underlying u = some .string) (hinfo : (P.info? 5).map (fun i => (i.zero, i.size, i.bytes)) = some (some (.int .u8 0), 1, 1))
    (v : Value) (xs : List Int) (y : ByteArray) (hs : a.eval s = v) (hx : a.eval x = .string y) (HO : (Kd.int .u8).R 5 W base (fun _ => True) v xs) (hbase : base ≤ W.heap.size) (hl : xs.length + y.size ≤ 140737488355328)
    (h : ∀ A c w1 zs, Aside0 (zs = xs ++ bytesOf y) → Grew base W v (.slice A zs.length c) zs w1 → wpList P ops Q rest (a.put o.dst (.slice A zs.length c)) w1) :
    wpList P ops Q (o :: rest) a W := by
  refine wpList_plain hgd fun K hK => ?_
  have hw : Region.wanted o (yielded ops a.tmps) = true := by simp [Region.wanted, hgd]
  have e : xs.length + y.size = (xs ++ bytesOf y).length := by rw [List.length_append, bytesOf_length]
  have := str_step (ops := ops) (Q := Q) (Kc := K) base hw s x t u 5 ho ht hu hinfo v xs y (fun _ => True) hs hx HO hbase hl (fun A c W1 h1 h2 h3 => hK _ _ (by rw [e] at h1 h3 ⊢; exact h A c W1 _ ⟨rfl⟩ ⟨h1, fun k hk => h3 k hk.symm, h2⟩))
  rwa [if_pos hw] at this
/-- append(v, x), one byte. -/
theorem gbyte {W : World} (base : Nat) (hgd : o.guard = none) (s x : Operand) (t : TypeId)
    (ho : o.op = .call { callee := .builtin .append, args := #[s, x], argTypes := #[t, t] })
    (ht : P.underlying t = some (.slice 5)) (hinfo : (P.info? 5).map (fun i => (i.zero, i.size, i.bytes)) = some (some (.int .u8 0), 1, 1))
    (v : Value) (xs : List Int) (p : Int) (hs : a.eval s = v) (hx : a.eval x = .slice (some ⟨W.heap.size, 0, none⟩) 1 1)
    (HO : (Kd.int .u8).R 5 W base (fun _ => True) v xs) (hbase : base ≤ W.heap.size) (hl : xs.length + 1 ≤ 140737488355328)
    (h : ∀ A c w1 zs, Aside0 (zs = xs ++ [p]) → Grew base W v (.slice A zs.length c) zs w1 → wpList P ops Q rest (a.put o.dst (.slice A zs.length c)) w1) :
    wpList P ops Q (o :: rest) a (W.alloc (.cells [Value.int .u8 p].toArray 5)) := by
  have e : xs.length + 1 = (xs ++ [p]).length := by simp
  refine app_list (Kd.int .u8) (W := W) base hgd s x t 5 (.int .u8 0) 1 ho ht hinfo ⟨rfl, by decide, by decide⟩ v xs p [.int .u8 p] (fun _ => True) (fun _ => False) hs hx rfl (fun _ h => h.elim) HO hbase (by omega) ?_
  intro A c w1 h1 h2 h3
  rw [e] at h1 h3 ⊢
  exact h A c w1 _ ⟨rfl⟩ ⟨Kd.R_mono h1 (fun _ _ => trivial), fun k hk => h3 k hk.symm, h2⟩
end
theorem blk4 {w : World} {g t : Nat} {a b c d : Value} (h : w.heap[g]? = some (.cells #[a, b, c, d] t (0, 0))) : w.cell? ⟨g, 0, none⟩ = some a ∧ w.cell? ⟨g, 1, none⟩ = some b ∧ w.cell? ⟨g, 2, none⟩ = some c ∧ w.cell? ⟨g, 3, none⟩ = some d ∧ ∀ i, w.frozen? ⟨g, i, none⟩ = false :=
  ⟨blk_cell h 0, blk_cell h 1, blk_cell h 2, blk_cell h 3, fun i => blk_frozen h i⟩
/-- The reader, and what it has written. -/
structure Rdr (g : Nat) (W : World) (s : LB) (ad bv pv : Value) (lo : List Int) : Prop where
  blk : W.heap[g]? = some (.cells #[.string (ofL s), ad, bv, pv] 109 (0, 0))
  row : (Kd.int .u8).R 5 W (g + 1) (fun _ => True) bv lo
  nil : lo = [] → bv = .slice none 0 0
def selfAd (g : Nat) : Value := .pointer (some ⟨g, 1, none⟩)
theorem uinfo5 : (Tryz.prog.info? 5).map (fun i => (i.zero, i.size, i.bytes)) = some (some (.int .u8 0), 1, 1) := by kernel_rfl
theorem und58 : Tryz.prog.underlying 96 = some (.pointer 99) := Tryz.underlying96
theorem und100 : Tryz.prog.underlying 132 = some .unsafePointer := Tryz.underlying132
theorem info61 : (Tryz.prog.info? 99).map (·.size) = some 2 := by kernel_rfl
theorem lies61 : liesAt Tryz.prog Tryz.prog.depth 109 (4 / Tryz.prog.cellsOf 109) 1 99 1 = true := by kernel_rfl
theorem shape94 {W : World} {g : Nat} {a b c d : Value} (h : W.heap[g]? = some (.cells #[a, b, c, d] 109 (0, 0))) : W.shape? g = some (109, 4) := by
  simp [World.shape?, h]
theorem to_unsafe {W : World} {g : Nat} (hsh : W.shape? g = some (109, 4)) : (convert 96 132 (.pointer (some ⟨g, 1, none⟩))).run Tryz.prog W = .ok (.pointer (some ⟨g, 1, none⟩)) W := by
  obtain ⟨j, hj, hjs⟩ := Option.map_eq_some_iff.1 info61
  exact Lib.run_to_unsafe (w := W) ⟨g, 1, none⟩ und58 und100 hj (by rw [hjs]; decide) hsh (by show 1 < 4; omega)
theorem from_unsafe {W : World} {g : Nat} (hsh : W.shape? g = some (109, 4)) : (convert 132 96 (.pointer (some ⟨g, 1, none⟩))).run Tryz.prog W = .ok (.pointer (some ⟨g, 1, none⟩)) W := by
  obtain ⟨j, hj, hjs⟩ := Option.map_eq_some_iff.1 info61
  exact Lib.run_from_unsafe (w := W) ⟨g, 1, none⟩ und100 und58 hj hsh lies61
theorem no_escape (x : Value) (W : World) : (callFunc 96 #[x]).run Tryz.prog W = .ok (.value x) W := by
  rw [run_callFunc_extern Tryz.func96 (by kernel_rfl) (by kernel_rfl) (by kernel_rfl) (e := Extern.AbiNoEscape.same) (by kernel_rfl)]
  rw [Lib.run_noEscape]; rfl
theorem self_same {W : World} (a : Addr) : (binOp .neq 96 (.pointer (some a)) (.pointer (some a))).run Tryz.prog W = .ok (.bool false) W := by
  obtain ⟨j, hj, hjs⟩ := Option.map_eq_some_iff.1 info61
  exact Lib.run_neq_ptr_same (w := W) a und58 hj
set_option maxRecDepth 100000 in
set_option maxHeartbeats 400000 in
theorem check_fresh (W : World) (g : Nat) (s : LB) (bv pv : Value) (h : W.heap[g]? = some (.cells #[.string (ofL s), .pointer none, bv, pv] 109 (0, 0))) :
    Calls Tryz.prog 84 #[.pointer (some ⟨g, 1, none⟩)] W fun e w' => e = .returned (.tuple #[]) ∧ w'.heap[g]? = some (.cells #[.string (ofL s), selfAd g, bv, pv] 109 (0, 0)) ∧ Ch (fun k => k = g) W w' := by
  obtain ⟨q0, q1, q2, q3, q4⟩ := blk4 h
  have HQ := Aside0.mk h
  have c1 := to_unsafe (shape94 h)
  have c2 := from_unsafe (shape94 h)
  have c3 := no_escape
  go_enter Tryz.func84, Tryz.ntmps84
  go_wp2
  go_end0
  exact ⟨rfl, blk_upd 1 _ HQ.out rfl, (Ch.refl (fun k => k = g) _).setCell (p := ⟨g, 1, none⟩) (.inl rfl) _⟩
set_option maxRecDepth 100000 in
set_option maxHeartbeats 400000 in
theorem check_used (W : World) (g : Nat) (s : LB) (bv pv : Value) (h : W.heap[g]? = some (.cells #[.string (ofL s), selfAd g, bv, pv] 109 (0, 0))) :
    Calls Tryz.prog 84 #[.pointer (some ⟨g, 1, none⟩)] W fun e w' => e = .returned (.tuple #[]) ∧ w' = W := by
  obtain ⟨q0, q1, q2, q3, q4⟩ := blk4 h
  have q1' : W.cell? ⟨g, 1, none⟩ = some (.pointer (some ⟨g, 1, none⟩)) := q1
  have c1 : (binOp .neq 96 (.pointer (some ⟨g, 1, none⟩)) (.pointer (some ⟨g, 1, none⟩))).run Tryz.prog W = .ok (.bool false) W := self_same (W := W) ⟨g, 1, none⟩
  clear q1
  go_enter Tryz.func84, Tryz.ntmps84
  go_wp2
  go_end0
  exact ⟨rfl, rfl⟩
def adOk (g : Nat) (ad : Value) : Prop := ad = .pointer none ∨ ad = selfAd g
theorem check_calls (W : World) (g : Nat) (s : LB) (ad bv pv : Value) (had : adOk g ad) (h : W.heap[g]? = some (.cells #[.string (ofL s), ad, bv, pv] 109 (0, 0))) :
    Calls Tryz.prog 84 #[.pointer (some ⟨g, 1, none⟩)] W fun e w' => e = .returned (.tuple #[]) ∧ w'.heap[g]? = some (.cells #[.string (ofL s), selfAd g, bv, pv] 109 (0, 0)) ∧ Ch (fun k => k = g) W w' := by
  rcases had with rfl | rfl
  · exact check_fresh W g s bv pv h
  · refine (check_used W g s bv pv h).mono ?_
    rintro e w' ⟨rfl, rfl⟩
    exact ⟨rfl, h, Ch.refl _ _⟩
theorem Rdr.grown {g n : Nat} {W w1 : World} {s : LB} {ad bv pv : Value} {lo lo2 : List Int} {A : Option Addr} {c : Nat} (h : Rdr g W s ad bv pv lo) (hz : lo2.length = n) (hl2 : lo2 ≠ []) (hg : Grew (g + 1) W bv (.slice A n c) lo2 w1) :
    Rdr g (w1.setCell ⟨g, 2, none⟩ (.slice A n c)) s ad (.slice A n c) pv lo2 ∧ Below g W (w1.setCell ⟨g, 2, none⟩ (.slice A n c)) := by
  have hne : ∀ k, some k = bv.ownBlock → g + 1 ≤ k := fun k hk => Kd.R_base h.row k hk.symm
  have hb1 := hg.ch.heap h.blk (fun e => by have := hne g e; omega)
  have hset : Ch (fun k => k = g) w1 (w1.setCell ⟨g, 2, none⟩ (.slice A n c)) := (Ch.refl (fun k => k = g) w1).setCell (p := ⟨g, 2, none⟩) (.inl rfl) _
  have hlt := blk_lt h.blk
  refine ⟨⟨blk_upd 2 _ hb1 rfl, ?_, fun e => absurd e hl2⟩, ?_⟩
  · exact Ch.rowI hset hg.row (fun k hk e => by omega)
  · exact (Ch.to_below hg.ch (B := g) (fun k hk => by have := hne k hk; omega) (by omega)).trans (Ch.to_below hset (fun k hk => by omega) (by have := hg.ch.size; omega))
set_option maxRecDepth 100000 in
set_option maxHeartbeats 400000 in
theorem byte_calls (W : World) (g : Nat) (s : LB) (ad bv pv : Value) (lo : List Int) (b : Int) (had : adOk g ad) (h : Rdr g W s ad bv pv lo) (hl : lo.length ≤ 1000000000) :
    Calls Tryz.prog 89 #[.pointer (some ⟨g, 1, none⟩), .int .u8 b] W fun e w' => e = .returned .nilIface ∧ (∃ bv', Rdr g w' s (selfAd g) bv' pv (lo ++ [b])) ∧ Below g W w' := by
  have CC := Aside0.mk (check_calls W g s ad bv pv had h.blk)
  have H := Aside0.mk h
  clear had h
  go_enter Tryz.func89, Tryz.ntmps89
  go_wp2_with fail
  (with_reducible refine CC.out.mono ?_)
  rintro e w2 ⟨rfl, hq, hch⟩
  have H2 := Aside0.mk (Rdr.mk hq (Ch.rowI hch H.out.row (fun k hk e => by omega)) H.out.nil)
  have HC := Aside0.mk (Ch.to_below hch (B := g) (fun k hk => by omega) (Nat.le_of_lt (blk_lt H.out.blk)))
  obtain ⟨q0, q1, q2, q3, q4⟩ := blk4 hq
  have HZ := Aside0.mk (show g + 1 ≤ w2.heap.size from blk_lt hq)
  clear hq hch CC H
  go_wp2_with (first | ((with_reducible refine gate_builtin (b := .append) (xs := #[.tmp 11, .tmp 13]) rfl ?_); at_builtin; go_loud (refine gbyte (W := w2) (g + 1) rfl (.tmp 11) (.tmp 13) 97 rfl Tryz.underlying97 uinfo5 bv lo b rfl rfl H2.out.row HZ.out (by omega) ?_); intro A c w3 zs hz hgr; have hbl := hgr.ch.heap H2.out.blk (fun e => by have := Kd.R_base H2.out.row g e.symm; omega); obtain ⟨f0, f1, f2, f3, f4⟩ := blk4 hbl; have HR := Aside0.mk (H2.out.grown rfl (by rw [hz.out]; simp) hgr); have HZS := Aside0.mk hz.out; clear hgr hz hbl))
  go_ret
  exact ⟨rfl, ⟨_, by rw [← HZS.out]; exact HR.out.1⟩, HC.out.trans HR.out.2⟩
set_option maxRecDepth 100000 in
set_option maxHeartbeats 400000 in
theorem write_calls (W : World) (g : Nat) (s : LB) (ad bv pv : Value) (lo : List Int) (y : LB) (had : adOk g ad) (h : Rdr g W s ad bv pv lo) (hl : lo.length ≤ 1000000000) (hy : y.length ≤ 1000000000) (hy0 : y ≠ []) :
    Calls Tryz.prog 67 #[.pointer (some ⟨g, 1, none⟩), .string (ofL y)] W fun e w' => (∃ n, e = .returned (.tuple #[.int .i64 n, .nilIface])) ∧ (∃ bv', Rdr g w' s (selfAd g) bv' pv (lo ++ bytesOf (ofL y))) ∧ Below g W w' := by
  have CC := Aside0.mk (check_calls W g s ad bv pv had h.blk)
  have H := Aside0.mk h
  have HY := Aside0.mk (show (ofL y).size ≤ 1000000000 by rw [ofL_size]; exact hy)
  have HN := Aside0.mk (show lo ++ bytesOf (ofL y) ≠ [] by
    intro e
    have := congrArg List.length e
    rw [List.length_append, bytesOf_length, ofL_size, List.length_nil] at this
    exact hy0 (List.length_eq_zero_iff.1 (by omega)))
  clear had h hy hy0
  go_enter Tryz.func67, Tryz.ntmps67
  go_wp2_with fail
  (with_reducible refine CC.out.mono ?_)
  rintro e w2 ⟨rfl, hq, hch⟩
  have H2 := Aside0.mk (Rdr.mk hq (Ch.rowI hch H.out.row (fun k hk e => by omega)) H.out.nil)
  have HC := Aside0.mk (Ch.to_below hch (B := g) (fun k hk => by omega) (Nat.le_of_lt (blk_lt H.out.blk)))
  obtain ⟨q0, q1, q2, q3, q4⟩ := blk4 hq
  have HZ := Aside0.mk (show g + 1 ≤ w2.heap.size from blk_lt hq)
  clear hq hch CC H
  go_wp2_with (first | ((with_reducible refine gate_builtin (b := .append) (xs := #[.tmp 12, .tmp 13]) rfl ?_); at_builtin; go_loud (refine gstr (W := w2) (g + 1) rfl (.tmp 12) (.tmp 13) 97 9 rfl Tryz.underlying97 Tryz.underlying9 uinfo5 bv lo (ofL y) rfl rfl H2.out.row HZ.out (by have := HY.out; omega) ?_); intro A c w3 zs hz hgr; have hbl := hgr.ch.heap H2.out.blk (fun e => by have := Kd.R_base H2.out.row g e.symm; omega); obtain ⟨f0, f1, f2, f3, f4⟩ := blk4 hbl; have HR := Aside0.mk (H2.out.grown rfl (by rw [hz.out]; exact HN.out) hgr); have HZS := Aside0.mk hz.out; clear hgr hz hbl))
  refine bodyPost_ret (v := .tuple #[.int .i64 (ofL y).size, .nilIface]) (by simp [results, Tryz.results67, go_sem]) rfl ?_
  exact ⟨⟨_, rfl⟩, ⟨_, by rw [← HZS.out]; exact HR.out.1⟩, HC.out.trans HR.out.2⟩
end Go.Proofs.YtagihjlklbckmaaGreatDoor.Sc
namespace Go.Proofs.YtagihjlklbckmaaGreatDoor.Sc
set_option linter.unusedVariables false
set_option linter.unusedSimpArgs false
open Go.RowKit Go.Proofs.YtagihjlklbckmaaGreatDoorW.PrintWords Go.Proofs.YtagihjlklbckmaaGreatDoorW.PrintLast Go.Proofs.YtagihjlklbckmaaGreatDoorW.PrintMore Go.Proofs.YtagihjlklbckmaaGreatDoor.Bs
def byI (l : LB) : List Int := bytesOf (ofL l)
theorem byI_nil : byI [] = [] := rfl
theorem byI_app (a b : LB) : byI (a ++ b) = byI a ++ byI b := by unfold byI bytesOf; rw [ofL_list, ofL_list, ofL_list, List.map_append]
theorem byI_len (l : LB) : (byI l).length = l.length := by rw [byI, bytesOf_length, ofL_size]
theorem byI_get (l : LB) (j : Nat) (x : UInt8) (h : l[j]? = some x) : (byI l)[j]? = some (x.toNat : Int) := by
  unfold byI bytesOf; rw [ofL_list, List.getElem?_map, h]; rfl
theorem und90 : Tryz.prog.underlying 119 = some (.pointer 5) := Tryz.underlying119
theorem cells5 : Tryz.prog.cellsOf 5 = 1 := by kernel_rfl
set_option maxRecDepth 100000 in
set_option maxHeartbeats 1000000 in
theorem string_empty (W : World) (g : Nat) (s : LB) (ad pv : Value) (h : W.heap[g]? = some (.cells #[.string (ofL s), ad, .slice none 0 0, pv] 109 (0, 0))) :
    Calls Tryz.prog 69 #[.pointer (some ⟨g, 1, none⟩)] W fun e w' => e = .returned (.string (ofL [])) ∧ Below g W w' := by
  obtain ⟨q0, q1, q2, q3, q4⟩ := blk4 h
  have HB := Aside0.mk (Nat.le_of_lt (blk_lt h))
  have hUS : ∀ (w : World) (q : Option Addr), (Builtin.unsafeString_ #[119, 3] 9 #[.pointer q, .int .i64 0]).run Tryz.prog w = .ok (.string .empty) w := fun w q => Lib.run_unsafeString_none (w := w) _ _ _ q
  have hSD : ∀ w : World, (Builtin.unsafeSliceData_ #[97] 119 #[.slice none 0 0]).run Tryz.prog w = .ok (.pointer none) w := fun w => rfl
  clear h
  go_enter Tryz.func69, Tryz.ntmps69
  go_wp2
  go_region
  all_goals
    go_wp2
    go_ret
    exact ⟨rfl, Below.drew (Below.refl g W)⟩
set_option maxRecDepth 100000 in
set_option maxHeartbeats 1000000 in
theorem string_some (W : World) (g : Nat) (s lo : LB) (ad bv pv : Value) (h : Rdr g W s ad bv pv (byI lo)) (h0 : lo ≠ []) :
    Calls Tryz.prog 69 #[.pointer (some ⟨g, 1, none⟩)] W fun e w' => e = .returned (.string (ofL lo)) ∧ Below g W w' := by
  have hlen : 0 < (byI lo).length := by rw [byI_len]; exact List.length_pos_iff.2 h0
  obtain ⟨r, cap, rfl, hbr, hlt, cells, hcl⟩ := Kd.R_form h.row hlen
  have hrd := (Kd.R_reads' h.row).2
  obtain ⟨hcap, hC⟩ := hrd
  have hown := Kd.own_of_R h.row
  obtain ⟨q0, q1, q2, q3, q4⟩ := blk4 h.blk
  rw [byI_len] at q2 hcap
  have hcs : lo.length ≤ cells.size := by
    rcases Nat.lt_or_ge cells.size lo.length with hx | hx
    · exfalso
      obtain ⟨ad', e, hcell⟩ := Kd.at_int hC (cells.size : Int) (by omega) (by rw [byI_len]; omega)
      cases e
      rw [Int.toNat_natCast] at hcell
      have e2 : (⟨r, 0, none⟩ : Addr).add cells.size = ⟨r, cells.size, none⟩ := by
        unfold Addr.add; split
        · rename_i hz; rw [hz]
        · simp
      rw [e2, blk_cell hcl] at hcell
      simp at hcell
    · exact hx
  have hmx : lo.length ≤ 9223372036854775807 := by have := Kd.C_max hC; rw [byI_len] at this; exact this
  have hcell : ∀ j x, lo[j]? = some x → W.cell? ((⟨r, 0, none⟩ : Addr).add j) = some (.int .u8 x.toNat) := by
    intro j x hx
    have hj : j < lo.length := (List.getElem?_eq_some_iff.1 hx).1
    obtain ⟨ad', e, hc⟩ := Kd.at_int hC (j : Int) (by omega) (by rw [byI_len]; omega)
    cases e
    rw [Int.toNat_natCast] at hc
    rw [hc]
    have : rd (byI lo) (j : Int) = (x.toNat : Int) := by
      unfold rd; rw [Int.toNat_natCast, List.getD_eq_getElem?_getD, byI_get lo j x hx]; rfl
    rw [this]
  have hUS : (Builtin.unsafeString_ #[119, 3] 9 #[.pointer (some ⟨r, 0, none⟩), .int .i64 lo.length]).run Tryz.prog W.drew = .ok (.string (ofL lo)) (W.drew.freeze ⟨r, 0, none⟩ lo.length) :=
    Lib.run_unsafeString_row (w := W.drew) 119 3 9 5 und90 cells5 r cells.size (by have hg' : W.drew.heap[r]? = some (.cells cells 5 (0, 0)) := hcl; simp [World.shape?, hg']) lo h0 hcs hmx (fun j x hx => hcell j x hx)
  have hSD : (Builtin.unsafeSliceData_ #[97] 119 #[.slice (some ⟨r, 0, none⟩) lo.length cap]).run Tryz.prog W.drew = .ok (.pointer (some ⟨r, 0, none⟩)) W.drew :=
    Lib.run_unsafeSliceData_row _ _ _ _ _ _ (by have := List.length_pos_iff.2 h0; omega)
  have HB := Aside0.mk (Nat.le_of_lt (blk_lt h.blk))
  have HBR := Aside0.mk (show g ≤ r by omega)
  clear h hlen hlt hcl hcap hC hown hcs hmx hcell h0 hbr
  go_enter Tryz.func69, Tryz.ntmps69
  go_wp2
  go_region
  all_goals
    go_wp2
    go_ret
    exact ⟨rfl, Lib.below_freeze (Below.drew (Below.refl g W)) (p := ⟨r, 0, none⟩) HBR.out _⟩
theorem string_calls (W : World) (g : Nat) (s lo : LB) (ad bv pv : Value) (h : Rdr g W s ad bv pv (byI lo)) :
    Calls Tryz.prog 69 #[.pointer (some ⟨g, 1, none⟩)] W fun e w' => e = .returned (.string (ofL lo)) ∧ Below g W w' := by
  by_cases h0 : lo = []
  · subst h0
    obtain rfl := h.nil byI_nil
    exact string_empty W g s ad pv h.blk
  · exact string_some W g s lo ad bv pv h h0
end Go.Proofs.YtagihjlklbckmaaGreatDoor.Sc
namespace Go.Proofs.YtagihjlklbckmaaGreatDoor.Sc
set_option linter.unusedVariables false
set_option linter.unusedSimpArgs false
open Go.RowKit Go.Proofs.YtagihjlklbckmaaGreatDoorW.PrintWords Go.Proofs.YtagihjlklbckmaaGreatDoorW.PrintLast Go.Proofs.YtagihjlklbckmaaGreatDoorW.PrintMore Go.Proofs.YtagihjlklbckmaaGreatDoor.Bs
def digV (b : Int) : Int := if 48 ≤ b ∧ b ≤ 57 then b - 48 else if 97 ≤ b ∧ b ≤ 102 then b - 87 else if 65 ≤ b ∧ b ≤ 70 then b - 55 else -1
def valM (b base : Int) : Int := if digV b ≥ base then -1 else digV b
def numF : LB → Int → Int → Int
  | [], _, n => n
  | b :: r, base, n => if valM (b.toNat : Int) base < 0 then -1 else numF r base (min (n * base + valM (b.toNat : Int) base) 1114112)
def numM (l : LB) (base : Int) : Int := if l = [] then -1 else numF l base 0
theorem opt_if (c : Prop) [Decidable c] (x y : Int) : (if c then some x else some y) = some (if c then x else y) := by split <;> rfl
theorem dig_a {b : Int} (h1 : 48 ≤ b) (h2 : b ≤ 57) : digV b = b - 48 := by unfold digV; rw [if_pos ⟨h1, h2⟩]
theorem dig_b {b : Int} (h1 : 97 ≤ b) (h2 : b ≤ 102) : digV b = b - 87 := by unfold digV; rw [if_neg (by omega), if_pos ⟨h1, h2⟩]
theorem dig_c {b : Int} (h1 : 65 ≤ b) (h2 : b ≤ 70) : digV b = b - 55 := by unfold digV; rw [if_neg (by omega), if_neg (by omega), if_pos ⟨h1, h2⟩]
theorem dig_d {b : Int} (h1 : ¬ (48 ≤ b ∧ b ≤ 57)) (h2 : ¬ (97 ≤ b ∧ b ≤ 102)) (h3 : ¬ (65 ≤ b ∧ b ≤ 70)) : digV b = -1 := by unfold digV; rw [if_neg h1, if_neg h2, if_neg h3]
theorem value_j2 (b base : Int) (k : Nat) (h1 : ¬ (48 ≤ b ∧ b ≤ 57)) (h2 : ¬ (97 ≤ b ∧ b ≤ 102)) (c : Bool) (hc : c = decide (65 ≤ b ∧ b ≤ 70)) : esc_value.j2 (k + 1) b base (-1) c = some (valM b base) := by
  subst hc
  rw [esc_value.j2]
  by_cases h : 65 ≤ b ∧ b ≤ 70
  · rw [if_pos (by simpa using h), show (b - 65) % 256 + 10 = b - 55 by omega, opt_if, valM, dig_c h.1 h.2]
  · rw [if_neg (by simpa using h), opt_if, valM, dig_d h1 h2 h]
theorem value_j1 (b base : Int) (k : Nat) (h1 : ¬ (48 ≤ b ∧ b ≤ 57)) (c : Bool) (hc : c = decide (97 ≤ b ∧ b ≤ 102)) : esc_value.j1 (k + 2) b base (-1) c = some (valM b base) := by
  subst hc
  rw [esc_value.j1]
  by_cases h : 97 ≤ b ∧ b ≤ 102
  · rw [if_pos (by simpa using h), show (b - 97) % 256 + 10 = b - 87 by omega, opt_if, valM, dig_b h.1 h.2]
  · rw [if_neg (by simpa using h)]
    by_cases h5 : b ≥ 65
    · rw [if_pos h5]; exact value_j2 b base k h1 h _ (by rw [decide_eq_decide]; omega)
    · rw [if_neg h5]; exact value_j2 b base k h1 h _ (by symm; rw [decide_eq_false_iff_not]; omega)
theorem value_is (b base : Int) (k : Nat) : esc_value.f (k + 3) b base = some (valM b base) := by
  have hj : ∀ c : Bool, c = decide (48 ≤ b ∧ b ≤ 57) → esc_value.j0 (k + 3) b base (-1) c = some (valM b base) := by
    rintro c rfl
    rw [esc_value.j0]
    by_cases h : 48 ≤ b ∧ b ≤ 57
    · rw [if_pos (by simpa using h), show (b - 48) % 256 = b - 48 by omega, opt_if, valM, dig_a h.1 h.2]
    · rw [if_neg (by simpa using h)]
      by_cases h5 : b ≥ 97
      · rw [if_pos h5]; exact value_j1 b base k h _ (by rw [decide_eq_decide]; omega)
      · rw [if_neg h5]; exact value_j1 b base k h _ (by symm; rw [decide_eq_false_iff_not]; omega)
  unfold esc_value.f
  by_cases h5 : b ≥ 48
  · rw [if_pos h5]; exact hj _ (by rw [decide_eq_decide]; omega)
  · rw [if_neg h5]; exact hj _ (by symm; rw [decide_eq_false_iff_not]; omega)
theorem bt_ofL (l : LB) (i : Nat) (h : i < l.length) : bt (ofL l) (i : Int) = (l[i].toNat : Int) := by
  have hs : (i : Int).toNat < (ofL l).size := by rw [ofL_size]; omega
  rw [← bt_at (ofL l) (i : Int) hs]
  rfl
theorem valM_le (b base : Int) (hb : base ≤ 16) : -1 ≤ valM b base ∧ valM b base ≤ 15 := by
  unfold valM digV
  repeat' split
  all_goals omega
theorem number_loop (l : LB) (base : Int) (hb : 10 ≤ base) (hb2 : base ≤ 16) (hl : l.length ≤ 1000000) : ∀ (d i k : Nat) (n : Int), i + d = l.length → 0 ≤ n → n ≤ 1114112 → d + 6 < k → esc_number.l0 k (ofL l) base n ((ofL l).size : Int) (i : Int) = some (numF (l.drop i) base n) := by
  intro d
  induction d with
  | zero =>
    intro i k n hi h0 h1 hk
    obtain ⟨k, rfl⟩ : ∃ j, k = j + 1 := ⟨k - 1, by omega⟩
    rw [esc_number.l0, if_neg (by rw [ofL_size]; omega), List.drop_of_length_le (by omega)]; rfl
  | succ d ih =>
    intro i k n hi h0 h1 hk
    obtain ⟨k, rfl⟩ : ∃ j, k = j + 1 := ⟨k - 1, by omega⟩
    have hil : i < l.length := by omega
    obtain ⟨k', hk'⟩ : ∃ j, k = j + 3 := ⟨k - 3, by omega⟩
    have hv := valM_le (l[i].toNat : Int) base hb2
    have hbr : (l[i].toNat : Int) ≤ 255 := by have := l[i].toNat_lt; omega
    have hmul : 0 ≤ n * base ∧ n * base ≤ 17825792 := by
      constructor
      · exact Int.mul_nonneg h0 (by omega)
      · calc n * base ≤ 1114112 * base := Int.mul_le_mul_of_nonneg_right h1 (by omega)
          _ ≤ 17825792 := by omega
    rw [esc_number.l0, if_pos (by rw [ofL_size]; omega), if_pos (by omega), if_pos (by rw [ofL_size]; omega), bt_ofL l i hil]
    conv => lhs; rw [hk']
    rw [value_is _ _ k', Option.bind_some, List.drop_eq_getElem_cons hil, numF]
    by_cases hneg : valM (l[i].toNat : Int) base < 0
    · rw [if_pos hneg, if_pos hneg]
    · rw [if_neg hneg, if_neg hneg, ← hk']
      have e1 : wrap64 (n * base) = n * base := by unfold wrap64; omega
      have e2 : wrap64 (wrap64 (n * base) + valM (l[i].toNat : Int) base) = n * base + valM (l[i].toNat : Int) base := by rw [e1]; unfold wrap64; omega
      have e3 : wrap64 ((i : Int) + 1) = ((i + 1 : Nat) : Int) := by unfold wrap64; omega
      have e4 : mn (n * base + valM (l[i].toNat : Int) base) 1114112 = min (n * base + valM (l[i].toNat : Int) base) 1114112 := by
        unfold mn; rw [Int.min_def]; split <;> split <;> omega
      rw [e2, e3, e4]
      exact ih (i + 1) k _ (by omega) (by omega) (by omega) (by omega)
theorem number_calls (l : LB) (base : Int) (W : World) (hb : 10 ≤ base) (hb2 : base ≤ 16) (hl : l.length ≤ 1000000) :
    Calls Tryz.prog 104 #[.string (ofL l), .int .i64 base] W fun e w' => e = .returned (.int .i64 (numM l base)) ∧ Below W.heap.size W w' := by
  refine esc_number.calls (l.length + 7) (ofL l) base (numM l base) W ?_
  unfold esc_number.f numM
  rw [ofL_toList]
  by_cases h : l = []
  · rw [if_pos h, if_pos h]
  · rw [if_neg h, if_neg h]
    exact number_loop l base hb hb2 hl l.length 0 (l.length + 7) 0 (by omega) (by omega) (by omega) (by omega)
/-- A rune's bytes. -/
def encL (n : Int) : LB := (Utf8.encode n).data.toList
def charN (l : LB) : Int := if Lib.hasPrefix l [35, 120] then numM (l.drop 2) 16 else if Lib.hasPrefix l [35] then numM l.tail 10 else -1
/-- What a reference's inner part stands for. -/
def charM (l : LB) : Option LB :=
  if l = [97, 109, 112] then some [38] else if l = [108, 116] then some [60] else if l = [103, 116] then some [62]
  else if l = [113, 117, 111, 116] then some [34] else if l = [97, 112, 111, 115] then some [39]
  else if charN l < 0 then none else if isR (charN l) = true then some (encL (charN l)) else none
def CharGave (r : Option LB) (e : Ending) : Prop := match r with
  | none => e = .returned (.tuple #[.string (ofL []), .bool false])
  | some t => e = .returned (.tuple #[.string (ofL t), .bool true])
theorem beq_lit (l a : LB) (b : Bool) (h : decide (l = a) = b) : ((ofL l).toList == a) = b := by
  rw [ofL_toList, ← h]
  by_cases e : l = a
  · subst e; simp
  · simp [e]
theorem numF_le (base : Int) (hb : 10 ≤ base) : ∀ (l : LB) (n : Int), n ≤ 1114112 → numF l base n ≤ 1114112
  | [], n, h => h
  | b :: r, n, h => by
    rw [numF]
    split
    · omega
    · exact numF_le base hb r _ (by omega)
theorem numM_le (l : LB) (base : Int) (hb : 10 ≤ base) : numM l base ≤ 1114112 := by
  unfold numM
  split
  · omega
  · exact numF_le base hb l 0 (by omega)
theorem charN_le (l : LB) : charN l ≤ 1114112 := by
  unfold charN
  split
  · exact numM_le _ _ (by omega)
  · split
    · exact numM_le _ _ (by omega)
    · omega
def amp : LB := [97, 109, 112]
def ltL : LB := [108, 116]
def gtL : LB := [103, 116]
def quot : LB := [113, 117, 111, 116]
def apos : LB := [97, 112, 111, 115]
set_option maxRecDepth 100000 in
set_option maxHeartbeats 400000 in
theorem char_amp (l : LB) (W : World) (h : l = [97, 109, 112]) : Calls Tryz.prog 101 #[.string (ofL l)] W fun e w' => CharGave (some [38]) e ∧ Below W.heap.size W w' := by
  have h0 := beq_lit l [97, 109, 112] true (by rw [h]; decide)
  clear h
  go_enter Tryz.func101, Tryz.ntmps101
  go_wp2_with fail
  go_ret2
  exact ⟨rfl, Below.refl _ _⟩
set_option maxRecDepth 100000 in
set_option maxHeartbeats 400000 in
theorem char_lt (l : LB) (W : World) (h : l = [108, 116]) : Calls Tryz.prog 101 #[.string (ofL l)] W fun e w' => CharGave (some [60]) e ∧ Below W.heap.size W w' := by
  have h0 := beq_lit l [97, 109, 112] false (by rw [h]; decide)
  have h1 := beq_lit l [108, 116] true (by rw [h]; decide)
  clear h
  go_enter Tryz.func101, Tryz.ntmps101
  go_wp2_with fail
  go_ret2
  exact ⟨rfl, Below.refl _ _⟩
set_option maxRecDepth 100000 in
set_option maxHeartbeats 400000 in
theorem char_gt (l : LB) (W : World) (h : l = [103, 116]) : Calls Tryz.prog 101 #[.string (ofL l)] W fun e w' => CharGave (some [62]) e ∧ Below W.heap.size W w' := by
  have h0 := beq_lit l [97, 109, 112] false (by rw [h]; decide)
  have h1 := beq_lit l [108, 116] false (by rw [h]; decide)
  have h2 := beq_lit l [103, 116] true (by rw [h]; decide)
  clear h
  go_enter Tryz.func101, Tryz.ntmps101
  go_wp2_with fail
  go_ret2
  exact ⟨rfl, Below.refl _ _⟩
set_option maxRecDepth 100000 in
set_option maxHeartbeats 400000 in
theorem char_quot (l : LB) (W : World) (h : l = [113, 117, 111, 116]) : Calls Tryz.prog 101 #[.string (ofL l)] W fun e w' => CharGave (some [34]) e ∧ Below W.heap.size W w' := by
  have h0 := beq_lit l [97, 109, 112] false (by rw [h]; decide)
  have h1 := beq_lit l [108, 116] false (by rw [h]; decide)
  have h2 := beq_lit l [103, 116] false (by rw [h]; decide)
  have h3 := beq_lit l [113, 117, 111, 116] true (by rw [h]; decide)
  clear h
  go_enter Tryz.func101, Tryz.ntmps101
  go_wp2_with fail
  go_ret2
  exact ⟨rfl, Below.refl _ _⟩
set_option maxRecDepth 100000 in
set_option maxHeartbeats 400000 in
theorem char_apos (l : LB) (W : World) (h : l = [97, 112, 111, 115]) : Calls Tryz.prog 101 #[.string (ofL l)] W fun e w' => CharGave (some [39]) e ∧ Below W.heap.size W w' := by
  have h0 := beq_lit l [97, 109, 112] false (by rw [h]; decide)
  have h1 := beq_lit l [108, 116] false (by rw [h]; decide)
  have h2 := beq_lit l [103, 116] false (by rw [h]; decide)
  have h3 := beq_lit l [113, 117, 111, 116] false (by rw [h]; decide)
  have h4 := beq_lit l [97, 112, 111, 115] true (by rw [h]; decide)
  clear h
  go_enter Tryz.func101, Tryz.ntmps101
  go_wp2_with fail
  go_ret2
  exact ⟨rfl, Below.refl _ _⟩
set_option maxRecDepth 100000 in
set_option maxHeartbeats 1000000 in
theorem char_num (l : LB) (W : World) (hl : l.length ≤ 1000000) (a1 : ¬ l = [97, 109, 112]) (a2 : ¬ l = [108, 116]) (a3 : ¬ l = [103, 116]) (a4 : ¬ l = [113, 117, 111, 116]) (a5 : ¬ l = [97, 112, 111, 115]) :
    Calls Tryz.prog 101 #[.string (ofL l)] W fun e w' => CharGave (if charN l < 0 then none else if isR (charN l) = true then some (encL (charN l)) else none) e ∧ Below W.heap.size W w' := by
  have h1 := beq_lit l [97, 109, 112] false (decide_eq_false a1)
  have h2 := beq_lit l [108, 116] false (decide_eq_false a2)
  have h3 := beq_lit l [103, 116] false (decide_eq_false a3)
  have h4 := beq_lit l [113, 117, 111, 116] false (decide_eq_false a4)
  have h5 := beq_lit l [97, 112, 111, 115] false (decide_eq_false a5)
  clear a1 a2 a3 a4 a5
  have C1 := Aside0.mk (fun w => show Calls Tryz.prog 24 #[.string (ofL l), .string ⟨#[35, 120]⟩] w fun e w' => e = .returned (.tuple #[.string (ofL (Lib.trimPrefix l [35, 120])), .bool (Lib.hasPrefix l [35, 120])]) ∧ w' = w from Tryz.strings_CutPrefix (ofL l) ⟨#[35, 120]⟩ w)
  have C2 := Aside0.mk (fun w => show Calls Tryz.prog 24 #[.string (ofL l), .string ⟨#[35]⟩] w fun e w' => e = .returned (.tuple #[.string (ofL (Lib.trimPrefix l [35])), .bool (Lib.hasPrefix l [35])]) ∧ w' = w from Tryz.strings_CutPrefix (ofL l) ⟨#[35]⟩ w)
  obtain ⟨R, hR⟩ : ∃ x, x = (if charN l < 0 then none else if isR (charN l) = true then some (encL (charN l)) else none : Option LB) := ⟨_, rfl⟩
  rw [← hR]
  have HR := Aside0.mk hR
  have HNL := Aside0.mk (charN_le l)
  clear hR
  have HTAIL : True := trivial
  by_cases p1 : Lib.hasPrefix l [35, 120] = true
  · have p1' := p1
    clear HTAIL
    obtain ⟨n, hn⟩ : ∃ x, x = charN l := ⟨_, rfl⟩
    rw [← hn] at HR HNL
    have CN := Aside0.mk (fun w => number_calls (l.drop 2) 16 w (by omega) (by omega) (by rw [List.length_drop]; omega))
    rw [show numM (l.drop 2) 16 = n by rw [hn, charN, if_pos p1]] at CN
    rw [p1, show Lib.trimPrefix l [35, 120] = l.drop 2 by rw [Lib.trimPrefix, if_pos p1]; rfl] at C1
    clear hn
    by_cases hneg : n < 0
    · have HE := Aside0.mk (show R = none by rw [HR.out, if_pos hneg])
      go_enter Tryz.func101, Tryz.ntmps101
      go_wp2_with (first | (go_at_call 24; (with_reducible refine (C1.out _).mono ?_); rintro e w2 ⟨rfl, rfl⟩) | (go_at_call 104; (with_reducible refine (CN.out _).mono ?_); rintro e w4 ⟨rfl, hb⟩; have HB4 := Aside0.mk hb; clear hb))
      go_ret2
      rw [HE.out]
      exact ⟨rfl, HB4.out⟩
    · have hle := HNL.out
      have h0 : 0 ≤ n := by omega
      have hw : IntKind.i32.wrap n = n := by simp only [IntKind.wrap_i32]; omega
      rw [if_neg hneg] at HR
      cases hi : isR n with
      | false =>
        have HE := Aside0.mk (show R = none by rw [HR.out, hi]; rfl)
        have CI := Aside0.mk (fun W => is_calls W n)
        rw [hi] at CI
        clear hi
        go_enter Tryz.func101, Tryz.ntmps101
        go_wp2_with (first | (go_at_call 24; (with_reducible refine (C1.out _).mono ?_); rintro e w2 ⟨rfl, rfl⟩) | (go_at_call 104; (with_reducible refine (CN.out _).mono ?_); rintro e w4 ⟨rfl, hb⟩; have HB4 := Aside0.mk hb; clear hb) | (go_at_call 17; (with_reducible refine (CI.out _).mono ?_); rintro e w5 ⟨rfl, hb⟩; have HB5 := Aside0.mk (below_step HB4.out hb); clear hb))
        go_ret2
        rw [HE.out]
        exact ⟨rfl, HB5.out⟩
      | true =>
        have HE := Aside0.mk (show R = some (encL n) by rw [HR.out, hi]; rfl)
        have CI := Aside0.mk (fun W => is_calls W n)
        rw [hi] at CI
        clear hi
        go_enter Tryz.func101, Tryz.ntmps101
        go_wp2_with (first | (go_at_call 24; (with_reducible refine (C1.out _).mono ?_); rintro e w2 ⟨rfl, rfl⟩) | (go_at_call 104; (with_reducible refine (CN.out _).mono ?_); rintro e w4 ⟨rfl, hb⟩; have HB4 := Aside0.mk hb; clear hb) | (go_at_call 17; (with_reducible refine (CI.out _).mono ?_); rintro e w5 ⟨rfl, hb⟩; have HB5 := Aside0.mk (below_step HB4.out hb); clear hb))
        go_ret2
        rw [HE.out]
        exact ⟨rfl, HB5.out⟩
  · have p1 : Lib.hasPrefix l [35, 120] = false := Bool.eq_false_iff.2 p1
    by_cases p2 : Lib.hasPrefix l [35] = true
    · clear HTAIL
      obtain ⟨n, hn⟩ : ∃ x, x = charN l := ⟨_, rfl⟩
      rw [← hn] at HR HNL
      have CN := Aside0.mk (fun w => number_calls l.tail 10 w (by omega) (by omega) (by rw [List.length_tail]; omega))
      rw [show numM l.tail 10 = n by rw [hn, charN, if_neg (by rw [p1]; simp), if_pos p2]] at CN
      rw [p1] at C1
      rw [p2, show Lib.trimPrefix l [35] = l.tail by rw [Lib.trimPrefix, if_pos p2]; exact List.drop_one] at C2
      clear hn
      by_cases hneg : n < 0
      · have HE := Aside0.mk (show R = none by rw [HR.out, if_pos hneg])
        go_enter Tryz.func101, Tryz.ntmps101
        go_wp2_with (first | (go_at_call 24; (first | (with_reducible refine (C1.out _).mono ?_) | (with_reducible refine (C2.out _).mono ?_)); rintro e w2 ⟨rfl, rfl⟩) | (go_at_call 104; (with_reducible refine (CN.out _).mono ?_); rintro e w4 ⟨rfl, hb⟩; have HB4 := Aside0.mk hb; clear hb))
        go_ret2
        rw [HE.out]
        exact ⟨rfl, HB4.out⟩
      · have hle := HNL.out
        have h0 : 0 ≤ n := by omega
        have hw : IntKind.i32.wrap n = n := by simp only [IntKind.wrap_i32]; omega
        rw [if_neg hneg] at HR
        cases hi : isR n with
        | false =>
          have HE := Aside0.mk (show R = none by rw [HR.out, hi]; rfl)
          have CI := Aside0.mk (fun W => is_calls W n)
          rw [hi] at CI
          clear hi
          go_enter Tryz.func101, Tryz.ntmps101
          go_wp2_with (first | (go_at_call 24; (first | (with_reducible refine (C1.out _).mono ?_) | (with_reducible refine (C2.out _).mono ?_)); rintro e w2 ⟨rfl, rfl⟩) | (go_at_call 104; (with_reducible refine (CN.out _).mono ?_); rintro e w4 ⟨rfl, hb⟩; have HB4 := Aside0.mk hb; clear hb) | (go_at_call 17; (with_reducible refine (CI.out _).mono ?_); rintro e w5 ⟨rfl, hb⟩; have HB5 := Aside0.mk (below_step HB4.out hb); clear hb))
          go_ret2
          rw [HE.out]
          exact ⟨rfl, HB5.out⟩
        | true =>
          have HE := Aside0.mk (show R = some (encL n) by rw [HR.out, hi]; rfl)
          have CI := Aside0.mk (fun W => is_calls W n)
          rw [hi] at CI
          clear hi
          go_enter Tryz.func101, Tryz.ntmps101
          go_wp2_with (first | (go_at_call 24; (first | (with_reducible refine (C1.out _).mono ?_) | (with_reducible refine (C2.out _).mono ?_)); rintro e w2 ⟨rfl, rfl⟩) | (go_at_call 104; (with_reducible refine (CN.out _).mono ?_); rintro e w4 ⟨rfl, hb⟩; have HB4 := Aside0.mk hb; clear hb) | (go_at_call 17; (with_reducible refine (CI.out _).mono ?_); rintro e w5 ⟨rfl, hb⟩; have HB5 := Aside0.mk (below_step HB4.out hb); clear hb))
          go_ret2
          rw [HE.out]
          exact ⟨rfl, HB5.out⟩
    · have p2 : Lib.hasPrefix l [35] = false := Bool.eq_false_iff.2 p2
      clear HTAIL
      have hn : charN l = -1 := by rw [charN, if_neg (by rw [p1]; simp), if_neg (by rw [p2]; simp)]
      have HE := Aside0.mk (show R = none by rw [HR.out, hn]; rfl)
      rw [p1] at C1
      rw [p2] at C2
      clear hn
      go_enter Tryz.func101, Tryz.ntmps101
      go_wp2_with (first | (go_at_call 24; (first | (with_reducible refine (C1.out _).mono ?_) | (with_reducible refine (C2.out _).mono ?_)); rintro e w2 ⟨rfl, rfl⟩))
      go_ret2
      rw [HE.out]
      exact ⟨rfl, Below.refl _ _⟩
theorem char_calls (l : LB) (W : World) (hl : l.length ≤ 1000000) : Calls Tryz.prog 101 #[.string (ofL l)] W fun e w' => CharGave (charM l) e ∧ Below W.heap.size W w' := by
  unfold charM
  by_cases a1 : l = [97, 109, 112]
  · rw [if_pos a1]; exact char_amp l W a1
  rw [if_neg a1]
  by_cases a2 : l = [108, 116]
  · rw [if_pos a2]; exact char_lt l W a2
  rw [if_neg a2]
  by_cases a3 : l = [103, 116]
  · rw [if_pos a3]; exact char_gt l W a3
  rw [if_neg a3]
  by_cases a4 : l = [113, 117, 111, 116]
  · rw [if_pos a4]; exact char_quot l W a4
  rw [if_neg a4]
  by_cases a5 : l = [97, 112, 111, 115]
  · rw [if_pos a5]; exact char_apos l W a5
  rw [if_neg a5]
  exact char_num l W hl a1 a2 a3 a4 a5
end Go.Proofs.YtagihjlklbckmaaGreatDoor.Sc
namespace Go.Proofs.YtagihjlklbckmaaGreatDoor.Sc
set_option linter.unusedVariables false
set_option linter.unusedSimpArgs false
open Go.RowKit Go.Proofs.YtagihjlklbckmaaGreatDoorW.PrintWords Go.Proofs.YtagihjlklbckmaaGreatDoorW.PrintLast Go.Proofs.YtagihjlklbckmaaGreatDoorW.PrintMore Go.Proofs.YtagihjlklbckmaaGreatDoor.Bs
theorem Rdr.below {g : Nat} {W W' : World} {s : LB} {ad bv pv : Value} {lo : List Int} (h : Rdr g W s ad bv pv lo) (hb : Below W.heap.size W W') : Rdr g W' s ad bv pv lo :=
  ⟨(hb.block _ (blk_lt h.blk)).trans h.blk, Kd.R_below h.row hb, h.nil⟩
theorem Rdr.cut {g : Nat} {W : World} {s s' : LB} {ad bv pv : Value} {lo : List Int} (h : Rdr g W s ad bv pv lo) : Rdr g (W.setCell ⟨g, 0, none⟩ (.string (ofL s'))) s' ad bv pv lo ∧ Below g W (W.setCell ⟨g, 0, none⟩ (.string (ofL s'))) := by
  have hset : Ch (fun k => k = g) W (W.setCell ⟨g, 0, none⟩ (.string (ofL s'))) := (Ch.refl (fun k => k = g) W).setCell (p := ⟨g, 0, none⟩) (.inl rfl) _
  exact ⟨⟨blk_upd 0 _ h.blk rfl, Ch.rowI hset h.row (fun k hk e => by omega), h.nil⟩, Ch.to_below hset (fun k hk => by omega) (Nat.le_of_lt (blk_lt h.blk))⟩
theorem encL_ne (n : Int) : encL n ≠ [] := by
  unfold encL Utf8.encode
  simp only
  repeat' split
  all_goals simp
theorem charM_ne {l t : LB} (h : charM l = some t) : t ≠ [] := by
  unfold charM at h
  repeat' split at h
  all_goals first | (cases h; simp; done) | (cases h; exact encL_ne _) | (simp at h; done)
theorem encL_len (n : Int) : (encL n).length ≤ 4 := by
  unfold encL Utf8.encode
  simp only
  repeat' split
  all_goals simp
theorem charM_len {l t : LB} (h : charM l = some t) : t.length ≤ 4 := by
  unfold charM at h
  repeat' split at h
  all_goals first | (cases h; simp; done) | (cases h; exact encL_len _) | (simp at h; done)
/-- What a reference that begins with '&' stands for, and what is left. -/
def refM (r : LB) : Option (LB × LB) := if (Lib.cut r [59]).2.2 = true then (match charM (Lib.cut r [59]).1 with | none => none | some t => some (t, (Lib.cut r [59]).2.1)) else none
def RefGave (g : Nat) (W : World) (pv : Value) (lo : List Int) (r : Option (LB × LB)) (e : Ending) (w' : World) : Prop := match r with
  | none => e = .returned (.bool false) ∧ Below g W w'
  | some (t, rest) => e = .returned (.bool true) ∧ (∃ bv', Rdr g w' rest (selfAd g) bv' pv (lo ++ byI t)) ∧ Below g W w'
theorem cut_len (l sep : LB) : (Lib.cut l sep).1.length ≤ l.length ∧ (Lib.cut l sep).2.1.length ≤ l.length := by
  unfold Lib.cut
  split
  · simp only [List.length_take, List.length_drop]; omega
  · simp
set_option maxRecDepth 100000 in
set_option maxHeartbeats 1000000 in
theorem reference_calls (W : World) (g : Nat) (r : LB) (ad bv pv : Value) (lo : List Int) (had : adOk g ad) (h : Rdr g W (38 :: r) ad bv pv lo) (E : Env W) (hl : r.length ≤ 1000000) (hlo : lo.length ≤ 1000000000) :
    Calls Tryz.prog 90 #[.pointer (some ⟨g, 0, none⟩)] W (RefGave g W pv lo (refM r)) := by
  obtain ⟨m, hm⟩ := E.most
  have CC : Aside0 (Calls Tryz.prog 73 #[.string (ofL r), .string ⟨#[59]⟩] W fun e w' => e = .returned (.tuple #[.string (ofL (Lib.cut r [59]).1), .string (ofL (Lib.cut r [59]).2.1), .bool (Lib.cut r [59]).2.2]) ∧ ∃ n, w' = W.drewN n) := ⟨Tryz.strings_Cut (ofL r) ⟨#[59]⟩ m W (by rw [ofL_size]; omega) hm⟩
  have hcl := (cut_len r [59]).1
  obtain ⟨q0, q1, q2, q3, q4⟩ := blk4 h.blk
  have HADOK := Aside0.mk had
  have H := Aside0.mk h
  have hcut : (ofL (38 :: r)).extract 1 (ofL (38 :: r)).size = ofL r := ofL_cut (38 :: r) 1
  have hz1 : (1 : Int) ≤ ((ofL (38 :: r)).size : Int) := by rw [ofL_size, List.length_cons]; omega
  obtain ⟨R, hR⟩ : ∃ x, x = refM r := ⟨_, rfl⟩
  rw [← hR]
  unfold refM at hR
  have HR := Aside0.mk hR
  clear had h hm E hR
  generalize Lib.cut r [59] = x at CC HR hcl
  obtain ⟨a, b, c⟩ := x
  simp only at CC HR hcl
  have CH := Aside0.mk (fun w => char_calls a w (by omega))
  cases c with
  | false =>
    have HE := Aside0.mk (show R = none by rw [HR.out]; rfl)
    clear HR CH
    go_enter Tryz.func90, Tryz.ntmps90
    go_wp2_with (go_at_call 73; (with_reducible refine CC.out.mono ?_); rintro e w2 ⟨rfl, n, rfl⟩)
    go_ret
    rw [HE.out]
    exact ⟨rfl, pw_below_drewN (Below.refl g W) n⟩
  | true =>
    cases hc : charM a with
    | none =>
      have HE := Aside0.mk (show R = none by rw [HR.out, hc]; rfl)
      rw [hc] at CH
      clear HR hc
      go_enter Tryz.func90, Tryz.ntmps90
      go_wp2_with (go_at_call 73; (with_reducible refine CC.out.mono ?_); rintro e w2 ⟨rfl, n, rfl⟩)
      (with_reducible refine (CH.out _).mono ?_)
      rintro e w3 ⟨rfl, hb⟩
      have HB3 := Aside0.mk ((pw_below_drewN (Below.refl g W) n).trans (hb.mono (Nat.le_of_lt (blk_lt H.out.blk))))
      clear hb
      go_wp2_with fail
      go_ret
      rw [HE.out]
      exact ⟨rfl, HB3.out⟩
    | some t =>
      have HE := Aside0.mk (show R = some (t, b) by rw [HR.out, hc]; rfl)
      have HNE := Aside0.mk (charM_ne hc)
      have HTL := Aside0.mk (charM_len hc)
      rw [hc] at CH
      clear HR hc
      go_enter Tryz.func90, Tryz.ntmps90
      go_wp2_with (go_at_call 73; (with_reducible refine CC.out.mono ?_); rintro e w2 ⟨rfl, n, rfl⟩)
      (with_reducible refine (CH.out _).mono ?_)
      rintro e w3 ⟨rfl, hb⟩
      have HB3 := Aside0.mk ((pw_below_drewN (Below.refl g W) n).trans (hb.mono (Nat.le_of_lt (blk_lt H.out.blk))))
      have H3 := Aside0.mk ((H.out.below (pw_below_drewN (Below.refl _ W) n)).below hb)
      have CW := Aside0.mk (write_calls w3 g (38 :: r) ad bv pv lo t HADOK.out H3.out (by omega) (by have := HTL.out; omega) HNE.out)
      clear hb
      go_wp2_with fail
      (with_reducible refine CW.out.mono ?_)
      rintro e w4 ⟨⟨nn, rfl⟩, ⟨bv', h4⟩, hb⟩
      have HB4 := Aside0.mk (HB3.out.trans hb)
      have H4 := Aside0.mk h4
      clear q0 q1 q2 q3 q4
      obtain ⟨q0, q1, q2, q3, q4⟩ := blk4 h4.blk
      clear h4 hb CW
      go_wp2_with fail
      go_ret
      rw [HE.out]
      have hx := H4.out.cut (s' := b)
      exact ⟨rfl, ⟨_, hx.1⟩, HB4.out.trans hx.2⟩
end Go.Proofs.YtagihjlklbckmaaGreatDoor.Sc
namespace Go.Proofs.YtagihjlklbckmaaGreatDoor.Sc
set_option linter.unusedVariables false
set_option linter.unusedSimpArgs false
open Go.RowKit Go.Proofs.YtagihjlklbckmaaGreatDoorW.PrintWords Go.Proofs.YtagihjlklbckmaaGreatDoorW.PrintLast Go.Proofs.YtagihjlklbckmaaGreatDoorW.PrintMore Go.Proofs.YtagihjlklbckmaaGreatDoor.Bs
def PlainGave (g : Nat) (W : World) (s : LB) (pv : Value) (lo : List Int) (b : Int) (e : Ending) (w' : World) : Prop := e = .returned (.tuple #[]) ∧ (∃ bv', Rdr g w' s (selfAd g) bv' pv (lo ++ [b])) ∧ Below g W w'
set_option maxRecDepth 100000 in
set_option maxHeartbeats 400000 in
theorem same_calls (W : World) (g : Nat) (s : LB) (ad bv pv : Value) (lo : List Int) (b : Int) (had : adOk g ad) (h : Rdr g W s ad bv pv lo) (hl : lo.length ≤ 1000000000) :
    Calls Tryz.prog 71 #[.pointer (some ⟨g, 0, none⟩), .int .u8 b] W (PlainGave g W s pv lo b) := by
  have CB := Aside0.mk (byte_calls W g s ad bv pv lo b had h hl)
  clear had h hl
  go_enter Tryz.func71, Tryz.ntmps71
  go_wp2_with fail
  (with_reducible refine CB.out.mono ?_)
  rintro e w2 ⟨rfl, h2, hb⟩
  have HF := Aside0.mk (And.intro h2 hb)
  clear h2 hb
  go_wp2_with fail
  go_end0
  exact ⟨rfl, HF.out.1, HF.out.2⟩
def blankB (b : UInt8) : UInt8 := if b = 9 ∨ b = 10 then 32 else b
set_option maxRecDepth 100000 in
set_option maxHeartbeats 400000 in
theorem blank_calls (W : World) (g : Nat) (s : LB) (ad bv pv : Value) (lo : List Int) (b : UInt8) (had : adOk g ad) (h : Rdr g W s ad bv pv lo) (hl : lo.length ≤ 1000000000) :
    Calls Tryz.prog 95 #[.pointer (some ⟨g, 0, none⟩), .int .u8 b.toNat] W (PlainGave g W s pv lo ((blankB b).toNat : Int)) := by
  have CB := Aside0.mk (fun c => byte_calls W g s ad bv pv lo c had h hl)
  clear had h hl
  by_cases h9 : b = 9
  · subst h9
    have CB2 := Aside0.mk (CB.out 32)
    go_enter Tryz.func95, Tryz.ntmps95
    go_wp2_with fail
    (with_reducible refine CB2.out.mono ?_)
    rintro e w2 ⟨rfl, h2, hb⟩
    have HF := Aside0.mk (And.intro h2 hb)
    clear h2 hb
    go_wp2_with fail
    go_end0
    exact ⟨rfl, HF.out.1, HF.out.2⟩
  by_cases h10 : b = 10
  · subst h10
    have CB2 := Aside0.mk (CB.out 32)
    go_enter Tryz.func95, Tryz.ntmps95
    go_wp2_with fail
    (with_reducible refine CB2.out.mono ?_)
    rintro e w2 ⟨rfl, h2, hb⟩
    have HF := Aside0.mk (And.intro h2 hb)
    clear h2 hb
    go_wp2_with fail
    go_end0
    exact ⟨rfl, HF.out.1, HF.out.2⟩
  have e1 : ((b.toNat : Int) == 9) = false := by
    simp only [beq_eq_false_iff_ne]; intro e; exact h9 (UInt8.toNat_inj.1 (by rw [show (9 : UInt8).toNat = 9 from rfl]; omega))
  have e2 : ((b.toNat : Int) == 10) = false := by
    simp only [beq_eq_false_iff_ne]; intro e; exact h10 (UInt8.toNat_inj.1 (by rw [show (10 : UInt8).toNat = 10 from rfl]; omega))
  rw [show blankB b = b by unfold blankB; rw [if_neg (by rintro (e | e); exact h9 e; exact h10 e)]]
  have CB2 := Aside0.mk (CB.out (b.toNat : Int))
  clear h9 h10
  go_enter Tryz.func95, Tryz.ntmps95
  go_wp2_with fail
  (with_reducible refine CB2.out.mono ?_)
  rintro e w2 ⟨rfl, h2, hb⟩
  have HF := Aside0.mk (And.intro h2 hb)
  clear h2 hb
  go_wp2_with fail
  go_end0
  exact ⟨rfl, HF.out.1, HF.out.2⟩
/-- What stands in markup, read. -/
def escF (pl : UInt8 → UInt8) : Nat → LB → LB → Except Int LB
  | 0, _, out => .ok out
  | n + 1, l, out => match l with
    | [] => .ok out
    | c :: r => if c = 60 then .error 13 else if c = 38 then (match refM r with | none => .error 12 | some (t, rest) => escF pl n rest (out ++ t))
      else if c = 13 then escF pl n (Lib.trimPrefix r [10]) (out ++ [pl 10]) else escF pl n r (out ++ [pl c])
def escM (pl : UInt8 → UInt8) (l : LB) : Except Int LB := if textL l = true then escF pl l.length l [] else .error 10
theorem trim_len (l p : LB) : (Lib.trimPrefix l p).length ≤ l.length := by
  unfold Lib.trimPrefix
  split
  · rw [List.length_drop]; omega
  · exact Nat.le_refl _
theorem refM_len {r t rest : LB} (h : refM r = some (t, rest)) : rest.length ≤ r.length ∧ t.length ≤ 4 := by
  unfold refM at h
  have hc := cut_len r [59]
  split at h
  · cases hm : charM (Lib.cut r [59]).1 with
    | none => rw [hm] at h; cases h
    | some t' => rw [hm] at h; cases h; exact ⟨hc.2, charM_len hm⟩
  · cases h
theorem escF_fuel (pl : UInt8 → UInt8) : ∀ (n m : Nat) (l out : LB), l.length ≤ n → l.length ≤ m → escF pl n l out = escF pl m l out
  | 0, 0, l, out, _, _ => rfl
  | 0, m + 1, l, out, h, _ => by
    have : l = [] := List.length_eq_zero_iff.1 (by omega)
    subst this; rfl
  | n + 1, 0, l, out, _, h => by
    have : l = [] := List.length_eq_zero_iff.1 (by omega)
    subst this; rfl
  | n + 1, m + 1, l, out, h1, h2 => by
    cases l with
    | nil => rfl
    | cons c r =>
      simp only [List.length_cons] at h1 h2
      simp only [escF]
      split
      · rfl
      · split
        · cases hr : refM r with
          | none => rfl
          | some p =>
            obtain ⟨t, rest⟩ := p
            have := (refM_len hr).1
            exact escF_fuel pl n m rest _ (by omega) (by omega)
        · split
          · have := trim_len r [10]
            exact escF_fuel pl n m _ _ (by omega) (by omega)
          · exact escF_fuel pl n m _ _ (by omega) (by omega)
def escN (pl : UInt8 → UInt8) (l out : LB) : Except Int LB := escF pl l.length l out
theorem escN_nil (pl : UInt8 → UInt8) (out : LB) : escN pl [] out = .ok out := rfl
theorem escN_cons (pl : UInt8 → UInt8) (c : UInt8) (r out : LB) : escN pl (c :: r) out = if c = 60 then .error 13 else if c = 38 then (match refM r with | none => .error 12 | some (t, rest) => escN pl rest (out ++ t))
      else if c = 13 then escN pl (Lib.trimPrefix r [10]) (out ++ [pl 10]) else escN pl r (out ++ [pl c]) := by
  unfold escN
  rw [List.length_cons]
  simp only [escF]
  split
  · rfl
  · split
    · cases hr : refM r with
      | none => rfl
      | some p =>
        obtain ⟨t, rest⟩ := p
        have := (refM_len hr).1
        exact escF_fuel pl _ _ rest _ (by omega) (Nat.le_refl _)
    · split
      · have := trim_len r [10]
        exact escF_fuel pl _ _ _ _ (by omega) (Nat.le_refl _)
      · rfl
def strAt (w : World) (g : Nat) : Nat := match w.cell? ⟨g, 0, none⟩ with | some (.string s) => s.size | _ => 0
theorem strAt_of {w : World} {g : Nat} {l : LB} {ad bv pv : Value} {t : Nat} (h : w.heap[g]? = some (.cells #[.string (ofL l), ad, bv, pv] t (0, 0))) : strAt w g = l.length := by
  unfold strAt; rw [(blk4 h).1]; exact ofL_size l
end Go.Proofs.YtagihjlklbckmaaGreatDoor.Sc
namespace Go.Proofs.YtagihjlklbckmaaGreatDoor.Sc
set_option linter.unusedVariables false
set_option linter.unusedSimpArgs false
open Go.RowKit Go.Proofs.YtagihjlklbckmaaGreatDoorW.PrintWords Go.Proofs.YtagihjlklbckmaaGreatDoorW.PrintLast Go.Proofs.YtagihjlklbckmaaGreatDoorW.PrintMore Go.Proofs.YtagihjlklbckmaaGreatDoor.Bs
def EscGave (g : Nat) (W : World) (r : Except Int LB) (e : Ending) (w' : World) : Prop := match r with
  | .error k => e = .returned (.tuple #[.string (ofL []), .int .i64 k]) ∧ Below g W w'
  | .ok t => e = .returned (.tuple #[.string (ofL t), .int .i64 0]) ∧ Below g W w'
theorem lit_eq (c b : UInt8) (n : Int) (r : Bool) (hn : (b.toNat : Int) = n) (h : decide (c = b) = r) : ((c.toNat : Int) == n) = r := by
  rw [← h, ← hn]
  by_cases e : c = b
  · subst e; simp
  · rw [decide_eq_false e]
    simp only [beq_eq_false_iff_ne]
    intro h2; exact e (UInt8.toNat_inj.1 (by omega))
theorem trim_at (r : LB) (W : World) : Calls Tryz.prog 91 #[.string (ofL r), .string ⟨#[10]⟩] W fun e w' => e = .returned (.string (ofL (Lib.trimPrefix r [10]))) ∧ w' = W := Tryz.strings_TrimPrefix (ofL r) ⟨#[10]⟩ W
set_option maxRecDepth 100000 in
set_option maxHeartbeats 4000000 in
theorem run_calls (W : World) (g f : Nat) (l : LB) (bv0 pv : Value) (pl : UInt8 → UInt8) (hpv : pv = .func (.func f) #[.pointer (some ⟨g, 0, none⟩)] #[])
    (hf : ∀ args w, (callFunc f args).run Tryz.prog w = .ok (.enter f args) w)
    (hp : ∀ (W : World) (s : LB) (ad bv : Value) (lo : List Int) (b : UInt8), adOk g ad → Rdr g W s ad bv pv lo → lo.length ≤ 1000000000 → Calls Tryz.prog f #[.pointer (some ⟨g, 0, none⟩), .int .u8 b.toNat] W (PlainGave g W s pv lo ((pl b).toNat : Int)))
    (h : Rdr g W l (.pointer none) bv0 pv []) (E : Env W) (hg : 6 ≤ g) (hl : l.length ≤ 1000000) :
    Calls Tryz.prog 72 #[.pointer (some ⟨g, 0, none⟩)] W (EscGave g W (escN pl l [])) := by
  subst hpv
  obtain ⟨R, hR⟩ : ∃ x, x = escN pl l [] := ⟨_, rfl⟩
  rw [← hR]
  have HR0 := Aside0.mk (show R = escN pl l [] from hR)
  have HP := Aside0.mk hp
  have H0 := Aside0.mk h
  have HE := Aside0.mk E
  have HB0 := Aside0.mk (Below.refl g W)
  clear hR hp h E
  go_enter Tryz.func72, Tryz.ntmps72
  go_wp2_with fail
  go_step3
  go_wp2_with fail
  go_step3
  go_wp2_with fail
  go_loopw [4] (fun v4 wr => ∃ (s lo : LB) (ad bv : Value), v4 = .int .i64 0 ∧ lo.length + 4 * s.length ≤ 4000000 ∧ Aside0 (adOk g ad) ∧ Aside0 (Rdr g wr s ad bv _ (byI lo)) ∧ Aside0 (R = escN pl s lo) ∧ Aside0 (Below g W wr)) (fun _ wr => strAt wr g)
  case atStart => exact ⟨l, [], _, bv0, rfl, by simp; omega, ⟨.inl rfl⟩, H0, HR0, HB0⟩
  case round =>
    clear HR0 H0 HB0
    obtain ⟨s, lo, ad, bv, rfl, hlen, HA, H, HR, HB⟩ := hrel
    obtain ⟨q0, q1, q2, q3, q4⟩ := blk4 H.out.blk
    have HSA := Aside0.mk (strAt_of H.out.blk)
    cases s with
    | nil =>
      have hn : (ofL ([] : LB)).toList = [] := ofL_toList []
      have hRE : R = .ok lo := HR.out.trans (escN_nil pl lo)
      have HRE := Aside0.mk hRE
      have CS := Aside0.mk (string_calls wr g [] lo ad bv _ H.out)
      clear hRE HR
      go_wp2_with fail
      (with_reducible refine CS.out.mono ?_)
      rintro e w2 ⟨rfl, hb⟩
      have HB2 := Aside0.mk (HB.out.trans hb)
      clear hb
      go_wp2_with fail
      go_ret2
      rw [HRE.out]
      exact ⟨rfl, HB2.out⟩
    | cons c r =>
      have hn : ¬ (ofL (c :: r)).toList = [] := by rw [ofL_toList]; simp
      have hne : (ofL (c :: r)).toList.isEmpty = false := by rw [ofL_toList]; rfl
      have hz : 0 < (ofL (c :: r)).size := by rw [ofL_size]; simp
      have hz' : (0 : Int) < ((ofL (c :: r)).size : Int) := by omega
      have hz1 : (1 : Int) ≤ ((ofL (c :: r)).size : Int) := by omega
      have hget : (ofL (c :: r))[0]'hz = c := rfl
      have hcut : (ofL (c :: r)).extract 1 (ofL (c :: r)).size = ofL r := ofL_cut (c :: r) 1
      have HC := Aside0.mk (HR.out.trans (escN_cons pl c r lo))
      rw [List.length_cons] at hlen
      by_cases h60 : c = 60
      · have k1 := lit_eq c 60 60 true rfl (decide_eq_true h60)
        have HRE := Aside0.mk (show R = .error 13 by rw [HC.out, if_pos h60])
        clear HC HR h60
        go_wp2_with fail
        go_ret2
        rw [HRE.out]
        exact ⟨rfl, HB.out⟩
      have k1 := lit_eq c 60 60 false rfl (decide_eq_false h60)
      by_cases h38 : c = 38
      · have k2 := lit_eq c 38 38 true rfl (decide_eq_true h38)
        have HRE := Aside0.mk (HC.out.trans (by rw [if_neg h60, if_pos h38]))
        have CR := Aside0.mk (reference_calls wr g r ad bv _ (byI lo) HA.out (by rw [← h38]; exact H.out) (HE.out.below' (HB.out.mono hg) (Nat.le_refl _) HE.out.big) (by omega) (by rw [byI_len]; omega))
        have HRL := Aside0.mk (fun t rest (h : refM r = some (t, rest)) => refM_len h)
        clear HC HR h60 h38
        cases hr : refM r with
        | none =>
          rw [hr] at CR HRE
          clear hr
          go_wp2_with fail
          (with_reducible refine CR.out.mono ?_)
          rintro e w2 ⟨rfl, hb⟩
          have HB2 := Aside0.mk (HB.out.trans hb)
          clear hb
          go_wp2_with fail
          go_ret2
          rw [HRE.out]
          exact ⟨rfl, HB2.out⟩
        | some p =>
          obtain ⟨t, rest⟩ := p
          have hrl := HRL.out t rest hr
          rw [hr] at CR HRE
          clear hr HRL
          go_wp2_with fail
          (with_reducible refine CR.out.mono ?_)
          rintro e w2 ⟨rfl, ⟨bv', h2⟩, hb⟩
          have HB2 := Aside0.mk (HB.out.trans hb)
          have H2 := Aside0.mk (show Rdr g w2 rest (selfAd g) bv' _ (byI (lo ++ t)) by rw [byI_app]; exact h2)
          have HSB := Aside0.mk (strAt_of h2.blk)
          clear hb h2 q0 q1 q2 q3 q4
          go_wp2_with fail
          go_roundw
          case rel => exact ⟨rest, lo ++ t, _, bv', rfl, by rw [List.length_append]; omega, ⟨.inr rfl⟩, H2, HRE, HB2⟩
          case measure => rw [HSB.out, HSA.out, List.length_cons]; omega
      have k2 := lit_eq c 38 38 false rfl (decide_eq_false h38)
      by_cases h13 : c = 13
      · have k3 := lit_eq c 13 13 true rfl (decide_eq_true h13)
        have HRE := Aside0.mk (HC.out.trans (by rw [if_neg h60, if_neg h38, if_pos h13]))
        have CT := Aside0.mk (trim_at r)
        have htl := trim_len r [10]
        have HX := Aside0.mk (fun w (hx : Rdr g w (c :: r) ad bv (.func (.func f) #[.pointer (some ⟨g, 0, none⟩)] #[]) (byI lo)) => hx.cut (s' := Lib.trimPrefix r [10]))
        generalize Lib.trimPrefix r [10] = r2 at *
        clear HC HR h60 h38 h13
        go_wp2_with fail
        (with_reducible refine (CT.out _).mono ?_)
        rintro e w2 ⟨rfl, hw2⟩
        subst hw2
        have hx := HX.out _ H.out
        have HB2 := Aside0.mk (HB.out.trans hx.2)
        have CP := Aside0.mk (show Calls Tryz.prog f #[.pointer (some ⟨g, 0, none⟩), .int .u8 10] _ _ from HP.out _ r2 ad bv (byI lo) 10 HA.out hx.1 (by rw [byI_len]; omega))
        clear hx HX CT
        go_wp2_with fail
        (with_reducible refine CP.out.mono ?_)
        rintro e w3 ⟨rfl, ⟨bv', h3⟩, hb⟩
        have HB3 := Aside0.mk (HB2.out.trans hb)
        have H3 := Aside0.mk (show Rdr g w3 r2 (selfAd g) bv' _ (byI (lo ++ [pl 10])) by rw [byI_app]; exact h3)
        have HSB := Aside0.mk (strAt_of h3.blk)
        clear hb h3 q0 q1 q2 q3 q4 CP
        go_wp2_with fail
        go_roundw
        case rel => exact ⟨r2, lo ++ [pl 10], _, bv', rfl, by rw [List.length_append, List.length_singleton]; omega, ⟨.inr rfl⟩, H3, HRE, HB3⟩
        case measure => rw [HSB.out, HSA.out, List.length_cons]; omega
      have k3 := lit_eq c 13 13 false rfl (decide_eq_false h13)
      have HRE := Aside0.mk (HC.out.trans (by rw [if_neg h60, if_neg h38, if_neg h13]))
      have CP := Aside0.mk (HP.out wr (c :: r) ad bv (byI lo) c HA.out H.out (by rw [byI_len]; omega))
      clear HC HR h60 h38 h13
      go_wp2_with fail
      (with_reducible refine CP.out.mono ?_)
      rintro e w2 ⟨rfl, ⟨bv', h2⟩, hb⟩
      have HB2 := Aside0.mk (HB.out.trans hb)
      have H2 := Aside0.mk (show Rdr g w2 (c :: r) (selfAd g) bv' _ (byI (lo ++ [pl c])) by rw [byI_app]; exact h2)
      clear q0 q1 q2 q3 q4 CP hb
      obtain ⟨q0, q1, q2, q3, q4⟩ := blk4 h2.blk
      clear h2
      have hx := H2.out.cut (s' := r)
      have H3 := Aside0.mk hx.1
      have HB3 := Aside0.mk (HB2.out.trans hx.2)
      have HSB := Aside0.mk (strAt_of hx.1.blk)
      clear hx
      go_wp2_with fail
      go_roundw
      case rel => exact ⟨r, lo ++ [pl c], _, bv', rfl, by rw [List.length_append, List.length_singleton]; omega, ⟨.inr rfl⟩, H3, HRE, HB3⟩
      case measure => rw [HSB.out, HSA.out, List.length_cons]; omega
end Go.Proofs.YtagihjlklbckmaaGreatDoor.Sc
namespace Go.Proofs.YtagihjlklbckmaaGreatDoor.Sc
set_option linter.unusedVariables false
set_option linter.unusedSimpArgs false
open Go.RowKit Go.Proofs.YtagihjlklbckmaaGreatDoorW.PrintWords Go.Proofs.YtagihjlklbckmaaGreatDoorW.PrintLast Go.Proofs.YtagihjlklbckmaaGreatDoorW.PrintMore Go.Proofs.YtagihjlklbckmaaGreatDoor.Bs
set_option maxRecDepth 100000 in
set_option maxHeartbeats 1000000 in
theorem get_calls (w : World) (l : LB) (E : Env w) (hl : l.length ≤ 1000000) :
    Calls Tryz.prog 42 #[.string (ofL l)] w (EscGave w.heap.size w (escM id l)) := by
  have CT := Aside0.mk (text_calls w (ofL l) (by rw [ofL_size]; omega) E)
  rw [ofL_list] at CT
  obtain ⟨R, hR⟩ : ∃ x, x = escM id l := ⟨_, rfl⟩
  rw [← hR]
  unfold escM at hR
  have HE := Aside0.mk E
  clear E
  have hmf : ∀ (fn : Fn) (first cap : Array Value) (w : World), (Instr.makeFunc fn first cap).run Tryz.prog w = .ok (.func fn first cap) w := fun _ _ _ _ => rfl
  cases ht : textL l with
  | false =>
    rw [ht] at CT
    have HR := Aside0.mk (show R = .error 10 by rw [hR, ht]; rfl)
    clear hR ht
    go_enter Tryz.func42, Tryz.ntmps42
    go_wp2_with (go_at_call 8; (with_reducible refine CT.out.mono ?_); rintro e w2 ⟨rfl, hb⟩; have HB := Aside0.mk hb; clear hb)
    go_ret2
    rw [HR.out]
    exact ⟨rfl, HB.out⟩
  | true =>
    rw [ht] at CT
    have HR := Aside0.mk (show R = escN id l [] by rw [hR, ht]; rfl)
    clear hR ht
    go_enter Tryz.func42, Tryz.ntmps42
    go_wp2_with fail
    (with_reducible refine CT.out.mono ?_)
    rintro e w2 ⟨rfl, hb⟩
    have HB2 := Aside0.mk hb
    have HE2 := Aside0.mk (HE.out.below hb)
    have HZ := Aside0.mk (show 6 ≤ w2.heap.size from HE2.out.big)
    clear hb CT
    go_wp2_with fail
    have hq := heap_alloc_new w2 (.cells #[.string (ofL l), .pointer none, .slice none 0 0, .func (.func 71) #[.pointer (some ⟨w2.heap.size, 0, none⟩)] #[]] 109)
    have hba := below_alloc (Below.refl w2.heap.size w2) (.cells #[.string (ofL l), .pointer none, .slice none 0 0, .func (.func 71) #[.pointer (some ⟨w2.heap.size, 0, none⟩)] #[]] 109)
    have CR := run_calls _ w2.heap.size 71 l (.slice none 0 0) _ id rfl (fun args w => by kernel_rfl) (fun W s ad bv lo b ha h hl => same_calls W _ s ad bv _ lo (b.toNat : Int) ha h hl) ⟨hq, Kd.R_nil _ _ _ _ _, fun _ => rfl⟩ (HE2.out.below hba) HZ.out hl
    have HBA := Aside0.mk hba
    clear hq hba
    (with_reducible refine CR.mono ?_)
    rintro e w3 h3
    rw [← HR.out] at h3
    cases R with
    | error k =>
      obtain ⟨rfl, hb⟩ := h3
      have HB3 := Aside0.mk (HB2.out.trans ((HBA.out.trans hb).mono HB2.out.size))
      clear hb CR
      go_wp2_with fail
      go_ret2
      exact ⟨rfl, HB3.out⟩
    | ok t =>
      obtain ⟨rfl, hb⟩ := h3
      have HB3 := Aside0.mk (HB2.out.trans ((HBA.out.trans hb).mono HB2.out.size))
      clear hb CR
      go_wp2_with fail
      go_ret2
      exact ⟨rfl, HB3.out⟩
set_option maxRecDepth 100000 in
set_option maxHeartbeats 1000000 in
theorem getAttr_calls (w : World) (l : LB) (E : Env w) (hl : l.length ≤ 1000000) :
    Calls Tryz.prog 77 #[.string (ofL l)] w (EscGave w.heap.size w (escM blankB l)) := by
  have CT := Aside0.mk (text_calls w (ofL l) (by rw [ofL_size]; omega) E)
  rw [ofL_list] at CT
  obtain ⟨R, hR⟩ : ∃ x, x = escM blankB l := ⟨_, rfl⟩
  rw [← hR]
  unfold escM at hR
  have HE := Aside0.mk E
  clear E
  have hmf : ∀ (fn : Fn) (first cap : Array Value) (w : World), (Instr.makeFunc fn first cap).run Tryz.prog w = .ok (.func fn first cap) w := fun _ _ _ _ => rfl
  cases ht : textL l with
  | false =>
    rw [ht] at CT
    have HR := Aside0.mk (show R = .error 10 by rw [hR, ht]; rfl)
    clear hR ht
    go_enter Tryz.func77, Tryz.ntmps77
    go_wp2_with (go_at_call 8; (with_reducible refine CT.out.mono ?_); rintro e w2 ⟨rfl, hb⟩; have HB := Aside0.mk hb; clear hb)
    go_ret2
    rw [HR.out]
    exact ⟨rfl, HB.out⟩
  | true =>
    rw [ht] at CT
    have HR := Aside0.mk (show R = escN blankB l [] by rw [hR, ht]; rfl)
    clear hR ht
    go_enter Tryz.func77, Tryz.ntmps77
    go_wp2_with fail
    (with_reducible refine CT.out.mono ?_)
    rintro e w2 ⟨rfl, hb⟩
    have HB2 := Aside0.mk hb
    have HE2 := Aside0.mk (HE.out.below hb)
    have HZ := Aside0.mk (show 6 ≤ w2.heap.size from HE2.out.big)
    clear hb CT
    go_wp2_with fail
    have hq := heap_alloc_new w2 (.cells #[.string (ofL l), .pointer none, .slice none 0 0, .func (.func 95) #[.pointer (some ⟨w2.heap.size, 0, none⟩)] #[]] 109)
    have hba := below_alloc (Below.refl w2.heap.size w2) (.cells #[.string (ofL l), .pointer none, .slice none 0 0, .func (.func 95) #[.pointer (some ⟨w2.heap.size, 0, none⟩)] #[]] 109)
    have CR := run_calls _ w2.heap.size 95 l (.slice none 0 0) _ blankB rfl (fun args w => by kernel_rfl) (fun W s ad bv lo b ha h hl => blank_calls W _ s ad bv _ lo b ha h hl) ⟨hq, Kd.R_nil _ _ _ _ _, fun _ => rfl⟩ (HE2.out.below hba) HZ.out hl
    have HBA := Aside0.mk hba
    clear hq hba
    (with_reducible refine CR.mono ?_)
    rintro e w3 h3
    rw [← HR.out] at h3
    cases R with
    | error k =>
      obtain ⟨rfl, hb⟩ := h3
      have HB3 := Aside0.mk (HB2.out.trans ((HBA.out.trans hb).mono HB2.out.size))
      clear hb CR
      go_wp2_with fail
      go_ret2
      exact ⟨rfl, HB3.out⟩
    | ok t =>
      obtain ⟨rfl, hb⟩ := h3
      have HB3 := Aside0.mk (HB2.out.trans ((HBA.out.trans hb).mono HB2.out.size))
      clear hb CR
      go_wp2_with fail
      go_ret2
      exact ⟨rfl, HB3.out⟩
end Go.Proofs.YtagihjlklbckmaaGreatDoor.Sc
