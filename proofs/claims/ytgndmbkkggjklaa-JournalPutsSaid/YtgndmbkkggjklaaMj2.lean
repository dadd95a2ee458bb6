import Derived.Test.YtgndmbkkggjklaaMj1
import Derived.Test.YtgndmbkkggjklaaJoPc
import Derived.Deep.RegionHeld3
import Derived.BigRegion
import Derived.BigQuiet
import Derived.Laws.Bits64b
namespace Go.Proofs.Ytgndmbkkggjklaa.Jo
set_option linter.unusedVariables false
set_option linter.unusedSimpArgs false
open Go.RowKit Go.Proofs.YtgndmbkkggjklaaW.PrintWords Go.Proofs.YtgndmbkkggjklaaW.PrintMore Go.Proofs.Ytgndmbkkggjklaa.Bs
theorem Gives.grew {B : Nat} {w w' : World} {l : List Int} {v : Value} (h : (Kd.int .u8).R 5 w' w.heap.size (fun _ => True) v l) (hb : Below w.heap.size w w') (hB : B ≤ w.heap.size) : Grew B w (.slice none 0 0) v l w' :=
  ⟨Kd.R_lower h hB, fun k hk => .inr (own_base (Kd.own_of_R h) k hk.symm), Ch.below (Ch.refl _ _) hb⟩
theorem blk7 {w : World} {g t : Nat} {a b c d e f h : Value} (q : w.heap[g]? = some (.cells #[a, b, c, d, e, f, h] t (0, 0))) : w.cell? ⟨g, 0, none⟩ = some a ∧ w.cell? ⟨g, 1, none⟩ = some b ∧ w.cell? ⟨g, 2, none⟩ = some c ∧ w.cell? ⟨g, 3, none⟩ = some d ∧ w.cell? ⟨g, 4, none⟩ = some e ∧ w.cell? ⟨g, 5, none⟩ = some f ∧ w.cell? ⟨g, 6, none⟩ = some h ∧ ∀ j, w.frozen? ⟨g, j, none⟩ = false :=
  ⟨blk_cell q 0, blk_cell q 1, blk_cell q 2, blk_cell q 3, blk_cell q 4, blk_cell q 5, blk_cell q 6, fun j => blk_frozen q j⟩
theorem be1 (n : Int) : be 1 n = [n % 256] := by simp [be]
set_option maxRecDepth 100000 in
set_option maxHeartbeats 4000000 in
theorem refput_calls (w : World) (A : Option Addr) (cp : Nat) (c : S25) (hC : k46.C w A c.f3.length c.f3) (hc : c.f3.length ≤ cp) (hr : rightC c = true) (h1 : 0 ≤ c.f1 ∧ c.f1 < 18446744073709551616) (h2 : 0 ≤ c.f2 ∧ c.f2 < 18446744073709551616) :
    Calls Try.prog 12 #[.agg #[.int .i64 c.f0, .int .u64 c.f1, .int .u64 c.f2, .slice A c.f3.length cp]] w (Gives w (putC c)) := by
  have GC := Aside0.mk (good_of_rightC c hr)
  have EC := Aside0.mk (show bodyC c = be 4 c.f0 ++ be 8 c.f1 ++ be 8 c.f2 ++ be 2 c.f3.length ++ c.f3.flatMap putX from rfl)
  have EP := Aside0.mk (show putC c = be 4 (bodyC c).length ++ bodyC c from rfl)
  obtain ⟨tx, s, t, l⟩ := c
  simp only at hc hC EC h1 h2 ⊢
  have HC := Aside0.mk hC
  have hl2 : l.length ≤ 20000 := GC.out.len.2
  have htx : 1 ≤ tx ∧ tx ≤ 2147483647 := GC.out.txn
  have GA := Aside0.mk (show ∀ x ∈ l, goodX x from GC.out.all)
  have u1 : IntKind.u64.wrap tx = tx := by rw [IntKind.wrap_u64]; omega
  have u2 : IntKind.u64.wrap (l.length : Int) = l.length := by rw [IntKind.wrap_u64]; omega
  generalize bodyC ⟨tx, s, t, l⟩ = bd at *
  generalize putC ⟨tx, s, t, l⟩ = pc at *
  clear hC hr GC
  have hW := below_alloc (Below.refl w.heap.size w) (.cells #[.int .i64 tx, .int .u64 s, .int .u64 t, .slice A l.length cp] 25)
  have q := heap_alloc_new w (.cells #[.int .i64 tx, .int .u64 s, .int .u64 t, .slice A l.length cp] 25)
  obtain ⟨w1, hw1⟩ : ∃ w1, w1 = w.alloc (.cells #[.int .i64 tx, .int .u64 s, .int .u64 t, .slice A l.length cp] 25) := ⟨_, rfl⟩
  have HB1 := Aside0.mk (hw1 ▸ hW)
  have Q := Aside0.mk (hw1 ▸ q)
  have HBW := Aside0.mk (show w.heap.size ≤ w1.heap.size from HB1.out.size)
  obtain ⟨q0, q1, q2, q3, q4⟩ := blk4 Q.out
  clear hW q
  go_enter Try.func12, Try.ntmps12
  go_wp2_with fail
  rw [← hw1]
  refine (number_calls w1 tx 4 (by omega) (by omega) (by decide)).mono ?_
  rintro e w2 ⟨v2, rfl, hr, hb⟩
  have hG := Gives.grew hr hb HBW.out
  obtain ⟨A2, c2, rfl⟩ := Kd.R_slice hG.row
  obtain ⟨z2, N2⟩ : ∃ z, z = be 4 tx := ⟨_, rfl⟩
  rw [← N2] at hG ⊢
  have L2 := Aside0.mk (show z2.length = 4 by rw [N2]; simp [be_length])
  replace N2 := Aside0.mk N2
  have G2 := Aside0.mk hG
  clear hr hb hG q0 q1 q2 q3 q4
  obtain ⟨q0, q1, q2, q3, q4⟩ := blk4 (G2.out.ch.heap Q.out (by simp [Value.ownBlock]))
  go_wp2_with fail
  refine (number_calls w2 s 8 h1.1 (by omega) (by decide)).mono ?_
  rintro e x3 ⟨y3, rfl, hr, hb⟩
  obtain ⟨B3, d3, rfl⟩ := Kd.R_slice hr
  have GA3 := Aside0.mk (G2.out.after hb)
  have HC3 := Aside0.mk (Kd.R_reads' hr).2.2
  have HZ3 := Aside0.mk (show w.heap.size ≤ x3.heap.size from Nat.le_trans HBW.out GA3.out.ch.size)
  have HL3 := Aside0.mk (show z2.length + (be 8 s).length ≤ 140737488355328 by rw [L2.out, be_length]; decide)
  clear hr hb q0 q1 q2 q3 q4
  obtain ⟨q0, q1, q2, q3, q4⟩ := blk4 (GA3.out.ch.heap Q.out (by simp [Value.ownBlock]))
  obtain ⟨ys3, NY3⟩ : ∃ y, y = be 8 s := ⟨_, rfl⟩
  rw [← NY3] at HC3 HL3 ⊢
  replace NY3 := Aside0.mk NY3
  go_wp2_with (first | ((with_reducible refine gate_builtin (b := .append) (xs := #[.tmp 10, .tmp 13]) rfl ?_); at_builtin; go_loud (refine gcat w.heap.size rfl (.tmp 10) (.tmp 13) 28 rfl Try.underlying28 info5 _ z2 ys3 _ _ rfl rfl GA3.out.row HC3.out HZ3.out HL3.out ?_); intro A3 c3 w3 z3 N3 hG; have G3 := Aside0.mk (GA3.out.trans hG); clear hG q0 q1 q2 q3 q4; obtain ⟨q0, q1, q2, q3, q4⟩ := blk4 (G3.out.ch.heap Q.out (by simp [Value.ownBlock]))))
  have L3 := Aside0.mk (show z3.length = 12 by rw [N3.out, List.length_append, NY3.out, be_length, L2.out])
  refine (number_calls w3 t 8 h2.1 (by omega) (by decide)).mono ?_
  rintro e x4 ⟨y4, rfl, hr, hb⟩
  obtain ⟨B4, d4, rfl⟩ := Kd.R_slice hr
  have GA4 := Aside0.mk (G3.out.after hb)
  have HC4 := Aside0.mk (Kd.R_reads' hr).2.2
  have HZ4 := Aside0.mk (show w.heap.size ≤ x4.heap.size from Nat.le_trans HBW.out GA4.out.ch.size)
  have HL4 := Aside0.mk (show z3.length + (be 8 t).length ≤ 140737488355328 by rw [L3.out, be_length]; decide)
  clear hr hb q0 q1 q2 q3 q4
  obtain ⟨q0, q1, q2, q3, q4⟩ := blk4 (GA4.out.ch.heap Q.out (by simp [Value.ownBlock]))
  obtain ⟨ys4, NY4⟩ : ∃ y, y = be 8 t := ⟨_, rfl⟩
  rw [← NY4] at HC4 HL4 ⊢
  replace NY4 := Aside0.mk NY4
  go_wp2_with (first | ((with_reducible refine gate_builtin (b := .append) (xs := #[.tmp 15, .tmp 18]) rfl ?_); at_builtin; go_loud (refine gcat w.heap.size rfl (.tmp 15) (.tmp 18) 28 rfl Try.underlying28 info5 _ z3 ys4 _ _ rfl rfl GA4.out.row HC4.out HZ4.out HL4.out ?_); intro A4 c4 w4 z4 N4 hG; have G4 := Aside0.mk (GA4.out.trans hG); clear hG q0 q1 q2 q3 q4; obtain ⟨q0, q1, q2, q3, q4⟩ := blk4 (G4.out.ch.heap Q.out (by simp [Value.ownBlock]))))
  have L4 := Aside0.mk (show z4.length = 20 by rw [N4.out, List.length_append, NY4.out, be_length, L3.out])
  refine (number_calls w4 (l.length : Int) 2 (by omega) (by omega) (by decide)).mono ?_
  rintro e x5 ⟨y5, rfl, hr, hb⟩
  obtain ⟨B5, d5, rfl⟩ := Kd.R_slice hr
  have GA5 := Aside0.mk (G4.out.after hb)
  have HC5 := Aside0.mk (Kd.R_reads' hr).2.2
  have HZ5 := Aside0.mk (show w.heap.size ≤ x5.heap.size from Nat.le_trans HBW.out GA5.out.ch.size)
  have HL5 := Aside0.mk (show z4.length + (be 2 (l.length : Int)).length ≤ 140737488355328 by rw [L4.out, be_length]; decide)
  clear hr hb q0 q1 q2 q3 q4
  obtain ⟨q0, q1, q2, q3, q4⟩ := blk4 (GA5.out.ch.heap Q.out (by simp [Value.ownBlock]))
  obtain ⟨ys5, NY5⟩ : ∃ y, y = be 2 (l.length : Int) := ⟨_, rfl⟩
  rw [← NY5] at HC5 HL5 ⊢
  replace NY5 := Aside0.mk NY5
  go_wp2_with (first | ((with_reducible refine gate_builtin (b := .append) (xs := #[.tmp 20, .tmp 25]) rfl ?_); at_builtin; go_loud (refine gcat w.heap.size rfl (.tmp 20) (.tmp 25) 28 rfl Try.underlying28 info5 _ z4 ys5 _ _ rfl rfl GA5.out.row HC5.out HZ5.out HL5.out ?_); intro A5 c5 w5 z5 N5 hG; have G5 := Aside0.mk (GA5.out.trans hG); clear hG q0 q1 q2 q3 q4; obtain ⟨q0, q1, q2, q3, q4⟩ := blk4 (G5.out.ch.heap Q.out (by simp [Value.ownBlock]))))
  have L5 := Aside0.mk (show z5.length = 22 by rw [N5.out, List.length_append, NY5.out, be_length, L4.out])
  have M5 := Aside0.mk (show z5 = be 4 tx ++ be 8 s ++ be 8 t ++ be 2 (l.length : Int) by rw [N5.out, NY5.out, N4.out, NY4.out, N3.out, NY3.out, N2.out])
  clear N2 N3 N4 N5 NY3 NY4 NY5 G2 G3 G4 GA3 GA4 GA5 L2 L3 L4 HC3 HC4 HC5 HL3 HL4 HL5
  go_loopw [3, 4] (fun v3 v4 wr => ∃ (j : Nat) (Ab : Option Addr) (cb : Nat) (zs : List Int), v3 = .slice Ab zs.length cb ∧ v4 = .int .i64 j ∧ j ≤ l.length ∧ Aside0 (zs = z5 ++ (l.take j).flatMap putX) ∧ Aside0 (Grew w.heap.size w1 (.slice none 0 0) (.slice Ab zs.length cb) zs wr)) (fun _ v4 _ => l.length - (intOf v4).toNat)
  case atStart => exact ⟨0, _, _, z5, rfl, rfl, Nat.zero_le _, ⟨by simp⟩, G5⟩
  case round =>
    clear G5 q0 q1 q2 q3 q4
    obtain ⟨j, Ab, cb, zs, rfl, rfl, hj, NZ, G⟩ := hrel
    have LZ := Aside0.mk (show zs.length ≤ 22 + 20000 * 139087 by
      rw [NZ.out, List.length_append, L5.out]
      have h1 := flatX_len (l.take j) (fun x hx => GA.out x (List.mem_of_mem_take hx))
      rw [List.length_take] at h1
      have h2 : min j l.length * 139087 ≤ 20000 * 139087 := Nat.mul_le_mul_right _ (by omega)
      omega)
    have HBr := Aside0.mk (show w.heap.size ≤ wr.heap.size from Nat.le_trans HBW.out G.out.ch.size)
    have HWr := Aside0.mk (show Below w.heap.size w wr from below_step HB1.out (Ch.to_below G.out.ch (fun k hk => by simp [Value.ownBlock] at hk) (Nat.le_refl _)))
    obtain ⟨q0, q1, q2, q3, q4⟩ := blk4 (G.out.ch.heap Q.out (by simp [Value.ownBlock]))
    by_cases hjl : j < l.length
    · obtain ⟨ad, A5, c5', A6, c6', e, k0, k1, k2, k3, k4, k5, k6, k7, l5, g5, l6, g6⟩ := at46 HC.out j hjl
      cases e
      replace k0 := pw_cell_below HWr.out k0
      replace k1 := pw_cell_below HWr.out k1
      replace k2 := pw_cell_below HWr.out k2
      replace k3 := pw_cell_below HWr.out k3
      replace k4 := pw_cell_below HWr.out k4
      replace k5 := pw_cell_below HWr.out k5
      replace k6 := pw_cell_below HWr.out k6
      replace k7 := pw_cell_below HWr.out k7
      have F5 := Aside0.mk (Kd.C_F (Kd.heap_int .i64) g5)
      have F6 := Aside0.mk (Kd.C_F (Kd.heap_int .i64) g6)
      have hg := GA.out _ (List.getElem_mem hjl)
      have hnext := flat_take putX l j hjl
      generalize hx : l[j] = x at *
      obtain ⟨i0, ⟨x0, x1, x2, x3, x4, x5, x6⟩⟩ := x
      obtain ⟨b1, b2, b3, b4, b5, b6, b7⟩ := hg
      simp only at k0 k1 k2 k3 k4 k5 k6 k7 l5 l6 F5 F6 b1 b2 b3 b4 b5 b6 b7
      have B6 := Aside0.mk (show x4.length ≤ 10000 ∧ ∀ n ∈ x4, 0 ≤ n ∧ n ≤ 9223372036854775807 from ⟨by omega, fun n hn => by have := b6.2 n hn; omega⟩)
      have B7 := Aside0.mk (show x5.length ≤ 10000 ∧ ∀ n ∈ x5, 0 ≤ n ∧ n ≤ 9223372036854775807 from ⟨by omega, fun n hn => by have := b7.2 n hn; omega⟩)
      have B6' := b6.1
      have B7' := b7.1
      have HN := Aside0.mk hnext
      have hi0 : (0 : Int) ≤ (j : Int) := by omega
      have hi1 : (j : Int) < (l.length : Int) := by omega
      have v1' : IntKind.u64.wrap i0 = i0 := by rw [IntKind.wrap_u64]; omega
      have v3' : IntKind.u64.wrap x3 = x3 := by rw [IntKind.wrap_u64]; omega
      have v2' : IntKind.u8.wrap x0 = x0 % 256 := by rw [IntKind.wrap_u8]
      have hW := below_alloc (Below.refl wr.heap.size wr) (.cells #[.int .i64 x0, .string x1, .string x2, .int .i64 x3, .slice A5 x4.length c5', .slice A6 x5.length c6', .bool x6] 44)
      have hnew := heap_alloc_new wr (.cells #[.int .i64 x0, .string x1, .string x2, .int .i64 x3, .slice A5 x4.length c5', .slice A6 x5.length c6', .bool x6] 44)
      have HNE := Aside0.mk (show some wr.heap.size ≠ (Value.slice Ab zs.length cb).ownBlock from fun e => by have := own_lt (Kd.own_of_R G.out.row) _ e.symm; omega)
      have H0 := Aside0.mk (Grew.refl (Kd.R_below G.out.row hW))
      have G1 := Aside0.mk (G.out.after hW)
      clear g5 g6 hx b6 b7 hnext hj G
      go_upto_region 9 with (fail)
      have hws : (wr.alloc (.cells #[.int .i64 x0, .string x1, .string x2, .int .i64 x3, .slice A5 x4.length c5', .slice A6 x5.length c6', .bool x6] 44)).heap.size = wr.heap.size + 1 := by simp
      generalize hWW : wr.alloc (.cells #[.int .i64 x0, .string x1, .string x2, .int .i64 x3, .slice A5 x4.length c5', .slice A6 x5.length c6', .bool x6] 44) = W at *
      have HNEW := Aside0.mk hnew
      have HW := Aside0.mk hW
      clear hW hnew hWW hws
      replace k0 := pw_cell_below HW.out k0
      replace k1 := pw_cell_below HW.out k1
      replace k2 := pw_cell_below HW.out k2
      replace k3 := pw_cell_below HW.out k3
      replace k4 := pw_cell_below HW.out k4
      replace k5 := pw_cell_below HW.out k5
      replace k6 := pw_cell_below HW.out k6
      replace k7 := pw_cell_below HW.out k7
      clear q0 q1 q2 q3 q4
      obtain ⟨q0, q1, q2, q3, q4⟩ := blk4 (G1.out.ch.heap Q.out (by simp [Value.ownBlock]))
      obtain ⟨a0, a1, a2, a3, a4, a5, a6, a7⟩ := blk7 HNEW.out
      go_wp2_with fail
      refine (number_calls W i0 4 (by omega) (by omega) (by decide)).mono ?_
      rintro e x11 ⟨y11, rfl, hr, hb⟩
      obtain ⟨B11, d11, rfl⟩ := Kd.R_slice hr
      have GA11 := Aside0.mk (H0.out.after hb)
      have HC11 := Aside0.mk (Kd.R_reads' hr).2.2
      have HZ11 := Aside0.mk (show w.heap.size ≤ x11.heap.size from Nat.le_trans (Nat.le_trans HBr.out HW.out.size) GA11.out.ch.size)
      have HL11 := Aside0.mk (show zs.length + (be 4 i0).length ≤ 140737488355328 by rw [be_length]; have := LZ.out; omega)
      clear hr hb q0 q1 q2 q3 q4 k0 k1 k2 k3 k4 k5 k6 k7
      obtain ⟨a0, a1, a2, a3, a4, a5, a6, a7⟩ := blk7 (GA11.out.heap HNEW.out HNE.out)
      obtain ⟨ys11, NY11⟩ : ∃ y, y = be 4 i0 := ⟨_, rfl⟩
      rw [← NY11] at HC11 HL11 ⊢
      replace NY11 := Aside0.mk NY11
      go_wp2_with (first | ((with_reducible refine gate_builtin (b := .append) (xs := #[.tmp 40, .tmp 48]) rfl ?_); at_builtin; go_loud (refine gcat w.heap.size rfl (.tmp 40) (.tmp 48) 28 rfl Try.underlying28 info5 _ zs ys11 _ _ rfl rfl GA11.out.row HC11.out HZ11.out HL11.out ?_); intro A11 c11 w11 z11 N11 hG; have G11 := Aside0.mk (GA11.out.trans hG); clear hG a0 a1 a2 a3 a4 a5 a6 a7; obtain ⟨a0, a1, a2, a3, a4, a5, a6, a7⟩ := blk7 (G11.out.heap HNEW.out HNE.out)) | ((with_reducible refine gate_builtin (b := .append) (xs := #[.tmp 50, .tmp 54]) rfl ?_); at_builtin; go_loud (refine gbyte w.heap.size rfl (.tmp 50) (.tmp 54) 28 rfl Try.underlying28 info5 _ z11 (x0 % 256) rfl rfl G11.out.row (Nat.le_trans (Nat.le_trans HBr.out HW.out.size) G11.out.ch.size) (by rw [N11.out, List.length_append, NY11.out, be_length]; have := LZ.out; omega) ?_); intro A12 c12 w12 z12 N12 hG; have G12 := Aside0.mk (G11.out.trans hG); clear hG a0 a1 a2 a3 a4 a5 a6 a7; obtain ⟨a0, a1, a2, a3, a4, a5, a6, a7⟩ := blk7 (G12.out.heap HNEW.out HNE.out)))
      · rename_i hx6
        refine ⟨⟨j + 1, A12, c12, z12, rfl, by first | rfl | rw [wrap_succ j (by omega)] | simp, by omega, ⟨by rw [HN.out, N12.out, N11.out, NY11.out, NZ.out]; simp [putX, be1, hx6]⟩, ⟨G1.out.trans G12.out⟩⟩, ?_⟩
        first | exact meas_in j _ hjl | exact meas_up j _ hjl (by omega)
      · have hx6 : x6 = false := by first | assumption | (simpa using ‹¬ x6 = true›)
        have L12 := Aside0.mk (show z12.length = zs.length + 5 by rw [N12.out, List.length_append, N11.out, List.length_append, NY11.out, be_length]; rfl)
        refine (number_calls w12 x3 4 (by omega) (by omega) (by decide)).mono ?_
        rintro e x13 ⟨y13, rfl, hr, hb⟩
        obtain ⟨B13, d13, rfl⟩ := Kd.R_slice hr
        have GA13 := Aside0.mk (G12.out.after hb)
        have HC13 := Aside0.mk (Kd.R_reads' hr).2.2
        have HZ13 := Aside0.mk (show w.heap.size ≤ x13.heap.size from Nat.le_trans (Nat.le_trans HBr.out HW.out.size) GA13.out.ch.size)
        have HL13 := Aside0.mk (show z12.length + (be 4 x3).length ≤ 140737488355328 by rw [be_length, L12.out]; have := LZ.out; omega)
        clear hr hb a0 a1 a2 a3 a4 a5 a6 a7
        obtain ⟨a0, a1, a2, a3, a4, a5, a6, a7⟩ := blk7 (GA13.out.heap HNEW.out HNE.out)
        obtain ⟨ys13, NY13⟩ : ∃ y, y = be 4 x3 := ⟨_, rfl⟩
        rw [← NY13] at HC13 HL13 ⊢
        replace NY13 := Aside0.mk NY13
        go_wp2_with (first | ((with_reducible refine gate_builtin (b := .append) (xs := #[.tmp 58, .tmp 62]) rfl ?_); at_builtin; go_loud (refine gcat w.heap.size rfl (.tmp 58) (.tmp 62) 28 rfl Try.underlying28 info5 _ z12 ys13 _ _ rfl rfl GA13.out.row HC13.out HZ13.out HL13.out ?_); intro A13 c13 w13 z13 N13 hG; have G13 := Aside0.mk (GA13.out.trans hG); clear hG a0 a1 a2 a3 a4 a5 a6 a7; obtain ⟨a0, a1, a2, a3, a4, a5, a6, a7⟩ := blk7 (G13.out.heap HNEW.out HNE.out)))
        have L13 := Aside0.mk (show z13.length = zs.length + 9 by rw [N13.out, List.length_append, NY13.out, be_length, L12.out])
        refine (reftext_calls w13 x1 b4).mono ?_
        rintro e x14 ⟨y14, rfl, hr, hb⟩
        obtain ⟨B14, d14, rfl⟩ := Kd.R_slice hr
        have GA14 := Aside0.mk (G13.out.after hb)
        have HC14 := Aside0.mk (Kd.R_reads' hr).2.2
        have HZ14 := Aside0.mk (show w.heap.size ≤ x14.heap.size from Nat.le_trans (Nat.le_trans HBr.out HW.out.size) GA14.out.ch.size)
        have HL14 := Aside0.mk (show z13.length + (textB x1).length ≤ 140737488355328 by rw [textB_len, L13.out]; have := LZ.out; omega)
        clear hr hb a0 a1 a2 a3 a4 a5 a6 a7
        obtain ⟨a0, a1, a2, a3, a4, a5, a6, a7⟩ := blk7 (GA14.out.heap HNEW.out HNE.out)
        obtain ⟨ys14, NY14⟩ : ∃ y, y = textB x1 := ⟨_, rfl⟩
        rw [← NY14] at HC14 HL14 ⊢
        replace NY14 := Aside0.mk NY14
        go_wp2_with (first | ((with_reducible refine gate_builtin (b := .append) (xs := #[.tmp 64, .tmp 67]) rfl ?_); at_builtin; go_loud (refine gcat w.heap.size rfl (.tmp 64) (.tmp 67) 28 rfl Try.underlying28 info5 _ z13 ys14 _ _ rfl rfl GA14.out.row HC14.out HZ14.out HL14.out ?_); intro A14 c14 w14 z14 N14 hG; have G14 := Aside0.mk (GA14.out.trans hG); clear hG a0 a1 a2 a3 a4 a5 a6 a7; obtain ⟨a0, a1, a2, a3, a4, a5, a6, a7⟩ := blk7 (G14.out.heap HNEW.out HNE.out)))
        have L14 := Aside0.mk (show z14.length ≤ zs.length + 100000 by rw [N14.out, List.length_append, NY14.out, textB_len, L13.out]; omega)
        refine (reftext_calls w14 x2 b5).mono ?_
        rintro e x15 ⟨y15, rfl, hr, hb⟩
        obtain ⟨B15, d15, rfl⟩ := Kd.R_slice hr
        have GA15 := Aside0.mk (G14.out.after hb)
        have HC15 := Aside0.mk (Kd.R_reads' hr).2.2
        have HZ15 := Aside0.mk (show w.heap.size ≤ x15.heap.size from Nat.le_trans (Nat.le_trans HBr.out HW.out.size) GA15.out.ch.size)
        have HL15 := Aside0.mk (show z14.length + (textB x2).length ≤ 140737488355328 by rw [textB_len]; have := L14.out; have := LZ.out; omega)
        clear hr hb a0 a1 a2 a3 a4 a5 a6 a7
        obtain ⟨a0, a1, a2, a3, a4, a5, a6, a7⟩ := blk7 (GA15.out.heap HNEW.out HNE.out)
        obtain ⟨ys15, NY15⟩ : ∃ y, y = textB x2 := ⟨_, rfl⟩
        rw [← NY15] at HC15 HL15 ⊢
        replace NY15 := Aside0.mk NY15
        go_wp2_with (first | ((with_reducible refine gate_builtin (b := .append) (xs := #[.tmp 69, .tmp 72]) rfl ?_); at_builtin; go_loud (refine gcat w.heap.size rfl (.tmp 69) (.tmp 72) 28 rfl Try.underlying28 info5 _ z14 ys15 _ _ rfl rfl GA15.out.row HC15.out HZ15.out HL15.out ?_); intro A15 c15 w15 z15 N15 hG; have G15 := Aside0.mk (GA15.out.trans hG); clear hG a0 a1 a2 a3 a4 a5 a6 a7; obtain ⟨a0, a1, a2, a3, a4, a5, a6, a7⟩ := blk7 (G15.out.heap HNEW.out HNE.out)))
        have L15 := Aside0.mk (show z15.length ≤ zs.length + 200000 by rw [N15.out, List.length_append, NY15.out, textB_len]; have := L14.out; omega)
        refine (refrow_calls w15 A5 c5' x4 (Kd.F_now (Kd.F_below F5.out (show Below w.heap.size w w15 from below_three HWr.out HW.out (Ch.to_below G15.out.ch (fun k hk => own_base (Kd.own_of_R H0.out.row) k hk.symm) (Nat.le_trans HBr.out HW.out.size))))) l5 B6.out.1 B6.out.2).mono ?_
        rintro e x16 ⟨y16, rfl, hr, hb⟩
        obtain ⟨B16, d16, rfl⟩ := Kd.R_slice hr
        have GA16 := Aside0.mk (G15.out.after hb)
        have HC16 := Aside0.mk (Kd.R_reads' hr).2.2
        have HZ16 := Aside0.mk (show w.heap.size ≤ x16.heap.size from Nat.le_trans (Nat.le_trans HBr.out HW.out.size) GA16.out.ch.size)
        have HL16 := Aside0.mk (show z15.length + (rowB x4).length ≤ 140737488355328 by rw [rowB_len]; have := L15.out; have := LZ.out; omega)
        clear hr hb a0 a1 a2 a3 a4 a5 a6 a7
        obtain ⟨a0, a1, a2, a3, a4, a5, a6, a7⟩ := blk7 (GA16.out.heap HNEW.out HNE.out)
        obtain ⟨ys16, NY16⟩ : ∃ y, y = rowB x4 := ⟨_, rfl⟩
        rw [← NY16] at HC16 HL16 ⊢
        replace NY16 := Aside0.mk NY16
        go_wp2_with (first | ((with_reducible refine gate_builtin (b := .append) (xs := #[.tmp 74, .tmp 77]) rfl ?_); at_builtin; go_loud (refine gcat w.heap.size rfl (.tmp 74) (.tmp 77) 28 rfl Try.underlying28 info5 _ z15 ys16 _ _ rfl rfl GA16.out.row HC16.out HZ16.out HL16.out ?_); intro A16 c16 w16 z16 N16 hG; have G16 := Aside0.mk (GA16.out.trans hG); clear hG a0 a1 a2 a3 a4 a5 a6 a7; obtain ⟨a0, a1, a2, a3, a4, a5, a6, a7⟩ := blk7 (G16.out.heap HNEW.out HNE.out)))
        have L16 := Aside0.mk (show z16.length ≤ zs.length + 250000 by rw [N16.out, List.length_append, NY16.out, rowB_len]; have := L15.out; omega)
        refine (refrow_calls w16 A6 c6' x5 (Kd.F_now (Kd.F_below F6.out (show Below w.heap.size w w16 from below_three HWr.out HW.out (Ch.to_below G16.out.ch (fun k hk => own_base (Kd.own_of_R H0.out.row) k hk.symm) (Nat.le_trans HBr.out HW.out.size))))) l6 B7.out.1 B7.out.2).mono ?_
        rintro e x17 ⟨y17, rfl, hr, hb⟩
        obtain ⟨B17, d17, rfl⟩ := Kd.R_slice hr
        have GA17 := Aside0.mk (G16.out.after hb)
        have HC17 := Aside0.mk (Kd.R_reads' hr).2.2
        have HZ17 := Aside0.mk (show w.heap.size ≤ x17.heap.size from Nat.le_trans (Nat.le_trans HBr.out HW.out.size) GA17.out.ch.size)
        have HL17 := Aside0.mk (show z16.length + (rowB x5).length ≤ 140737488355328 by rw [rowB_len]; have := L16.out; have := LZ.out; omega)
        clear hr hb a0 a1 a2 a3 a4 a5 a6 a7
        obtain ⟨a0, a1, a2, a3, a4, a5, a6, a7⟩ := blk7 (GA17.out.heap HNEW.out HNE.out)
        obtain ⟨ys17, NY17⟩ : ∃ y, y = rowB x5 := ⟨_, rfl⟩
        rw [← NY17] at HC17 HL17 ⊢
        replace NY17 := Aside0.mk NY17
        go_wp2_with (first | ((with_reducible refine gate_builtin (b := .append) (xs := #[.tmp 79, .tmp 82]) rfl ?_); at_builtin; go_loud (refine gcat w.heap.size rfl (.tmp 79) (.tmp 82) 28 rfl Try.underlying28 info5 _ z16 ys17 _ _ rfl rfl GA17.out.row HC17.out HZ17.out HL17.out ?_); intro A17 c17 w17 z17 N17 hG; have G17 := Aside0.mk (GA17.out.trans hG); clear hG a0 a1 a2 a3 a4 a5 a6 a7; obtain ⟨a0, a1, a2, a3, a4, a5, a6, a7⟩ := blk7 (G17.out.heap HNEW.out HNE.out)))
        refine ⟨⟨j + 1, A17, c17, z17, rfl, by first | rfl | rw [wrap_succ j (by omega)] | simp, by omega, ⟨by rw [HN.out, N17.out, NY17.out, N16.out, NY16.out, N15.out, NY15.out, N14.out, NY14.out, N13.out, NY13.out, N12.out, N11.out, NY11.out, NZ.out]; simp [putX, be1, hx6]⟩, ⟨G1.out.trans G17.out⟩⟩, ?_⟩
        first | exact meas_in j _ hjl | exact meas_up j _ hjl (by omega)
    · have hjn : j = l.length := by omega
      subst hjn
      have EB := Aside0.mk (show zs = bd by rw [NZ.out, EC.out, M5.out]; simp)
      have u3 : IntKind.u64.wrap (zs.length : Int) = zs.length := by rw [IntKind.wrap_u64]; have := LZ.out; omega
      go_wp2_with fail
      refine (number_calls wr (zs.length : Int) 4 (by omega) (by have := LZ.out; omega) (by decide)).mono ?_
      rintro e w6 ⟨v6, rfl, hr, hb⟩
      have hG := Gives.grew hr hb HBr.out
      obtain ⟨A6, c6, rfl⟩ := Kd.R_slice hG.row
      obtain ⟨z6, N6⟩ : ∃ z, z = be 4 (zs.length : Int) := ⟨_, rfl⟩
      rw [← N6] at hG ⊢
      have L6 := Aside0.mk (show z6.length + zs.length ≤ 140737488355328 by rw [N6, be_length]; have := LZ.out; omega)
      replace N6 := Aside0.mk N6
      have HC6 := Aside0.mk (Kd.R_reads' (Kd.R_below G.out.row hb)).2.2
      have HZ6 := Aside0.mk (Nat.le_trans HBr.out hb.size)
      have G6 := Aside0.mk hG
      clear hr hb hG q0 q1 q2 q3 q4
      go_wp2_with (first | ((with_reducible refine gate_builtin (b := .append) (xs := #[.tmp 87, .tmp 88]) rfl ?_); at_builtin; go_loud (refine gcat w.heap.size rfl (.tmp 87) (.tmp 88) 28 rfl Try.underlying28 info5 _ z6 zs _ _ rfl rfl G6.out.row HC6.out HZ6.out L6.out ?_); intro A9 c9 w9 z9 N9 hG9; have G9 := Aside0.mk (G6.out.trans hG9); clear hG9))
      go_ret
      exact ⟨_, rfl, by rw [show pc = z9 by rw [EP.out, N9.out, N6.out, EB.out]]; exact G9.out.row, below_step HWr.out (Ch.to_below G9.out.ch (fun k hk => by simp [Value.ownBlock] at hk) (Nat.le_refl _))⟩
end Go.Proofs.Ytgndmbkkggjklaa.Jo
namespace Go.Proofs.Ytgndmbkkggjklaa.Jo
set_option linter.unusedVariables false
set_option linter.unusedSimpArgs false
open Go.RowKit Go.Proofs.YtgndmbkkggjklaaW.PrintWords Go.Proofs.YtgndmbkkggjklaaW.PrintMore Go.Proofs.Ytgndmbkkggjklaa.Bs
theorem rd_at (l : List Int) (j : Nat) (hj : j < l.length) : rd l (j : Int) = l[j] := by simp [rd, List.getD, hj]
theorem low9_step (ns : List Int) (hl : ns.length ≤ 9223372036854775807) : ∀ (d j k : Nat), j + d = ns.length → d < k → breviaryref09_low.l0 k ns j = some (anyLo (ns.drop j)) := by
  intro d
  induction d with
  | zero => intro j k hj hk; obtain ⟨k, rfl⟩ : ∃ i, k = i + 1 := ⟨k - 1, by omega⟩
            rw [breviaryref09_low.l0, if_neg (by omega), show j = ns.length by omega]; simp [anyLo]
  | succ d ih =>
    intro j k hj hk
    obtain ⟨k, rfl⟩ : ∃ i, k = i + 1 := ⟨k - 1, by omega⟩
    have hjl : j < ns.length := by omega
    have e : anyLo (ns.drop j) = (isLo ns[j] || anyLo (ns.drop (j + 1))) := by rw [List.drop_eq_getElem_cons hjl]; rfl
    rw [breviaryref09_low.l0, if_pos (by omega), if_pos (by omega), rd_at _ _ hjl, e]
    by_cases h : ns[j] < 1
    · rw [if_pos h]; simp [isLo, h]
    · rw [if_neg h, wrap_succ j (by omega), ih (j + 1) k (by omega) (by omega)]; simp [isLo, h]
theorem low9 (ns : List Int) (hl : ns.length ≤ 9223372036854775807) (k : Nat) (hk : ns.length < k) : breviaryref09_low.f k ns = some (anyLo ns) := by
  have := low9_step ns hl ns.length 0 k (by omega) hk
  simpa [breviaryref09_low.f] using this
theorem low32_step (ns : List Int) (hl : ns.length ≤ 9223372036854775807) : ∀ (d j k : Nat), j + d = ns.length → d < k → breviaryref32_low.l0 k ns j = some (!anyHi (ns.drop j) && decide (ns.length ≤ 1000)) := by
  intro d
  induction d with
  | zero => intro j k hj hk; obtain ⟨k, rfl⟩ : ∃ i, k = i + 1 := ⟨k - 1, by omega⟩
            rw [breviaryref32_low.l0, if_neg (by omega), show j = ns.length by omega]; simp [anyHi]; omega
  | succ d ih =>
    intro j k hj hk
    obtain ⟨k, rfl⟩ : ∃ i, k = i + 1 := ⟨k - 1, by omega⟩
    have hjl : j < ns.length := by omega
    have e : anyHi (ns.drop j) = (isHi ns[j] || anyHi (ns.drop (j + 1))) := by rw [List.drop_eq_getElem_cons hjl]; rfl
    rw [breviaryref32_low.l0, if_pos (by omega), if_pos (by omega), rd_at _ _ hjl, e]
    by_cases h : ns[j] > 20000
    · rw [if_pos h]; simp [isHi, h]
    · rw [if_neg h, wrap_succ j (by omega), ih (j + 1) k (by omega) (by omega)]; simp [isHi, h]
theorem low32 (ns : List Int) (hl : ns.length ≤ 9223372036854775807) (k : Nat) (hk : ns.length < k) : breviaryref32_low.f k ns = some (rowB' ns) := by
  have := low32_step ns hl ns.length 0 k (by omega) hk
  rw [breviaryref32_low.f, show ((0 : Int)) = ((0 : Nat) : Int) from rfl, this, List.drop_zero, rowB', Bool.and_comm]
theorem right9 (r : S44) (h4 : r.f4.length ≤ 9223372036854775807) (h5 : r.f5.length ≤ 9223372036854775807) (k : Nat) (k4 : r.f4.length < k) (k5 : r.f5.length < k) : breviaryref09_Right.f k r.f0 r.f1 r.f2 r.f3 r.f4 r.f5 r.f6 = some (rightR r) := by
  obtain ⟨a, n, t, p, ks, bs, g⟩ := r
  simp only at *
  unfold breviaryref09_Right.f
  cases g with
  | true =>
    simp only [rightR, if_pos, goneR]
    by_cases c0 : a = 0 <;> by_cases c1 : n.toList = [] <;> by_cases c2 : t.toList = [] <;> by_cases c3 : p = 0 <;> cases ks <;> cases bs <;> simp [c0, c1, c2, c3] <;> try omega
  | false =>
    simp only [rightR, hereR, Bool.false_eq_true, if_false, low9 ks h4 k k4, low9 bs h5 k k5, Option.bind_some]
    by_cases c0 : a ≥ 1 <;> by_cases c1 : a ≤ 6 <;> by_cases c2 : p ≥ 0 <;> simp [c0, c1, c2] <;> cases anyLo ks <;> cases anyLo bs <;> simp <;> omega
end Go.Proofs.Ytgndmbkkggjklaa.Jo
namespace Go.Proofs.Ytgndmbkkggjklaa.Jo
set_option linter.unusedVariables false
set_option linter.unusedSimpArgs false
open Go.RowKit Go.Proofs.YtgndmbkkggjklaaW.PrintWords Go.Proofs.YtgndmbkkggjklaaW.PrintMore Go.Proofs.Ytgndmbkkggjklaa.Bs
theorem rdT_at (l : List S46) (j : Nat) (hj : j < l.length) : rd_T46 l (j : Int) = l[j] := by simp [rd_T46, List.getD, hj]
/-- The check of one change, behind the first ones. -/
def restX (x : S46) : Bool := decide (x.f1.f1.size ≤ 65535) && decide (x.f1.f2.size ≤ 65535) && decide (x.f1.f3 ≤ 20000) && rowB' x.f1.f4 && rowB' x.f1.f5
theorem j2_at (k : Nat) (j : Nat) (y : Bool) (a0 a1 a2 : Int) (l : List S46) (x : S46) (hj : j < 9223372036854775807) (h4 : x.f1.f4.length ≤ 9223372036854775807) (h5 : x.f1.f5.length ≤ 9223372036854775807) (k4 : x.f1.f4.length < k) (k5 : x.f1.f5.length < k) :
    breviaryref32_Right.j2 (k + 1) j y a0 a1 a2 l x.f0 x.f1.f0 x.f1.f1 x.f1.f2 x.f1.f3 x.f1.f4 x.f1.f5 x.f1.f6 = if y = true then some false else if restX x = true then breviaryref32_Right.l0 k ((j + 1 : Nat) : Int) a0 a1 a2 l else some false := by
  rw [breviaryref32_Right.j2, low32 _ h4 k k4, low32 _ h5 k k5, wrap_succ j hj]
  simp only [Option.bind_some, restX]
  cases y with
  | true => simp
  | false =>
    by_cases c1 : x.f1.f1.size ≤ 65535
    · by_cases c2 : x.f1.f2.size ≤ 65535
      · by_cases c3 : x.f1.f3 ≤ 20000
        · rw [if_neg (by simp), if_neg (by omega), if_neg (by omega), if_neg (by omega)]
          by_cases e4 : rowB' x.f1.f4 = true <;> by_cases e5 : rowB' x.f1.f5 = true <;> simp [c1, c2, c3, e4, e5]
        · rw [if_neg (by simp), if_neg (by omega), if_neg (by omega), if_pos (by omega)]; simp [c3]
      · rw [if_neg (by simp), if_neg (by omega), if_pos (by omega)]; simp [c2]
    · rw [if_neg (by simp), if_pos (by omega)]; simp [c1]
theorem rightX_parts (x : S46) (b : Int) : rightX x b = (decide (b < x.f0) && decide (x.f0 ≤ 20000) && rightR x.f1 && restX x) := by
  simp only [rightX, restX]
  cases decide (b < x.f0) <;> cases decide (x.f0 ≤ 20000) <;> cases rightR x.f1 <;> cases decide (x.f1.f1.size ≤ 65535) <;> cases decide (x.f1.f2.size ≤ 65535) <;> cases rowB' x.f1.f4 <;> cases rowB' x.f1.f5 <;> cases decide (x.f1.f3 ≤ 20000) <;> rfl
theorem right_step (a0 a1 a2 : Int) (l : List S46) (hl : l.length ≤ 9223372036854775807) (M : Nat) (hs : ∀ x ∈ l, sized x ∧ x.f1.f4.length < M ∧ x.f1.f5.length < M) :
    ∀ (d j k : Nat) (b : Int), j + d = l.length → 2 * d + M < k → 0 ≤ b → (j = 0 ∧ b = 0 ∨ ∃ h : j - 1 < l.length, 0 < j ∧ b = (l[j - 1]'h).f0) → breviaryref32_Right.l0 k j a0 a1 a2 l = some (rightL b (l.drop j)) := by
  intro d
  induction d with
  | zero =>
    intro j k b hj hk hb hp
    obtain ⟨k, rfl⟩ : ∃ i, k = i + 1 := ⟨k - 1, by omega⟩
    rw [breviaryref32_Right.l0, if_neg (by omega), show j = l.length by omega]; simp [rightL]
  | succ d ih =>
    intro j k b hj hk hb hp
    obtain ⟨k, rfl⟩ : ∃ i, k = i + 2 := ⟨k - 2, by omega⟩
    have hjl : j < l.length := by omega
    obtain ⟨⟨s1, s2, s3, s4⟩, m4, m5⟩ := hs _ (List.getElem_mem hjl)
    have hnext : ∀ c, c = l[j].f0 → 0 ≤ c → breviaryref32_Right.l0 k ((j + 1 : Nat) : Int) a0 a1 a2 l = some (rightL c (l.drop (j + 1))) := fun c hc h0 => ih (j + 1) k c (by omega) (by omega) h0 (.inr ⟨by simpa using hjl, by omega, by simpa using hc⟩)
    have hr9 := right9 l[j].f1 s3 s4 (k + 1) (by omega) (by omega)
    have hJ := fun y => j2_at k j y a0 a1 a2 l l[j] (by omega) s3 s4 (by omega) (by omega)
    rw [List.drop_eq_getElem_cons hjl]
    simp only [rightL]
    rw [rightX_parts, breviaryref32_Right.l0, if_pos (by omega), if_pos (by omega)]
    simp only [rdT_at l j hjl, hr9, hJ, Option.bind_some]
    by_cases c1 : l[j].f0 < 1
    · rw [if_pos c1]; simp; intro; omega
    · rw [if_neg c1]
      by_cases c2 : l[j].f0 > 20000
      · rw [if_pos c2]; simp; intro; omega
      · rw [if_neg c2, hnext _ rfl (by omega)]
        rcases hp with ⟨rfl, rfl⟩ | ⟨hp1, hp2, rfl⟩
        · rw [if_neg (by simp)]
          have e1 : (0 : Int) < (l[0]'hjl).f0 := by omega
          cases hR : rightR (l[0]'hjl).f1 <;> cases hX : restX (l[0]'hjl) <;> simp [e1, c2] <;> omega
        · have hw : wrap64 ((j : Int) - 1) = ((j - 1 : Nat) : Int) := by unfold wrap64; omega
          rw [if_pos (by omega), hw, if_pos (by omega), if_pos (by omega), rdT_at l (j - 1) hp1]
          by_cases c3 : (l[j - 1]'hp1).f0 ≥ l[j].f0
          · rw [if_pos c3]; simp; intro; omega
          · rw [if_neg c3]
            have e1 : (l[j - 1]'hp1).f0 < l[j].f0 := by omega
            cases hR : rightR l[j].f1 <;> cases hX : restX l[j] <;> simp [e1, c2] <;> omega
theorem bound_rows : ∀ (l : List S46), ∃ M, ∀ x ∈ l, x.f1.f4.length < M ∧ x.f1.f5.length < M
  | [] => ⟨0, by simp⟩
  | x :: l => by
    obtain ⟨M, hM⟩ := bound_rows l
    refine ⟨M + x.f1.f4.length + x.f1.f5.length + 1, fun y hy => ?_⟩
    rcases List.mem_cons.1 hy with rfl | hy
    · omega
    · have := hM y hy; omega
theorem right32 (c : S25) (hl : c.f3.length ≤ 9223372036854775807) (hs : ∀ x ∈ c.f3, sized x) : ∃ k, breviaryref32_Right.f k c.f0 c.f1 c.f2 c.f3 = some (rightC c) := by
  obtain ⟨M, hM⟩ := bound_rows c.f3
  refine ⟨2 * c.f3.length + M + 2, ?_⟩
  obtain ⟨t, s, e, l⟩ := c
  simp only at *
  have hst := right_step t s e l hl M (fun x hx => ⟨hs x hx, hM x hx⟩) l.length 0 (2 * l.length + M + 1) 0 (by omega) (by omega) (by omega) (.inl ⟨rfl, rfl⟩)
  unfold breviaryref32_Right.f
  simp only [breviaryref32_Right.j0, rightC]
  rw [show ((0 : Int)) = ((0 : Nat) : Int) from rfl, hst, List.drop_zero]
  by_cases c1 : t < 1
  · rw [if_pos c1]; simp; intro; omega
  · rw [if_neg c1]
    by_cases c2 : t > 2147483647
    · rw [if_pos c2]; simp; intros; omega
    · rw [if_neg c2]
      by_cases c3 : s ≥ e
      · rw [if_pos c3]; simp; intros; omega
      · rw [if_neg c3]
        cases l with
        | nil => simp
        | cons x l =>
          have e1 : 1 ≤ t := by omega
          have e2 : t ≤ 2147483647 := by omega
          have e3 : s < e := by omega
          rw [if_neg (by simp; omega)]
          simp [e1, e2, e3]
theorem refright_calls (w : World) (A : Option Addr) (cp : Nat) (c : S25) (hC : k46.C w A c.f3.length c.f3) (hc : c.f3.length ≤ cp) (hs : ∀ x ∈ c.f3, sized x) (hl : c.f3.length ≤ 9223372036854775807) :
    Calls Try.prog 10 #[.agg #[.int .i64 c.f0, .int .u64 c.f1, .int .u64 c.f2, .slice A c.f3.length cp]] w fun e w' => e = .returned (.bool (rightC c)) ∧ Below w.heap.size w w' := by
  obtain ⟨k, hk⟩ := right32 c hl hs
  exact breviaryref32_Right.calls k c.f0 c.f1 c.f2 A cp c.f3 _ w hC hc hk
end Go.Proofs.Ytgndmbkkggjklaa.Jo
namespace Go.Proofs.Ytgndmbkkggjklaa.Jo
set_option linter.unusedVariables false
set_option linter.unusedSimpArgs false
open Go.RowKit Go.Proofs.YtgndmbkkggjklaaW.PrintWords Go.Proofs.YtgndmbkkggjklaaW.PrintMore Go.Proofs.Ytgndmbkkggjklaa.Bs
theorem drawn0_drew {a b : World} (h : Drawn0 a b) : Drawn0 a b.drew := h.step 1
set_option maxRecDepth 100000 in
set_option maxHeartbeats 1000000 in
theorem ints_same (w : World) (A B : Option Addr) (c d : Nat) (ns : List Int) (hA : (Kd.int .i64).C w A ns.length ns) (hB : (Kd.int .i64).C w B ns.length ns) (hl : ns.length ≤ 9223372036854775807) :
    Calls Try.prog 45 #[.slice A ns.length c, .slice B ns.length d] w fun e w' => e = .returned (.bool true) ∧ Below w.heap.size w w' := by
  have HA := Aside0.mk hA
  have HB := Aside0.mk hB
  clear hA hB
  go_enter Try.func45, Try.ntmps45
  go_wp2
  go_loopw [5] (fun v5 wr => ∃ j : Nat, v5 = .int .i64 j ∧ j ≤ ns.length ∧ Aside0 (Below w.heap.size w wr)) (fun v5 _ => ns.length - (intOf v5).toNat)
  case atStart => exact ⟨0, rfl, Nat.zero_le _, ⟨Below.refl _ _⟩⟩
  case round =>
    obtain ⟨j, rfl, hj, HD⟩ := hrel
    by_cases hjl : j < ns.length
    · obtain ⟨a, ea, ha⟩ := Kd.at_int (Kd.C_below HA.out HD.out) j (by omega) (by omega)
      obtain ⟨b, eb, hb⟩ := Kd.at_int (Kd.C_below HB.out HD.out) j (by omega) (by omega)
      cases ea
      cases eb
      rw [Int.toNat_natCast] at ha hb
      generalize rd ns (j : Int) = x at *
      have hj0 : (0 : Int) ≤ (j : Int) := by omega
      have hj1 : (j : Int) < (ns.length : Int) := by omega
      go_wp2_with fail
      go_region
      all_goals
        go_wp2
        go_roundw
        case rel => exact ⟨j + 1, by first | rfl | rw [wrap_succ j (by omega)] | simp, by omega, ⟨below_drew1 HD.out⟩⟩
        case measure => first | exact meas_in j _ hjl | exact meas_up j _ hjl hl
    · have hjn : j = ns.length := by omega
      subst hjn
      go_wp2
      go_ret
      exact ⟨rfl, HD.out⟩
set_option maxRecDepth 100000 in
set_option maxHeartbeats 1000000 in
theorem rec_same (w : World) (A4 A5 B4 B5 : Option Addr) (c4 c5 d4 d5 : Nat) (k p : Int) (n t : ByteArray) (ks bs : List Int) (g : Bool) (ha4 : (Kd.int .i64).C w A4 ks.length ks) (hb4 : (Kd.int .i64).C w B4 ks.length ks) (ha5 : (Kd.int .i64).C w A5 bs.length bs) (hb5 : (Kd.int .i64).C w B5 bs.length bs) (h4 : ks.length ≤ 9223372036854775807) (h5 : bs.length ≤ 9223372036854775807) :
    Calls Try.prog 37 #[.agg #[.int .i64 k, .string n, .string t, .int .i64 p, .slice A4 ks.length c4, .slice A5 bs.length c5, .bool g], .agg #[.int .i64 k, .string n, .string t, .int .i64 p, .slice B4 ks.length d4, .slice B5 bs.length d5, .bool g]] w fun e w' => e = .returned (.bool true) ∧ Below w.heap.size w w' := by
  have C4 := Aside0.mk (fun W (hW : Below w.heap.size w W) => ints_same W A4 B4 c4 d4 ks (Kd.C_below ha4 hW) (Kd.C_below hb4 hW) h4)
  have C5 := Aside0.mk (fun W (hW : Below w.heap.size w W) => ints_same W A5 B5 c5 d5 bs (Kd.C_below ha5 hW) (Kd.C_below hb5 hW) h5)
  clear ha4 hb4 ha5 hb5 h4 h5
  go_enter Try.func37, Try.ntmps37
  go_wp2_with fail
  have hb0 := below_alloc (below_alloc (Below.refl w.heap.size w) (.cells #[.int .i64 k, .string n, .string t, .int .i64 p, .slice A4 ks.length c4, .slice A5 bs.length c5, .bool g] 44)) (.cells #[.int .i64 k, .string n, .string t, .int .i64 p, .slice B4 ks.length d4, .slice B5 bs.length d5, .bool g] 44)
  have hq1 := (Below.heap_alloc (w.alloc (.cells #[.int .i64 k, .string n, .string t, .int .i64 p, .slice A4 ks.length c4, .slice A5 bs.length c5, .bool g] 44)) (.cells #[.int .i64 k, .string n, .string t, .int .i64 p, .slice B4 ks.length d4, .slice B5 bs.length d5, .bool g] 44) w.heap.size (by simp)).trans (heap_alloc_new w _)
  have hq2 := heap_alloc_new (w.alloc (.cells #[.int .i64 k, .string n, .string t, .int .i64 p, .slice A4 ks.length c4, .slice A5 bs.length c5, .bool g] 44)) (.cells #[.int .i64 k, .string n, .string t, .int .i64 p, .slice B4 ks.length d4, .slice B5 bs.length d5, .bool g] 44)
  rw [show (w.alloc (.cells #[.int .i64 k, .string n, .string t, .int .i64 p, .slice A4 ks.length c4, .slice A5 bs.length c5, .bool g] 44)).heap.size = w.heap.size + 1 by simp] at hq2
  refine (C4.out _ hb0).mono ?_
  rintro e w2 ⟨rfl, hb⟩
  have h1 := (hb.block _ (blk_lt hq1)).trans hq1
  have h2 := (hb.block _ (blk_lt hq2)).trans hq2
  have x5 : w2.cell? ⟨w.heap.size, 5, none⟩ = some (.slice A5 bs.length c5) := blk_cell h1 5
  have y5 : w2.cell? ⟨w.heap.size + 1, 5, none⟩ = some (.slice B5 bs.length d5) := blk_cell h2 5
  have hb2 := below_step hb0 hb
  have HB2 := Aside0.mk hb2
  clear hb h1 h2 hq1 hq2 hb0 C4 hb2
  go_wp2_with fail
  refine (C5.out _ HB2.out).mono ?_
  rintro e w3 ⟨rfl, hb⟩
  have HB3 := Aside0.mk (below_step HB2.out hb)
  clear hb C5
  go_wp2
  go_ret
  exact ⟨rfl, HB3.out⟩
set_option maxRecDepth 100000 in
set_option maxHeartbeats 8000000 in
theorem changes_same (w : World) (A B : Option Addr) (c d : Nat) (l : List S46) (hA : k46.C w A l.length l) (hB : k46.C w B l.length l) (hl : l.length ≤ 9223372036854775807) (hs : ∀ x ∈ l, sized x) :
    Calls Try.prog 26 #[.slice A l.length c, .slice B l.length d] w fun e w' => e = .returned (.bool true) ∧ Below w.heap.size w w' := by
  have HA := Aside0.mk hA
  have HB := Aside0.mk hB
  have HS := Aside0.mk hs
  clear hA hB hs
  go_enter Try.func26, Try.ntmps26
  go_wp2
  go_loopw [5] (fun v5 wr => ∃ j : Nat, v5 = .int .i64 j ∧ j ≤ l.length ∧ Aside0 (Below w.heap.size w wr)) (fun v5 _ => l.length - (intOf v5).toNat)
  case atStart => exact ⟨0, rfl, Nat.zero_le _, ⟨Below.refl _ _⟩⟩
  case round =>
    obtain ⟨j, rfl, hj, HD⟩ := hrel
    by_cases hjl : j < l.length
    · obtain ⟨a, A5, c5, A6, c6, ea, a0, a1, a2, a3, a4, a5, a6, a7, l5, g5, l6, g6⟩ := at46 (Kd.C_below HA.out HD.out) j hjl
      obtain ⟨b, B5, d5, B6, d6, eb, b0, b1, b2, b3, b4, b5, b6, b7, m5, n5, m6, n6⟩ := at46 (Kd.C_below HB.out HD.out) j hjl
      cases ea
      cases eb
      obtain ⟨s1, s2, s3, s4⟩ := HS.out _ (List.getElem_mem hjl)
      have CR := Aside0.mk (fun W (hW : Below wr.heap.size wr W) => rec_same W A5 A6 B5 B6 c5 c6 d5 d6 l[j].f1.f0 l[j].f1.f3 l[j].f1.f1 l[j].f1.f2 l[j].f1.f4 l[j].f1.f5 l[j].f1.f6 (Kd.C_below g5 hW) (Kd.C_below n5 hW) (Kd.C_below g6 hW) (Kd.C_below n6 hW) s3 s4)
      clear g5 g6 n5 n6 s1 s2 s3 s4 l5 l6 m5 m6
      generalize l[j] = x at *
      obtain ⟨i0, ⟨x0, x1, x2, x3, x4, x5, x6⟩⟩ := x
      simp only at a0 a1 a2 a3 a4 a5 a6 a7 b0 b1 b2 b3 b4 b5 b6 b7 CR
      have hj0 : (0 : Int) ≤ (j : Int) := by omega
      have hj1 : (j : Int) < (l.length : Int) := by omega
      have hra : ∀ m v, wr.cell? ⟨(a.add (j * 8)).block, (a.add (j * 8)).off + m, none⟩ = some v → True := fun _ _ _ => trivial
      go_upto_region 6 with (fail)
      go_region_held3 (fun w' => w'.cell? (a.add (j * 8)) = some (.int .i64 i0) ∧ w'.cell? (b.add (j * 8)) = some (.int .i64 i0) ∧ w'.cell? ⟨(a.add (j * 8)).block, (a.add (j * 8)).off + 1, none⟩ = some (.int .i64 x0) ∧ w'.cell? ⟨(a.add (j * 8)).block, (a.add (j * 8)).off + 2, none⟩ = some (.string x1) ∧ w'.cell? ⟨(a.add (j * 8)).block, (a.add (j * 8)).off + 3, none⟩ = some (.string x2) ∧ w'.cell? ⟨(a.add (j * 8)).block, (a.add (j * 8)).off + 4, none⟩ = some (.int .i64 x3) ∧ w'.cell? ⟨(a.add (j * 8)).block, (a.add (j * 8)).off + 5, none⟩ = some (.slice A5 x4.length c5) ∧ w'.cell? ⟨(a.add (j * 8)).block, (a.add (j * 8)).off + 6, none⟩ = some (.slice A6 x5.length c6) ∧ w'.cell? ⟨(a.add (j * 8)).block, (a.add (j * 8)).off + 7, none⟩ = some (.bool x6) ∧ w'.cell? ⟨(b.add (j * 8)).block, (b.add (j * 8)).off + 1, none⟩ = some (.int .i64 x0) ∧ w'.cell? ⟨(b.add (j * 8)).block, (b.add (j * 8)).off + 2, none⟩ = some (.string x1) ∧ w'.cell? ⟨(b.add (j * 8)).block, (b.add (j * 8)).off + 3, none⟩ = some (.string x2) ∧ w'.cell? ⟨(b.add (j * 8)).block, (b.add (j * 8)).off + 4, none⟩ = some (.int .i64 x3) ∧ w'.cell? ⟨(b.add (j * 8)).block, (b.add (j * 8)).off + 5, none⟩ = some (.slice B5 x4.length d5) ∧ w'.cell? ⟨(b.add (j * 8)).block, (b.add (j * 8)).off + 6, none⟩ = some (.slice B6 x5.length d6) ∧ w'.cell? ⟨(b.add (j * 8)).block, (b.add (j * 8)).off + 7, none⟩ = some (.bool x6)) (first | exact ⟨a0, b0, a1, a2, a3, a4, a5, a6, a7, b1, b2, b3, b4, b5, b6, b7⟩ | exact hk9 | go_keep) (first | (go_at_call 37; (with_reducible refine (CR.out _ (below_drew (Below.refl _ _))).mono ?_); rintro e w9 ⟨rfl, hb9⟩; have hk9 := And.intro (pw_cell_below hb9 (show wr.drew.cell? _ = _ from a0)) (And.intro (pw_cell_below hb9 (show wr.drew.cell? _ = _ from b0)) (And.intro (pw_cell_below hb9 (show wr.drew.cell? _ = _ from a1)) (And.intro (pw_cell_below hb9 (show wr.drew.cell? _ = _ from a2)) (And.intro (pw_cell_below hb9 (show wr.drew.cell? _ = _ from a3)) (And.intro (pw_cell_below hb9 (show wr.drew.cell? _ = _ from a4)) (And.intro (pw_cell_below hb9 (show wr.drew.cell? _ = _ from a5)) (And.intro (pw_cell_below hb9 (show wr.drew.cell? _ = _ from a6)) (And.intro (pw_cell_below hb9 (show wr.drew.cell? _ = _ from a7)) (And.intro (pw_cell_below hb9 (show wr.drew.cell? _ = _ from b1)) (And.intro (pw_cell_below hb9 (show wr.drew.cell? _ = _ from b2)) (And.intro (pw_cell_below hb9 (show wr.drew.cell? _ = _ from b3)) (And.intro (pw_cell_below hb9 (show wr.drew.cell? _ = _ from b4)) (And.intro (pw_cell_below hb9 (show wr.drew.cell? _ = _ from b5)) (And.intro (pw_cell_below hb9 (show wr.drew.cell? _ = _ from b6)) (pw_cell_below hb9 (show wr.drew.cell? _ = _ from b7)))))))))))))))); have HB9 := Aside0.mk (below_step (below_drew1 HD.out) hb9); clear hb9))
      all_goals
        go_wp2
        go_roundw
        case rel => exact ⟨j + 1, by first | rfl | rw [wrap_succ j (by omega)] | simp, by omega, ⟨HB9.out⟩⟩
        case measure => first | exact meas_in j _ hjl | exact meas_up j _ hjl hl
    · have hjn : j = l.length := by omega
      subst hjn
      go_wp2
      go_ret
      exact ⟨rfl, HD.out⟩
theorem at25 {w : World} {A : Option Addr} {l : List S25} (h : k25.C w A l.length l) (j : Nat) (hj : j < l.length) : ∃ ad A3 c3, A = some ad ∧ w.cell? (ad.add (j * 4)) = some (.int .i64 l[j].f0) ∧ w.cell? ⟨(ad.add (j * 4)).block, (ad.add (j * 4)).off + 1, none⟩ = some (.int .u64 l[j].f1) ∧ w.cell? ⟨(ad.add (j * 4)).block, (ad.add (j * 4)).off + 2, none⟩ = some (.int .u64 l[j].f2) ∧ w.cell? ⟨(ad.add (j * 4)).block, (ad.add (j * 4)).off + 3, none⟩ = some (.slice A3 l[j].f3.length c3) ∧ l[j].f3.length ≤ c3 ∧ k46.C w A3 l[j].f3.length l[j].f3 := by
  have := at_T25 h (j : Int) (by omega) (by omega)
  rw [show rd_T25 l (j : Int) = l[j] by simp [rd_T25, List.getD, hj], Int.toNat_natCast] at this
  exact this
def sizedC (c : S25) : Prop := c.f3.length ≤ 9223372036854775807 ∧ ∀ x ∈ c.f3, sized x
set_option maxRecDepth 100000 in
set_option maxHeartbeats 8000000 in
theorem commits_same (w : World) (A B : Option Addr) (c d : Nat) (l : List S25) (hA : k25.C w A l.length l) (hB : k25.C w B l.length l) (hl : l.length ≤ 9223372036854775807) (hs : ∀ x ∈ l, sizedC x) :
    Calls Try.prog 13 #[.slice A l.length c, .slice B l.length d] w fun e w' => e = .returned (.bool true) ∧ Below w.heap.size w w' := by
  have HA := Aside0.mk hA
  have HB := Aside0.mk hB
  have HS := Aside0.mk hs
  clear hA hB hs
  go_enter Try.func13, Try.ntmps13
  go_wp2
  go_loopw [5] (fun v5 wr => ∃ j : Nat, v5 = .int .i64 j ∧ j ≤ l.length ∧ Aside0 (Below w.heap.size w wr)) (fun v5 _ => l.length - (intOf v5).toNat)
  case atStart => exact ⟨0, rfl, Nat.zero_le _, ⟨Below.refl _ _⟩⟩
  case round =>
    obtain ⟨j, rfl, hj, HD⟩ := hrel
    by_cases hjl : j < l.length
    · obtain ⟨a, A3, c3, ea, a0, a1, a2, a3, l3, g3⟩ := at25 (Kd.C_below HA.out HD.out) j hjl
      obtain ⟨b, B3, d3, eb, b0, b1, b2, b3, m3, n3⟩ := at25 (Kd.C_below HB.out HD.out) j hjl
      cases ea
      cases eb
      obtain ⟨s1, s2⟩ := HS.out _ (List.getElem_mem hjl)
      have CR := Aside0.mk (fun W (hW : Below wr.heap.size wr W) => changes_same W A3 B3 c3 d3 l[j].f3 (Kd.C_below g3 hW) (Kd.C_below n3 hW) s1 s2)
      clear g3 n3 s1 s2 l3 m3
      generalize l[j] = x at *
      obtain ⟨i0, x0, x1, x2⟩ := x
      simp only at a0 a1 a2 a3 b0 b1 b2 b3 CR
      have hj0 : (0 : Int) ≤ (j : Int) := by omega
      have hj1 : (j : Int) < (l.length : Int) := by omega
      go_upto_region 6 with (fail)
      go_region_held3 (fun w' => w'.cell? (a.add (j * 4)) = some (.int .i64 i0) ∧ w'.cell? (b.add (j * 4)) = some (.int .i64 i0) ∧ w'.cell? ⟨(a.add (j * 4)).block, (a.add (j * 4)).off + 1, none⟩ = some (.int .u64 x0) ∧ w'.cell? ⟨(a.add (j * 4)).block, (a.add (j * 4)).off + 2, none⟩ = some (.int .u64 x1) ∧ w'.cell? ⟨(a.add (j * 4)).block, (a.add (j * 4)).off + 3, none⟩ = some (.slice A3 x2.length c3) ∧ w'.cell? ⟨(b.add (j * 4)).block, (b.add (j * 4)).off + 1, none⟩ = some (.int .u64 x0) ∧ w'.cell? ⟨(b.add (j * 4)).block, (b.add (j * 4)).off + 2, none⟩ = some (.int .u64 x1) ∧ w'.cell? ⟨(b.add (j * 4)).block, (b.add (j * 4)).off + 3, none⟩ = some (.slice B3 x2.length d3)) (first | exact ⟨a0, b0, a1, a2, a3, b1, b2, b3⟩ | exact hk9 | go_keep) (first | (go_at_call 26; (with_reducible refine (CR.out _ (below_drew (Below.refl _ _))).mono ?_); rintro e w9 ⟨rfl, hb9⟩; have hk9 := And.intro (pw_cell_below hb9 (show wr.drew.cell? _ = _ from a0)) (And.intro (pw_cell_below hb9 (show wr.drew.cell? _ = _ from b0)) (And.intro (pw_cell_below hb9 (show wr.drew.cell? _ = _ from a1)) (And.intro (pw_cell_below hb9 (show wr.drew.cell? _ = _ from a2)) (And.intro (pw_cell_below hb9 (show wr.drew.cell? _ = _ from a3)) (And.intro (pw_cell_below hb9 (show wr.drew.cell? _ = _ from b1)) (And.intro (pw_cell_below hb9 (show wr.drew.cell? _ = _ from b2)) (pw_cell_below hb9 (show wr.drew.cell? _ = _ from b3)))))))); have HB9 := Aside0.mk (below_step (below_drew1 HD.out) hb9); clear hb9))
      all_goals
        go_wp2
        go_roundw
        case rel => exact ⟨j + 1, by first | rfl | rw [wrap_succ j (by omega)] | simp, by omega, ⟨HB9.out⟩⟩
        case measure => first | exact meas_in j _ hjl | exact meas_up j _ hjl hl
    · have hjn : j = l.length := by omega
      subst hjn
      go_wp2
      go_ret
      exact ⟨rfl, HD.out⟩
end Go.Proofs.Ytgndmbkkggjklaa.Jo
namespace Go.Proofs.Ytgndmbkkggjklaa.Jo
set_option linter.unusedVariables false
set_option linter.unusedSimpArgs false
open Go.RowKit Go.Proofs.YtgndmbkkggjklaaW.PrintWords Go.Proofs.YtgndmbkkggjklaaW.PrintLast Go.Proofs.YtgndmbkkggjklaaW.PrintMore Go.Proofs.Ytgndmbkkggjklaa.Bs
/-- What is left to read, and whether it was too short. -/
structure St where
  bs : List Int
  sh : Bool
def takeP (n : Nat) (s : St) : List Int × St := if s.sh = true ∨ s.bs.length < n then ([], ⟨s.bs, true⟩) else (s.bs.take n, ⟨s.bs.drop n, false⟩)
def val (l : List Int) : Int := l.foldl (fun a c => a * 256 + c) 0
def numP (n : Nat) (s : St) : Int × St := (val (takeP n s).1, (takeP n s).2)
def Bys (l : List Int) : Prop := ∀ x ∈ l, 0 ≤ x ∧ x ≤ 255
theorem takeP_bys {n : Nat} {s : St} (h : Bys s.bs) : Bys (takeP n s).1 ∧ Bys (takeP n s).2.bs := by
  unfold takeP
  split
  · exact ⟨(by intro x hx; simp at hx), h⟩
  · exact ⟨fun x hx => h x (List.mem_of_mem_take hx), fun x hx => h x (List.mem_of_mem_drop hx)⟩
theorem takeP_len (n : Nat) (s : St) : (takeP n s).1.length ≤ n ∧ (takeP n s).1.length ≤ s.bs.length ∧ (takeP n s).2.bs.length ≤ s.bs.length := by
  unfold takeP
  split
  · simp
  · simp only [List.length_take, List.length_drop]; omega
/-- A reader: what it is to read lies in what was there at w0. -/
structure Src (w0 w : World) (p : Nat) (s : St) : Prop where
  r : ∃ A c, w.heap[p]? = some (.cells #[.slice A s.bs.length c, .bool s.sh] 69 (0, 0)) ∧ s.bs.length ≤ c ∧ (Kd.int .u8).C w0 A s.bs.length s.bs
  old : Below w0.heap.size w0 w
  hp : w0.heap.size ≤ p
theorem Src.step {w0 w w1 : World} {p : Nat} {s : St} {S : Nat → Prop} (h : Src w0 w p s) (hch : Ch S w w1) (hp : ¬ S p) (hS : ∀ k, S k → w0.heap.size ≤ k) : Src w0 w1 p s := by
  obtain ⟨⟨A, c, hc, hl, hC⟩, ho, hpp⟩ := h
  exact ⟨⟨A, c, hch.heap hc hp, hl, hC⟩, ho.trans (Ch.to_below hch hS ho.size), hpp⟩
theorem Src.below {w0 w w1 : World} {p : Nat} {s : St} (h : Src w0 w p s) (hb : Below w.heap.size w w1) : Src w0 w1 p s :=
  h.step (Ch.below (Ch.refl (fun _ => False) w) hb) (fun h => h) (fun _ h => h.elim)
/-- What a call that reads leaves. -/
structure Rd (w0 w : World) (p : Nat) (s : St) (w' : World) : Prop where
  s : Src w0 w' p s
  ch : Ch (fun k => k = p) w w'
theorem Rd.trans {w0 w w1 w2 : World} {p : Nat} {s s' : St} (h : Rd w0 w p s w1) (k : Rd w0 w1 p s' w2) : Rd w0 w p s' w2 :=
  ⟨k.s, h.ch.trans (k.ch.mono (fun i hi _ => .inl hi))⟩
theorem Rd.below {w0 w w1 w2 : World} {p : Nat} {s : St} (h : Rd w0 w p s w1) (hb : Below w1.heap.size w1 w2) : Rd w0 w p s w2 := ⟨h.s.below hb, h.ch.below hb⟩
theorem Rd.before {w0 w w1 w2 : World} {p : Nat} {s : St} (hb : Below w.heap.size w w1) (h : Rd w0 w1 p s w2) : Rd w0 w p s w2 := ⟨h.s, (Ch.below (Ch.refl _ w) hb).trans (h.ch.mono (fun i hi _ => .inl hi))⟩
theorem take_mk {w0 w : World} {p n : Nat} {xs : List Int} {A : Option Addr} {c : Nat} (ho : Below w0.heap.size w0 w) (hp : w0.heap.size ≤ p) (hc : w.heap[p]? = some (.cells #[.slice A xs.length c, .bool false] 69 (0, 0))) (hl : xs.length ≤ c) (hC : (Kd.int .u8).C w0 A xs.length xs) (hn : n ≤ xs.length) (A' : Option Addr) (m d : Nat) (hm : m = xs.length - n) (hA : A' = if c = n then A else A.map (fun x => x.add n)) (hd : d = c - n) :
    (∃ A1 c1, Ending.returned (.slice A n c) = .returned (.slice A1 (xs.take n).length c1) ∧ (xs.take n).length ≤ c1 ∧ (Kd.int .u8).C w0 A1 (xs.take n).length (xs.take n)) ∧ Rd w0 w p ⟨xs.drop n, false⟩ (w.setCell ⟨p, 0, none⟩ (.slice A' m d)) := by
  subst hm
  have hlt : (xs.take n).length = n := by rw [List.length_take]; omega
  have hld : (xs.drop n).length = xs.length - n := List.length_drop
  have h1 := Kd.C_take (m := n) hC hn
  have h2 := Kd.C_drop (m := n) (c := c) hC hn hl
  refine ⟨⟨A, c, by rw [hlt], by omega, h1⟩, ⟨⟨⟨A', d, ?_, by show (xs.drop n).length ≤ d; omega, ?_⟩, Below.setCell ho hp _, hp⟩, (Ch.refl (fun k => k = p) w).setCell (p := ⟨p, 0, none⟩) (.inl rfl) _⟩⟩
  · show _ = some (Obj.cells #[.slice A' (xs.drop n).length d, .bool false] 69 (0, 0))
    rw [hld]; exact blk_upd 0 _ hc rfl
  · have e : (if c = n then A else A.map (·.add (n * (Kd.int .u8).sz))) = A' := by
      rw [hA]; split
      · rfl
      · rw [show n * (Kd.int .u8).sz = n from Nat.mul_one n]
    show (Kd.int .u8).C w0 A' (xs.drop n).length (xs.drop n)
    rw [← e]; exact h2
/-- What take returns. -/
def Took (w0 : World) (l : List Int) (e : Ending) : Prop := ∃ A c, e = .returned (.slice A l.length c) ∧ l.length ≤ c ∧ (Kd.int .u8).C w0 A l.length l
set_option maxRecDepth 100000 in
set_option maxHeartbeats 400000 in
theorem take_calls (w0 w : World) (p n : Nat) (s : St) (h : Src w0 w p s) :
    Calls Try.prog 33 #[.pointer (some ⟨p, 0, none⟩), .int .i64 n] w fun e w' => Took w0 (takeP n s).1 e ∧ Rd w0 w p (takeP n s).2 w' := by
  obtain ⟨bs, sh⟩ := s
  obtain ⟨⟨A, c, hc, hl, hC⟩, ho, hp⟩ := h
  simp only at hc hl hC
  obtain ⟨k0, k1, k2⟩ := blk2 hc
  have HC := Aside0.mk hC
  have HH := Aside0.mk hc
  have HO := Aside0.mk ho
  have HP := Aside0.mk hp
  have short : ∀ x, w.heap[p]? = some (.cells #[.slice A bs.length c, .bool x] 69 (0, 0)) → (Took w0 [] (.returned (.slice none 0 0)) ∧ Rd w0 w p ⟨bs, true⟩ (w.setCell ⟨p, 1, none⟩ (.bool true))) := fun x hx =>
    ⟨⟨none, 0, rfl, Nat.le_refl _, Kd.C_nil _ _⟩, ⟨⟨A, c, blk_upd 1 _ hx rfl, hl, hC⟩, Below.setCell ho hp _, hp⟩, (Ch.refl (fun k => k = p) w).setCell (p := ⟨p, 1, none⟩) (.inl rfl) _⟩
  have SH := Aside0.mk short
  clear hC hc ho hp short
  cases sh with
  | true =>
    have E := Aside0.mk (show takeP n ⟨bs, true⟩ = ([], ⟨bs, true⟩) by simp [takeP])
    go_enter Try.func33, Try.ntmps33
    go_wp2_with fail
    go_ret
    rw [E.out]
    exact SH.out true HH.out
  | false =>
    by_cases hn : bs.length < n
    · have hn' : (bs.length : Int) < n := by omega
      have E := Aside0.mk (show takeP n ⟨bs, false⟩ = ([], ⟨bs, true⟩) by simp [takeP, hn])
      go_enter Try.func33, Try.ntmps33
      go_wp2_with fail
      go_ret
      rw [E.out]
      exact SH.out false HH.out
    · have hn' : ¬ (bs.length : Int) < n := by omega
      have hnl : n ≤ bs.length := by omega
      have hn2 : n ≤ c := by omega
      have E := Aside0.mk (show takeP n ⟨bs, false⟩ = (bs.take n, ⟨bs.drop n, false⟩) by simp [takeP, hn])
      by_cases hcn : c = n
      · subst hcn
        go_enter Try.func33, Try.ntmps33
        go_wp2_with fail
        go_ret
        rw [E.out]
        exact take_mk HO.out HP.out HH.out hl HC.out hnl _ _ _ (by omega) (if_pos rfl).symm (Nat.sub_self _).symm
      · go_enter Try.func33, Try.ntmps33
        go_wp2_with fail
        go_ret
        rw [E.out]
        exact take_mk HO.out HP.out HH.out hl HC.out hnl _ _ _ rfl (if_neg hcn).symm rfl
end Go.Proofs.Ytgndmbkkggjklaa.Jo
namespace Go.Proofs.Ytgndmbkkggjklaa.Jo
set_option linter.unusedVariables false
set_option linter.unusedSimpArgs false
open Go.RowKit Go.Proofs.YtgndmbkkggjklaaW.PrintWords Go.Proofs.YtgndmbkkggjklaaW.PrintLast Go.Proofs.YtgndmbkkggjklaaW.PrintMore Go.Proofs.Ytgndmbkkggjklaa.Bs
theorem or_byte (v y : Int) (h0 : 0 ≤ v) (h1 : v < 72057594037927936) (a : 0 ≤ y) (b : y ≤ 255) : bits BinOp.or IntKind.u64 (IntKind.u64.wrap (v * 256)) y = v * 256 + y := by
  rw [IntKind.wrap_u64]
  obtain ⟨m, rfl⟩ := Int.eq_ofNat_of_zero_le h0
  obtain ⟨n, rfl⟩ := Int.eq_ofNat_of_zero_le a
  have e1 : (m : Int) * 256 % 18446744073709551616 = ((m * 256 : Nat) : Int) := by omega
  rw [e1, bits_or_u64_nat _ _ (by omega) (by omega)]
  have e3 : m * 256 ||| n = m * 256 + n := by
    rw [show m * 256 = m <<< 8 from (Nat.shiftLeft_eq m 8).symm, ← Nat.shiftLeft_add_eq_or_of_lt (by omega : n < 2 ^ 8)]
  rw [e3]; omega
theorem val_snoc (l : List Int) (y : Int) : val (l ++ [y]) = val l * 256 + y := by simp [val]
theorem val_bound : ∀ (m : Nat) (l : List Int), l.length = m → Bys l → 0 ≤ val l ∧ val l < ((256 ^ m : Nat) : Int) := by
  intro m
  induction m with
  | zero => intro l hl h; rw [List.eq_nil_of_length_eq_zero hl]; decide
  | succ m ih =>
    intro l hl h
    have hne : l ≠ [] := by intro e; rw [e] at hl; simp at hl
    have e := List.dropLast_concat_getLast hne
    have h1 := ih l.dropLast (by rw [List.length_dropLast, hl]; rfl) (fun x hx => h x (List.dropLast_subset l hx))
    have h2 := h (l.getLast hne) (List.getLast_mem hne)
    rw [← e, val_snoc, Nat.pow_succ]
    omega
theorem val_le (l : List Int) (h : Bys l) (m : Nat) (hl : l.length ≤ m) : 0 ≤ val l ∧ val l < ((256 ^ m : Nat) : Int) := by
  have h1 := val_bound _ l rfl h
  have h2 : (256 : Nat) ^ l.length ≤ 256 ^ m := Nat.pow_le_pow_right (by decide) hl
  omega
theorem val_bound7 (l : List Int) (h : Bys l) (hl : l.length ≤ 7) : 0 ≤ val l ∧ val l < 72057594037927936 := val_le l h 7 hl
theorem numP_bound {n : Nat} {s : St} (h : Bys s.bs) : 0 ≤ (numP n s).1 ∧ (numP n s).1 < ((256 ^ n : Nat) : Int) :=
  val_le _ (takeP_bys h).1 n (takeP_len n s).1
theorem numP_bys {n : Nat} {s : St} (h : Bys s.bs) : Bys (numP n s).2.bs := (takeP_bys h).2
theorem val_next (l : List Int) (j : Nat) (hj : j < l.length) : val (l.take (j + 1)) = val (l.take j) * 256 + rd l j := by
  rw [List.take_succ_eq_append_getElem hj, val_snoc]
  simp [rd, List.getD_eq_getElem?_getD, List.getElem?_eq_getElem hj]
set_option maxRecDepth 100000 in
set_option maxHeartbeats 400000 in
theorem number_get (w0 w : World) (p size : Nat) (s : St) (h : Src w0 w p s) (hby : Bys s.bs) (hs8 : size ≤ 8) :
    Calls Try.prog 35 #[.pointer (some ⟨p, 0, none⟩), .int .i64 size] w fun e w' => e = .returned (.int .u64 (numP size s).1) ∧ Rd w0 w p (numP size s).2 w' := by
  have C1 := take_calls w0 w p size s h
  have hTb := (takeP_bys (n := size) hby).1
  have hTl := (takeP_len size s).1
  have E := Aside0.mk (show (numP size s).1 = val (takeP size s).1 from rfl)
  have E2 := Aside0.mk (show (numP size s).2 = (takeP size s).2 from rfl)
  clear h hby
  generalize takeP size s = tk at *
  obtain ⟨T, s'⟩ := tk
  simp only at C1 hTb hTl E E2
  go_enter Try.func35, Try.ntmps35
  go_wp2_with fail
  refine C1.mono ?_
  rintro e w2 ⟨⟨A, c, rfl, hlc, hC⟩, hR⟩
  have HC := Aside0.mk (Kd.C_below hC hR.s.old)
  have HR := Aside0.mk hR
  have HTB := Aside0.mk hTb
  clear hC hR C1 hTb
  go_wp2_with fail
  go_loopw [5, 12] (fun v5 v12 wr => ∃ j : Nat, v12 = .int .i64 j ∧ v5 = .int .u64 (val (T.take j)) ∧ j ≤ T.length ∧ Aside0 (Below w2.heap.size w2 wr)) (fun _ v12 _ => T.length - (intOf v12).toNat)
  case atStart => exact ⟨0, rfl, rfl, Nat.zero_le _, ⟨Below.refl _ _⟩⟩
  case round =>
    obtain ⟨j, rfl, rfl, hj, HB⟩ := hrel
    by_cases hjs : j < T.length
    · have hjs' : (j : Int) < T.length := by omega
      obtain ⟨ad, e, hcell⟩ := Kd.at_int (Kd.C_below HC.out HB.out) j (by omega) (by omega)
      cases e
      rw [Int.toNat_natCast] at hcell
      have hyT : rd T j ∈ T := by
        rw [show rd T j = T[j] by simp [rd, List.getD, hjs]]
        exact List.getElem_mem _
      obtain ⟨y0, y1⟩ := HTB.out _ hyT
      obtain ⟨v0, v1⟩ := val_bound7 (T.take j) (fun x hx => HTB.out x (List.mem_of_mem_take hx)) (by rw [List.length_take]; omega)
      have hor := or_byte _ _ v0 v1 y0 y1
      have HN := Aside0.mk (val_next T j hjs)
      have hTl' : T.length ≤ 8 := by omega
      clear hyT v0 v1
      generalize rd T j = y at *
      generalize val (List.take j T) = v at *
      go_wp2
      go_roundw
      case rel => exact ⟨j + 1, by first | rfl | rw [wrap_succ j (by omega)] | simp, by rw [HN.out], by omega, HB⟩
      case measure => first | exact meas_in j _ hjs | exact meas_up j _ hjs (by omega)
    · have hj2 : j = T.length := by omega
      subst hj2
      have hv : val (T.take T.length) = val T := by rw [List.take_length]
      have HV := Aside0.mk hv
      clear hv
      go_wp2
      go_ret
      exact ⟨by rw [E.out, ← HV.out]; rfl, by rw [E2.out]; exact HR.out.below HB.out⟩
set_option maxRecDepth 100000 in
set_option maxHeartbeats 400000 in
theorem integer_get (w0 w : World) (p size : Nat) (s : St) (h : Src w0 w p s) (hby : Bys s.bs) (hs4 : size ≤ 4) :
    Calls Try.prog 34 #[.pointer (some ⟨p, 0, none⟩), .int .i64 size] w fun e w' => e = .returned (.int .i64 (numP size s).1) ∧ Rd w0 w p (numP size s).2 w' := by
  have C1 := number_get w0 w p size s h hby (by omega)
  have hb := numP_bound (n := size) hby
  have h2 : (256 : Nat) ^ size ≤ 256 ^ 4 := Nat.pow_le_pow_right (by decide) hs4
  have h3 : (256 : Nat) ^ 4 = 4294967296 := by decide
  have hw : wrap64 (numP size s).1 = (numP size s).1 := IntWalk.wrap64_in _ ⟨by omega, by omega⟩
  clear h hby hb h2 h3
  generalize numP size s = n at *
  go_enter Try.func34, Try.ntmps34
  go_wp2_with fail
  refine C1.mono ?_
  rintro e w2 ⟨rfl, hR⟩
  have HR := Aside0.mk hR
  clear hR C1
  go_wp2
  go_ret
  exact ⟨by show Ending.returned (.int .i64 (wrap64 n.fst)) = _; rw [hw], HR.out⟩
def textP (s : St) : ByteArray × St := (strOfNums (takeP (numP 2 s).1.toNat (numP 2 s).2).1, (takeP (numP 2 s).1.toNat (numP 2 s).2).2)
set_option maxRecDepth 100000 in
set_option maxHeartbeats 400000 in
theorem text_get (w0 w : World) (p : Nat) (s : St) (h : Src w0 w p s) (hby : Bys s.bs) :
    Calls Try.prog 43 #[.pointer (some ⟨p, 0, none⟩)] w fun e w' => e = .returned (.string (textP s).1) ∧ Rd w0 w p (textP s).2 w' := by
  have C1 := integer_get w0 w p 2 s h hby (by decide)
  have hb := (numP_bound (n := 2) hby).1
  have C2 := Aside0.mk (fun (W : World) (hW : Src w0 W p (numP 2 s).2) => take_calls w0 W p (numP 2 s).1.toNat (numP 2 s).2 hW)
  have E := Aside0.mk (show (textP s).1 = strOfNums (takeP (numP 2 s).1.toNat (numP 2 s).2).1 from rfl)
  have E2 := Aside0.mk (show (textP s).2 = (takeP (numP 2 s).1.toNat (numP 2 s).2).2 from rfl)
  have ht : (((numP 2 s).1.toNat : Nat) : Int) = (numP 2 s).1 := Int.toNat_of_nonneg hb
  rw [ht] at C2
  clear h hby ht hb
  generalize takeP (numP 2 s).1.toNat (numP 2 s).2 = t at *
  generalize numP 2 s = n at *
  go_enter Try.func43, Try.ntmps43
  go_wp2_with fail
  refine C1.mono ?_
  rintro e w2 ⟨rfl, hR⟩
  have HR := Aside0.mk hR
  clear hR C1
  go_wp2_with fail
  refine (C2.out w2 HR.out.s).mono ?_
  rintro e w3 ⟨⟨A, c, rfl, hlc, hC⟩, hR2⟩
  have hC3 := Kd.C_below hC hR2.s.old
  have hst : (convert 28 9 (.slice A t.1.length c)).run Try.prog w3 = .ok (.string (strOfNums t.1)) w3 := Kd.C_string Try.underlying28 Try.underlying5 Try.underlying9 hC3
  have HR2 := Aside0.mk (HR.out.trans hR2)
  clear hC hC3 hR2 C2
  go_wp2
  go_ret
  exact ⟨by rw [E.out]; rfl, by rw [E2.out]; exact HR2.out⟩
def rowL : Nat → St → List Int → List Int × St
  | 0, s, acc => (acc, s)
  | n + 1, s, acc => if s.sh = true then (acc, s) else rowL n (numP 4 s).2 (acc ++ [(numP 4 s).1])
def rowP (s : St) : List Int × St := rowL (numP 2 s).1.toNat (numP 2 s).2 []
theorem Src.cells {w0 w : World} {p : Nat} {s : St} (h : Src w0 w p s) : w.cell? ⟨p, 1, none⟩ = some (.bool s.sh) ∧ ∀ i, w.frozen? ⟨p, i, none⟩ = false := by
  obtain ⟨⟨A, c, hc, hl, hC⟩, ho, hp⟩ := h
  obtain ⟨k0, k1, k2⟩ := blk2 hc
  exact ⟨k1, k2⟩
theorem Src.p_lt {w0 w : World} {p : Nat} {s : St} (h : Src w0 w p s) : p < w.heap.size := by
  obtain ⟨⟨A, c, hc, hl, hC⟩, ho, hp⟩ := h
  exact blk_lt hc
theorem Rd.own {w0 w w3 w4 : World} {p : Nat} {s : St} {v : Value} (h : Rd w0 w p s w3) (hb : ∀ k, v.ownBlock = some k → w.heap.size ≤ k) (hch : Ch (fun k => some k = v.ownBlock) w3 w4) (hp : p < w.heap.size) : Rd w0 w p s w4 :=
  ⟨h.s.step hch (fun e => by have := hb p e.symm; omega) (fun k hk => by have := hb k hk.symm; have := h.s.hp; omega), h.ch.trans (hch.mono (fun k hk _ => .inr (hb k hk.symm)))⟩
theorem info3' : (Try.prog.info? 3).map (fun i => (i.zero, i.size, i.bytes)) = some (some (.int .i64 0), 1, 8) := by kernel_rfl
set_option maxRecDepth 100000 in
set_option maxHeartbeats 1000000 in
theorem row_get (w0 w : World) (p : Nat) (s : St) (h : Src w0 w p s) (hby : Bys s.bs) :
    Calls Try.prog 44 #[.pointer (some ⟨p, 0, none⟩)] w fun e w' => (∃ v, e = .returned v ∧ (Kd.int .i64).R 3 w' w.heap.size (fun _ => True) v (rowP s).1) ∧ Rd w0 w p (rowP s).2 w' := by
  have C1 := integer_get w0 w p 2 s h hby (by decide)
  have hb := numP_bound (n := 2) hby
  have h3 : (256 : Nat) ^ 2 = 65536 := by decide
  have hn0 : 0 ≤ (numP 2 s).1 := hb.1
  have hn1 : (numP 2 s).1 < 65536 := by rw [h3] at hb; exact hb.2
  have hbn := numP_bys (n := 2) hby
  have E := Aside0.mk (show rowP s = rowL (numP 2 s).1.toNat (numP 2 s).2 [] from rfl)
  have HP := Aside0.mk h.p_lt
  clear h hby hb h3
  generalize rowP s = rp at *
  generalize numP 2 s = n at *
  obtain ⟨n, s1⟩ := n
  simp only at C1 hn0 hn1 hbn E
  obtain ⟨m, rfl⟩ : ∃ m : Nat, n = m := ⟨n.toNat, by omega⟩
  have hm : m < 65536 := by omega
  rw [Int.toNat_natCast] at E
  clear hn0 hn1
  go_enter Try.func44, Try.ntmps44
  go_wp2_with fail
  refine C1.mono ?_
  rintro e w2 ⟨rfl, hR⟩
  have HR := Aside0.mk hR
  have HBN := Aside0.mk hbn
  clear hR C1 hbn
  go_wp2_with fail
  go_loopw [3, 4] (fun v3 v4 wr => ∃ (j : Nat) (A : Option Addr) (c : Nat) (acc : List Int) (st : St), v3 = .slice A acc.length c ∧ v4 = .int .i64 j ∧ j + acc.length = m ∧ Aside0 (rp = rowL j st acc) ∧ Aside0 (Bys st.bs) ∧ Aside0 ((Kd.int .i64).R 3 wr w.heap.size (fun _ => True) (.slice A acc.length c) acc) ∧ Aside0 (Rd w0 w p st wr)) (fun _ v4 _ => (intOf v4).toNat)
  case atStart => exact ⟨m, none, 0, [], s1, rfl, rfl, by simp, E, HBN, ⟨Kd.R_nil _ _ _ _ _⟩, HR⟩
  case round =>
    clear HR HBN E
    obtain ⟨j, A, c, acc, st, rfl, rfl, hj, E, HBN, HO, HR⟩ := hrel
    obtain ⟨st, sh⟩ := st
    obtain ⟨k1, k2⟩ := HR.out.s.cells
    simp only at k1
    cases j with
    | zero =>
      have HE := Aside0.mk (show rp = (acc, ⟨st, sh⟩) by rw [E.out]; rfl)
      go_wp2
      go_ret
      rw [HE.out]
      exact ⟨⟨_, rfl, HO.out⟩, HR.out⟩
    | succ j =>
      have hj0 : (0 : Int) < ((j + 1 : Nat) : Int) := by omega
      cases sh with
      | true =>
        have HE := Aside0.mk (show rp = (acc, ⟨st, true⟩) by rw [E.out]; rfl)
        go_wp2
        go_ret
        rw [HE.out]
        exact ⟨⟨_, rfl, HO.out⟩, HR.out⟩
      | false =>
        have HE := Aside0.mk (show rp = rowL j (numP 4 ⟨st, false⟩).2 (acc ++ [(numP 4 ⟨st, false⟩).1]) by rw [E.out]; rfl)
        have C2 := integer_get w0 wr p 4 ⟨st, false⟩ HR.out.s HBN.out (by decide)
        have HB2 := Aside0.mk (numP_bys (n := 4) HBN.out)
        have HZ := Aside0.mk (show w.heap.size ≤ wr.heap.size from HR.out.ch.size)
        have hlen : (acc.length + 1) * 8 ≤ 140737488355328 := by omega
        have HLEN := Aside0.mk hlen
        have hpne : ∀ k, some k = (Value.slice A acc.length c).ownBlock → ¬ k = p := fun k hk e => by
          have := own_base (Kd.own_of_R HO.out) k hk.symm; have := HP.out; omega
        have HPNE := Aside0.mk hpne
        clear E HBN hlen hpne
        generalize numP 4 ⟨st, false⟩ = nn at *
        obtain ⟨x, st2⟩ := nn
        simp only at HE C2 HB2
        go_wp2_with fail
        refine C2.mono ?_
        rintro e w3 ⟨rfl, hR3⟩
        have HO3 := Aside0.mk (Kd.R_mono (hR3.ch.R (Kd.R_of_own (ok := fun k => some k = (Value.slice A acc.length c).ownBlock) (Kd.own_of_R HO.out) (fun k hk => hk.symm)) (fun k hk => HPNE.out k hk)) (fun _ _ => trivial) : (Kd.int .i64).R 3 w3 w.heap.size (fun _ => True) (.slice A acc.length c) acc)
        have HZ3 := Aside0.mk (Nat.le_trans HZ.out hR3.ch.size)
        have HR3 := Aside0.mk (HR.out.trans hR3)
        have HPP := Aside0.mk hR3.s.p_lt
        clear hR3 C2 HO k1 k2
        go_wp2_with (first | ((with_reducible refine gate_builtin (b := .append) (xs := #[.tmp 18, .tmp 21]) rfl ?_); at_builtin; go_loud (refine app_list (Kd.int .i64) (W := w3) w.heap.size rfl (.tmp 18) (.tmp 21) 41 3 (.int .i64 0) 8 rfl Try.underlying41 info3' ⟨rfl, by decide, by decide⟩ _ acc x [.int .i64 x] (fun _ => True) (fun _ => False) rfl rfl rfl (fun _ h => h.elim) HO3.out HZ3.out HLEN.out ?_); intro A4 c4 w4 hr4 hch4 hat4; have HO4 := Aside0.mk (Kd.R_mono hr4 (fun _ _ => trivial) : (Kd.int .i64).R 3 w4 w.heap.size (fun _ => True) _ _); have HR4 := Aside0.mk (HR3.out.own (fun k hk => own_base (Kd.own_of_R HO3.out) k hk) hch4 HP.out); clear hr4 hch4 hat4))
        have hl2 : (acc ++ [x]).length = acc.length + 1 := by simp
        go_roundw
        case rel => exact ⟨j, A4, c4, acc ++ [x], st2, by rw [hl2], by simp, by rw [hl2]; omega, HE, HB2, ⟨by rw [hl2]; exact HO4.out⟩, HR4⟩
        case measure => simp [intOf]
end Go.Proofs.Ytgndmbkkggjklaa.Jo
namespace Go.Proofs.Ytgndmbkkggjklaa.Jo
set_option linter.unusedVariables false
set_option linter.unusedSimpArgs false
open Go.RowKit Go.Proofs.YtgndmbkkggjklaaW.PrintWords Go.Proofs.YtgndmbkkggjklaaW.PrintLast Go.Proofs.YtgndmbkkggjklaaW.PrintMore Go.Proofs.Ytgndmbkkggjklaa.Bs
def changeP (s : St) : S46 × St :=
  if (numP 1 (numP 4 s).2).1 = 0 then (⟨(numP 4 s).1, ⟨0, ByteArray.empty, ByteArray.empty, 0, [], [], true⟩⟩, (numP 1 (numP 4 s).2).2)
  else (⟨(numP 4 s).1, ⟨(numP 1 (numP 4 s).2).1, (textP (numP 4 (numP 1 (numP 4 s).2).2).2).1, (textP (textP (numP 4 (numP 1 (numP 4 s).2).2).2).2).1, (numP 4 (numP 1 (numP 4 s).2).2).1,
      (rowP (textP (textP (numP 4 (numP 1 (numP 4 s).2).2).2).2).2).1, (rowP (rowP (textP (textP (numP 4 (numP 1 (numP 4 s).2).2).2).2).2).2).1, false⟩⟩, (rowP (rowP (textP (textP (numP 4 (numP 1 (numP 4 s).2).2).2).2).2).2).2)
theorem textP_bys {s : St} (h : Bys s.bs) : Bys (textP s).2.bs := (takeP_bys (numP_bys h)).2
theorem rowL_bys : ∀ (n : Nat) (s : St) (acc : List Int), Bys s.bs → Bys (rowL n s acc).2.bs
  | 0, s, acc, h => h
  | n + 1, s, acc, h => by
    unfold rowL
    split
    · exact h
    · exact rowL_bys n _ _ (numP_bys h)
theorem rowP_bys {s : St} (h : Bys s.bs) : Bys (rowP s).2.bs := rowL_bys _ _ _ (numP_bys h)
theorem changeP_bys {s : St} (h : Bys s.bs) : Bys (changeP s).2.bs := by
  unfold changeP
  split
  · exact numP_bys (numP_bys h)
  · exact rowP_bys (rowP_bys (textP_bys (textP_bys (numP_bys (numP_bys (numP_bys h))))))
theorem Rd.set {w0 w w3 : World} {p g i : Nat} {s : St} (h : Rd w0 w p s w3) (hg : w.heap.size ≤ g) (hp : p < w.heap.size) (u : Value) : Rd w0 w p s (w3.setCell ⟨g, i, none⟩ u) :=
  ⟨h.s.step ((Ch.refl (fun k => k = g) w3).setCell (p := ⟨g, i, none⟩) (.inl rfl) u) (fun e => by omega) (fun k hk => by have := h.s.hp; omega), h.ch.trans ((Ch.refl (fun k => k = g) w3).setCell (p := ⟨g, i, none⟩) (.inl rfl) u |>.mono (fun k hk _ => .inr (hk ▸ hg)))⟩
theorem Rd.keeps {w0 w w1 : World} {p g : Nat} {s : St} {o : Obj} (h : Rd w0 w p s w1) (ho : w.heap[g]? = some o) (hne : g ≠ p) : w1.heap[g]? = some o := h.ch.heap ho hne
theorem Rd.self {w0 w : World} {p : Nat} {s : St} (h : Src w0 w p s) : Rd w0 w p s w := ⟨h, Ch.refl _ _⟩
def set8 (w : World) (g : Nat) (b0 b1 b2 b3 b4 b5 b6 b7 : Value) : World := (((((((w.setCell ⟨g, 0, none⟩ b0).setCell ⟨g, 1, none⟩ b1).setCell ⟨g, 2, none⟩ b2).setCell ⟨g, 3, none⟩ b3).setCell ⟨g, 4, none⟩ b4).setCell ⟨g, 5, none⟩ b5).setCell ⟨g, 6, none⟩ b6).setCell ⟨g, 7, none⟩ b7
theorem set8_q {w : World} {g t : Nat} {a0 a1 a2 a3 a4 a5 a6 a7 : Value} (h : w.heap[g]? = some (.cells #[a0, a1, a2, a3, a4, a5, a6, a7] t (0, 0))) (b0 b1 b2 b3 b4 b5 b6 b7 : Value) : (set8 w g b0 b1 b2 b3 b4 b5 b6 b7).heap[g]? = some (.cells #[b0, b1, b2, b3, b4, b5, b6, b7] t (0, 0)) := by
  have h0 := blk_upd (cs' := #[b0, a1, a2, a3, a4, a5, a6, a7]) 0 b0 h rfl
  have h1 := blk_upd (cs' := #[b0, b1, a2, a3, a4, a5, a6, a7]) 1 b1 h0 rfl
  have h2 := blk_upd (cs' := #[b0, b1, b2, a3, a4, a5, a6, a7]) 2 b2 h1 rfl
  have h3 := blk_upd (cs' := #[b0, b1, b2, b3, a4, a5, a6, a7]) 3 b3 h2 rfl
  have h4 := blk_upd (cs' := #[b0, b1, b2, b3, b4, a5, a6, a7]) 4 b4 h3 rfl
  have h5 := blk_upd (cs' := #[b0, b1, b2, b3, b4, b5, a6, a7]) 5 b5 h4 rfl
  have h6 := blk_upd (cs' := #[b0, b1, b2, b3, b4, b5, b6, a7]) 6 b6 h5 rfl
  exact blk_upd (cs' := #[b0, b1, b2, b3, b4, b5, b6, b7]) 7 b7 h6 rfl
theorem set8_ch (w : World) (g : Nat) (b0 b1 b2 b3 b4 b5 b6 b7 : Value) : Ch (fun k => k = g) w (set8 w g b0 b1 b2 b3 b4 b5 b6 b7) :=
  (((((((((Ch.refl (fun k => k = g) w).setCell (p := ⟨g, 0, none⟩) (.inl rfl) b0).setCell (p := ⟨g, 1, none⟩) (.inl rfl) b1).setCell (p := ⟨g, 2, none⟩) (.inl rfl) b2).setCell (p := ⟨g, 3, none⟩) (.inl rfl) b3).setCell (p := ⟨g, 4, none⟩) (.inl rfl) b4).setCell (p := ⟨g, 5, none⟩) (.inl rfl) b5).setCell (p := ⟨g, 6, none⟩) (.inl rfl) b6).setCell (p := ⟨g, 7, none⟩) (.inl rfl) b7)
theorem R_at_base {w : World} {B : Nat} {v : Value} {l : List Int} (h : (Kd.int .i64).R 3 w B (fun _ => True) v l) : (Kd.int .i64).R 3 w B (fun i => B ≤ i) v l :=
  Kd.R_of_own (h1 := fun _ => rfl) (Kd.own_of_R h) (fun i hi => own_base (Kd.own_of_R h) i hi)
theorem Rd.chg {w0 w w3 w4 : World} {p g : Nat} {s : St} (h : Rd w0 w p s w3) (hch : Ch (fun k => k = g) w3 w4) (hg : w.heap.size ≤ g) (hp : p < w.heap.size) : Rd w0 w p s w4 :=
  ⟨h.s.step hch (fun e => by omega) (fun k hk => by have := h.s.hp; omega), h.ch.trans (hch.mono (fun k hk _ => .inr (hk ▸ hg)))⟩
set_option maxRecDepth 100000 in
set_option maxHeartbeats 4000000 in
theorem change_get (w0 w : World) (p : Nat) (s : St) (h : Src w0 w p s) (hby : Bys s.bs) :
    Calls Try.prog 36 #[.pointer (some ⟨p, 0, none⟩)] w fun e w' => (∃ cs : List Value, e = .returned (.agg cs.toArray) ∧ k46.M w' w.heap.size (fun k => w.heap.size ≤ k) (changeP s).1 cs) ∧ Rd w0 w p (changeP s).2 w' := by
  have HP := Aside0.mk h.p_lt
  obtain ⟨n1, s1, e1⟩ : ∃ a b, numP 4 s = (a, b) := ⟨_, _, rfl⟩
  have b1 := Aside0.mk (show Bys s1.bs by have := numP_bys (n := 4) hby; rw [e1] at this; exact this)
  obtain ⟨k, s2, e2⟩ : ∃ a b, numP 1 s1 = (a, b) := ⟨_, _, rfl⟩
  have b2 := Aside0.mk (show Bys s2.bs by have := numP_bys (n := 1) b1.out; rw [e2] at this; exact this)
  obtain ⟨par, s3, e3⟩ : ∃ a b, numP 4 s2 = (a, b) := ⟨_, _, rfl⟩
  have b3 := Aside0.mk (show Bys s3.bs by have := numP_bys (n := 4) b2.out; rw [e3] at this; exact this)
  obtain ⟨nm, s4, e4⟩ : ∃ a b, textP s3 = (a, b) := ⟨_, _, rfl⟩
  have b4 := Aside0.mk (show Bys s4.bs by have := textP_bys b3.out; rw [e4] at this; exact this)
  obtain ⟨tx, s5, e5⟩ : ∃ a b, textP s4 = (a, b) := ⟨_, _, rfl⟩
  have b5 := Aside0.mk (show Bys s5.bs by have := textP_bys b4.out; rw [e5] at this; exact this)
  obtain ⟨ks, s6, e6⟩ : ∃ a b, rowP s5 = (a, b) := ⟨_, _, rfl⟩
  have b6 := Aside0.mk (show Bys s6.bs by have := rowP_bys b5.out; rw [e6] at this; exact this)
  obtain ⟨bs, s7, e7⟩ : ∃ a b, rowP s6 = (a, b) := ⟨_, _, rfl⟩
  have b7 := Aside0.mk (show Bys s7.bs by have := rowP_bys b6.out; rw [e7] at this; exact this)
  have E := Aside0.mk (show changeP s = if k = 0 then (⟨n1, ⟨0, ByteArray.empty, ByteArray.empty, 0, [], [], true⟩⟩, s2) else (⟨n1, ⟨k, nm, tx, par, ks, bs, false⟩⟩, s7) by simp only [changeP, e1, e2, e3, e4, e5, e6, e7])
  have C1 := Aside0.mk (fun (W : World) (hW : Src w0 W p s) => show Calls Try.prog _ _ W _ from integer_get w0 W p 4 s hW hby (by decide))
  rw [e1] at C1
  have C2 := Aside0.mk (fun (W : World) (hW : Src w0 W p s1) => show Calls Try.prog _ _ W _ from integer_get w0 W p 1 s1 hW b1.out (by decide))
  rw [e2] at C2
  have C3 := Aside0.mk (fun (W : World) (hW : Src w0 W p s2) => show Calls Try.prog _ _ W _ from integer_get w0 W p 4 s2 hW b2.out (by decide))
  rw [e3] at C3
  have C4 := Aside0.mk (fun (W : World) (hW : Src w0 W p s3) => show Calls Try.prog _ _ W _ from text_get w0 W p  s3 hW b3.out)
  rw [e4] at C4
  have C5 := Aside0.mk (fun (W : World) (hW : Src w0 W p s4) => show Calls Try.prog _ _ W _ from text_get w0 W p  s4 hW b4.out)
  rw [e5] at C5
  have C6 := Aside0.mk (fun (W : World) (hW : Src w0 W p s5) => show Calls Try.prog _ _ W _ from row_get w0 W p  s5 hW b5.out)
  rw [e6] at C6
  have C7 := Aside0.mk (fun (W : World) (hW : Src w0 W p s6) => show Calls Try.prog _ _ W _ from row_get w0 W p  s6 hW b6.out)
  rw [e7] at C7
  generalize changeP s = cp at *
  have hW := below_alloc (Below.refl w.heap.size w) (.cells #[.int .i64 0, .int .i64 0, .string ⟨#[]⟩, .string ⟨#[]⟩, .int .i64 0, .slice none 0 0, .slice none 0 0, .bool false] 46)
  have hT := heap_alloc_new w (.cells #[.int .i64 0, .int .i64 0, .string ⟨#[]⟩, .string ⟨#[]⟩, .int .i64 0, .slice none 0 0, .slice none 0 0, .bool false] 46)
  have R0 := Aside0.mk (Rd.self h)
  clear h hby e1 e2 e3 e4 e5 e6 e7 b1 b2 b3 b4 b5 b6 b7
  go_enter Try.func36, Try.ntmps36
  go_wp2_with fail
  obtain ⟨W1, hW1⟩ : ∃ x, x = w.alloc (.cells #[.int .i64 0, .int .i64 0, .string ⟨#[]⟩, .string ⟨#[]⟩, .int .i64 0, .slice none 0 0, .slice none 0 0, .bool false] 46) := ⟨_, rfl⟩
  rw [← hW1] at hW hT ⊢
  have R1 := Aside0.mk (R0.out.below hW)
  have T1 := Aside0.mk hT
  have HZ1 := Aside0.mk (show w.heap.size ≤ W1.heap.size from hW.size)
  clear hW hT hW1 R0
  refine (C1.out W1 R1.out.s).mono ?_
  rintro e w2 ⟨rfl, hR⟩
  have R2 := Aside0.mk (R1.out.trans hR)
  have T2 := Aside0.mk (hR.keeps T1.out (by have := HP.out; omega))
  have HZ2 := Aside0.mk (Nat.le_trans HZ1.out hR.ch.size)
  clear hR C1 R1 T1 HZ1
  go_wp2_with fail
  have hW := below_alloc (Below.refl w2.heap.size w2) (.cells #[.int .i64 n1, .int .i64 0, .string ⟨#[]⟩, .string ⟨#[]⟩, .int .i64 0, .slice none 0 0, .slice none 0 0, .bool false] 46)
  have hH := heap_alloc_new w2 (.cells #[.int .i64 n1, .int .i64 0, .string ⟨#[]⟩, .string ⟨#[]⟩, .int .i64 0, .slice none 0 0, .slice none 0 0, .bool false] 46)
  obtain ⟨W3, hW3⟩ : ∃ x, x = w2.alloc (.cells #[.int .i64 n1, .int .i64 0, .string ⟨#[]⟩, .string ⟨#[]⟩, .int .i64 0, .slice none 0 0, .slice none 0 0, .bool false] 46) := ⟨_, rfl⟩
  rw [← hW3] at hW hH ⊢
  have HG := Aside0.mk (show w.heap.size < w2.heap.size from Nat.lt_of_le_of_ne HZ2.out (fun e => by have := blk_lt T2.out; omega))
  have hR3 := R2.out.below hW
  generalize w2.heap.size = g at *
  have R3 := Aside0.mk hR3
  have T3 := Aside0.mk ((hW.block _ HG.out).trans T2.out)
  have H3 := Aside0.mk hH
  clear hW hH hW3 R2 T2 HZ2 hR3
  refine (C2.out W3 R3.out.s).mono ?_
  rintro e w4 ⟨rfl, hR⟩
  have R4 := Aside0.mk (R3.out.trans hR)
  have T4 := Aside0.mk (hR.keeps T3.out (by have := HP.out; omega))
  have H4 := Aside0.mk (hR.keeps H3.out (by have := HP.out; have := HG.out; omega))
  obtain ⟨a0, a1, a2, a3, a4, a5, a6, a7, a8⟩ := blk8 H4.out
  clear hR C2 R3 T3 H3
  go_upto_region 3 with (fail)
  obtain ⟨W5, hW5⟩ : ∃ x, x = w4.setCell ⟨g, 1, none⟩ (.int .i64 k) := ⟨_, rfl⟩
  rw [← hW5]
  have R5 := Aside0.mk (show Rd w0 w p s2 W5 from hW5 ▸ R4.out.set (Nat.le_of_lt HG.out) HP.out _)
  have T5 := Aside0.mk (show W5.heap[w.heap.size]? = _ from hW5 ▸ (Below.heap_setCell w4 ⟨g, 1, none⟩ (.int .i64 k) w.heap.size (by show w.heap.size ≠ g; have := HG.out; omega)).trans T4.out)
  have H5 := Aside0.mk (show W5.heap[g]? = some (.cells #[.int .i64 n1, .int .i64 k, .string ⟨#[]⟩, .string ⟨#[]⟩, .int .i64 0, .slice none 0 0, .slice none 0 0, .bool false] 46 (0, 0)) from hW5 ▸ blk_upd 1 (.int .i64 k) H4.out rfl)
  clear hW5 R4 T4 H4 a0 a1 a2 a3 a4 a5 a6 a7 a8
  obtain ⟨a0, a1, a2, a3, a4, a5, a6, a7, a8⟩ := blk8 H5.out
  obtain ⟨t0, t1, t2, t3, t4, t5, t6, t7, t8⟩ := blk8 T5.out
  by_cases hk : k = 0
  · have hk' : (k == 0) = true := by simpa using hk
    have E0 := Aside0.mk (show cp = (⟨n1, ⟨0, ⟨#[]⟩, ⟨#[]⟩, 0, [], [], true⟩⟩, s2) by rw [E.out, if_pos hk]; rfl)
    subst hk
    clear E C3 C4 C5 C6 C7
    go_upto_region 5 with (fail)
    obtain ⟨W6, hW6⟩ : ∃ x, x = W5.setCell ⟨g, 7, none⟩ (.bool true) := ⟨_, rfl⟩
    rw [← hW6]
    have R6 := Aside0.mk (show Rd w0 w p s2 W6 from hW6 ▸ R5.out.set (Nat.le_of_lt HG.out) HP.out _)
    have T6 := Aside0.mk (show W6.heap[w.heap.size]? = _ from hW6 ▸ (Below.heap_setCell W5 ⟨g, 7, none⟩ (.bool true) w.heap.size (by show w.heap.size ≠ g; have := HG.out; omega)).trans T5.out)
    have H6 := Aside0.mk (show W6.heap[g]? = some (.cells #[.int .i64 n1, .int .i64 0, .string ⟨#[]⟩, .string ⟨#[]⟩, .int .i64 0, .slice none 0 0, .slice none 0 0, .bool true] 46 (0, 0)) from hW6 ▸ blk_upd 7 (.bool true) H5.out rfl)
    clear hW6 R5 T5 H5 a0 a1 a2 a3 a4 a5 a6 a7 a8 t0 t1 t2 t3 t4 t5 t6 t7 t8
    obtain ⟨a0, a1, a2, a3, a4, a5, a6, a7, a8⟩ := blk8 H6.out
    obtain ⟨t0, t1, t2, t3, t4, t5, t6, t7, t8⟩ := blk8 T6.out
    have S := Aside0.mk (set8_q T6.out (.int .i64 n1) (.int .i64 0) (.string ⟨#[]⟩) (.string ⟨#[]⟩) (.int .i64 0) (.slice none 0 0) (.slice none 0 0) (.bool true))
    have SR := Aside0.mk (R6.out.chg (set8_ch W6 w.heap.size (.int .i64 n1) (.int .i64 0) (.string ⟨#[]⟩) (.string ⟨#[]⟩) (.int .i64 0) (.slice none 0 0) (.slice none 0 0) (.bool true)) (Nat.le_refl _) HP.out)
    go_wp2_with fail
    change bodyPost Try.prog Try.f36 _ Exit.ret _ (set8 W6 w.heap.size (.int .i64 n1) (.int .i64 0) (.string ⟨#[]⟩) (.string ⟨#[]⟩) (.int .i64 0) (.slice none 0 0) (.slice none 0 0) (.bool true))
    clear t0 t1 t2 t3 t4 t5 t6 t7 t8 a0 a1 a2 a3 a4 a5 a6 a7 a8
    generalize set8 W6 w.heap.size (.int .i64 n1) (.int .i64 0) (.string ⟨#[]⟩) (.string ⟨#[]⟩) (.int .i64 0) (.slice none 0 0) (.slice none 0 0) (.bool true) = w9 at *
    obtain ⟨d0, d1, d2, d3, d4, d5, d6, d7, d8⟩ := blk8 S.out
    refine bodyPost_ret (v := .agg #[.int .i64 n1, .int .i64 0, .string ⟨#[]⟩, .string ⟨#[]⟩, .int .i64 0, .slice none 0 0, .slice none 0 0, .bool true]) (by simp [results, Try.results36, go_sem, d0, d1, d2, d3, d4, d5, d6, d7]) rfl ?_
    rw [E0.out]
    exact ⟨⟨[.int .i64 n1, .int .i64 0, .string ⟨#[]⟩, .string ⟨#[]⟩, .int .i64 0, .slice none 0 0, .slice none 0 0, .bool true], rfl, k46_mkM _ _ _ ⟨n1, ⟨0, ⟨#[]⟩, ⟨#[]⟩, 0, [], [], true⟩⟩ (Kd.R_nil _ _ _ _ _) (Kd.R_nil _ _ _ _ _)⟩, SR.out⟩
  · have hk' : (k == 0) = false := by simpa using hk
    have E0 := Aside0.mk (show cp = (⟨n1, ⟨k, nm, tx, par, ks, bs, false⟩⟩, s7) by rw [E.out, if_neg hk])
    clear E hk
    go_wp2_with fail
    clear t0 t1 t2 t3 t4 t5 t6 t7 t8 a0 a1 a2 a3 a4 a5 a6 a7 a8
    refine (C3.out W5 R5.out.s).mono ?_
    rintro e w6 ⟨rfl, hR⟩
    have R6 := Aside0.mk (R5.out.trans hR)
    have T6 := Aside0.mk (hR.keeps T5.out (by have := HP.out; omega))
    have H6 := Aside0.mk (hR.keeps H5.out (by have := HP.out; have := HG.out; omega))
    obtain ⟨a0, a1, a2, a3, a4, a5, a6, a7, a8⟩ := blk8 H6.out
    clear hR C3 R5 T5 H5
    go_wp2_with fail
    obtain ⟨W7, hW⟩ : ∃ x, x = w6.setCell ⟨g, 4, none⟩ (.int .i64 par) := ⟨_, rfl⟩
    rw [← hW]
    have R7 := Aside0.mk (show Rd w0 w p s3 W7 from hW ▸ (R6.out.set (i := 4) (Nat.le_of_lt HG.out) HP.out (.int .i64 par)))
    have T7 := Aside0.mk (show W7.heap[w.heap.size]? = _ from hW ▸ ((Below.heap_setCell w6 ⟨g, 4, none⟩ (.int .i64 par) w.heap.size (Nat.ne_of_lt HG.out)).trans T6.out))
    have H7 := Aside0.mk (show W7.heap[g]? = some (.cells #[.int .i64 n1, .int .i64 k, .string ⟨#[]⟩, .string ⟨#[]⟩, .int .i64 par, .slice none 0 0, .slice none 0 0, .bool false] 46 (0, 0)) from hW ▸ (blk_upd (cs' := #[.int .i64 n1, .int .i64 k, .string ⟨#[]⟩, .string ⟨#[]⟩, .int .i64 par, .slice none 0 0, .slice none 0 0, .bool false]) 4 (.int .i64 par) H6.out rfl))
    clear hW R6 T6 H6 a0 a1 a2 a3 a4 a5 a6 a7 a8
    refine (C4.out W7 R7.out.s).mono ?_
    rintro e w8 ⟨rfl, hR⟩
    have R8 := Aside0.mk (R7.out.trans hR)
    have T8 := Aside0.mk (hR.keeps T7.out (by have := HP.out; omega))
    have H8 := Aside0.mk (hR.keeps H7.out (by have := HP.out; have := HG.out; omega))
    clear hR C4 R7 T7 H7
    go_wp2_with fail
    refine (C5.out w8 R8.out.s).mono ?_
    rintro e w9 ⟨rfl, hR⟩
    have R9 := Aside0.mk (R8.out.trans hR)
    have T9 := Aside0.mk (hR.keeps T8.out (by have := HP.out; omega))
    have H9 := Aside0.mk (hR.keeps H8.out (by have := HP.out; have := HG.out; omega))
    obtain ⟨a0, a1, a2, a3, a4, a5, a6, a7, a8⟩ := blk8 H9.out
    clear hR C5 R8 T8 H8
    go_wp2_with fail
    obtain ⟨W10, hW⟩ : ∃ x, x = (w9.setCell ⟨g, 2, none⟩ (.string nm)).setCell ⟨g, 3, none⟩ (.string tx) := ⟨_, rfl⟩
    rw [← hW]
    have R10 := Aside0.mk (show Rd w0 w p s5 W10 from hW ▸ ((R9.out.set (i := 2) (Nat.le_of_lt HG.out) HP.out (.string nm)).set (i := 3) (Nat.le_of_lt HG.out) HP.out (.string tx)))
    have T10 := Aside0.mk (show W10.heap[w.heap.size]? = _ from hW ▸ ((Below.heap_setCell (w9.setCell ⟨g, 2, none⟩ (.string nm)) ⟨g, 3, none⟩ (.string tx) w.heap.size (Nat.ne_of_lt HG.out)).trans ((Below.heap_setCell w9 ⟨g, 2, none⟩ (.string nm) w.heap.size (Nat.ne_of_lt HG.out)).trans T9.out)))
    have H10 := Aside0.mk (show W10.heap[g]? = some (.cells #[.int .i64 n1, .int .i64 k, .string nm, .string tx, .int .i64 par, .slice none 0 0, .slice none 0 0, .bool false] 46 (0, 0)) from hW ▸ (blk_upd (cs' := #[.int .i64 n1, .int .i64 k, .string nm, .string tx, .int .i64 par, .slice none 0 0, .slice none 0 0, .bool false]) 3 (.string tx) (blk_upd (cs' := #[.int .i64 n1, .int .i64 k, .string nm, .string ⟨#[]⟩, .int .i64 par, .slice none 0 0, .slice none 0 0, .bool false]) 2 (.string nm) H9.out rfl) rfl))
    clear hW R9 T9 H9 a0 a1 a2 a3 a4 a5 a6 a7 a8
    refine (C6.out W10 R10.out.s).mono ?_
    rintro e w11 ⟨⟨vk, rfl, hk1⟩, hR⟩
    have R11 := Aside0.mk (R10.out.trans hR)
    have T11 := Aside0.mk (hR.keeps T10.out (by have := HP.out; omega))
    have H11 := Aside0.mk (hR.keeps H10.out (by have := HP.out; have := HG.out; omega))
    obtain ⟨Ak, ck, rfl⟩ := Kd.R_slice hk1
    have lk := (Kd.R_reads' hk1).2.1
    have FK1 := Aside0.mk (R_at_base hk1)
    have HZ10 := Aside0.mk (show w.heap.size ≤ W10.heap.size from R10.out.ch.size)
    have HGA := Aside0.mk (show g < W10.heap.size from blk_lt H10.out)
    have HP10 := Aside0.mk (show p < W10.heap.size from R10.out.s.p_lt)
    clear hR C6 R10 T10 H10 hk1
    go_wp2_with fail
    refine (C7.out w11 R11.out.s).mono ?_
    rintro e w12 ⟨⟨vb, rfl, hb1⟩, hR⟩
    have R12 := Aside0.mk (R11.out.trans hR)
    have T12 := Aside0.mk (hR.keeps T11.out (by have := HP.out; omega))
    have H12 := Aside0.mk (hR.keeps H11.out (by have := HP.out; have := HG.out; omega))
    obtain ⟨Ab, cb, rfl⟩ := Kd.R_slice hb1
    have lb := (Kd.R_reads' hb1).2.1
    have HZ11 := Aside0.mk (show w.heap.size ≤ w11.heap.size from R11.out.ch.size)
    have FB1 := Aside0.mk (R_at_base hb1)
    have FK2 := Aside0.mk (hR.ch.R FK1.out (fun i hi e => by have := HP10.out; omega))
    have HG11 := Aside0.mk (show g < w11.heap.size from blk_lt H11.out)
    have HG10 := Aside0.mk HGA.out
    obtain ⟨a0, a1, a2, a3, a4, a5, a6, a7, a8⟩ := blk8 H12.out
    clear hR C7 R11 T11 H11 hb1 FK1
    go_upto_region 9 with (fail)
    obtain ⟨W13, hW⟩ : ∃ x, x = (w12.setCell ⟨g, 5, none⟩ (.slice Ak ks.length ck)).setCell ⟨g, 6, none⟩ (.slice Ab bs.length cb) := ⟨_, rfl⟩
    rw [← hW]
    have R13 := Aside0.mk (show Rd w0 w p s7 W13 from hW ▸ ((R12.out.set (i := 5) (Nat.le_of_lt HG.out) HP.out (.slice Ak ks.length ck)).set (i := 6) (Nat.le_of_lt HG.out) HP.out (.slice Ab bs.length cb)))
    have T13 := Aside0.mk (show W13.heap[w.heap.size]? = _ from hW ▸ ((Below.heap_setCell (w12.setCell ⟨g, 5, none⟩ (.slice Ak ks.length ck)) ⟨g, 6, none⟩ (.slice Ab bs.length cb) w.heap.size (Nat.ne_of_lt HG.out)).trans ((Below.heap_setCell w12 ⟨g, 5, none⟩ (.slice Ak ks.length ck) w.heap.size (Nat.ne_of_lt HG.out)).trans T12.out)))
    have H13 := Aside0.mk (show W13.heap[g]? = some (.cells #[.int .i64 n1, .int .i64 k, .string nm, .string tx, .int .i64 par, .slice Ak ks.length ck, .slice Ab bs.length cb, .bool false] 46 (0, 0)) from hW ▸ (blk_upd (cs' := #[.int .i64 n1, .int .i64 k, .string nm, .string tx, .int .i64 par, .slice Ak ks.length ck, .slice Ab bs.length cb, .bool false]) 6 (.slice Ab bs.length cb) (blk_upd (cs' := #[.int .i64 n1, .int .i64 k, .string nm, .string tx, .int .i64 par, .slice Ak ks.length ck, .slice none 0 0, .bool false]) 5 (.slice Ak ks.length ck) H12.out rfl) rfl))
    have hch13 : Ch (fun i => i = g) w12 W13 := hW ▸ (((Ch.refl (fun i => i = g) w12).setCell (p := ⟨g, 5, none⟩) (.inl rfl) _).setCell (p := ⟨g, 6, none⟩) (.inl rfl) _)
    have FK3 := Aside0.mk (hch13.R FK2.out (fun i hi e => by have := HG10.out; omega))
    have FB3 := Aside0.mk (hch13.R FB1.out (fun i hi e => by have := HG11.out; omega))
    have HZ13 := Aside0.mk (show w.heap.size < W10.heap.size ∧ w.heap.size < w11.heap.size from ⟨by have := HG.out; have := HG10.out; omega, by have := HG.out; have := HG11.out; omega⟩)
    clear hW hch13 R12 T12 H12 FK2 FB1 a0 a1 a2 a3 a4 a5 a6 a7 a8
    obtain ⟨a0, a1, a2, a3, a4, a5, a6, a7, a8⟩ := blk8 H13.out
    obtain ⟨t0, t1, t2, t3, t4, t5, t6, t7, t8⟩ := blk8 T13.out
    have S := Aside0.mk (set8_q T13.out (.int .i64 n1) (.int .i64 k) (.string nm) (.string tx) (.int .i64 par) (.slice Ak ks.length ck) (.slice Ab bs.length cb) (.bool false))
    have hc8 := set8_ch W13 w.heap.size (.int .i64 n1) (.int .i64 k) (.string nm) (.string tx) (.int .i64 par) (.slice Ak ks.length ck) (.slice Ab bs.length cb) (.bool false)
    have SR := Aside0.mk (R13.out.chg hc8 (Nat.le_refl _) HP.out)
    have FK4 := Aside0.mk (hc8.R FK3.out (fun i hi e => by have := HZ13.out.1; omega))
    have FB4 := Aside0.mk (hc8.R FB3.out (fun i hi e => by have := HZ13.out.2; omega))
    clear hc8 FK3 FB3
    go_wp2_with fail
    change bodyPost Try.prog Try.f36 _ Exit.ret _ (set8 W13 w.heap.size (.int .i64 n1) (.int .i64 k) (.string nm) (.string tx) (.int .i64 par) (.slice Ak ks.length ck) (.slice Ab bs.length cb) (.bool false))
    clear t0 t1 t2 t3 t4 t5 t6 t7 t8 a0 a1 a2 a3 a4 a5 a6 a7 a8
    generalize set8 W13 w.heap.size (.int .i64 n1) (.int .i64 k) (.string nm) (.string tx) (.int .i64 par) (.slice Ak ks.length ck) (.slice Ab bs.length cb) (.bool false) = w14 at *
    obtain ⟨d0, d1, d2, d3, d4, d5, d6, d7, d8⟩ := blk8 S.out
    refine bodyPost_ret (v := .agg #[.int .i64 n1, .int .i64 k, .string nm, .string tx, .int .i64 par, .slice Ak ks.length ck, .slice Ab bs.length cb, .bool false]) (by simp [results, Try.results36, go_sem, d0, d1, d2, d3, d4, d5, d6, d7]) rfl ?_
    rw [E0.out]
    refine ⟨⟨[.int .i64 n1, .int .i64 k, .string nm, .string tx, .int .i64 par, .slice Ak ks.length ck, .slice Ab bs.length cb, .bool false], rfl, k46_mkM _ _ _ ⟨n1, ⟨k, nm, tx, par, ks, bs, false⟩⟩ (Kd.R_mono (Kd.R_lower FK4.out (Nat.le_of_lt HZ13.out.1)) (fun i hi => by have := HZ13.out.1; show w.heap.size ≤ i; have : W10.heap.size ≤ i := hi; omega)) (Kd.R_mono (Kd.R_lower FB4.out (Nat.le_of_lt HZ13.out.2)) (fun i hi => by have := HZ13.out.2; show w.heap.size ≤ i; have : w11.heap.size ≤ i := hi; omega))⟩, SR.out⟩
end Go.Proofs.Ytgndmbkkggjklaa.Jo
namespace Go.Proofs.Ytgndmbkkggjklaa.Jo
set_option linter.unusedVariables false
set_option linter.unusedSimpArgs false
open Go.RowKit Go.Proofs.YtgndmbkkggjklaaW.PrintWords Go.Proofs.YtgndmbkkggjklaaW.PrintLast Go.Proofs.YtgndmbkkggjklaaW.PrintMore Go.Proofs.Ytgndmbkkggjklaa.Bs
theorem str_size (l : List Int) : (strOfNums l).size = l.length := by
  show (strOfNums l).data.size = _
  simp [strOfNums]
def changesL : Nat → St → List S46 → List S46 × St
  | 0, s, acc => (acc, s)
  | n + 1, s, acc => if s.sh = true then (acc, s) else changesL n (changeP s).2 (acc ++ [(changeP s).1])
def commitP (bs : List Int) : S25 × Bool :=
  let s1 := numP 4 ⟨bs, false⟩
  let s2 := numP 8 s1.2
  let s3 := numP 8 s2.2
  let s4 := numP 2 s3.2
  let s5 := changesL s4.1.toNat s4.2 []
  (⟨s1.1, s2.1, s3.1, s5.1⟩, !s5.2.sh && decide (s5.2.bs.length = 0) && rightC ⟨s1.1, s2.1, s3.1, s5.1⟩)
theorem numP_len (n : Nat) (s : St) : (numP n s).2.bs.length ≤ s.bs.length := (takeP_len n s).2.2
theorem textP_len (s : St) : (textP s).1.size ≤ s.bs.length ∧ (textP s).2.bs.length ≤ s.bs.length := by
  have h1 := numP_len 2 s
  have h2 := takeP_len (numP 2 s).1.toNat (numP 2 s).2
  refine ⟨?_, Nat.le_trans h2.2.2 h1⟩
  show (strOfNums _).size ≤ _
  rw [str_size]
  exact Nat.le_trans h2.2.1 h1
theorem rowL_len : ∀ (n : Nat) (s : St) (acc : List Int), (rowL n s acc).1.length ≤ acc.length + n ∧ (rowL n s acc).2.bs.length ≤ s.bs.length
  | 0, s, acc => ⟨Nat.le_refl _, Nat.le_refl _⟩
  | n + 1, s, acc => by
    unfold rowL
    split
    · exact ⟨by simp, Nat.le_refl _⟩
    · have h := rowL_len n (numP 4 s).2 (acc ++ [(numP 4 s).1])
      have h2 := numP_len 4 s
      rw [List.length_append, List.length_singleton] at h
      omega
theorem rowP_len {s : St} (hb : Bys s.bs) : (rowP s).1.length ≤ 65535 ∧ (rowP s).2.bs.length ≤ s.bs.length := by
  have h1 := numP_len 2 s
  have h2 := rowL_len (numP 2 s).1.toNat (numP 2 s).2 []
  have h3 := numP_bound (n := 2) hb
  have h4 : (256 : Nat) ^ 2 = 65536 := by decide
  rw [h4] at h3
  simp only [List.length_nil] at h2
  unfold rowP
  omega
theorem changeP_sized {s : St} (hb : Bys s.bs) (hl : s.bs.length ≤ 9000000000000000000) : sized (changeP s).1 ∧ (changeP s).2.bs.length ≤ s.bs.length := by
  have l1 := numP_len 4 s
  have b1 := numP_bys (n := 4) hb
  unfold changeP
  generalize numP 4 s = n1 at *
  have l2 := numP_len 1 n1.2
  have b2 := numP_bys (n := 1) b1
  generalize numP 1 n1.2 = n2 at *
  split
  · exact ⟨⟨by simp, by simp, by simp, by simp⟩, by show n2.2.bs.length ≤ _; omega⟩
  · have l3 := numP_len 4 n2.2
    have b3 := numP_bys (n := 4) b2
    generalize numP 4 n2.2 = n3 at *
    have l4 := textP_len n3.2
    have b4 := textP_bys b3
    generalize textP n3.2 = n4 at *
    have l5 := textP_len n4.2
    have b5 := textP_bys b4
    generalize textP n4.2 = n5 at *
    have l6 := rowP_len b5
    have b6 := rowP_bys b5
    generalize rowP n5.2 = n6 at *
    have l7 := rowP_len b6
    generalize rowP n6.2 = n7 at *
    exact ⟨⟨by show n4.1.size ≤ _; omega, by show n5.1.size ≤ _; omega, by show n6.1.length ≤ _; omega, by show n7.1.length ≤ _; omega⟩, by show n7.2.bs.length ≤ _; omega⟩
theorem M46_open {w : World} {base : Nat} {ok : Nat → Prop} {x : S46} {cs : List Value} (h : k46.M w base ok x cs) : ∃ A5 c5 A6 c6, cs = [.int .i64 x.f0, .int .i64 x.f1.f0, .string x.f1.f1, .string x.f1.f2, .int .i64 x.f1.f3, .slice A5 x.f1.f4.length c5, .slice A6 x.f1.f5.length c6, .bool x.f1.f6] := by
  obtain ⟨A5, c5, A6, c6, e, _⟩ := k46_open (k46.K_of_M h)
  exact ⟨A5, c5, A6, c6, e⟩
theorem info46 : (Try.prog.info? 46).map (fun i => (i.zero, i.size, i.bytes)) = some (some (.agg #[.int .i64 0, .int .i64 0, .string ByteArray.empty, .string ByteArray.empty, .int .i64 0, .slice none 0 0, .slice none 0 0, .bool false]), 8, 112) := by kernel_rfl
theorem info25 : (Try.prog.info? 25).map (fun i => (i.zero, i.size, i.bytes)) = some (some (.agg #[.int .i64 0, .int .u64 0, .int .u64 0, .slice none 0 0]), 4, 48) := by kernel_rfl
end Go.Proofs.Ytgndmbkkggjklaa.Jo
