import Derived.Test.YtagihjlklbckmaaGreatDoorScPd
namespace Go.Proofs.YtagihjlklbckmaaGreatDoor.Sc
open Go.RowKit Go.Proofs.YtagihjlklbckmaaGreatDoorW.PrintWords Go.Proofs.YtagihjlklbckmaaGreatDoorW.PrintLast Go.Proofs.YtagihjlklbckmaaGreatDoorW.PrintMore
attribute [local go_sem] max2_int min2_int max_two min_two max_three min_three max_four min_four
set_option linter.unusedVariables false
set_option linter.unusedSimpArgs false
mutual
def breviaryref06_start.l0 : Nat → ByteArray → Int → Int → ByteArray → ByteArray → List (S68) → Bool → Option (Int × ByteArray × ByteArray × (List (S68)) × Bool × Int × Int)
  | 0, _, _, _, _, _, _, _ => none
  | k + 1, x0, x1, x209000, x209001, x209002, x209003, x209004 => (breviaryref06_Spaces.f k x0 x1).bind fun t209 => (if t209 = (x0.size : Int) then (some (0, (⟨#[]⟩ : ByteArray), (⟨#[]⟩ : ByteArray), ([] : List (S68)), false, 0, 16)) else (if 0 ≤ t209 then (if t209 < (x0.size : Int) then (if (bt x0 t209) = 62 then (some (x209000, x209001, x209002, x209003, x209004, wrap64 (t209 + 1), 0)) else (if (bt x0 t209) = 47 then ((breviaryref06_must.f x0 (wrap64 (t209 + 1)) 62).bind fun t210 => (some (x209000, x209001, x209002, x209003, true, wrap64 (t209 + 2), t210))) else (if t209 = x1 then (some (0, (⟨#[]⟩ : ByteArray), (⟨#[]⟩ : ByteArray), ([] : List (S68)), false, 0, 13)) else ((breviaryref06_attribute.f k x0 t209).bind fun bt211 => (if bt211.2.2.2 = 0 then (breviaryref06_start.l1 k x0 bt211.2.2.1 0 x209000 x209001 x209002 x209003 x209004 bt211.1 bt211.2.1) else (some (0, (⟨#[]⟩ : ByteArray), (⟨#[]⟩ : ByteArray), ([] : List (S68)), false, 0, bt211.2.2.2))))))) else (none)) else (none)))
def breviaryref06_start.l1 : Nat → ByteArray → Int → Int → Int → ByteArray → ByteArray → List (S68) → Bool → ByteArray → ByteArray → Option (Int × ByteArray × ByteArray × (List (S68)) × Bool × Int × Int)
  | 0, _, _, _, _, _, _, _, _, _, _ => none
  | k + 1, x0, x12, x14, x209000, x209001, x209002, x209003, x209004, x216000, x216001 => if x14 < (x209003.length : Int) then (if 0 ≤ x14 then (if ((rd_T68 x209003 x14).f0).toList = x216000.toList then (some (0, (⟨#[]⟩ : ByteArray), (⟨#[]⟩ : ByteArray), ([] : List (S68)), false, 0, 15)) else (breviaryref06_start.l1 k x0 x12 (wrap64 (x14 + 1)) x209000 x209001 x209002 x209003 x209004 x216000 x216001)) else (none)) else (if (x209003.length : Int) = 8 then (some (0, (⟨#[]⟩ : ByteArray), (⟨#[]⟩ : ByteArray), ([] : List (S68)), false, 0, 19)) else (if x209003.length < 4398046511104 then (breviaryref06_start.l0 k x0 x12 x209000 x209001 x209002 (x209003 ++ [(⟨x216000, x216001⟩ : S68)]) x209004) else (none)))
end
def breviaryref06_start.f (k : Nat) (a0 : ByteArray) (a1 : Int) : Option (Int × ByteArray × ByteArray × (List (S68)) × Bool × Int × Int) := (breviaryref06_name.f k a0 a1).bind fun bt206 => (if bt206.2 = 0 then (if 0 ≤ a1 then (if a1 ≤ bt206.1 then (if bt206.1 ≤ (a0.size : Int) then (breviaryref06_start.l0 k a0 bt206.1 1 (a0.extract (a1 : Int).toNat (bt206.1 : Int).toNat) (⟨#[]⟩ : ByteArray) ([] : List (S68)) false) else (none)) else (none)) else (none)) else (some (0, (⟨#[]⟩ : ByteArray), (⟨#[]⟩ : ByteArray), ([] : List (S68)), false, 0, bt206.2)))
def breviaryref06_start.T14 : Bool × List (List Nat × List Nat) := (true, [([], []), ([], []), ([1], [1]), ([], []), ([], []), ([4], [4]), ([3, 5], [3, 5]), ([0, 6, 0], [0]), ([2, 7, 0, 1, 2, 7], [2]), ([6, 8, 0, 1, 2, 3, 4, 5, 6, 7, 8], [6])])
def breviaryref06_start.B14 : List Nat := [0, 0, 2, 0, 0, 16, 56, 121, 255, 511]
theorem breviaryref06_start.tab14 : rtab .any (opsOf Tryz.f37 14) = breviaryref06_start.T14 := by kernel_rfl
theorem breviaryref06_start.bits14 : waitsOk breviaryref06_start.T14.2 breviaryref06_start.B14 = true := by kernel_rfl
def breviaryref06_start.T23 : Bool × List (List Nat × List Nat) := (true, [([], []), ([0], [0]), ([], []), ([1, 2], [1, 2]), ([3], [3]), ([4], [4]), ([], []), ([6], [6]), ([5, 7], [5, 7])])
def breviaryref06_start.B23 : List Nat := [0, 1, 0, 7, 15, 31, 0, 64, 255]
theorem breviaryref06_start.tab23 : rtab .any (opsOf Tryz.f37 23) = breviaryref06_start.T23 := by kernel_rfl
theorem breviaryref06_start.bits23 : waitsOk breviaryref06_start.T23.2 breviaryref06_start.B23 = true := by kernel_rfl
set_option maxHeartbeats 8000000 in
set_option maxRecDepth 100000 in
theorem breviaryref06_start.calls (k : Nat) (a0 : ByteArray) (a1 : Int) (r1 : Int) (r2 : ByteArray) (r3 : ByteArray) (r4 : List (S68)) (r5 : Bool) (r6 : Int) (r7 : Int) (w : World) (h : breviaryref06_start.f k a0 a1 = some (r1, r2, r3, r4, r5, r6, r7)) :
    Calls Tryz.prog 37 #[.string a0, .int .i64 a1] w fun e w' => ∃ v3_ : Value, e = .returned (.tuple #[.agg #[.int .i64 r1, .string r2, .string r3, v3_, .bool r5], .int .i64 r6, .int .i64 r7]) ∧ Kd.R k68 68 w' w.heap.size (fun _ => True) v3_ r4 ∧ Below w.heap.size w w' := by
  have hu33 := Tryz.underlying33
  have hu68 := Tryz.underlying68
  have HB := Aside0.mk (Below.refl w.heap.size w)
  have H : ((breviaryref06_name.f k a0 a1).bind fun bt206 => (if bt206.2 = 0 then (if 0 ≤ a1 then (if a1 ≤ bt206.1 then (if bt206.1 ≤ (a0.size : Int) then (breviaryref06_start.l0 k a0 bt206.1 1 (a0.extract (a1 : Int).toNat (bt206.1 : Int).toNat) (⟨#[]⟩ : ByteArray) ([] : List (S68)) false) else (none)) else (none)) else (none)) else (some (0, (⟨#[]⟩ : ByteArray), (⟨#[]⟩ : ByteArray), ([] : List (S68)), false, 0, bt206.2)))) = some (r1, r2, r3, r4, r5, r6, r7) := h
  clear h
  replace H := Option.bind_eq_some_iff.mp H
  obtain ⟨⟨t206, t207⟩, A30, H⟩ := H
  try dsimp only at H
  have A3 := Aside0.mk A30
  clear A30
  by_cases c4 : t207 = 0
  · rw [if_pos c4] at H
    have c4b0 : (t207 == 0) = true := beq_iff_eq.mpr c4
    have c4b1 : (t207 != 0) = false := bne_eq_false_iff_eq.mpr c4
    clear c4
    by_cases c5 : 0 ≤ a1
    · rw [if_pos c5] at H
      have c5b0 := eq_true c5
      have c5b1 : decide (0 ≤ a1) = true := decide_eq_true c5
      clear c5
      by_cases c6 : a1 ≤ t206
      · rw [if_pos c6] at H
        have c6b0 := eq_true c6
        have c6b1 : decide (a1 ≤ t206) = true := decide_eq_true c6
        clear c6
        by_cases c7 : t206 ≤ (a0.size : Int)
        · rw [if_pos c7] at H
          have c7b0 := eq_true c7
          have c7b1 : decide (t206 ≤ (a0.size : Int)) = true := decide_eq_true c7
          clear c7
          have H' := Aside0.mk H
          clear H
          go_enter Tryz.func37, Tryz.ntmps37
          go_wp2_with (first | ((with_reducible refine gate_dst (N := 4) rfl ?_); refine box_event ?hg (N := 4) ?hd (cs := #[.int .i64 0, .string (⟨#[]⟩ : ByteArray), .string (⟨#[]⟩ : ByteArray), .slice none 0 0, .bool false]) (t := 33) ?hr ?_; (case hd => rfl); (case hg => rfl); (case hr => first | (go_simp; done) | (go_simp; rfl)); intro gb205 hg w8 hbox hb; have n0_ := Aside0.mk (below_step (by repeat (first | (with_reducible first | exact HB.out | apply below_alloc | apply pw_below_drewN | apply below_drew1) | exact HB.out)) hb); have n1_ := Aside0.mk (hbox); have n2_ := Aside0.mk ((by rw [hg]; exact (below_size (by repeat (first | (with_reducible first | exact HB.out | apply below_alloc | apply pw_below_drewN | apply below_drew1) | exact HB.out))) : w.heap.size ≤ gb205)); have n3_ := Aside0.mk ((by rw [hg]; exact (below_size (by repeat (first | (with_reducible first | exact HB.out | apply below_alloc | apply pw_below_drewN | apply below_drew1) | exact HB.out))) : w.heap.size ≤ gb205)); clear HB; have HB := n0_; have BK205 := n1_; have GW205 := n2_; have GE205 := n3_; clear n0_ n1_ n2_ n3_; clear hb hbox hg) | ((with_reducible refine gate_callee (f := 34) rfl ?_); refine goesL_ (some 18) rfl rfl Tryz.func34 (by kernel_rfl) rfl #[.string a0, .int .i64 a1] rfl (by (try simp only [List.map_toArray, List.map_cons, List.map_nil]); first | done | rfl | (simp only [List.length_drop, List.length_take]; rfl)) ?_; (with_reducible refine (breviaryref06_name.calls k a0 a1 t206 t207 _ A3.out).mono ?_); rintro e w9 ⟨rfl, hb⟩; refine ⟨_, rfl, ?_⟩; have n0_ := Aside0.mk (blk_below (g := gb205) (o := .cells #[.int .i64 0, .string (⟨#[]⟩ : ByteArray), .string (⟨#[]⟩ : ByteArray), .slice none 0 0, .bool false] 33 (0, 0)) (by (with_reducible repeat (first | refine blk_drewN ?_ _ | refine blk_drew ?_ | refine blk_alloc ?_ _)); exact BK205.out) hb); have n1_ := Aside0.mk (below_step (by repeat (first | (with_reducible first | exact HB.out | apply below_alloc | apply pw_below_drewN | apply below_drew1 | refine below_set ?_ GE205.out) | exact HB.out)) hb); clear BK205; clear HB; have BK205 := n0_; have HB := n1_; clear n0_ n1_; (try clear hb); (try clear hb2); (try clear hk); (try clear hi)) | ((with_reducible refine gate_dst (N := 9) rfl ?_); refine box_event ?hg (N := 9) ?hd (cs := #[.int .i64 0, .string (⟨#[]⟩ : ByteArray), .string (⟨#[]⟩ : ByteArray), .slice none 0 0, .bool false]) (t := 33) ?hr ?_; (case hd => rfl); (case hg => rfl); (case hr => first | (go_simp; done) | (go_simp; rfl)); intro gb208 hg w10 hbox hb; have n0_ := Aside0.mk (blk_below (g := gb205) (o := .cells #[.int .i64 0, .string (⟨#[]⟩ : ByteArray), .string (⟨#[]⟩ : ByteArray), .slice none 0 0, .bool false] 33 (0, 0)) (by (with_reducible repeat (first | refine blk_drewN ?_ _ | refine blk_drew ?_ | refine blk_alloc ?_ _)); exact BK205.out) hb); have n1_ := Aside0.mk (below_step (by repeat (first | (with_reducible first | exact HB.out | apply below_alloc | apply pw_below_drewN | apply below_drew1 | refine below_set ?_ GE205.out) | exact HB.out)) hb); have n2_ := Aside0.mk (hbox); have n3_ := Aside0.mk ((by rw [hg]; exact (below_size (by repeat (first | (with_reducible first | exact HB.out | apply below_alloc | apply pw_below_drewN | apply below_drew1 | refine below_set ?_ GE205.out) | exact HB.out))) : w.heap.size ≤ gb208)); have n4_ := Aside0.mk ((by rw [hg]; exact (below_size (by repeat (first | (with_reducible first | exact HB.out | apply below_alloc | apply pw_below_drewN | apply below_drew1 | refine below_set ?_ GE205.out) | exact HB.out))) : w.heap.size ≤ gb208)); have n5_ := Aside0.mk ((by rw [hg]; exact Nat.ne_of_lt (blk_lt (g := gb205) (o := .cells #[.int .i64 0, .string (⟨#[]⟩ : ByteArray), .string (⟨#[]⟩ : ByteArray), .slice none 0 0, .bool false] 33 (0, 0)) (by (with_reducible repeat (first | refine blk_drewN ?_ _ | refine blk_drew ?_ | refine blk_alloc ?_ _)); exact BK205.out)) : gb205 ≠ gb208)); have n6_ := Aside0.mk ((by rw [hg]; exact Nat.ne_of_gt (blk_lt (g := gb205) (o := .cells #[.int .i64 0, .string (⟨#[]⟩ : ByteArray), .string (⟨#[]⟩ : ByteArray), .slice none 0 0, .bool false] 33 (0, 0)) (by (with_reducible repeat (first | refine blk_drewN ?_ _ | refine blk_drew ?_ | refine blk_alloc ?_ _)); exact BK205.out)) : gb208 ≠ gb205)); clear BK205; clear HB; have BK205 := n0_; have HB := n1_; have BK208 := n2_; have GW208 := n3_; have GE208 := n4_; have NB205_208 := n5_; have NB208_205 := n6_; clear n0_ n1_ n2_ n3_ n4_ n5_ n6_; clear hb hbox hg; have hnb11 := NB208_205.out; have hnc11 := NB205_208.out; have hcz12_0 : w10.cell? ⟨gb208, 0, none⟩ = some (.int .i64 0) := (blk_cell BK208.out 0).trans rfl; have hcz12_1 : w10.cell? ⟨gb208, 1, none⟩ = some (.string (⟨#[]⟩ : ByteArray)) := (blk_cell BK208.out 1).trans rfl; have hcz12_2 : w10.cell? ⟨gb208, 2, none⟩ = some (.string (⟨#[]⟩ : ByteArray)) := (blk_cell BK208.out 2).trans rfl; have hcz12_3 : w10.cell? ⟨gb208, 3, none⟩ = some (.slice none 0 0) := (blk_cell BK208.out 3).trans rfl; have hcz12_4 : w10.cell? ⟨gb208, 4, none⟩ = some (.bool false) := (blk_cell BK208.out 4).trans rfl; have hfz12_0 := blk_frozen BK208.out 0; have hfz12_1 := blk_frozen BK208.out 1; have hfz12_2 := blk_frozen BK208.out 2; have hfz12_3 := blk_frozen BK208.out 3; have hfz12_4 := blk_frozen BK208.out 4))
          go_loopg [1] k (fun kq v1 w' => ∃ (x1_1 : Int) (x206000_1 : Int) (x206001_1 : ByteArray) (x206002_1 : ByteArray) (x206004_1 : Bool) (x209003_1 : List (S68)) (x209004_1 : Bool) (u209003 : Value), v1 = .int .i64 x1_1 ∧ Aside0 (breviaryref06_start.l0 kq a0 x1_1 1 (a0.extract (a1 : Int).toNat (t206 : Int).toNat) (⟨#[]⟩ : ByteArray) x209003_1 x209004_1 = some (r1, r2, r3, r4, r5, r6, r7)) ∧ Aside0 (kq ≤ k) ∧ Aside0 (Kd.R k68 68 w' w.heap.size (fun _ => True) u209003 x209003_1) ∧ Aside0 (w'.heap[gb205]? = some (.cells #[.int .i64 x206000_1, .string x206001_1, .string x206002_1, (.slice none 0 0), .bool x206004_1] 33 (0, 0))) ∧ Aside0 (w'.heap[gb208]? = some (.cells #[.int .i64 1, .string (a0.extract (a1 : Int).toNat (t206 : Int).toNat), .string (⟨#[]⟩ : ByteArray), u209003, .bool x209004_1] 33 (0, 0))) ∧ Aside0 (Below w.heap.size w w'))
          case atStart => exact ⟨(t206), (0), ((⟨#[]⟩ : ByteArray)), ((⟨#[]⟩ : ByteArray)), (false), (([] : List (S68))), (false), (.slice none 0 0), (by first | rfl | (simp; done) | (simp [*]; done)), H', ⟨Nat.le_refl _⟩, ⟨by first | exact Kd.R_nil _ _ _ _ _ | exact Kd.N_nil _ _ _ _ _ | exact Kd.V_nil _ _ _ _ _ | exact Kd.Q_nil _ _ _ _ _ | exact Kd.S_nil _ _ _ _ _⟩, ⟨by (with_reducible repeat (first | refine blk_drewN ?_ _ | refine blk_drew ?_ | refine blk_alloc ?_ _)); refine blk_far ?_ NB205_208.out _; (with_reducible repeat (first | refine blk_drewN ?_ _ | refine blk_drew ?_ | refine blk_alloc ?_ _)); refine blk_far ?_ NB205_208.out _; (with_reducible repeat (first | refine blk_drewN ?_ _ | refine blk_drew ?_ | refine blk_alloc ?_ _)); refine blk_far ?_ NB205_208.out _; (with_reducible repeat (first | refine blk_drewN ?_ _ | refine blk_drew ?_ | refine blk_alloc ?_ _)); refine blk_far ?_ NB205_208.out _; (with_reducible repeat (first | refine blk_drewN ?_ _ | refine blk_drew ?_ | refine blk_alloc ?_ _)); refine blk_far ?_ NB205_208.out _; (with_reducible repeat (first | refine blk_drewN ?_ _ | refine blk_drew ?_ | refine blk_alloc ?_ _)); exact BK205.out⟩, ⟨by (with_reducible repeat (first | refine blk_drewN ?_ _ | refine blk_drew ?_ | refine blk_alloc ?_ _)); refine blk_put (cs := #[.int .i64 1, .string (a0.extract (a1 : Int).toNat (t206 : Int).toNat), .string (⟨#[]⟩ : ByteArray), .slice none 0 0, .bool false]) ?_ 4 _ rfl; (with_reducible repeat (first | refine blk_drewN ?_ _ | refine blk_drew ?_ | refine blk_alloc ?_ _)); refine blk_put (cs := #[.int .i64 1, .string (a0.extract (a1 : Int).toNat (t206 : Int).toNat), .string (⟨#[]⟩ : ByteArray), .slice none 0 0, .bool false]) ?_ 3 _ rfl; (with_reducible repeat (first | refine blk_drewN ?_ _ | refine blk_drew ?_ | refine blk_alloc ?_ _)); refine blk_put (cs := #[.int .i64 1, .string (a0.extract (a1 : Int).toNat (t206 : Int).toNat), .string (⟨#[]⟩ : ByteArray), .slice none 0 0, .bool false]) ?_ 2 _ rfl; (with_reducible repeat (first | refine blk_drewN ?_ _ | refine blk_drew ?_ | refine blk_alloc ?_ _)); refine blk_put (cs := #[.int .i64 1, .string (⟨#[]⟩ : ByteArray), .string (⟨#[]⟩ : ByteArray), .slice none 0 0, .bool false]) ?_ 1 _ rfl; (with_reducible repeat (first | refine blk_drewN ?_ _ | refine blk_drew ?_ | refine blk_alloc ?_ _)); refine blk_put (cs := #[.int .i64 0, .string (⟨#[]⟩ : ByteArray), .string (⟨#[]⟩ : ByteArray), .slice none 0 0, .bool false]) ?_ 0 _ rfl; (with_reducible repeat (first | refine blk_drewN ?_ _ | refine blk_drew ?_ | refine blk_alloc ?_ _)); exact BK208.out⟩, ⟨by repeat (first | (with_reducible first | exact HB.out | apply below_alloc | apply pw_below_drewN | apply below_drew1 | refine below_set ?_ GE205.out | refine below_set ?_ GE208.out) | exact HB.out)⟩⟩
          case round =>
            clear H'
            try clear c1
            try clear p2
            try clear c3
            try clear c4
            try clear c4b0
            try clear c4b1
            try clear c5
            try clear c5b0
            try clear c5b1
            try clear c6
            try clear c6b0
            try clear c6b1
            try clear c7
            try clear c7b0
            try clear c7b1
            try clear c11
            try clear hcz12_0
            try clear hcz12_1
            try clear hcz12_2
            try clear hcz12_3
            try clear hcz12_4
            try clear hfz12_0
            try clear hfz12_1
            try clear hfz12_2
            try clear hfz12_3
            try clear hfz12_4
            obtain ⟨x1_1, x206000_1, x206001_1, x206002_1, x206004_1, x209003_1, x209004_1, u209003, rfl, HA, HK1, HO_209003, BK205, BK208, HB⟩ := hrel
            cases gk with
            | zero => exact absurd HA.out (by simp [breviaryref06_start.l0])
            | succ k1 =>
              have H := HA.out
              clear HA
              simp only [breviaryref06_start.l0] at H
              replace H := Option.bind_eq_some_iff.mp H
              obtain ⟨t209, A130, H⟩ := H
              try dsimp only at H
              have A13 := Aside0.mk A130
              clear A130
              by_cases c14 : t209 = (a0.size : Int)
              · rw [if_pos c14] at H
                have c14b0 : (t209 == (a0.size : Int)) = true := beq_iff_eq.mpr c14
                have c14b1 : (t209 != (a0.size : Int)) = false := bne_eq_false_iff_eq.mpr c14
                clear c14
                simp only [Option.some.injEq, Prod.mk.injEq] at H
                obtain ⟨rfl, rfl, rfl, rfl, rfl, rfl, rfl⟩ := H
                go_wp2_with (first | ((with_reducible refine gate_callee (f := 35) rfl ?_); refine goesL_ (some 34) rfl rfl Tryz.func35 (by kernel_rfl) rfl #[.string a0, .int .i64 x1_1] rfl (by (try simp only [List.map_toArray, List.map_cons, List.map_nil]); first | done | rfl | (simp only [List.length_drop, List.length_take]; rfl)) ?_; (with_reducible refine (breviaryref06_Spaces.calls k1 a0 x1_1 t209 _ A13.out).mono ?_); rintro e w' ⟨rfl, ⟨nd, rfl⟩⟩; refine ⟨_, rfl, ?_⟩; (try (rw [drewN_self wr]; generalize hq_ : World.drewN wr _ = wr; have n0_ : Aside0 (Kd.R k68 68 wr w.heap.size (fun _ => True) u209003 x209003_1) := ⟨by rw [← hq_]; exact (by (with_reducible repeat (first | apply Kd.R_alloc | apply Kd.R_drewN | apply Kd.R_drew)); exact HO_209003.out)⟩; have n1_ : Aside0 (wr.heap[gb205]? = some (.cells #[.int .i64 x206000_1, .string x206001_1, .string x206002_1, .slice none 0 0, .bool x206004_1] 33 (0, 0))) := ⟨by rw [← hq_]; exact (by (with_reducible repeat (first | refine blk_drewN ?_ _ | refine blk_drew ?_ | refine blk_alloc ?_ _)); exact BK205.out)⟩; have n2_ : Aside0 (wr.heap[gb208]? = some (.cells #[.int .i64 1, .string (a0.extract (a1 : Int).toNat (t206 : Int).toNat), .string (⟨#[]⟩ : ByteArray), u209003, .bool x209004_1] 33 (0, 0))) := ⟨by rw [← hq_]; exact (by (with_reducible repeat (first | refine blk_drewN ?_ _ | refine blk_drew ?_ | refine blk_alloc ?_ _)); exact BK208.out)⟩; have n3_ : Aside0 (Below w.heap.size w wr) := ⟨by rw [← hq_]; exact (by repeat (first | (with_reducible first | exact HB.out | apply below_alloc | apply pw_below_drewN | apply below_drew1 | refine below_set ?_ GE205.out | refine below_set ?_ GE208.out) | exact HB.out))⟩; clear HO_209003 BK205 BK208 HB hq_; have HO_209003 := n0_; have BK205 := n1_; have BK208 := n2_; have HB := n3_; clear n0_ n1_ n2_ n3_)); have hnb15 := NB205_208.out; have hnc15 := NB208_205.out; have hcz16_0 : wr.cell? ⟨gb205, 0, none⟩ = some (.int .i64 x206000_1) := (blk_cell BK205.out 0).trans rfl; have hcz16_1 : wr.cell? ⟨gb205, 1, none⟩ = some (.string x206001_1) := (blk_cell BK205.out 1).trans rfl; have hcz16_2 : wr.cell? ⟨gb205, 2, none⟩ = some (.string x206002_1) := (blk_cell BK205.out 2).trans rfl; have hcz16_3 : wr.cell? ⟨gb205, 3, none⟩ = some (.slice none 0 0) := (blk_cell BK205.out 3).trans rfl; have hcz16_4 : wr.cell? ⟨gb205, 4, none⟩ = some (.bool x206004_1) := (blk_cell BK205.out 4).trans rfl; have hfz16_0 := blk_frozen BK205.out 0; have hfz16_1 := blk_frozen BK205.out 1; have hfz16_2 := blk_frozen BK205.out 2; have hfz16_3 := blk_frozen BK205.out 3; have hfz16_4 := blk_frozen BK205.out 4))
                refine bodyPost_ret (results_ctt rfl _ _ gb205 33 #[.int .i64 0, .string (⟨#[]⟩ : ByteArray), .string (⟨#[]⟩ : ByteArray), .slice none 0 0, .bool false] (0, 0) _ rfl (by (with_reducible repeat (first | refine blk_drewN ?_ _ | refine blk_drew ?_ | refine blk_alloc ?_ _)); refine blk_put (cs := #[.int .i64 0, .string (⟨#[]⟩ : ByteArray), .string (⟨#[]⟩ : ByteArray), .slice none 0 0, .bool x206004_1]) ?_ 4 _ rfl; (with_reducible repeat (first | refine blk_drewN ?_ _ | refine blk_drew ?_ | refine blk_alloc ?_ _)); refine blk_put (cs := #[.int .i64 0, .string (⟨#[]⟩ : ByteArray), .string (⟨#[]⟩ : ByteArray), .slice none 0 0, .bool x206004_1]) ?_ 3 _ rfl; (with_reducible repeat (first | refine blk_drewN ?_ _ | refine blk_drew ?_ | refine blk_alloc ?_ _)); refine blk_put (cs := #[.int .i64 0, .string (⟨#[]⟩ : ByteArray), .string x206002_1, .slice none 0 0, .bool x206004_1]) ?_ 2 _ rfl; (with_reducible repeat (first | refine blk_drewN ?_ _ | refine blk_drew ?_ | refine blk_alloc ?_ _)); refine blk_put (cs := #[.int .i64 0, .string x206001_1, .string x206002_1, .slice none 0 0, .bool x206004_1]) ?_ 1 _ rfl; (with_reducible repeat (first | refine blk_drewN ?_ _ | refine blk_drew ?_ | refine blk_alloc ?_ _)); refine blk_put (cs := #[.int .i64 x206000_1, .string x206001_1, .string x206002_1, .slice none 0 0, .bool x206004_1]) ?_ 0 _ rfl; (with_reducible repeat (first | refine blk_drewN ?_ _ | refine blk_drew ?_ | refine blk_alloc ?_ _)); exact BK205.out) Tryz.underlying33 rfl (by kernel_rfl)) rfl ?_
                exact ⟨_, by first | rfl | (simp [errW_none, errW_some] <;> rfl) | (simp [*, errW_none, errW_some] <;> rfl), by first | exact Kd.R_nil _ _ _ _ _ | exact Kd.N_nil _ _ _ _ _ | exact Kd.V_nil _ _ _ _ _ | exact Kd.Q_nil _ _ _ _ _ | exact Kd.S_nil _ _ _ _ _, by repeat (first | (with_reducible first | exact HB.out | apply below_alloc | apply pw_below_drewN | apply below_drew1 | refine below_set ?_ GE205.out | refine below_set ?_ GE208.out) | exact HB.out)⟩
              · rw [if_neg c14] at H
                have c14b0 : (t209 == (a0.size : Int)) = false := beq_eq_false_iff_ne.mpr c14
                have c14b1 : (t209 != (a0.size : Int)) = true := bne_iff_ne.mpr c14
                by_cases c17 : 0 ≤ t209
                · rw [if_pos c17] at H
                  have c17b0 : decide (0 ≤ t209) = true := decide_eq_true c17
                  clear c17
                  by_cases c18 : t209 < (a0.size : Int)
                  · rw [if_pos c18] at H
                    have c18b0 : decide (t209 < (a0.size : Int)) = true := decide_eq_true c18
                    clear c18
                    by_cases c20 : (bt a0 t209) = 62
                    · rw [if_pos c20] at H
                      have c20b0 : ((bt a0 t209) == 62) = true := beq_iff_eq.mpr c20
                      have c20b1 : ((bt a0 t209) != 62) = false := bne_eq_false_iff_eq.mpr c20
                      clear c20
                      simp only [Option.some.injEq, Prod.mk.injEq] at H
                      obtain ⟨rfl, rfl, rfl, rfl, rfl, rfl, rfl⟩ := H
                      go_wp2_with (first | ((with_reducible refine gate_callee (f := 35) rfl ?_); refine goesL_ (some 34) rfl rfl Tryz.func35 (by kernel_rfl) rfl #[.string a0, .int .i64 x1_1] rfl (by (try simp only [List.map_toArray, List.map_cons, List.map_nil]); first | done | rfl | (simp only [List.length_drop, List.length_take]; rfl)) ?_; (with_reducible refine (breviaryref06_Spaces.calls k1 a0 x1_1 t209 _ A13.out).mono ?_); rintro e w' ⟨rfl, ⟨nd, rfl⟩⟩; refine ⟨_, rfl, ?_⟩; (try (rw [drewN_self wr]; generalize hq_ : World.drewN wr _ = wr; have n0_ : Aside0 (Kd.R k68 68 wr w.heap.size (fun _ => True) u209003 x209003_1) := ⟨by rw [← hq_]; exact (by (with_reducible repeat (first | apply Kd.R_alloc | apply Kd.R_drewN | apply Kd.R_drew)); exact HO_209003.out)⟩; have n1_ : Aside0 (wr.heap[gb205]? = some (.cells #[.int .i64 x206000_1, .string x206001_1, .string x206002_1, .slice none 0 0, .bool x206004_1] 33 (0, 0))) := ⟨by rw [← hq_]; exact (by (with_reducible repeat (first | refine blk_drewN ?_ _ | refine blk_drew ?_ | refine blk_alloc ?_ _)); exact BK205.out)⟩; have n2_ : Aside0 (wr.heap[gb208]? = some (.cells #[.int .i64 1, .string (a0.extract (a1 : Int).toNat (t206 : Int).toNat), .string (⟨#[]⟩ : ByteArray), u209003, .bool x209004_1] 33 (0, 0))) := ⟨by rw [← hq_]; exact (by (with_reducible repeat (first | refine blk_drewN ?_ _ | refine blk_drew ?_ | refine blk_alloc ?_ _)); exact BK208.out)⟩; have n3_ : Aside0 (Below w.heap.size w wr) := ⟨by rw [← hq_]; exact (by repeat (first | (with_reducible first | exact HB.out | apply below_alloc | apply pw_below_drewN | apply below_drew1 | refine below_set ?_ GE205.out | refine below_set ?_ GE208.out) | exact HB.out))⟩; clear HO_209003 BK205 BK208 HB hq_; have HO_209003 := n0_; have BK205 := n1_; have BK208 := n2_; have HB := n3_; clear n0_ n1_ n2_ n3_)); have p19 : 0 ≤ (t209 : Int) := of_decide_eq_true (by first | (with_reducible assumption) | assumption); have q19 : t209 < (a0.size : Int) := of_decide_eq_true (by first | (with_reducible assumption) | assumption); have hx19 := bt_at a0 t209; replace p19 := eq_true p19; replace q19 := eq_true q19; have hnb21 := NB208_205.out; have hnc21 := NB205_208.out; have hcz22_0 : wr.cell? ⟨gb208, 0, none⟩ = some (.int .i64 1) := (blk_cell BK208.out 0).trans rfl; have hcz22_1 : wr.cell? ⟨gb208, 1, none⟩ = some (.string (a0.extract (a1 : Int).toNat (t206 : Int).toNat)) := (blk_cell BK208.out 1).trans rfl; have hcz22_2 : wr.cell? ⟨gb208, 2, none⟩ = some (.string (⟨#[]⟩ : ByteArray)) := (blk_cell BK208.out 2).trans rfl; have hcz22_3 : wr.cell? ⟨gb208, 3, none⟩ = some (u209003) := (blk_cell BK208.out 3).trans rfl; have hcz22_4 : wr.cell? ⟨gb208, 4, none⟩ = some (.bool x209004_1) := (blk_cell BK208.out 4).trans rfl; have hfz22_0 := blk_frozen BK208.out 0; have hfz22_1 := blk_frozen BK208.out 1; have hfz22_2 := blk_frozen BK208.out 2; have hfz22_3 := blk_frozen BK208.out 3; have hfz22_4 := blk_frozen BK208.out 4; have hcz23_0 : wr.cell? ⟨gb205, 0, none⟩ = some (.int .i64 x206000_1) := (blk_cell BK205.out 0).trans rfl; have hcz23_1 : wr.cell? ⟨gb205, 1, none⟩ = some (.string x206001_1) := (blk_cell BK205.out 1).trans rfl; have hcz23_2 : wr.cell? ⟨gb205, 2, none⟩ = some (.string x206002_1) := (blk_cell BK205.out 2).trans rfl; have hcz23_3 : wr.cell? ⟨gb205, 3, none⟩ = some (.slice none 0 0) := (blk_cell BK205.out 3).trans rfl; have hcz23_4 : wr.cell? ⟨gb205, 4, none⟩ = some (.bool x206004_1) := (blk_cell BK205.out 4).trans rfl; have hfz23_0 := blk_frozen BK205.out 0; have hfz23_1 := blk_frozen BK205.out 1; have hfz23_2 := blk_frozen BK205.out 2; have hfz23_3 := blk_frozen BK205.out 3; have hfz23_4 := blk_frozen BK205.out 4; obtain ⟨Ao24, co24, eo24⟩ := Kd.R_slice HO_209003.out; subst eo24))
                      refine bodyPost_ret (results_ctt rfl _ _ gb205 33 #[.int .i64 1, .string (a0.extract (a1 : Int).toNat (t206 : Int).toNat), .string (⟨#[]⟩ : ByteArray), .slice Ao24 x209003_1.length co24, .bool x209004_1] (0, 0) _ rfl (by (with_reducible repeat (first | refine blk_drewN ?_ _ | refine blk_drew ?_ | refine blk_alloc ?_ _)); refine blk_put (cs := #[.int .i64 1, .string (a0.extract (a1 : Int).toNat (t206 : Int).toNat), .string (⟨#[]⟩ : ByteArray), .slice Ao24 x209003_1.length co24, .bool x206004_1]) ?_ 4 _ rfl; (with_reducible repeat (first | refine blk_drewN ?_ _ | refine blk_drew ?_ | refine blk_alloc ?_ _)); refine blk_put (cs := #[.int .i64 1, .string (a0.extract (a1 : Int).toNat (t206 : Int).toNat), .string (⟨#[]⟩ : ByteArray), .slice none 0 0, .bool x206004_1]) ?_ 3 _ rfl; (with_reducible repeat (first | refine blk_drewN ?_ _ | refine blk_drew ?_ | refine blk_alloc ?_ _)); refine blk_put (cs := #[.int .i64 1, .string (a0.extract (a1 : Int).toNat (t206 : Int).toNat), .string x206002_1, .slice none 0 0, .bool x206004_1]) ?_ 2 _ rfl; (with_reducible repeat (first | refine blk_drewN ?_ _ | refine blk_drew ?_ | refine blk_alloc ?_ _)); refine blk_put (cs := #[.int .i64 1, .string x206001_1, .string x206002_1, .slice none 0 0, .bool x206004_1]) ?_ 1 _ rfl; (with_reducible repeat (first | refine blk_drewN ?_ _ | refine blk_drew ?_ | refine blk_alloc ?_ _)); refine blk_put (cs := #[.int .i64 x206000_1, .string x206001_1, .string x206002_1, .slice none 0 0, .bool x206004_1]) ?_ 0 _ rfl; (with_reducible repeat (first | refine blk_drewN ?_ _ | refine blk_drew ?_ | refine blk_alloc ?_ _)); exact BK205.out) Tryz.underlying33 rfl (by kernel_rfl)) rfl ?_
                      exact ⟨_, by first | rfl | (simp [errW_none, errW_some] <;> rfl) | (simp [*, errW_none, errW_some] <;> rfl), by (with_reducible repeat (first | apply Kd.R_alloc | apply Kd.R_drewN | apply Kd.R_drew)); exact Kd.R_mono (Kd.R_far (p := ⟨gb205, 4, none⟩) (Kd.R_far (p := ⟨gb205, 3, none⟩) (Kd.R_far (p := ⟨gb205, 2, none⟩) (Kd.R_far (p := ⟨gb205, 1, none⟩) (Kd.R_far (p := ⟨gb205, 0, none⟩) (Kd.R_types HO_209003.out BK205.out (by decide)) (fun _ hk => hk.2) (.int .i64 1)) (fun _ hk => hk.2) (.string (a0.extract (a1 : Int).toNat (t206 : Int).toNat))) (fun _ hk => hk.2) (.string (⟨#[]⟩ : ByteArray))) (fun _ hk => hk.2) (.slice Ao24 x209003_1.length co24)) (fun _ hk => hk.2) (.bool x209004_1)) (fun _ hk => trivial), by repeat (first | (with_reducible first | exact HB.out | apply below_alloc | apply pw_below_drewN | apply below_drew1 | refine below_set ?_ GE205.out | refine below_set ?_ GE208.out) | exact HB.out)⟩
                    · rw [if_neg c20] at H
                      have c20b0 : ((bt a0 t209) == 62) = false := beq_eq_false_iff_ne.mpr c20
                      have c20b1 : ((bt a0 t209) != 62) = true := bne_iff_ne.mpr c20
                      by_cases c26 : (bt a0 t209) = 47
                      · rw [if_pos c26] at H
                        have c26b0 : ((bt a0 t209) == 47) = true := beq_iff_eq.mpr c26
                        have c26b1 : ((bt a0 t209) != 47) = false := bne_eq_false_iff_eq.mpr c26
                        clear c26
                        replace H := Option.bind_eq_some_iff.mp H
                        obtain ⟨t210, A270, H⟩ := H
                        try dsimp only at H
                        have A27 := Aside0.mk A270
                        clear A270
                        simp only [Option.some.injEq, Prod.mk.injEq] at H
                        obtain ⟨rfl, rfl, rfl, rfl, rfl, rfl, rfl⟩ := H
                        try go_wp2_with (first | ((with_reducible refine gate_callee (f := 35) rfl ?_); refine goesL_ (some 34) rfl rfl Tryz.func35 (by kernel_rfl) rfl #[.string a0, .int .i64 x1_1] rfl (by (try simp only [List.map_toArray, List.map_cons, List.map_nil]); first | done | rfl | (simp only [List.length_drop, List.length_take]; rfl)) ?_; (with_reducible refine (breviaryref06_Spaces.calls k1 a0 x1_1 t209 _ A13.out).mono ?_); rintro e w' ⟨rfl, ⟨nd, rfl⟩⟩; refine ⟨_, rfl, ?_⟩; (try (rw [drewN_self wr]; generalize hq_ : World.drewN wr _ = wr; have n0_ : Aside0 (Kd.R k68 68 wr w.heap.size (fun _ => True) u209003 x209003_1) := ⟨by rw [← hq_]; exact (by (with_reducible repeat (first | apply Kd.R_alloc | apply Kd.R_drewN | apply Kd.R_drew)); exact HO_209003.out)⟩; have n1_ : Aside0 (wr.heap[gb205]? = some (.cells #[.int .i64 x206000_1, .string x206001_1, .string x206002_1, .slice none 0 0, .bool x206004_1] 33 (0, 0))) := ⟨by rw [← hq_]; exact (by (with_reducible repeat (first | refine blk_drewN ?_ _ | refine blk_drew ?_ | refine blk_alloc ?_ _)); exact BK205.out)⟩; have n2_ : Aside0 (wr.heap[gb208]? = some (.cells #[.int .i64 1, .string (a0.extract (a1 : Int).toNat (t206 : Int).toNat), .string (⟨#[]⟩ : ByteArray), u209003, .bool x209004_1] 33 (0, 0))) := ⟨by rw [← hq_]; exact (by (with_reducible repeat (first | refine blk_drewN ?_ _ | refine blk_drew ?_ | refine blk_alloc ?_ _)); exact BK208.out)⟩; have n3_ : Aside0 (Below w.heap.size w wr) := ⟨by rw [← hq_]; exact (by repeat (first | (with_reducible first | exact HB.out | apply below_alloc | apply pw_below_drewN | apply below_drew1 | refine below_set ?_ GE205.out | refine below_set ?_ GE208.out) | exact HB.out))⟩; clear HO_209003 BK205 BK208 HB hq_; have HO_209003 := n0_; have BK205 := n1_; have BK208 := n2_; have HB := n3_; clear n0_ n1_ n2_ n3_)); have p19 : 0 ≤ (t209 : Int) := of_decide_eq_true (by first | (with_reducible assumption) | assumption); have q19 : t209 < (a0.size : Int) := of_decide_eq_true (by first | (with_reducible assumption) | assumption); have hx19 := bt_at a0 t209; replace p19 := eq_true p19; replace q19 := eq_true q19; have p25 : 0 ≤ (t209 : Int) := of_decide_eq_true (by first | (with_reducible assumption) | assumption); have q25 : t209 < (a0.size : Int) := of_decide_eq_true (by first | (with_reducible assumption) | assumption); have hx25 := bt_at a0 t209; replace p25 := eq_true p25; replace q25 := eq_true q25; have hnb28 := NB208_205.out; have hnc28 := NB205_208.out; have hcz29_0 : wr.cell? ⟨gb208, 0, none⟩ = some (.int .i64 1) := (blk_cell BK208.out 0).trans rfl; have hcz29_1 : wr.cell? ⟨gb208, 1, none⟩ = some (.string (a0.extract (a1 : Int).toNat (t206 : Int).toNat)) := (blk_cell BK208.out 1).trans rfl; have hcz29_2 : wr.cell? ⟨gb208, 2, none⟩ = some (.string (⟨#[]⟩ : ByteArray)) := (blk_cell BK208.out 2).trans rfl; have hcz29_3 : wr.cell? ⟨gb208, 3, none⟩ = some (u209003) := (blk_cell BK208.out 3).trans rfl; have hcz29_4 : wr.cell? ⟨gb208, 4, none⟩ = some (.bool x209004_1) := (blk_cell BK208.out 4).trans rfl; have hfz29_0 := blk_frozen BK208.out 0; have hfz29_1 := blk_frozen BK208.out 1; have hfz29_2 := blk_frozen BK208.out 2; have hfz29_3 := blk_frozen BK208.out 3; have hfz29_4 := blk_frozen BK208.out 4))
                        have n0_ : Aside0 (Kd.R k68 68 (wr.setCell ⟨gb208, 4, none⟩ (.bool true)) w.heap.size (fun _ => True) u209003 x209003_1) := ⟨by (with_reducible repeat (first | apply Kd.R_alloc | apply Kd.R_drewN | apply Kd.R_drew)); exact Kd.R_mono (Kd.R_far (p := ⟨gb208, 4, none⟩) (Kd.R_types HO_209003.out BK208.out (by decide)) (fun _ hk => hk.2) (.bool true)) (fun _ hk => trivial)⟩
                        have n1_ : Aside0 ((wr.setCell ⟨gb208, 4, none⟩ (.bool true)).heap[gb205]? = some (.cells #[.int .i64 x206000_1, .string x206001_1, .string x206002_1, .slice none 0 0, .bool x206004_1] 33 (0, 0))) := ⟨by (with_reducible repeat (first | refine blk_drewN ?_ _ | refine blk_drew ?_ | refine blk_alloc ?_ _)); refine blk_far ?_ NB205_208.out _; (with_reducible repeat (first | refine blk_drewN ?_ _ | refine blk_drew ?_ | refine blk_alloc ?_ _)); exact BK205.out⟩
                        have n2_ : Aside0 ((wr.setCell ⟨gb208, 4, none⟩ (.bool true)).heap[gb208]? = some (.cells #[.int .i64 1, .string (a0.extract (a1 : Int).toNat (t206 : Int).toNat), .string (⟨#[]⟩ : ByteArray), u209003, .bool true] 33 (0, 0))) := ⟨by (with_reducible repeat (first | refine blk_drewN ?_ _ | refine blk_drew ?_ | refine blk_alloc ?_ _)); refine blk_put (cs := #[.int .i64 1, .string (a0.extract (a1 : Int).toNat (t206 : Int).toNat), .string (⟨#[]⟩ : ByteArray), u209003, .bool x209004_1]) ?_ 4 _ rfl; (with_reducible repeat (first | refine blk_drewN ?_ _ | refine blk_drew ?_ | refine blk_alloc ?_ _)); exact BK208.out⟩
                        have n3_ : Aside0 (Below w.heap.size w (wr.setCell ⟨gb208, 4, none⟩ (.bool true))) := ⟨by repeat (first | (with_reducible first | exact HB.out | apply below_alloc | apply pw_below_drewN | apply below_drew1 | refine below_set ?_ GE205.out | refine below_set ?_ GE208.out) | exact HB.out)⟩
                        (try clear HO_209003)
                        (try clear BK205)
                        (try clear BK208)
                        (try clear HB)
                        generalize (wr.setCell ⟨gb208, 4, none⟩ (.bool true)) = w30 at n0_ n1_ n2_ n3_ ⊢
                        have HO_209003 := n0_
                        have BK205 := n1_
                        have BK208 := n2_
                        have HB := n3_
                        clear n0_ n1_ n2_ n3_
                        have n0_ := Aside0.mk (Kd.R_drew HO_209003.out)
                        have n1_ := Aside0.mk (blk_drew BK205.out)
                        have n2_ := Aside0.mk (blk_drew BK208.out)
                        have n3_ := Aside0.mk (below_drew1 HB.out)
                        clear HO_209003
                        clear BK205
                        clear BK208
                        clear HB
                        have HO_209003 := n0_
                        have BK205 := n1_
                        have BK208 := n2_
                        have HB := n3_
                        clear n0_ n1_ n2_ n3_
                        refine start_ (n := 10) (S := fun w' => w'.cell? ⟨gb208, 0, none⟩ = some (.int .i64 1) ∧ w'.cell? ⟨gb208, 1, none⟩ = some (.string (a0.extract (a1 : Int).toNat (t206 : Int).toNat)) ∧ w'.cell? ⟨gb208, 2, none⟩ = some (.string (⟨#[]⟩ : ByteArray)) ∧ w'.cell? ⟨gb208, 3, none⟩ = some (u209003) ∧ w'.cell? ⟨gb208, 4, none⟩ = some (.bool true)) (ds := []) #[false, false, false, false, false, false, false, false, false, false] (by kernel_rfl) rfl rfl ⟨(blk_cell BK208.out 0).trans rfl, (blk_cell BK208.out 1).trans rfl, (blk_cell BK208.out 2).trans rfl, (blk_cell BK208.out 3).trans rfl, (blk_cell BK208.out 4).trans rfl⟩ (fun hHeld => ?_); refine with_tabW breviaryref06_start.tab14 breviaryref06_start.bits14 (fun HT_ HW_ => ?_)
                        generalize w30.drew = w31 at HO_209003 BK205 BK208 HB hHeld ⊢
                        refine pure_ (i := 1) (N := some 53) (v := ?_) (a' := ?_) #[false, true, false, false, false, false, false, false, false, false] rfl rfl (any_of HT_.out (by kernel_rfl)) (fun _ _ _ h => h) (Or.inl ⟨by rfl, ?_⟩) ?_ ?_
                        rotate_left
                        · intro w'
                          go_simp
                          with_reducible rfl
                        rotate_left
                        · simp only [Act.put, List.setIfInBounds_toArray, List.set_cons_zero, List.set_cons_succ, i64_w, i32_w]
                          rfl
                        refine pure_ (i := 2) (N := some 54) (v := ?_) (a' := ?_) #[false, true, true, false, false, false, false, false, false, false] rfl rfl (any_of HT_.out (by kernel_rfl)) (fun _ _ _ h => h) (Or.inl ⟨by rfl, ?_⟩) ?_ ?_
                        rotate_left
                        · intro w'
                          go_simp
                          with_reducible rfl
                        rotate_left
                        · simp only [Act.put, List.setIfInBounds_toArray, List.set_cons_zero, List.set_cons_succ, i64_w, i32_w]
                          rfl
                        refine pure_ (i := 3) (N := some 55) (v := ?_) (a' := ?_) #[false, true, true, true, false, false, false, false, false, false] rfl rfl (any_of HT_.out (by kernel_rfl)) (fun _ _ _ h => h) (Or.inl ⟨by rfl, ?_⟩) ?_ ?_
                        rotate_left
                        · intro w'
                          go_simp
                          with_reducible rfl
                        rotate_left
                        · simp only [Act.put, List.setIfInBounds_toArray, List.set_cons_zero, List.set_cons_succ, i64_w, i32_w]
                          rfl
                        refine pure_ (i := 4) (N := some 56) (v := ?_) (a' := ?_) #[false, true, true, true, true, false, false, false, false, false] rfl rfl (any_of HT_.out (by kernel_rfl)) (fun _ _ _ h => h) (Or.inl ⟨by rfl, ?_⟩) ?_ ?_
                        rotate_left
                        · intro w'
                          go_simp
                          with_reducible rfl
                        rotate_left
                        · simp only [Act.put, List.setIfInBounds_toArray, List.set_cons_zero, List.set_cons_succ, i64_w, i32_w]
                          rfl
                        refine pure_ (i := 5) (N := some 57) (v := ?_) (a' := ?_) #[false, true, true, true, true, true, false, false, false, false] rfl rfl (any_of HT_.out (by kernel_rfl)) (fun _ _ _ h => h) (Or.inl ⟨by rfl, ?_⟩) ?_ ?_
                        rotate_left
                        · intro w'
                          go_simp
                          with_reducible rfl
                        rotate_left
                        · simp only [Act.put, List.setIfInBounds_toArray, List.set_cons_zero, List.set_cons_succ, i64_w, i32_w]
                          rfl
                        refine take_ (i := 0) (N := some 52) (v := ?_) (a' := ?_) #[true, true, true, true, true, true, false, false, false, false] rfl rfl (take_ofW HT_.out HW_.out (by kernel_rfl)) (fun _ _ _ h => h) (Or.inl ⟨by rfl, ?_⟩) hHeld ?_ ?_
                        rotate_left
                        · rintro w' ⟨s0, s1, s2, s3, s4⟩
                          go_simp
                          with_reducible rfl
                        rotate_left
                        · simp only [Act.put, List.setIfInBounds_toArray, List.set_cons_zero, List.set_cons_succ, i64_w, i32_w]
                          rfl
                        refine one_ (i := 6) (N := some 58) #[true, true, true, true, true, true, true, false, false, false] rfl rfl (one_of HT_.out (by kernel_rfl)) (by decide) (fun K hK => ?_)
                        refine goes_ Tryz.func36 (by kernel_rfl) rfl #[.string a0, .int .i64 (wrap64 (t209 + 1)), .int .u8 62] (by rfl) rfl rfl (by (try simp only [List.map_toArray, List.map_cons, List.map_nil]); first | done | rfl | (simp only [List.length_drop, List.length_take]; rfl)) ?_
                        with_reducible refine (breviaryref06_must.calls a0 (wrap64 (t209 + 1)) 62 t210 _ A27.out).mono ?_
                        rintro e w' ⟨rfl, ⟨nd, rfl⟩⟩
                        refine ⟨_, rfl, ?_⟩
                        obtain ⟨Ao35, co35, eo35⟩ := Kd.R_slice HO_209003.out
                        (first | subst eo35 | (injection eo35 with f1_ f2_ f3_; have f4_ := f1_.symm; have f5_ := f3_.symm; clear f1_ f2_ f3_; subst f4_; subst f5_))
                        refine hK.out _ _ ⟨(blk_cell BK208.out 0).trans rfl, (blk_cell BK208.out 1).trans rfl, (blk_cell BK208.out 2).trans rfl, (blk_cell BK208.out 3).trans rfl, (blk_cell BK208.out 4).trans rfl⟩ (fun hHeld => ?_)
                        clear hK K
                        refine norm_ (a' := ?_) ?_ ?_
                        rotate_left
                        · show Act.put _ (some 58) _ = _
                          simp only [Act.put, List.setIfInBounds_toArray, List.set_cons_zero, List.set_cons_succ, i64_w, i32_w]
                          rfl
                        refine one_ (i := 7) (N := none) #[true, true, true, true, true, true, true, true, false, false] rfl rfl (one_of HT_.out (by kernel_rfl)) (by decide) (fun K hK => ?_)
                        have hs32 : w31.cell? ⟨gb205, 0, none⟩ = some (.int .i64 x206000_1) := (blk_cell BK205.out 0).trans rfl
                        have hfs32 := blk_frozen BK205.out 0
                        have hns32_1 := NB208_205.out
                        have hms32_1 := NB205_208.out
                        have hs33 : w31.cell? ⟨gb205, 1, none⟩ = some (.string x206001_1) := (blk_cell BK205.out 1).trans rfl
                        have hfs33 := blk_frozen BK205.out 1
                        have hns33_1 := NB208_205.out
                        have hms33_1 := NB205_208.out
                        have hs34 : w31.cell? ⟨gb205, 2, none⟩ = some (.string x206002_1) := (blk_cell BK205.out 2).trans rfl
                        have hfs34 := blk_frozen BK205.out 2
                        have hns34_1 := NB208_205.out
                        have hms34_1 := NB205_208.out
                        have hs36 : w31.cell? ⟨gb205, 3, none⟩ = some (.slice none 0 0) := (blk_cell BK205.out 3).trans rfl
                        have hfs36 := blk_frozen BK205.out 3
                        have hns36_1 := NB208_205.out
                        have hms36_1 := NB205_208.out
                        have hs37 : w31.cell? ⟨gb205, 4, none⟩ = some (.bool x206004_1) := (blk_cell BK205.out 4).trans rfl
                        have hfs37 := blk_frozen BK205.out 4
                        have hns37_1 := NB208_205.out
                        have hms37_1 := NB205_208.out
                        refine skip_ (w1 := ?_) (by rfl) rfl ?_ ?_
                        rotate_left
                        · go_simp
                          rfl
                        refine hK.out _ _ ⟨((cell_far (p := ⟨gb205, _, none⟩) NB208_205.out _).trans (((cell_far (p := ⟨gb205, _, none⟩) NB208_205.out _).trans (((cell_far (p := ⟨gb205, _, none⟩) NB208_205.out _).trans (((cell_far (p := ⟨gb205, _, none⟩) NB208_205.out _).trans (((cell_far (p := ⟨gb205, _, none⟩) NB208_205.out _).trans (hHeld.1)))))))))), ((cell_far (p := ⟨gb205, _, none⟩) NB208_205.out _).trans (((cell_far (p := ⟨gb205, _, none⟩) NB208_205.out _).trans (((cell_far (p := ⟨gb205, _, none⟩) NB208_205.out _).trans (((cell_far (p := ⟨gb205, _, none⟩) NB208_205.out _).trans (((cell_far (p := ⟨gb205, _, none⟩) NB208_205.out _).trans (hHeld.2.1)))))))))), ((cell_far (p := ⟨gb205, _, none⟩) NB208_205.out _).trans (((cell_far (p := ⟨gb205, _, none⟩) NB208_205.out _).trans (((cell_far (p := ⟨gb205, _, none⟩) NB208_205.out _).trans (((cell_far (p := ⟨gb205, _, none⟩) NB208_205.out _).trans (((cell_far (p := ⟨gb205, _, none⟩) NB208_205.out _).trans (hHeld.2.2.1)))))))))), ((cell_far (p := ⟨gb205, _, none⟩) NB208_205.out _).trans (((cell_far (p := ⟨gb205, _, none⟩) NB208_205.out _).trans (((cell_far (p := ⟨gb205, _, none⟩) NB208_205.out _).trans (((cell_far (p := ⟨gb205, _, none⟩) NB208_205.out _).trans (((cell_far (p := ⟨gb205, _, none⟩) NB208_205.out _).trans (hHeld.2.2.2.1)))))))))), ((cell_far (p := ⟨gb205, _, none⟩) NB208_205.out _).trans (((cell_far (p := ⟨gb205, _, none⟩) NB208_205.out _).trans (((cell_far (p := ⟨gb205, _, none⟩) NB208_205.out _).trans (((cell_far (p := ⟨gb205, _, none⟩) NB208_205.out _).trans (((cell_far (p := ⟨gb205, _, none⟩) NB208_205.out _).trans (hHeld.2.2.2.2))))))))))⟩ (fun hHeld => ?_)
                        clear hK K
                        refine pure_ (i := 8) (N := some 5) (v := ?_) (a' := ?_) #[true, true, true, true, true, true, true, true, true, false] rfl rfl (any_of HT_.out (by kernel_rfl)) (fun _ _ _ h => h) (Or.inl ⟨by rfl, ?_⟩) ?_ ?_
                        rotate_left
                        · intro w'
                          go_simp
                          with_reducible rfl
                        rotate_left
                        · simp only [Act.put, List.setIfInBounds_toArray, List.set_cons_zero, List.set_cons_succ, i64_w, i32_w]
                          rfl
                        refine pure_ (i := 9) (N := some 6) (v := ?_) (a' := ?_) #[true, true, true, true, true, true, true, true, true, true] rfl rfl (any_of HT_.out (by kernel_rfl)) (fun _ _ _ h => h) (Or.inl ⟨by rfl, ?_⟩) ?_ ?_
                        rotate_left
                        · intro w'
                          go_simp
                          with_reducible rfl
                        rotate_left
                        · simp only [Act.put, List.setIfInBounds_toArray, List.set_cons_zero, List.set_cons_succ, i64_w, i32_w]
                          rfl
                        refine done_ (done_of HT_.out (by kernel_rfl)) ?_
                        try go_wp2
                        refine bodyPost_ret (results_ctt rfl _ _ gb205 33 #[.int .i64 1, .string (a0.extract (a1 : Int).toNat (t206 : Int).toNat), .string (⟨#[]⟩ : ByteArray), .slice Ao35 x209003_1.length co35, .bool true] (0, 0) _ rfl (by (with_reducible repeat (first | refine blk_drewN ?_ _ | refine blk_drew ?_ | refine blk_alloc ?_ _)); refine blk_put (cs := #[.int .i64 1, .string (a0.extract (a1 : Int).toNat (t206 : Int).toNat), .string (⟨#[]⟩ : ByteArray), .slice Ao35 x209003_1.length co35, .bool x206004_1]) ?_ 4 _ rfl; (with_reducible repeat (first | refine blk_drewN ?_ _ | refine blk_drew ?_ | refine blk_alloc ?_ _)); refine blk_put (cs := #[.int .i64 1, .string (a0.extract (a1 : Int).toNat (t206 : Int).toNat), .string (⟨#[]⟩ : ByteArray), .slice none 0 0, .bool x206004_1]) ?_ 3 _ rfl; (with_reducible repeat (first | refine blk_drewN ?_ _ | refine blk_drew ?_ | refine blk_alloc ?_ _)); refine blk_put (cs := #[.int .i64 1, .string (a0.extract (a1 : Int).toNat (t206 : Int).toNat), .string x206002_1, .slice none 0 0, .bool x206004_1]) ?_ 2 _ rfl; (with_reducible repeat (first | refine blk_drewN ?_ _ | refine blk_drew ?_ | refine blk_alloc ?_ _)); refine blk_put (cs := #[.int .i64 1, .string x206001_1, .string x206002_1, .slice none 0 0, .bool x206004_1]) ?_ 1 _ rfl; (with_reducible repeat (first | refine blk_drewN ?_ _ | refine blk_drew ?_ | refine blk_alloc ?_ _)); refine blk_put (cs := #[.int .i64 x206000_1, .string x206001_1, .string x206002_1, .slice none 0 0, .bool x206004_1]) ?_ 0 _ rfl; (with_reducible repeat (first | refine blk_drewN ?_ _ | refine blk_drew ?_ | refine blk_alloc ?_ _)); exact BK205.out) Tryz.underlying33 rfl (by kernel_rfl)) rfl ?_
                        exact ⟨_, by first | rfl | (simp [errW_none, errW_some] <;> rfl) | (simp [*, errW_none, errW_some] <;> rfl), by (with_reducible repeat (first | apply Kd.R_alloc | apply Kd.R_drewN | apply Kd.R_drew)); exact Kd.R_mono (Kd.R_far (p := ⟨gb205, 4, none⟩) (Kd.R_far (p := ⟨gb205, 3, none⟩) (Kd.R_far (p := ⟨gb205, 2, none⟩) (Kd.R_far (p := ⟨gb205, 1, none⟩) (Kd.R_far (p := ⟨gb205, 0, none⟩) (Kd.R_types HO_209003.out BK205.out (by decide)) (fun _ hk => hk.2) (.int .i64 1)) (fun _ hk => hk.2) (.string (a0.extract (a1 : Int).toNat (t206 : Int).toNat))) (fun _ hk => hk.2) (.string (⟨#[]⟩ : ByteArray))) (fun _ hk => hk.2) (.slice Ao35 x209003_1.length co35)) (fun _ hk => hk.2) (.bool true)) (fun _ hk => trivial), by repeat (first | (with_reducible first | exact HB.out | apply below_alloc | apply pw_below_drewN | apply below_drew1 | refine below_set ?_ GE205.out | refine below_set ?_ GE208.out) | exact HB.out)⟩
                      · rw [if_neg c26] at H
                        have c26b0 : ((bt a0 t209) == 47) = false := beq_eq_false_iff_ne.mpr c26
                        have c26b1 : ((bt a0 t209) != 47) = true := bne_iff_ne.mpr c26
                        by_cases c38 : t209 = x1_1
                        · rw [if_pos c38] at H
                          have c38b0 : (t209 == x1_1) = true := beq_iff_eq.mpr c38
                          have c38b1 : (t209 != x1_1) = false := bne_eq_false_iff_eq.mpr c38
                          clear c38
                          simp only [Option.some.injEq, Prod.mk.injEq] at H
                          obtain ⟨rfl, rfl, rfl, rfl, rfl, rfl, rfl⟩ := H
                          go_wp2_with (first | ((with_reducible refine gate_callee (f := 35) rfl ?_); refine goesL_ (some 34) rfl rfl Tryz.func35 (by kernel_rfl) rfl #[.string a0, .int .i64 x1_1] rfl (by (try simp only [List.map_toArray, List.map_cons, List.map_nil]); first | done | rfl | (simp only [List.length_drop, List.length_take]; rfl)) ?_; (with_reducible refine (breviaryref06_Spaces.calls k1 a0 x1_1 t209 _ A13.out).mono ?_); rintro e w' ⟨rfl, ⟨nd, rfl⟩⟩; refine ⟨_, rfl, ?_⟩; (try (rw [drewN_self wr]; generalize hq_ : World.drewN wr _ = wr; have n0_ : Aside0 (Kd.R k68 68 wr w.heap.size (fun _ => True) u209003 x209003_1) := ⟨by rw [← hq_]; exact (by (with_reducible repeat (first | apply Kd.R_alloc | apply Kd.R_drewN | apply Kd.R_drew)); exact HO_209003.out)⟩; have n1_ : Aside0 (wr.heap[gb205]? = some (.cells #[.int .i64 x206000_1, .string x206001_1, .string x206002_1, .slice none 0 0, .bool x206004_1] 33 (0, 0))) := ⟨by rw [← hq_]; exact (by (with_reducible repeat (first | refine blk_drewN ?_ _ | refine blk_drew ?_ | refine blk_alloc ?_ _)); exact BK205.out)⟩; have n2_ : Aside0 (wr.heap[gb208]? = some (.cells #[.int .i64 1, .string (a0.extract (a1 : Int).toNat (t206 : Int).toNat), .string (⟨#[]⟩ : ByteArray), u209003, .bool x209004_1] 33 (0, 0))) := ⟨by rw [← hq_]; exact (by (with_reducible repeat (first | refine blk_drewN ?_ _ | refine blk_drew ?_ | refine blk_alloc ?_ _)); exact BK208.out)⟩; have n3_ : Aside0 (Below w.heap.size w wr) := ⟨by rw [← hq_]; exact (by repeat (first | (with_reducible first | exact HB.out | apply below_alloc | apply pw_below_drewN | apply below_drew1 | refine below_set ?_ GE205.out | refine below_set ?_ GE208.out) | exact HB.out))⟩; clear HO_209003 BK205 BK208 HB hq_; have HO_209003 := n0_; have BK205 := n1_; have BK208 := n2_; have HB := n3_; clear n0_ n1_ n2_ n3_)); have p19 : 0 ≤ (t209 : Int) := of_decide_eq_true (by first | (with_reducible assumption) | assumption); have q19 : t209 < (a0.size : Int) := of_decide_eq_true (by first | (with_reducible assumption) | assumption); have hx19 := bt_at a0 t209; replace p19 := eq_true p19; replace q19 := eq_true q19; have p25 : 0 ≤ (t209 : Int) := of_decide_eq_true (by first | (with_reducible assumption) | assumption); have q25 : t209 < (a0.size : Int) := of_decide_eq_true (by first | (with_reducible assumption) | assumption); have hx25 := bt_at a0 t209; replace p25 := eq_true p25; replace q25 := eq_true q25; have hnb39 := NB205_208.out; have hnc39 := NB208_205.out; have hcz40_0 : wr.cell? ⟨gb205, 0, none⟩ = some (.int .i64 x206000_1) := (blk_cell BK205.out 0).trans rfl; have hcz40_1 : wr.cell? ⟨gb205, 1, none⟩ = some (.string x206001_1) := (blk_cell BK205.out 1).trans rfl; have hcz40_2 : wr.cell? ⟨gb205, 2, none⟩ = some (.string x206002_1) := (blk_cell BK205.out 2).trans rfl; have hcz40_3 : wr.cell? ⟨gb205, 3, none⟩ = some (.slice none 0 0) := (blk_cell BK205.out 3).trans rfl; have hcz40_4 : wr.cell? ⟨gb205, 4, none⟩ = some (.bool x206004_1) := (blk_cell BK205.out 4).trans rfl; have hfz40_0 := blk_frozen BK205.out 0; have hfz40_1 := blk_frozen BK205.out 1; have hfz40_2 := blk_frozen BK205.out 2; have hfz40_3 := blk_frozen BK205.out 3; have hfz40_4 := blk_frozen BK205.out 4))
                          refine bodyPost_ret (results_ctt rfl _ _ gb205 33 #[.int .i64 0, .string (⟨#[]⟩ : ByteArray), .string (⟨#[]⟩ : ByteArray), .slice none 0 0, .bool false] (0, 0) _ rfl (by (with_reducible repeat (first | refine blk_drewN ?_ _ | refine blk_drew ?_ | refine blk_alloc ?_ _)); refine blk_put (cs := #[.int .i64 0, .string (⟨#[]⟩ : ByteArray), .string (⟨#[]⟩ : ByteArray), .slice none 0 0, .bool x206004_1]) ?_ 4 _ rfl; (with_reducible repeat (first | refine blk_drewN ?_ _ | refine blk_drew ?_ | refine blk_alloc ?_ _)); refine blk_put (cs := #[.int .i64 0, .string (⟨#[]⟩ : ByteArray), .string (⟨#[]⟩ : ByteArray), .slice none 0 0, .bool x206004_1]) ?_ 3 _ rfl; (with_reducible repeat (first | refine blk_drewN ?_ _ | refine blk_drew ?_ | refine blk_alloc ?_ _)); refine blk_put (cs := #[.int .i64 0, .string (⟨#[]⟩ : ByteArray), .string x206002_1, .slice none 0 0, .bool x206004_1]) ?_ 2 _ rfl; (with_reducible repeat (first | refine blk_drewN ?_ _ | refine blk_drew ?_ | refine blk_alloc ?_ _)); refine blk_put (cs := #[.int .i64 0, .string x206001_1, .string x206002_1, .slice none 0 0, .bool x206004_1]) ?_ 1 _ rfl; (with_reducible repeat (first | refine blk_drewN ?_ _ | refine blk_drew ?_ | refine blk_alloc ?_ _)); refine blk_put (cs := #[.int .i64 x206000_1, .string x206001_1, .string x206002_1, .slice none 0 0, .bool x206004_1]) ?_ 0 _ rfl; (with_reducible repeat (first | refine blk_drewN ?_ _ | refine blk_drew ?_ | refine blk_alloc ?_ _)); exact BK205.out) Tryz.underlying33 rfl (by kernel_rfl)) rfl ?_
                          exact ⟨_, by first | rfl | (simp [errW_none, errW_some] <;> rfl) | (simp [*, errW_none, errW_some] <;> rfl), by first | exact Kd.R_nil _ _ _ _ _ | exact Kd.N_nil _ _ _ _ _ | exact Kd.V_nil _ _ _ _ _ | exact Kd.Q_nil _ _ _ _ _ | exact Kd.S_nil _ _ _ _ _, by repeat (first | (with_reducible first | exact HB.out | apply below_alloc | apply pw_below_drewN | apply below_drew1 | refine below_set ?_ GE205.out | refine below_set ?_ GE208.out) | exact HB.out)⟩
                        · rw [if_neg c38] at H
                          have c38b0 : (t209 == x1_1) = false := beq_eq_false_iff_ne.mpr c38
                          have c38b1 : (t209 != x1_1) = true := bne_iff_ne.mpr c38
                          replace H := Option.bind_eq_some_iff.mp H
                          obtain ⟨⟨t211, t212, t213, t214⟩, A410, H⟩ := H
                          try dsimp only at H
                          have A41 := Aside0.mk A410
                          clear A410
                          by_cases c42 : t214 = 0
                          · rw [if_pos c42] at H
                            have c42b0 : (t214 == 0) = true := beq_iff_eq.mpr c42
                            have c42b1 : (t214 != 0) = false := bne_eq_false_iff_eq.mpr c42
                            clear c42
                            have H' := Aside0.mk H
                            clear H
                            go_wp2_with (first | ((with_reducible refine gate_callee (f := 35) rfl ?_); refine goesL_ (some 34) rfl rfl Tryz.func35 (by kernel_rfl) rfl #[.string a0, .int .i64 x1_1] rfl (by (try simp only [List.map_toArray, List.map_cons, List.map_nil]); first | done | rfl | (simp only [List.length_drop, List.length_take]; rfl)) ?_; (with_reducible refine (breviaryref06_Spaces.calls k1 a0 x1_1 t209 _ A13.out).mono ?_); rintro e w' ⟨rfl, ⟨nd, rfl⟩⟩; refine ⟨_, rfl, ?_⟩; (try (rw [drewN_self wr]; generalize hq_ : World.drewN wr _ = wr; have n0_ : Aside0 (Kd.R k68 68 wr w.heap.size (fun _ => True) u209003 x209003_1) := ⟨by rw [← hq_]; exact (by (with_reducible repeat (first | apply Kd.R_alloc | apply Kd.R_drewN | apply Kd.R_drew)); exact HO_209003.out)⟩; have n1_ : Aside0 (wr.heap[gb205]? = some (.cells #[.int .i64 x206000_1, .string x206001_1, .string x206002_1, .slice none 0 0, .bool x206004_1] 33 (0, 0))) := ⟨by rw [← hq_]; exact (by (with_reducible repeat (first | refine blk_drewN ?_ _ | refine blk_drew ?_ | refine blk_alloc ?_ _)); exact BK205.out)⟩; have n2_ : Aside0 (wr.heap[gb208]? = some (.cells #[.int .i64 1, .string (a0.extract (a1 : Int).toNat (t206 : Int).toNat), .string (⟨#[]⟩ : ByteArray), u209003, .bool x209004_1] 33 (0, 0))) := ⟨by rw [← hq_]; exact (by (with_reducible repeat (first | refine blk_drewN ?_ _ | refine blk_drew ?_ | refine blk_alloc ?_ _)); exact BK208.out)⟩; have n3_ : Aside0 (Below w.heap.size w wr) := ⟨by rw [← hq_]; exact (by repeat (first | (with_reducible first | exact HB.out | apply below_alloc | apply pw_below_drewN | apply below_drew1 | refine below_set ?_ GE205.out | refine below_set ?_ GE208.out) | exact HB.out))⟩; clear HO_209003 BK205 BK208 HB hq_; have HO_209003 := n0_; have BK205 := n1_; have BK208 := n2_; have HB := n3_; clear n0_ n1_ n2_ n3_)); have p19 : 0 ≤ (t209 : Int) := of_decide_eq_true (by first | (with_reducible assumption) | assumption); have q19 : t209 < (a0.size : Int) := of_decide_eq_true (by first | (with_reducible assumption) | assumption); have hx19 := bt_at a0 t209; replace p19 := eq_true p19; replace q19 := eq_true q19; have p25 : 0 ≤ (t209 : Int) := of_decide_eq_true (by first | (with_reducible assumption) | assumption); have q25 : t209 < (a0.size : Int) := of_decide_eq_true (by first | (with_reducible assumption) | assumption); have hx25 := bt_at a0 t209; replace p25 := eq_true p25; replace q25 := eq_true q25) | ((with_reducible refine gate_callee (f := 63) rfl ?_); refine goesL_ (some 66) rfl rfl Tryz.func63 (by kernel_rfl) rfl #[.string a0, .int .i64 t209] rfl (by (try simp only [List.map_toArray, List.map_cons, List.map_nil]); first | done | rfl | (simp only [List.length_drop, List.length_take]; rfl)) ?_; (with_reducible refine (breviaryref06_attribute.calls k1 a0 t209 t211 t212 t213 t214 _ A41.out).mono ?_); rintro e w43 ⟨rfl, hb⟩; refine ⟨_, rfl, ?_⟩; have n0_ := Aside0.mk (Kd.R_below (by (with_reducible repeat (first | apply Kd.R_alloc | apply Kd.R_drewN | apply Kd.R_drew)); exact HO_209003.out) hb); have n1_ := Aside0.mk (blk_below (g := gb205) (o := .cells #[.int .i64 x206000_1, .string x206001_1, .string x206002_1, .slice none 0 0, .bool x206004_1] 33 (0, 0)) (by (with_reducible repeat (first | refine blk_drewN ?_ _ | refine blk_drew ?_ | refine blk_alloc ?_ _)); exact BK205.out) hb); have n2_ := Aside0.mk (blk_below (g := gb208) (o := .cells #[.int .i64 1, .string (a0.extract (a1 : Int).toNat (t206 : Int).toNat), .string (⟨#[]⟩ : ByteArray), u209003, .bool x209004_1] 33 (0, 0)) (by (with_reducible repeat (first | refine blk_drewN ?_ _ | refine blk_drew ?_ | refine blk_alloc ?_ _)); exact BK208.out) hb); have n3_ := Aside0.mk (below_step (by repeat (first | (with_reducible first | exact HB.out | apply below_alloc | apply pw_below_drewN | apply below_drew1 | refine below_set ?_ GE205.out | refine below_set ?_ GE208.out) | exact HB.out)) hb); clear HO_209003; clear BK205; clear BK208; clear HB; have HO_209003 := n0_; have BK205 := n1_; have BK208 := n2_; have HB := n3_; clear n0_ n1_ n2_ n3_; (try clear hb); (try clear hb2); (try clear hk); (try clear hi)) | ((with_reducible refine gate_dst (N := 11) rfl ?_); refine box_event ?hg (N := 11) ?hd (cs := #[.string (⟨#[]⟩ : ByteArray), .string (⟨#[]⟩ : ByteArray)]) (t := 68) ?hr ?_; (case hd => rfl); (case hg => rfl); (case hr => first | (go_simp; done) | (go_simp; rfl)); intro gb215 hg w44 hbox hb; have n0_ := Aside0.mk (Kd.R_below (Kd.R_elderB (by (with_reducible repeat (first | apply Kd.R_alloc | apply Kd.R_drewN | apply Kd.R_drew)); exact HO_209003.out) gb215 (Nat.le_of_eq hg.symm)) hb); have n1_ := Aside0.mk (blk_below (g := gb205) (o := .cells #[.int .i64 x206000_1, .string x206001_1, .string x206002_1, .slice none 0 0, .bool x206004_1] 33 (0, 0)) (by (with_reducible repeat (first | refine blk_drewN ?_ _ | refine blk_drew ?_ | refine blk_alloc ?_ _)); exact BK205.out) hb); have n2_ := Aside0.mk (blk_below (g := gb208) (o := .cells #[.int .i64 1, .string (a0.extract (a1 : Int).toNat (t206 : Int).toNat), .string (⟨#[]⟩ : ByteArray), u209003, .bool x209004_1] 33 (0, 0)) (by (with_reducible repeat (first | refine blk_drewN ?_ _ | refine blk_drew ?_ | refine blk_alloc ?_ _)); exact BK208.out) hb); have n3_ := Aside0.mk (below_step (by repeat (first | (with_reducible first | exact HB.out | apply below_alloc | apply pw_below_drewN | apply below_drew1 | refine below_set ?_ GE205.out | refine below_set ?_ GE208.out) | exact HB.out)) hb); have n4_ := Aside0.mk (hbox); have n5_ := Aside0.mk ((by rw [hg]; exact (below_size (by repeat (first | (with_reducible first | exact HB.out | apply below_alloc | apply pw_below_drewN | apply below_drew1 | refine below_set ?_ GE205.out | refine below_set ?_ GE208.out) | exact HB.out))) : w.heap.size ≤ gb215)); have n6_ := Aside0.mk ((by rw [hg]; exact (below_size (by repeat (first | (with_reducible first | exact HB.out | apply below_alloc | apply pw_below_drewN | apply below_drew1 | refine below_set ?_ GE205.out | refine below_set ?_ GE208.out) | exact HB.out))) : w.heap.size ≤ gb215)); have n7_ := Aside0.mk ((by rw [hg]; exact Nat.ne_of_lt (blk_lt (g := gb205) (o := .cells #[.int .i64 x206000_1, .string x206001_1, .string x206002_1, .slice none 0 0, .bool x206004_1] 33 (0, 0)) (by (with_reducible repeat (first | refine blk_drewN ?_ _ | refine blk_drew ?_ | refine blk_alloc ?_ _)); exact BK205.out)) : gb205 ≠ gb215)); have n8_ := Aside0.mk ((by rw [hg]; exact Nat.ne_of_gt (blk_lt (g := gb205) (o := .cells #[.int .i64 x206000_1, .string x206001_1, .string x206002_1, .slice none 0 0, .bool x206004_1] 33 (0, 0)) (by (with_reducible repeat (first | refine blk_drewN ?_ _ | refine blk_drew ?_ | refine blk_alloc ?_ _)); exact BK205.out)) : gb215 ≠ gb205)); have n9_ := Aside0.mk ((by rw [hg]; exact Nat.ne_of_lt (blk_lt (g := gb208) (o := .cells #[.int .i64 1, .string (a0.extract (a1 : Int).toNat (t206 : Int).toNat), .string (⟨#[]⟩ : ByteArray), u209003, .bool x209004_1] 33 (0, 0)) (by (with_reducible repeat (first | refine blk_drewN ?_ _ | refine blk_drew ?_ | refine blk_alloc ?_ _)); exact BK208.out)) : gb208 ≠ gb215)); have n10_ := Aside0.mk ((by rw [hg]; exact Nat.ne_of_gt (blk_lt (g := gb208) (o := .cells #[.int .i64 1, .string (a0.extract (a1 : Int).toNat (t206 : Int).toNat), .string (⟨#[]⟩ : ByteArray), u209003, .bool x209004_1] 33 (0, 0)) (by (with_reducible repeat (first | refine blk_drewN ?_ _ | refine blk_drew ?_ | refine blk_alloc ?_ _)); exact BK208.out)) : gb215 ≠ gb208)); clear HO_209003; clear BK205; clear BK208; clear HB; have HO_209003 := n0_; have BK205 := n1_; have BK208 := n2_; have HB := n3_; have BK215 := n4_; have GW215 := n5_; have GE215 := n6_; have NB205_215 := n7_; have NB215_205 := n8_; have NB208_215 := n9_; have NB215_208 := n10_; clear n0_ n1_ n2_ n3_ n4_ n5_ n6_ n7_ n8_ n9_ n10_; clear hb hbox hg; have hnb45 := NB215_205.out; have hnc45 := NB205_215.out; have hnb46 := NB215_208.out; have hnc46 := NB208_215.out; have hcz47_0 : w44.cell? ⟨gb215, 0, none⟩ = some (.string (⟨#[]⟩ : ByteArray)) := (blk_cell BK215.out 0).trans rfl; have hcz47_1 : w44.cell? ⟨gb215, 1, none⟩ = some (.string (⟨#[]⟩ : ByteArray)) := (blk_cell BK215.out 1).trans rfl; have hfz47_0 := blk_frozen BK215.out 0; have hfz47_1 := blk_frozen BK215.out 1))
                            go_loopg [14] k1 (fun kq v14 w' => ∃ (x14_2 : Int) (x206000_2 : Int) (x206001_2 : ByteArray) (x206002_2 : ByteArray) (x206004_2 : Bool), v14 = .int .i64 x14_2 ∧ Aside0 (breviaryref06_start.l1 kq a0 t213 x14_2 1 (a0.extract (a1 : Int).toNat (t206 : Int).toNat) (⟨#[]⟩ : ByteArray) x209003_1 x209004_1 t211 t212 = some (r1, r2, r3, r4, r5, r6, r7)) ∧ Aside0 (kq ≤ k1) ∧ Aside0 (Kd.R k68 68 w' w.heap.size (fun k_ => k_ ≠ gb215) u209003 x209003_1) ∧ Aside0 (w'.heap[gb205]? = some (.cells #[.int .i64 x206000_2, .string x206001_2, .string x206002_2, (.slice none 0 0), .bool x206004_2] 33 (0, 0))) ∧ Aside0 (w'.heap[gb208]? = some (.cells #[.int .i64 1, .string (a0.extract (a1 : Int).toNat (t206 : Int).toNat), .string (⟨#[]⟩ : ByteArray), u209003, .bool x209004_1] 33 (0, 0))) ∧ Aside0 (w'.heap[gb215]? = some (.cells #[.string t211, .string t212] 68 (0, 0))) ∧ Aside0 (Below w.heap.size w w'))
                            case atStart => exact ⟨(0), (x206000_1), (x206001_1), (x206002_1), (x206004_1), (by first | rfl | (simp; done) | (simp [*]; done)), H', ⟨Nat.le_refl _⟩, ⟨by (with_reducible repeat (first | apply Kd.R_alloc | apply Kd.R_drewN | apply Kd.R_drew)); exact Kd.R_mono (Kd.R_far (p := ⟨gb215, 1, none⟩) (Kd.R_far (p := ⟨gb215, 0, none⟩) (Kd.R_mono HO_209003.out (fun k_ hk => (⟨hk, hk.2⟩ : _ ∧ k_ ≠ gb215))) (fun _ hk => hk.2) (.string t211)) (fun _ hk => hk.2) (.string t212)) (fun _ hk => hk.1.2)⟩, ⟨by (with_reducible repeat (first | refine blk_drewN ?_ _ | refine blk_drew ?_ | refine blk_alloc ?_ _)); refine blk_far ?_ NB205_215.out _; (with_reducible repeat (first | refine blk_drewN ?_ _ | refine blk_drew ?_ | refine blk_alloc ?_ _)); refine blk_far ?_ NB205_215.out _; (with_reducible repeat (first | refine blk_drewN ?_ _ | refine blk_drew ?_ | refine blk_alloc ?_ _)); exact BK205.out⟩, ⟨by (with_reducible repeat (first | refine blk_drewN ?_ _ | refine blk_drew ?_ | refine blk_alloc ?_ _)); refine blk_far ?_ NB208_215.out _; (with_reducible repeat (first | refine blk_drewN ?_ _ | refine blk_drew ?_ | refine blk_alloc ?_ _)); refine blk_far ?_ NB208_215.out _; (with_reducible repeat (first | refine blk_drewN ?_ _ | refine blk_drew ?_ | refine blk_alloc ?_ _)); exact BK208.out⟩, ⟨by (with_reducible repeat (first | refine blk_drewN ?_ _ | refine blk_drew ?_ | refine blk_alloc ?_ _)); refine blk_put (cs := #[.string t211, .string (⟨#[]⟩ : ByteArray)]) ?_ 1 _ rfl; (with_reducible repeat (first | refine blk_drewN ?_ _ | refine blk_drew ?_ | refine blk_alloc ?_ _)); refine blk_put (cs := #[.string (⟨#[]⟩ : ByteArray), .string (⟨#[]⟩ : ByteArray)]) ?_ 0 _ rfl; (with_reducible repeat (first | refine blk_drewN ?_ _ | refine blk_drew ?_ | refine blk_alloc ?_ _)); exact BK215.out⟩, ⟨by repeat (first | (with_reducible first | exact HB.out | apply below_alloc | apply pw_below_drewN | apply below_drew1 | refine below_set ?_ GE205.out | refine below_set ?_ GE208.out | refine below_set ?_ GE215.out) | exact HB.out)⟩⟩
                            case round =>
                              clear H'
                              try clear c1
                              try clear p1
                              try clear q1
                              try clear hx1
                              try clear c2
                              try clear p2
                              try clear q2
                              try clear hx2
                              try clear c3
                              try clear c4
                              try clear c4b0
                              try clear c4b1
                              try clear c5
                              try clear c5b0
                              try clear c5b1
                              try clear c6
                              try clear c6b0
                              try clear c6b1
                              try clear p6
                              try clear c7
                              try clear c7b0
                              try clear c7b1
                              try clear c11
                              try clear c14
                              try clear c14b0
                              try clear c14b1
                              try clear c15
                              try clear c17
                              try clear c17b0
                              try clear c18
                              try clear c18b0
                              try clear p19
                              try clear q19
                              try clear hx19
                              try clear c20
                              try clear c20b0
                              try clear c20b1
                              try clear c21
                              try clear p25
                              try clear q25
                              try clear hx25
                              try clear c26
                              try clear c26b0
                              try clear c26b1
                              try clear c28
                              try clear c34
                              try clear c35
                              try clear c36
                              try clear c37
                              try clear c38
                              try clear c38b0
                              try clear c38b1
                              try clear c39
                              try clear c42
                              try clear c42b0
                              try clear c42b1
                              try clear c45
                              try clear c46
                              try clear hcz12_0
                              try clear hcz12_1
                              try clear hcz12_2
                              try clear hcz12_3
                              try clear hcz12_4
                              try clear hcz16_0
                              try clear hcz16_1
                              try clear hcz16_2
                              try clear hcz16_3
                              try clear hcz16_4
                              try clear hcz22_0
                              try clear hcz22_1
                              try clear hcz22_2
                              try clear hcz22_3
                              try clear hcz22_4
                              try clear hcz23_0
                              try clear hcz23_1
                              try clear hcz23_2
                              try clear hcz23_3
                              try clear hcz23_4
                              try clear hcz29_0
                              try clear hcz29_1
                              try clear hcz29_2
                              try clear hcz29_3
                              try clear hcz29_4
                              try clear hcz40_0
                              try clear hcz40_1
                              try clear hcz40_2
                              try clear hcz40_3
                              try clear hcz40_4
                              try clear hcz47_0
                              try clear hcz47_1
                              try clear hfz12_0
                              try clear hfz12_1
                              try clear hfz12_2
                              try clear hfz12_3
                              try clear hfz12_4
                              try clear hfz16_0
                              try clear hfz16_1
                              try clear hfz16_2
                              try clear hfz16_3
                              try clear hfz16_4
                              try clear hfz22_0
                              try clear hfz22_1
                              try clear hfz22_2
                              try clear hfz22_3
                              try clear hfz22_4
                              try clear hfz23_0
                              try clear hfz23_1
                              try clear hfz23_2
                              try clear hfz23_3
                              try clear hfz23_4
                              try clear hfz29_0
                              try clear hfz29_1
                              try clear hfz29_2
                              try clear hfz29_3
                              try clear hfz29_4
                              try clear hfz40_0
                              try clear hfz40_1
                              try clear hfz40_2
                              try clear hfz40_3
                              try clear hfz40_4
                              try clear hfz47_0
                              try clear hfz47_1
                              try clear p19
                              try clear p2
                              try clear p25
                              try clear q19
                              try clear q25
                              obtain ⟨x14_2, x206000_2, x206001_2, x206002_2, x206004_2, rfl, HA, HK2, HO_209003, BK205, BK208, BK215, HB⟩ := hrel
                              cases gk with
                              | zero => exact absurd HA.out (by simp [breviaryref06_start.l1])
                              | succ k2 =>
                                have H := HA.out
                                clear HA
                                simp only [breviaryref06_start.l1] at H
                                by_cases c48 : x14_2 < (x209003_1.length : Int)
                                · rw [if_pos c48] at H
                                  have c48b0 : decide (x14_2 < (x209003_1.length : Int)) = true := decide_eq_true c48
                                  clear c48
                                  by_cases c49 : 0 ≤ x14_2
                                  · rw [if_pos c49] at H
                                    have c49b0 : decide (0 ≤ x14_2) = true := decide_eq_true c49
                                    clear c49
                                    by_cases c50 : ((rd_T68 x209003_1 x14_2).f0).toList = t211.toList
                                    · rw [if_pos c50] at H
                                      have c50b0 : (((rd_T68 x209003_1 x14_2).f0).toList == t211.toList) = true := beq_iff_eq.mpr c50
                                      have c50b1 : (((rd_T68 x209003_1 x14_2).f0).toList != t211.toList) = false := bne_eq_false_iff_eq.mpr c50
                                      clear c50
                                      simp only [Option.some.injEq, Prod.mk.injEq] at H
                                      obtain ⟨rfl, rfl, rfl, rfl, rfl, rfl, rfl⟩ := H
                                      have hnb51 := NB208_205.out
                                      have hnc51 := NB205_208.out
                                      have hnb52 := NB208_215.out
                                      have hnc52 := NB215_208.out
                                      have hcz53_0 : wr.cell? ⟨gb208, 0, none⟩ = some (.int .i64 1) := (blk_cell BK208.out 0).trans rfl
                                      have hcz53_1 : wr.cell? ⟨gb208, 1, none⟩ = some (.string (a0.extract (a1 : Int).toNat (t206 : Int).toNat)) := (blk_cell BK208.out 1).trans rfl
                                      have hcz53_2 : wr.cell? ⟨gb208, 2, none⟩ = some (.string (⟨#[]⟩ : ByteArray)) := (blk_cell BK208.out 2).trans rfl
                                      have hcz53_3 : wr.cell? ⟨gb208, 3, none⟩ = some (u209003) := (blk_cell BK208.out 3).trans rfl
                                      have hcz53_4 : wr.cell? ⟨gb208, 4, none⟩ = some (.bool x209004_1) := (blk_cell BK208.out 4).trans rfl
                                      have hfz53_0 := blk_frozen BK208.out 0
                                      have hfz53_1 := blk_frozen BK208.out 1
                                      have hfz53_2 := blk_frozen BK208.out 2
                                      have hfz53_3 := blk_frozen BK208.out 3
                                      have hfz53_4 := blk_frozen BK208.out 4
                                      obtain ⟨Ao54, co54, eo54⟩ := Kd.R_slice HO_209003.out
                                      subst eo54
                                      try go_wp2
                                      have n0_ := Aside0.mk (Kd.R_drew HO_209003.out)
                                      have n1_ := Aside0.mk (blk_drew BK205.out)
                                      have n2_ := Aside0.mk (blk_drew BK208.out)
                                      have n3_ := Aside0.mk (blk_drew BK215.out)
                                      have n4_ := Aside0.mk (below_drew1 HB.out)
                                      clear HO_209003
                                      clear BK205
                                      clear BK208
                                      clear BK215
                                      clear HB
                                      have HO_209003 := n0_
                                      have BK205 := n1_
                                      have BK208 := n2_
                                      have BK215 := n3_
                                      have HB := n4_
                                      clear n0_ n1_ n2_ n3_ n4_
                                      have p216 : 0 ≤ (x14_2 : Int) := of_decide_eq_true (by first | (with_reducible assumption) | assumption)
                                      have q216 : x14_2 < (x209003_1.length : Int) := of_decide_eq_true (by first | (with_reducible assumption) | assumption)
                                      obtain ⟨ad216, e216, hx216_0, hx216_1⟩ := at_T68 (Kd.R_reads' HO_209003.out).2.2 x14_2 p216 q216
                                      cases e216
                                      replace p216 := eq_true p216
                                      replace q216 := eq_true q216
                                      refine start_ (n := 9) (S := fun w' => w'.cell? ⟨gb208, 0, none⟩ = some (.int .i64 1) ∧ w'.cell? ⟨gb208, 1, none⟩ = some (.string (a0.extract (a1 : Int).toNat (t206 : Int).toNat)) ∧ w'.cell? ⟨gb208, 2, none⟩ = some (.string (⟨#[]⟩ : ByteArray)) ∧ w'.cell? ⟨gb208, 3, none⟩ = some (.slice (some ad216) x209003_1.length co54) ∧ w'.cell? ⟨gb208, 4, none⟩ = some (.bool x209004_1) ∧ w'.cell? ⟨gb215, 0, none⟩ = some (.string t211) ∧ w'.cell? ⟨gb215, 1, none⟩ = some (.string t212) ∧ w'.cell? (ad216.add ((x14_2).toNat * 2)) = some (.string ((rd_T68 x209003_1 x14_2).f0)) ∧ w'.cell? ⟨(ad216.add ((x14_2).toNat * 2)).block, (ad216.add ((x14_2).toNat * 2)).off + 1, none⟩ = some (.string ((rd_T68 x209003_1 x14_2).f1))) (ds := []) #[false, false, false, false, false, false, false, false, false] (by kernel_rfl) rfl rfl ⟨(blk_cell BK208.out 0).trans rfl, (blk_cell BK208.out 1).trans rfl, (blk_cell BK208.out 2).trans rfl, (blk_cell BK208.out 3).trans rfl, (blk_cell BK208.out 4).trans rfl, (blk_cell BK215.out 0).trans rfl, (blk_cell BK215.out 1).trans rfl, hx216_0, hx216_1⟩ (fun hHeld => ?_); refine with_tabW breviaryref06_start.tab23 breviaryref06_start.bits23 (fun HT_ HW_ => ?_)
                                      generalize wr.drew = w55 at HO_209003 BK205 BK208 BK215 HB hx216_0 hx216_1 hHeld ⊢
                                      refine pure_ (i := 0) (N := some 81) (v := ?_) (a' := ?_) #[true, false, false, false, false, false, false, false, false] rfl rfl (any_of HT_.out (by kernel_rfl)) (fun _ _ _ h => h) (Or.inl ⟨by rfl, ?_⟩) ?_ ?_
                                      rotate_left
                                      · intro w'
                                        go_simp
                                        with_reducible rfl
                                      rotate_left
                                      · simp only [Act.put, List.setIfInBounds_toArray, List.set_cons_zero, List.set_cons_succ, i64_w, i32_w]
                                        rfl
                                      refine pure_ (i := 2) (N := some 83) (v := ?_) (a' := ?_) #[true, false, true, false, false, false, false, false, false] rfl rfl (any_of HT_.out (by kernel_rfl)) (fun _ _ _ h => h) (Or.inl ⟨by rfl, ?_⟩) ?_ ?_
                                      rotate_left
                                      · intro w'
                                        go_simp
                                        with_reducible rfl
                                      rotate_left
                                      · simp only [Act.put, List.setIfInBounds_toArray, List.set_cons_zero, List.set_cons_succ, i64_w, i32_w]
                                        rfl
                                      refine pure_ (i := 6) (N := some 87) (v := ?_) (a' := ?_) #[true, false, true, false, false, false, true, false, false] rfl rfl (any_of HT_.out (by kernel_rfl)) (fun _ _ _ h => h) (Or.inl ⟨by rfl, ?_⟩) ?_ ?_
                                      rotate_left
                                      · intro w'
                                        go_simp
                                        with_reducible rfl
                                      rotate_left
                                      · simp only [Act.put, List.setIfInBounds_toArray, List.set_cons_zero, List.set_cons_succ, i64_w, i32_w]
                                        rfl
                                      refine take_ (i := 1) (N := some 82) (v := ?_) (a' := ?_) #[true, true, true, false, false, false, true, false, false] rfl rfl (take_ofW HT_.out HW_.out (by kernel_rfl)) (fun _ _ _ h => h) (Or.inl ⟨by rfl, ?_⟩) hHeld ?_ ?_
                                      rotate_left
                                      · rintro w' ⟨s0, s1, s2, s3, s4, s5, s6, s7, s8⟩
                                        go_simp
                                        with_reducible rfl
                                      rotate_left
                                      · simp only [Act.put, List.setIfInBounds_toArray, List.set_cons_zero, List.set_cons_succ, i64_w, i32_w]
                                        rfl
                                      refine pure_ (i := 3) (N := some 84) (v := ?_) (a' := ?_) #[true, true, true, true, false, false, true, false, false] rfl rfl (any_of HT_.out (by kernel_rfl)) (fun _ _ _ h => h) (Or.inl ⟨by rfl, ?_⟩) ?_ ?_
                                      rotate_left
                                      · intro w'
                                        go_simp
                                        with_reducible rfl
                                      rotate_left
                                      · simp only [Act.put, List.setIfInBounds_toArray, List.set_cons_zero, List.set_cons_succ, i64_w, i32_w]
                                        rfl
                                      refine pure_ (i := 4) (N := some 85) (v := ?_) (a' := ?_) #[true, true, true, true, true, false, true, false, false] rfl rfl (any_of HT_.out (by kernel_rfl)) (fun _ _ _ h => h) (Or.inl ⟨by rfl, ?_⟩) ?_ ?_
                                      rotate_left
                                      · intro w'
                                        go_simp
                                        with_reducible rfl
                                      rotate_left
                                      · simp only [Act.put, List.setIfInBounds_toArray, List.set_cons_zero, List.set_cons_succ, i64_w, i32_w]
                                        rfl
                                      refine take_ (i := 5) (N := some 86) (v := ?_) (a' := ?_) #[true, true, true, true, true, true, true, false, false] rfl rfl (take_ofW HT_.out HW_.out (by kernel_rfl)) (fun _ _ _ h => h) (Or.inl ⟨by rfl, ?_⟩) hHeld ?_ ?_
                                      rotate_left
                                      · rintro w' ⟨s0, s1, s2, s3, s4, s5, s6, s7, s8⟩
                                        go_simp
                                        with_reducible rfl
                                      rotate_left
                                      · simp only [Act.put, List.setIfInBounds_toArray, List.set_cons_zero, List.set_cons_succ, i64_w, i32_w]
                                        rfl
                                      refine take_ (i := 7) (N := some 88) (v := ?_) (a' := ?_) #[true, true, true, true, true, true, true, true, false] rfl rfl (take_ofW HT_.out HW_.out (by kernel_rfl)) (fun _ _ _ h => h) (Or.inl ⟨by rfl, ?_⟩) hHeld ?_ ?_
                                      rotate_left
                                      · rintro w' ⟨s0, s1, s2, s3, s4, s5, s6, s7, s8⟩
                                        go_simp
                                        with_reducible rfl
                                      rotate_left
                                      · simp only [Act.put, List.setIfInBounds_toArray, List.set_cons_zero, List.set_cons_succ, i64_w, i32_w]
                                        rfl
                                      refine pure_ (i := 8) (N := some 89) (v := ?_) (a' := ?_) #[true, true, true, true, true, true, true, true, true] rfl rfl (any_of HT_.out (by kernel_rfl)) (fun _ _ _ h => h) (Or.inl ⟨by rfl, ?_⟩) ?_ ?_
                                      rotate_left
                                      · intro w'
                                        go_simp
                                        with_reducible rfl
                                      rotate_left
                                      · simp only [Act.put, List.setIfInBounds_toArray, List.set_cons_zero, List.set_cons_succ, i64_w, i32_w]
                                        rfl
                                      refine done_ (done_of HT_.out (by kernel_rfl)) ?_
                                      have hnb56 := NB205_215.out
                                      have hnc56 := NB215_205.out
                                      have hcz57_0 : w55.cell? ⟨gb205, 0, none⟩ = some (.int .i64 x206000_2) := (blk_cell BK205.out 0).trans rfl
                                      have hcz57_1 : w55.cell? ⟨gb205, 1, none⟩ = some (.string x206001_2) := (blk_cell BK205.out 1).trans rfl
                                      have hcz57_2 : w55.cell? ⟨gb205, 2, none⟩ = some (.string x206002_2) := (blk_cell BK205.out 2).trans rfl
                                      have hcz57_3 : w55.cell? ⟨gb205, 3, none⟩ = some (.slice none 0 0) := (blk_cell BK205.out 3).trans rfl
                                      have hcz57_4 : w55.cell? ⟨gb205, 4, none⟩ = some (.bool x206004_2) := (blk_cell BK205.out 4).trans rfl
                                      have hfz57_0 := blk_frozen BK205.out 0
                                      have hfz57_1 := blk_frozen BK205.out 1
                                      have hfz57_2 := blk_frozen BK205.out 2
                                      have hfz57_3 := blk_frozen BK205.out 3
                                      have hfz57_4 := blk_frozen BK205.out 4
                                      try go_wp2
                                      refine bodyPost_ret (results_ctt rfl _ _ gb205 33 #[.int .i64 0, .string (⟨#[]⟩ : ByteArray), .string (⟨#[]⟩ : ByteArray), .slice none 0 0, .bool false] (0, 0) _ rfl (by (with_reducible repeat (first | refine blk_drewN ?_ _ | refine blk_drew ?_ | refine blk_alloc ?_ _)); refine blk_put (cs := #[.int .i64 0, .string (⟨#[]⟩ : ByteArray), .string (⟨#[]⟩ : ByteArray), .slice none 0 0, .bool x206004_2]) ?_ 4 _ rfl; (with_reducible repeat (first | refine blk_drewN ?_ _ | refine blk_drew ?_ | refine blk_alloc ?_ _)); refine blk_put (cs := #[.int .i64 0, .string (⟨#[]⟩ : ByteArray), .string (⟨#[]⟩ : ByteArray), .slice none 0 0, .bool x206004_2]) ?_ 3 _ rfl; (with_reducible repeat (first | refine blk_drewN ?_ _ | refine blk_drew ?_ | refine blk_alloc ?_ _)); refine blk_put (cs := #[.int .i64 0, .string (⟨#[]⟩ : ByteArray), .string x206002_2, .slice none 0 0, .bool x206004_2]) ?_ 2 _ rfl; (with_reducible repeat (first | refine blk_drewN ?_ _ | refine blk_drew ?_ | refine blk_alloc ?_ _)); refine blk_put (cs := #[.int .i64 0, .string x206001_2, .string x206002_2, .slice none 0 0, .bool x206004_2]) ?_ 1 _ rfl; (with_reducible repeat (first | refine blk_drewN ?_ _ | refine blk_drew ?_ | refine blk_alloc ?_ _)); refine blk_put (cs := #[.int .i64 x206000_2, .string x206001_2, .string x206002_2, .slice none 0 0, .bool x206004_2]) ?_ 0 _ rfl; (with_reducible repeat (first | refine blk_drewN ?_ _ | refine blk_drew ?_ | refine blk_alloc ?_ _)); exact BK205.out) Tryz.underlying33 rfl (by kernel_rfl)) rfl ?_
                                      exact ⟨_, by first | rfl | (simp [errW_none, errW_some] <;> rfl) | (simp [*, errW_none, errW_some] <;> rfl), by first | exact Kd.R_nil _ _ _ _ _ | exact Kd.N_nil _ _ _ _ _ | exact Kd.V_nil _ _ _ _ _ | exact Kd.Q_nil _ _ _ _ _ | exact Kd.S_nil _ _ _ _ _, by repeat (first | (with_reducible first | exact HB.out | apply below_alloc | apply pw_below_drewN | apply below_drew1 | refine below_set ?_ GE205.out | refine below_set ?_ GE208.out | refine below_set ?_ GE215.out) | exact HB.out)⟩
                                    · rw [if_neg c50] at H
                                      have c50b0 : (((rd_T68 x209003_1 x14_2).f0).toList == t211.toList) = false := beq_eq_false_iff_ne.mpr c50
                                      have c50b1 : (((rd_T68 x209003_1 x14_2).f0).toList != t211.toList) = true := bne_iff_ne.mpr c50
                                      have H' := Aside0.mk H
                                      clear H
                                      have hnb58 := NB208_205.out
                                      have hnc58 := NB205_208.out
                                      have hnb59 := NB208_215.out
                                      have hnc59 := NB215_208.out
                                      have hcz60_0 : wr.cell? ⟨gb208, 0, none⟩ = some (.int .i64 1) := (blk_cell BK208.out 0).trans rfl
                                      have hcz60_1 : wr.cell? ⟨gb208, 1, none⟩ = some (.string (a0.extract (a1 : Int).toNat (t206 : Int).toNat)) := (blk_cell BK208.out 1).trans rfl
                                      have hcz60_2 : wr.cell? ⟨gb208, 2, none⟩ = some (.string (⟨#[]⟩ : ByteArray)) := (blk_cell BK208.out 2).trans rfl
                                      have hcz60_3 : wr.cell? ⟨gb208, 3, none⟩ = some (u209003) := (blk_cell BK208.out 3).trans rfl
                                      have hcz60_4 : wr.cell? ⟨gb208, 4, none⟩ = some (.bool x209004_1) := (blk_cell BK208.out 4).trans rfl
                                      have hfz60_0 := blk_frozen BK208.out 0
                                      have hfz60_1 := blk_frozen BK208.out 1
                                      have hfz60_2 := blk_frozen BK208.out 2
                                      have hfz60_3 := blk_frozen BK208.out 3
                                      have hfz60_4 := blk_frozen BK208.out 4
                                      obtain ⟨Ao61, co61, eo61⟩ := Kd.R_slice HO_209003.out
                                      subst eo61
                                      try go_wp2
                                      have n0_ := Aside0.mk (Kd.R_drew HO_209003.out)
                                      have n1_ := Aside0.mk (blk_drew BK205.out)
                                      have n2_ := Aside0.mk (blk_drew BK208.out)
                                      have n3_ := Aside0.mk (blk_drew BK215.out)
                                      have n4_ := Aside0.mk (below_drew1 HB.out)
                                      clear HO_209003
                                      clear BK205
                                      clear BK208
                                      clear BK215
                                      clear HB
                                      have HO_209003 := n0_
                                      have BK205 := n1_
                                      have BK208 := n2_
                                      have BK215 := n3_
                                      have HB := n4_
                                      clear n0_ n1_ n2_ n3_ n4_
                                      have p216 : 0 ≤ (x14_2 : Int) := of_decide_eq_true (by first | (with_reducible assumption) | assumption)
                                      have q216 : x14_2 < (x209003_1.length : Int) := of_decide_eq_true (by first | (with_reducible assumption) | assumption)
                                      obtain ⟨ad216, e216, hx216_0, hx216_1⟩ := at_T68 (Kd.R_reads' HO_209003.out).2.2 x14_2 p216 q216
                                      cases e216
                                      replace p216 := eq_true p216
                                      replace q216 := eq_true q216
                                      refine start_ (n := 9) (S := fun w' => w'.cell? ⟨gb208, 0, none⟩ = some (.int .i64 1) ∧ w'.cell? ⟨gb208, 1, none⟩ = some (.string (a0.extract (a1 : Int).toNat (t206 : Int).toNat)) ∧ w'.cell? ⟨gb208, 2, none⟩ = some (.string (⟨#[]⟩ : ByteArray)) ∧ w'.cell? ⟨gb208, 3, none⟩ = some (.slice (some ad216) x209003_1.length co61) ∧ w'.cell? ⟨gb208, 4, none⟩ = some (.bool x209004_1) ∧ w'.cell? ⟨gb215, 0, none⟩ = some (.string t211) ∧ w'.cell? ⟨gb215, 1, none⟩ = some (.string t212) ∧ w'.cell? (ad216.add ((x14_2).toNat * 2)) = some (.string ((rd_T68 x209003_1 x14_2).f0)) ∧ w'.cell? ⟨(ad216.add ((x14_2).toNat * 2)).block, (ad216.add ((x14_2).toNat * 2)).off + 1, none⟩ = some (.string ((rd_T68 x209003_1 x14_2).f1))) (ds := []) #[false, false, false, false, false, false, false, false, false] (by kernel_rfl) rfl rfl ⟨(blk_cell BK208.out 0).trans rfl, (blk_cell BK208.out 1).trans rfl, (blk_cell BK208.out 2).trans rfl, (blk_cell BK208.out 3).trans rfl, (blk_cell BK208.out 4).trans rfl, (blk_cell BK215.out 0).trans rfl, (blk_cell BK215.out 1).trans rfl, hx216_0, hx216_1⟩ (fun hHeld => ?_); refine with_tabW breviaryref06_start.tab23 breviaryref06_start.bits23 (fun HT_ HW_ => ?_)
                                      generalize wr.drew = w62 at HO_209003 BK205 BK208 BK215 HB hx216_0 hx216_1 hHeld ⊢
                                      refine pure_ (i := 0) (N := some 81) (v := ?_) (a' := ?_) #[true, false, false, false, false, false, false, false, false] rfl rfl (any_of HT_.out (by kernel_rfl)) (fun _ _ _ h => h) (Or.inl ⟨by rfl, ?_⟩) ?_ ?_
                                      rotate_left
                                      · intro w'
                                        go_simp
                                        with_reducible rfl
                                      rotate_left
                                      · simp only [Act.put, List.setIfInBounds_toArray, List.set_cons_zero, List.set_cons_succ, i64_w, i32_w]
                                        rfl
                                      refine pure_ (i := 2) (N := some 83) (v := ?_) (a' := ?_) #[true, false, true, false, false, false, false, false, false] rfl rfl (any_of HT_.out (by kernel_rfl)) (fun _ _ _ h => h) (Or.inl ⟨by rfl, ?_⟩) ?_ ?_
                                      rotate_left
                                      · intro w'
                                        go_simp
                                        with_reducible rfl
                                      rotate_left
                                      · simp only [Act.put, List.setIfInBounds_toArray, List.set_cons_zero, List.set_cons_succ, i64_w, i32_w]
                                        rfl
                                      refine pure_ (i := 6) (N := some 87) (v := ?_) (a' := ?_) #[true, false, true, false, false, false, true, false, false] rfl rfl (any_of HT_.out (by kernel_rfl)) (fun _ _ _ h => h) (Or.inl ⟨by rfl, ?_⟩) ?_ ?_
                                      rotate_left
                                      · intro w'
                                        go_simp
                                        with_reducible rfl
                                      rotate_left
                                      · simp only [Act.put, List.setIfInBounds_toArray, List.set_cons_zero, List.set_cons_succ, i64_w, i32_w]
                                        rfl
                                      refine take_ (i := 1) (N := some 82) (v := ?_) (a' := ?_) #[true, true, true, false, false, false, true, false, false] rfl rfl (take_ofW HT_.out HW_.out (by kernel_rfl)) (fun _ _ _ h => h) (Or.inl ⟨by rfl, ?_⟩) hHeld ?_ ?_
                                      rotate_left
                                      · rintro w' ⟨s0, s1, s2, s3, s4, s5, s6, s7, s8⟩
                                        go_simp
                                        with_reducible rfl
                                      rotate_left
                                      · simp only [Act.put, List.setIfInBounds_toArray, List.set_cons_zero, List.set_cons_succ, i64_w, i32_w]
                                        rfl
                                      refine pure_ (i := 3) (N := some 84) (v := ?_) (a' := ?_) #[true, true, true, true, false, false, true, false, false] rfl rfl (any_of HT_.out (by kernel_rfl)) (fun _ _ _ h => h) (Or.inl ⟨by rfl, ?_⟩) ?_ ?_
                                      rotate_left
                                      · intro w'
                                        go_simp
                                        with_reducible rfl
                                      rotate_left
                                      · simp only [Act.put, List.setIfInBounds_toArray, List.set_cons_zero, List.set_cons_succ, i64_w, i32_w]
                                        rfl
                                      refine pure_ (i := 4) (N := some 85) (v := ?_) (a' := ?_) #[true, true, true, true, true, false, true, false, false] rfl rfl (any_of HT_.out (by kernel_rfl)) (fun _ _ _ h => h) (Or.inl ⟨by rfl, ?_⟩) ?_ ?_
                                      rotate_left
                                      · intro w'
                                        go_simp
                                        with_reducible rfl
                                      rotate_left
                                      · simp only [Act.put, List.setIfInBounds_toArray, List.set_cons_zero, List.set_cons_succ, i64_w, i32_w]
                                        rfl
                                      refine take_ (i := 5) (N := some 86) (v := ?_) (a' := ?_) #[true, true, true, true, true, true, true, false, false] rfl rfl (take_ofW HT_.out HW_.out (by kernel_rfl)) (fun _ _ _ h => h) (Or.inl ⟨by rfl, ?_⟩) hHeld ?_ ?_
                                      rotate_left
                                      · rintro w' ⟨s0, s1, s2, s3, s4, s5, s6, s7, s8⟩
                                        go_simp
                                        with_reducible rfl
                                      rotate_left
                                      · simp only [Act.put, List.setIfInBounds_toArray, List.set_cons_zero, List.set_cons_succ, i64_w, i32_w]
                                        rfl
                                      refine take_ (i := 7) (N := some 88) (v := ?_) (a' := ?_) #[true, true, true, true, true, true, true, true, false] rfl rfl (take_ofW HT_.out HW_.out (by kernel_rfl)) (fun _ _ _ h => h) (Or.inl ⟨by rfl, ?_⟩) hHeld ?_ ?_
                                      rotate_left
                                      · rintro w' ⟨s0, s1, s2, s3, s4, s5, s6, s7, s8⟩
                                        go_simp
                                        with_reducible rfl
                                      rotate_left
                                      · simp only [Act.put, List.setIfInBounds_toArray, List.set_cons_zero, List.set_cons_succ, i64_w, i32_w]
                                        rfl
                                      refine pure_ (i := 8) (N := some 89) (v := ?_) (a' := ?_) #[true, true, true, true, true, true, true, true, true] rfl rfl (any_of HT_.out (by kernel_rfl)) (fun _ _ _ h => h) (Or.inl ⟨by rfl, ?_⟩) ?_ ?_
                                      rotate_left
                                      · intro w'
                                        go_simp
                                        with_reducible rfl
                                      rotate_left
                                      · simp only [Act.put, List.setIfInBounds_toArray, List.set_cons_zero, List.set_cons_succ, i64_w, i32_w]
                                        rfl
                                      refine done_ (done_of HT_.out (by kernel_rfl)) ?_
                                      try go_wp2
                                      go_roundg k2
                                      case measure => have := HK1.out; have := HK2.out; omega
                                      case rel => exact ⟨(wrap64 (x14_2 + 1)), (x206000_2), (x206001_2), (x206002_2), (x206004_2), (by first | rfl | (simp; done) | (simp [*]; done)), H', ⟨by have := HK1.out; have := HK2.out; omega⟩, ⟨by (with_reducible repeat (first | apply Kd.R_alloc | apply Kd.R_drewN | apply Kd.R_drew)); exact HO_209003.out⟩, ⟨by (with_reducible repeat (first | refine blk_drewN ?_ _ | refine blk_drew ?_ | refine blk_alloc ?_ _)); exact BK205.out⟩, ⟨by (with_reducible repeat (first | refine blk_drewN ?_ _ | refine blk_drew ?_ | refine blk_alloc ?_ _)); exact BK208.out⟩, ⟨by (with_reducible repeat (first | refine blk_drewN ?_ _ | refine blk_drew ?_ | refine blk_alloc ?_ _)); exact BK215.out⟩, ⟨by repeat (first | (with_reducible first | exact HB.out | apply below_alloc | apply pw_below_drewN | apply below_drew1 | refine below_set ?_ GE205.out | refine below_set ?_ GE208.out | refine below_set ?_ GE215.out) | exact HB.out)⟩⟩
                                  · rw [if_neg c49] at H
                                    exact absurd H (by simp)
                                · rw [if_neg c48] at H
                                  have c48b0 : decide (x14_2 < (x209003_1.length : Int)) = false := decide_eq_false c48
                                  clear c48
                                  by_cases c63 : (x209003_1.length : Int) = 8
                                  · rw [if_pos c63] at H
                                    have c63b0 : ((x209003_1.length : Int) == 8) = true := beq_iff_eq.mpr c63
                                    have c63b1 : ((x209003_1.length : Int) != 8) = false := bne_eq_false_iff_eq.mpr c63
                                    clear c63
                                    simp only [Option.some.injEq, Prod.mk.injEq] at H
                                    obtain ⟨rfl, rfl, rfl, rfl, rfl, rfl, rfl⟩ := H
                                    have hnb64 := NB208_205.out
                                    have hnc64 := NB205_208.out
                                    have hnb65 := NB208_215.out
                                    have hnc65 := NB215_208.out
                                    have hcz66_0 : wr.cell? ⟨gb208, 0, none⟩ = some (.int .i64 1) := (blk_cell BK208.out 0).trans rfl
                                    have hcz66_1 : wr.cell? ⟨gb208, 1, none⟩ = some (.string (a0.extract (a1 : Int).toNat (t206 : Int).toNat)) := (blk_cell BK208.out 1).trans rfl
                                    have hcz66_2 : wr.cell? ⟨gb208, 2, none⟩ = some (.string (⟨#[]⟩ : ByteArray)) := (blk_cell BK208.out 2).trans rfl
                                    have hcz66_3 : wr.cell? ⟨gb208, 3, none⟩ = some (u209003) := (blk_cell BK208.out 3).trans rfl
                                    have hcz66_4 : wr.cell? ⟨gb208, 4, none⟩ = some (.bool x209004_1) := (blk_cell BK208.out 4).trans rfl
                                    have hfz66_0 := blk_frozen BK208.out 0
                                    have hfz66_1 := blk_frozen BK208.out 1
                                    have hfz66_2 := blk_frozen BK208.out 2
                                    have hfz66_3 := blk_frozen BK208.out 3
                                    have hfz66_4 := blk_frozen BK208.out 4
                                    obtain ⟨Ao67, co67, eo67⟩ := Kd.R_slice HO_209003.out
                                    subst eo67
                                    have hnb68 := NB205_215.out
                                    have hnc68 := NB215_205.out
                                    have hcz69_0 : wr.cell? ⟨gb205, 0, none⟩ = some (.int .i64 x206000_2) := (blk_cell BK205.out 0).trans rfl
                                    have hcz69_1 : wr.cell? ⟨gb205, 1, none⟩ = some (.string x206001_2) := (blk_cell BK205.out 1).trans rfl
                                    have hcz69_2 : wr.cell? ⟨gb205, 2, none⟩ = some (.string x206002_2) := (blk_cell BK205.out 2).trans rfl
                                    have hcz69_3 : wr.cell? ⟨gb205, 3, none⟩ = some (.slice none 0 0) := (blk_cell BK205.out 3).trans rfl
                                    have hcz69_4 : wr.cell? ⟨gb205, 4, none⟩ = some (.bool x206004_2) := (blk_cell BK205.out 4).trans rfl
                                    have hfz69_0 := blk_frozen BK205.out 0
                                    have hfz69_1 := blk_frozen BK205.out 1
                                    have hfz69_2 := blk_frozen BK205.out 2
                                    have hfz69_3 := blk_frozen BK205.out 3
                                    have hfz69_4 := blk_frozen BK205.out 4
                                    go_wp2
                                    refine bodyPost_ret (results_ctt rfl _ _ gb205 33 #[.int .i64 0, .string (⟨#[]⟩ : ByteArray), .string (⟨#[]⟩ : ByteArray), .slice none 0 0, .bool false] (0, 0) _ rfl (by (with_reducible repeat (first | refine blk_drewN ?_ _ | refine blk_drew ?_ | refine blk_alloc ?_ _)); refine blk_put (cs := #[.int .i64 0, .string (⟨#[]⟩ : ByteArray), .string (⟨#[]⟩ : ByteArray), .slice none 0 0, .bool x206004_2]) ?_ 4 _ rfl; (with_reducible repeat (first | refine blk_drewN ?_ _ | refine blk_drew ?_ | refine blk_alloc ?_ _)); refine blk_put (cs := #[.int .i64 0, .string (⟨#[]⟩ : ByteArray), .string (⟨#[]⟩ : ByteArray), .slice none 0 0, .bool x206004_2]) ?_ 3 _ rfl; (with_reducible repeat (first | refine blk_drewN ?_ _ | refine blk_drew ?_ | refine blk_alloc ?_ _)); refine blk_put (cs := #[.int .i64 0, .string (⟨#[]⟩ : ByteArray), .string x206002_2, .slice none 0 0, .bool x206004_2]) ?_ 2 _ rfl; (with_reducible repeat (first | refine blk_drewN ?_ _ | refine blk_drew ?_ | refine blk_alloc ?_ _)); refine blk_put (cs := #[.int .i64 0, .string x206001_2, .string x206002_2, .slice none 0 0, .bool x206004_2]) ?_ 1 _ rfl; (with_reducible repeat (first | refine blk_drewN ?_ _ | refine blk_drew ?_ | refine blk_alloc ?_ _)); refine blk_put (cs := #[.int .i64 x206000_2, .string x206001_2, .string x206002_2, .slice none 0 0, .bool x206004_2]) ?_ 0 _ rfl; (with_reducible repeat (first | refine blk_drewN ?_ _ | refine blk_drew ?_ | refine blk_alloc ?_ _)); exact BK205.out) Tryz.underlying33 rfl (by kernel_rfl)) rfl ?_
                                    exact ⟨_, by first | rfl | (simp [errW_none, errW_some] <;> rfl) | (simp [*, errW_none, errW_some] <;> rfl), by first | exact Kd.R_nil _ _ _ _ _ | exact Kd.N_nil _ _ _ _ _ | exact Kd.V_nil _ _ _ _ _ | exact Kd.Q_nil _ _ _ _ _ | exact Kd.S_nil _ _ _ _ _, by repeat (first | (with_reducible first | exact HB.out | apply below_alloc | apply pw_below_drewN | apply below_drew1 | refine below_set ?_ GE205.out | refine below_set ?_ GE208.out | refine below_set ?_ GE215.out) | exact HB.out)⟩
                                  · rw [if_neg c63] at H
                                    have c63b0 : ((x209003_1.length : Int) == 8) = false := beq_eq_false_iff_ne.mpr c63
                                    have c63b1 : ((x209003_1.length : Int) != 8) = true := bne_iff_ne.mpr c63
                                    by_cases c70 : x209003_1.length < 4398046511104
                                    · rw [if_pos c70] at H
                                      have LMc70 := Aside0.mk c70
                                      clear c70
                                      obtain ⟨y217, hy217⟩ : ∃ y_ : List (S68), y_ = (x209003_1 ++ [(⟨t211, t212⟩ : S68)]) := ⟨_, rfl⟩
                                      replace H : (breviaryref06_start.l0 k2 a0 t213 1 (a0.extract (a1 : Int).toNat (t206 : Int).toNat) (⟨#[]⟩ : ByteArray) y217 x209004_1) = some (r1, r2, r3, r4, r5, r6, r7) := by first | (rw [hy217]; with_reducible exact H) | (have H2_ := (Option.bind_some _ _).symm.trans H; rw [hy217]; with_reducible exact H2_) | (have H2_ := (Option.bind_some _ _).symm.trans H; with_reducible exact H2_) | with_reducible exact H | (rw [hy217]; exact H) | exact H
                                      have Ny217 := Aside0.mk hy217
                                      clear hy217
                                      have H' := Aside0.mk H
                                      clear H
                                      have hnb71 := NB208_205.out
                                      have hnc71 := NB205_208.out
                                      have hnb72 := NB208_215.out
                                      have hnc72 := NB215_208.out
                                      have hcz73_0 : wr.cell? ⟨gb208, 0, none⟩ = some (.int .i64 1) := (blk_cell BK208.out 0).trans rfl
                                      have hcz73_1 : wr.cell? ⟨gb208, 1, none⟩ = some (.string (a0.extract (a1 : Int).toNat (t206 : Int).toNat)) := (blk_cell BK208.out 1).trans rfl
                                      have hcz73_2 : wr.cell? ⟨gb208, 2, none⟩ = some (.string (⟨#[]⟩ : ByteArray)) := (blk_cell BK208.out 2).trans rfl
                                      have hcz73_3 : wr.cell? ⟨gb208, 3, none⟩ = some (u209003) := (blk_cell BK208.out 3).trans rfl
                                      have hcz73_4 : wr.cell? ⟨gb208, 4, none⟩ = some (.bool x209004_1) := (blk_cell BK208.out 4).trans rfl
                                      have hfz73_0 := blk_frozen BK208.out 0
                                      have hfz73_1 := blk_frozen BK208.out 1
                                      have hfz73_2 := blk_frozen BK208.out 2
                                      have hfz73_3 := blk_frozen BK208.out 3
                                      have hfz73_4 := blk_frozen BK208.out 4
                                      obtain ⟨Ao74, co74, eo74⟩ := Kd.R_slice HO_209003.out
                                      subst eo74
                                      have hnb75 := NB215_205.out
                                      have hnc75 := NB205_215.out
                                      have hcz76_0 : wr.cell? ⟨gb215, 0, none⟩ = some (.string t211) := (blk_cell BK215.out 0).trans rfl
                                      have hcz76_1 : wr.cell? ⟨gb215, 1, none⟩ = some (.string t212) := (blk_cell BK215.out 1).trans rfl
                                      have hfz76_0 := blk_frozen BK215.out 0
                                      have hfz76_1 := blk_frozen BK215.out 1
                                      go_wp2_with (first | ((with_reducible refine gate_builtin (b := .append) (xs := #[.tmp 97, .tmp 99]) rfl ?_); at_builtin; refine Kd.R_append k68 (w0 := w) w.heap.size rfl (.tmp 97) (.tmp 99) 31 68 (.agg #[(.string ⟨#[]⟩), (.string ⟨#[]⟩)]) 32 rfl Tryz.underlying31 info68 rfl (by decide) (by omega) (.slice Ao74 x209003_1.length co74) x209003_1 (⟨t211, t212⟩ : S68) [.string t211, .string t212] (fun k_ => k_ ≠ gb215) (fun _ => False) rfl rfl ?aP (fun _ hk => hk.elim) ?aF ?aO ?aB ?aS ?aL ?_; (case aP => exact k68_mkM _ _ _ (⟨t211, t212⟩ : S68)); (case aB => exact (by repeat (first | (with_reducible first | exact HB.out | apply below_alloc | apply pw_below_drewN | apply below_drew1 | refine below_set ?_ GE205.out | refine below_set ?_ GE208.out | refine below_set ?_ GE215.out) | exact HB.out))); (case aF => exact (fun k_ hk => Kd.freshB (g := gb215) (o := .cells #[.string t211, .string t212] 68 (0, 0)) (by (with_reducible repeat (first | refine blk_drewN ?_ _ | refine blk_drew ?_ | refine blk_alloc ?_ _)); exact BK215.out) k_ hk)); (case aO => exact (by (with_reducible repeat (first | apply Kd.R_alloc | apply Kd.R_drewN | apply Kd.R_drew)); exact HO_209003.out)); (case aS => exact (below_size (by repeat (first | (with_reducible first | exact HB.out | apply below_alloc | apply pw_below_drewN | apply below_drew1 | refine below_set ?_ GE205.out | refine below_set ?_ GE208.out | refine below_set ?_ GE215.out) | exact HB.out)))); (case aL => have := LMc70.out; omega); intro v218 w77 ho hb hg hat; rw [← Ny217.out] at ho; have n0_ := Aside0.mk (blk_grown (g := gb205) (o := .cells #[.int .i64 x206000_2, .string x206001_2, .string x206002_2, .slice none 0 0, .bool x206004_2] 33 (0, 0)) (by (with_reducible repeat (first | refine blk_drewN ?_ _ | refine blk_drew ?_ | refine blk_alloc ?_ _)); exact BK205.out) hg (Kd.R_ne HO_209003.out BK205.out (by decide))); have n1_ := Aside0.mk (blk_grown (g := gb208) (o := .cells #[.int .i64 1, .string (a0.extract (a1 : Int).toNat (t206 : Int).toNat), .string (⟨#[]⟩ : ByteArray), .slice Ao74 x209003_1.length co74, .bool x209004_1] 33 (0, 0)) (by (with_reducible repeat (first | refine blk_drewN ?_ _ | refine blk_drew ?_ | refine blk_alloc ?_ _)); exact BK208.out) hg (Kd.R_ne HO_209003.out BK208.out (by decide))); have n2_ := Aside0.mk (blk_grown (g := gb215) (o := .cells #[.string t211, .string t212] 68 (0, 0)) (by (with_reducible repeat (first | refine blk_drewN ?_ _ | refine blk_drew ?_ | refine blk_alloc ?_ _)); exact BK215.out) hg (Kd.R_away HO_209003.out (fun _ hk => hk))); have n3_ := Aside0.mk (hb); have n4_ := Aside0.mk (ho); clear BK205; clear BK208; clear BK215; clear HB; clear HO_209003; have BK205 := n0_; have BK208 := n1_; have BK215 := n2_; have HB := n3_; have HO219 := n4_; clear n0_ n1_ n2_ n3_ n4_; clear ho hb hg hat; obtain ⟨Ao78, co78, eo78⟩ := Kd.R_slice HO219.out; subst eo78; have hcz79_0 : w77.cell? ⟨gb208, 0, none⟩ = some (.int .i64 1) := (blk_cell BK208.out 0).trans rfl; have hcz79_1 : w77.cell? ⟨gb208, 1, none⟩ = some (.string (a0.extract (a1 : Int).toNat (t206 : Int).toNat)) := (blk_cell BK208.out 1).trans rfl; have hcz79_2 : w77.cell? ⟨gb208, 2, none⟩ = some (.string (⟨#[]⟩ : ByteArray)) := (blk_cell BK208.out 2).trans rfl; have hcz79_3 : w77.cell? ⟨gb208, 3, none⟩ = some (.slice Ao74 x209003_1.length co74) := (blk_cell BK208.out 3).trans rfl; have hcz79_4 : w77.cell? ⟨gb208, 4, none⟩ = some (.bool x209004_1) := (blk_cell BK208.out 4).trans rfl; have hfz79_0 := blk_frozen BK208.out 0; have hfz79_1 := blk_frozen BK208.out 1; have hfz79_2 := blk_frozen BK208.out 2; have hfz79_3 := blk_frozen BK208.out 3; have hfz79_4 := blk_frozen BK208.out 4))
                                      go_roundg k2
                                      case measure => have := HK1.out; have := HK2.out; omega
                                      case rel => exact ⟨(t213), (x206000_2), (x206001_2), (x206002_2), (x206004_2), (y217), (x209004_1), (.slice Ao78 y217.length co78), (by first | rfl | (simp; done) | (simp [*]; done)), H', ⟨by have := HK1.out; have := HK2.out; omega⟩, ⟨by (with_reducible repeat (first | apply Kd.R_alloc | apply Kd.R_drewN | apply Kd.R_drew)); exact Kd.R_mono (Kd.R_far (p := ⟨gb208, 3, none⟩) (Kd.R_types HO219.out BK208.out (by decide)) (fun _ hk => hk.2) (.slice Ao78 y217.length co78)) (fun _ hk => trivial)⟩, ⟨by (with_reducible repeat (first | refine blk_drewN ?_ _ | refine blk_drew ?_ | refine blk_alloc ?_ _)); refine blk_far ?_ NB205_208.out _; (with_reducible repeat (first | refine blk_drewN ?_ _ | refine blk_drew ?_ | refine blk_alloc ?_ _)); exact BK205.out⟩, ⟨by (with_reducible repeat (first | refine blk_drewN ?_ _ | refine blk_drew ?_ | refine blk_alloc ?_ _)); refine blk_put (cs := #[.int .i64 1, .string (a0.extract (a1 : Int).toNat (t206 : Int).toNat), .string (⟨#[]⟩ : ByteArray), .slice Ao74 x209003_1.length co74, .bool x209004_1]) ?_ 3 _ rfl; (with_reducible repeat (first | refine blk_drewN ?_ _ | refine blk_drew ?_ | refine blk_alloc ?_ _)); exact BK208.out⟩, ⟨by repeat (first | (with_reducible first | exact HB.out | apply below_alloc | apply pw_below_drewN | apply below_drew1 | refine below_set ?_ GE205.out | refine below_set ?_ GE208.out | refine below_set ?_ GE215.out) | exact HB.out)⟩⟩
                                    · rw [if_neg c70] at H
                                      exact absurd H (by simp)
                          · rw [if_neg c42] at H
                            have c42b0 : (t214 == 0) = false := beq_eq_false_iff_ne.mpr c42
                            have c42b1 : (t214 != 0) = true := bne_iff_ne.mpr c42
                            simp only [Option.some.injEq, Prod.mk.injEq] at H
                            obtain ⟨rfl, rfl, rfl, rfl, rfl, rfl, rfl⟩ := H
                            go_wp2_with (first | ((with_reducible refine gate_callee (f := 35) rfl ?_); refine goesL_ (some 34) rfl rfl Tryz.func35 (by kernel_rfl) rfl #[.string a0, .int .i64 x1_1] rfl (by (try simp only [List.map_toArray, List.map_cons, List.map_nil]); first | done | rfl | (simp only [List.length_drop, List.length_take]; rfl)) ?_; (with_reducible refine (breviaryref06_Spaces.calls k1 a0 x1_1 t209 _ A13.out).mono ?_); rintro e w' ⟨rfl, ⟨nd, rfl⟩⟩; refine ⟨_, rfl, ?_⟩; (try (rw [drewN_self wr]; generalize hq_ : World.drewN wr _ = wr; have n0_ : Aside0 (Kd.R k68 68 wr w.heap.size (fun _ => True) u209003 x209003_1) := ⟨by rw [← hq_]; exact (by (with_reducible repeat (first | apply Kd.R_alloc | apply Kd.R_drewN | apply Kd.R_drew)); exact HO_209003.out)⟩; have n1_ : Aside0 (wr.heap[gb205]? = some (.cells #[.int .i64 x206000_1, .string x206001_1, .string x206002_1, .slice none 0 0, .bool x206004_1] 33 (0, 0))) := ⟨by rw [← hq_]; exact (by (with_reducible repeat (first | refine blk_drewN ?_ _ | refine blk_drew ?_ | refine blk_alloc ?_ _)); exact BK205.out)⟩; have n2_ : Aside0 (wr.heap[gb208]? = some (.cells #[.int .i64 1, .string (a0.extract (a1 : Int).toNat (t206 : Int).toNat), .string (⟨#[]⟩ : ByteArray), u209003, .bool x209004_1] 33 (0, 0))) := ⟨by rw [← hq_]; exact (by (with_reducible repeat (first | refine blk_drewN ?_ _ | refine blk_drew ?_ | refine blk_alloc ?_ _)); exact BK208.out)⟩; have n3_ : Aside0 (Below w.heap.size w wr) := ⟨by rw [← hq_]; exact (by repeat (first | (with_reducible first | exact HB.out | apply below_alloc | apply pw_below_drewN | apply below_drew1 | refine below_set ?_ GE205.out | refine below_set ?_ GE208.out) | exact HB.out))⟩; clear HO_209003 BK205 BK208 HB hq_; have HO_209003 := n0_; have BK205 := n1_; have BK208 := n2_; have HB := n3_; clear n0_ n1_ n2_ n3_)); have p19 : 0 ≤ (t209 : Int) := of_decide_eq_true (by first | (with_reducible assumption) | assumption); have q19 : t209 < (a0.size : Int) := of_decide_eq_true (by first | (with_reducible assumption) | assumption); have hx19 := bt_at a0 t209; replace p19 := eq_true p19; replace q19 := eq_true q19; have p25 : 0 ≤ (t209 : Int) := of_decide_eq_true (by first | (with_reducible assumption) | assumption); have q25 : t209 < (a0.size : Int) := of_decide_eq_true (by first | (with_reducible assumption) | assumption); have hx25 := bt_at a0 t209; replace p25 := eq_true p25; replace q25 := eq_true q25) | ((with_reducible refine gate_callee (f := 63) rfl ?_); refine goesL_ (some 66) rfl rfl Tryz.func63 (by kernel_rfl) rfl #[.string a0, .int .i64 t209] rfl (by (try simp only [List.map_toArray, List.map_cons, List.map_nil]); first | done | rfl | (simp only [List.length_drop, List.length_take]; rfl)) ?_; (with_reducible refine (breviaryref06_attribute.calls k1 a0 t209 t211 t212 t213 t214 _ A41.out).mono ?_); rintro e w80 ⟨rfl, hb⟩; refine ⟨_, rfl, ?_⟩; have n0_ := Aside0.mk (Kd.R_below (by (with_reducible repeat (first | apply Kd.R_alloc | apply Kd.R_drewN | apply Kd.R_drew)); exact HO_209003.out) hb); have n1_ := Aside0.mk (blk_below (g := gb205) (o := .cells #[.int .i64 x206000_1, .string x206001_1, .string x206002_1, .slice none 0 0, .bool x206004_1] 33 (0, 0)) (by (with_reducible repeat (first | refine blk_drewN ?_ _ | refine blk_drew ?_ | refine blk_alloc ?_ _)); exact BK205.out) hb); have n2_ := Aside0.mk (blk_below (g := gb208) (o := .cells #[.int .i64 1, .string (a0.extract (a1 : Int).toNat (t206 : Int).toNat), .string (⟨#[]⟩ : ByteArray), u209003, .bool x209004_1] 33 (0, 0)) (by (with_reducible repeat (first | refine blk_drewN ?_ _ | refine blk_drew ?_ | refine blk_alloc ?_ _)); exact BK208.out) hb); have n3_ := Aside0.mk (below_step (by repeat (first | (with_reducible first | exact HB.out | apply below_alloc | apply pw_below_drewN | apply below_drew1 | refine below_set ?_ GE205.out | refine below_set ?_ GE208.out) | exact HB.out)) hb); clear HO_209003; clear BK205; clear BK208; clear HB; have HO_209003 := n0_; have BK205 := n1_; have BK208 := n2_; have HB := n3_; clear n0_ n1_ n2_ n3_; (try clear hb); (try clear hb2); (try clear hk); (try clear hi)) | ((with_reducible refine gate_dst (N := 11) rfl ?_); refine box_event ?hg (N := 11) ?hd (cs := #[.string (⟨#[]⟩ : ByteArray), .string (⟨#[]⟩ : ByteArray)]) (t := 68) ?hr ?_; (case hd => rfl); (case hg => rfl); (case hr => first | (go_simp; done) | (go_simp; rfl)); intro gb215 hg w81 hbox hb; have n0_ := Aside0.mk (Kd.R_below (Kd.R_elderB (by (with_reducible repeat (first | apply Kd.R_alloc | apply Kd.R_drewN | apply Kd.R_drew)); exact HO_209003.out) gb215 (Nat.le_of_eq hg.symm)) hb); have n1_ := Aside0.mk (blk_below (g := gb205) (o := .cells #[.int .i64 x206000_1, .string x206001_1, .string x206002_1, .slice none 0 0, .bool x206004_1] 33 (0, 0)) (by (with_reducible repeat (first | refine blk_drewN ?_ _ | refine blk_drew ?_ | refine blk_alloc ?_ _)); exact BK205.out) hb); have n2_ := Aside0.mk (blk_below (g := gb208) (o := .cells #[.int .i64 1, .string (a0.extract (a1 : Int).toNat (t206 : Int).toNat), .string (⟨#[]⟩ : ByteArray), u209003, .bool x209004_1] 33 (0, 0)) (by (with_reducible repeat (first | refine blk_drewN ?_ _ | refine blk_drew ?_ | refine blk_alloc ?_ _)); exact BK208.out) hb); have n3_ := Aside0.mk (below_step (by repeat (first | (with_reducible first | exact HB.out | apply below_alloc | apply pw_below_drewN | apply below_drew1 | refine below_set ?_ GE205.out | refine below_set ?_ GE208.out) | exact HB.out)) hb); have n4_ := Aside0.mk (hbox); have n5_ := Aside0.mk ((by rw [hg]; exact (below_size (by repeat (first | (with_reducible first | exact HB.out | apply below_alloc | apply pw_below_drewN | apply below_drew1 | refine below_set ?_ GE205.out | refine below_set ?_ GE208.out) | exact HB.out))) : w.heap.size ≤ gb215)); have n6_ := Aside0.mk ((by rw [hg]; exact (below_size (by repeat (first | (with_reducible first | exact HB.out | apply below_alloc | apply pw_below_drewN | apply below_drew1 | refine below_set ?_ GE205.out | refine below_set ?_ GE208.out) | exact HB.out))) : w.heap.size ≤ gb215)); have n7_ := Aside0.mk ((by rw [hg]; exact Nat.ne_of_lt (blk_lt (g := gb205) (o := .cells #[.int .i64 x206000_1, .string x206001_1, .string x206002_1, .slice none 0 0, .bool x206004_1] 33 (0, 0)) (by (with_reducible repeat (first | refine blk_drewN ?_ _ | refine blk_drew ?_ | refine blk_alloc ?_ _)); exact BK205.out)) : gb205 ≠ gb215)); have n8_ := Aside0.mk ((by rw [hg]; exact Nat.ne_of_gt (blk_lt (g := gb205) (o := .cells #[.int .i64 x206000_1, .string x206001_1, .string x206002_1, .slice none 0 0, .bool x206004_1] 33 (0, 0)) (by (with_reducible repeat (first | refine blk_drewN ?_ _ | refine blk_drew ?_ | refine blk_alloc ?_ _)); exact BK205.out)) : gb215 ≠ gb205)); have n9_ := Aside0.mk ((by rw [hg]; exact Nat.ne_of_lt (blk_lt (g := gb208) (o := .cells #[.int .i64 1, .string (a0.extract (a1 : Int).toNat (t206 : Int).toNat), .string (⟨#[]⟩ : ByteArray), u209003, .bool x209004_1] 33 (0, 0)) (by (with_reducible repeat (first | refine blk_drewN ?_ _ | refine blk_drew ?_ | refine blk_alloc ?_ _)); exact BK208.out)) : gb208 ≠ gb215)); have n10_ := Aside0.mk ((by rw [hg]; exact Nat.ne_of_gt (blk_lt (g := gb208) (o := .cells #[.int .i64 1, .string (a0.extract (a1 : Int).toNat (t206 : Int).toNat), .string (⟨#[]⟩ : ByteArray), u209003, .bool x209004_1] 33 (0, 0)) (by (with_reducible repeat (first | refine blk_drewN ?_ _ | refine blk_drew ?_ | refine blk_alloc ?_ _)); exact BK208.out)) : gb215 ≠ gb208)); clear HO_209003; clear BK205; clear BK208; clear HB; have HO_209003 := n0_; have BK205 := n1_; have BK208 := n2_; have HB := n3_; have BK215 := n4_; have GW215 := n5_; have GE215 := n6_; have NB205_215 := n7_; have NB215_205 := n8_; have NB208_215 := n9_; have NB215_208 := n10_; clear n0_ n1_ n2_ n3_ n4_ n5_ n6_ n7_ n8_ n9_ n10_; clear hb hbox hg; have hnb82 := NB215_205.out; have hnc82 := NB205_215.out; have hnb83 := NB215_208.out; have hnc83 := NB208_215.out; have hcz84_0 : w81.cell? ⟨gb215, 0, none⟩ = some (.string (⟨#[]⟩ : ByteArray)) := (blk_cell BK215.out 0).trans rfl; have hcz84_1 : w81.cell? ⟨gb215, 1, none⟩ = some (.string (⟨#[]⟩ : ByteArray)) := (blk_cell BK215.out 1).trans rfl; have hfz84_0 := blk_frozen BK215.out 0; have hfz84_1 := blk_frozen BK215.out 1; have hnb85 := NB205_208.out; have hnc85 := NB208_205.out; have hcz86_0 : w81.cell? ⟨gb205, 0, none⟩ = some (.int .i64 x206000_1) := (blk_cell BK205.out 0).trans rfl; have hcz86_1 : w81.cell? ⟨gb205, 1, none⟩ = some (.string x206001_1) := (blk_cell BK205.out 1).trans rfl; have hcz86_2 : w81.cell? ⟨gb205, 2, none⟩ = some (.string x206002_1) := (blk_cell BK205.out 2).trans rfl; have hcz86_3 : w81.cell? ⟨gb205, 3, none⟩ = some (.slice none 0 0) := (blk_cell BK205.out 3).trans rfl; have hcz86_4 : w81.cell? ⟨gb205, 4, none⟩ = some (.bool x206004_1) := (blk_cell BK205.out 4).trans rfl; have hfz86_0 := blk_frozen BK205.out 0; have hfz86_1 := blk_frozen BK205.out 1; have hfz86_2 := blk_frozen BK205.out 2; have hfz86_3 := blk_frozen BK205.out 3; have hfz86_4 := blk_frozen BK205.out 4))
                            refine bodyPost_ret (results_ctt rfl _ _ gb205 33 #[.int .i64 0, .string (⟨#[]⟩ : ByteArray), .string (⟨#[]⟩ : ByteArray), .slice none 0 0, .bool false] (0, 0) _ rfl (by (with_reducible repeat (first | refine blk_drewN ?_ _ | refine blk_drew ?_ | refine blk_alloc ?_ _)); refine blk_put (cs := #[.int .i64 0, .string (⟨#[]⟩ : ByteArray), .string (⟨#[]⟩ : ByteArray), .slice none 0 0, .bool x206004_1]) ?_ 4 _ rfl; (with_reducible repeat (first | refine blk_drewN ?_ _ | refine blk_drew ?_ | refine blk_alloc ?_ _)); refine blk_put (cs := #[.int .i64 0, .string (⟨#[]⟩ : ByteArray), .string (⟨#[]⟩ : ByteArray), .slice none 0 0, .bool x206004_1]) ?_ 3 _ rfl; (with_reducible repeat (first | refine blk_drewN ?_ _ | refine blk_drew ?_ | refine blk_alloc ?_ _)); refine blk_put (cs := #[.int .i64 0, .string (⟨#[]⟩ : ByteArray), .string x206002_1, .slice none 0 0, .bool x206004_1]) ?_ 2 _ rfl; (with_reducible repeat (first | refine blk_drewN ?_ _ | refine blk_drew ?_ | refine blk_alloc ?_ _)); refine blk_put (cs := #[.int .i64 0, .string x206001_1, .string x206002_1, .slice none 0 0, .bool x206004_1]) ?_ 1 _ rfl; (with_reducible repeat (first | refine blk_drewN ?_ _ | refine blk_drew ?_ | refine blk_alloc ?_ _)); refine blk_put (cs := #[.int .i64 x206000_1, .string x206001_1, .string x206002_1, .slice none 0 0, .bool x206004_1]) ?_ 0 _ rfl; (with_reducible repeat (first | refine blk_drewN ?_ _ | refine blk_drew ?_ | refine blk_alloc ?_ _)); refine blk_far ?_ NB205_215.out _; (with_reducible repeat (first | refine blk_drewN ?_ _ | refine blk_drew ?_ | refine blk_alloc ?_ _)); refine blk_far ?_ NB205_215.out _; (with_reducible repeat (first | refine blk_drewN ?_ _ | refine blk_drew ?_ | refine blk_alloc ?_ _)); exact BK205.out) Tryz.underlying33 rfl (by kernel_rfl)) rfl ?_
                            exact ⟨_, by first | rfl | (simp [errW_none, errW_some] <;> rfl) | (simp [*, errW_none, errW_some] <;> rfl), by first | exact Kd.R_nil _ _ _ _ _ | exact Kd.N_nil _ _ _ _ _ | exact Kd.V_nil _ _ _ _ _ | exact Kd.Q_nil _ _ _ _ _ | exact Kd.S_nil _ _ _ _ _, by repeat (first | (with_reducible first | exact HB.out | apply below_alloc | apply pw_below_drewN | apply below_drew1 | refine below_set ?_ GE205.out | refine below_set ?_ GE208.out | refine below_set ?_ GE215.out) | exact HB.out)⟩
                  · rw [if_neg c18] at H
                    exact absurd H (by simp)
                · rw [if_neg c17] at H
                  exact absurd H (by simp)
        · rw [if_neg c7] at H
          exact absurd H (by simp)
      · rw [if_neg c6] at H
        exact absurd H (by simp)
    · rw [if_neg c5] at H
      exact absurd H (by simp)
  · rw [if_neg c4] at H
    have c4b0 : (t207 == 0) = false := beq_eq_false_iff_ne.mpr c4
    have c4b1 : (t207 != 0) = true := bne_iff_ne.mpr c4
    simp only [Option.some.injEq, Prod.mk.injEq] at H
    obtain ⟨rfl, rfl, rfl, rfl, rfl, rfl, rfl⟩ := H
    go_enter Tryz.func37, Tryz.ntmps37
    go_wp2_with (first | ((with_reducible refine gate_dst (N := 4) rfl ?_); refine box_event ?hg (N := 4) ?hd (cs := #[.int .i64 0, .string (⟨#[]⟩ : ByteArray), .string (⟨#[]⟩ : ByteArray), .slice none 0 0, .bool false]) (t := 33) ?hr ?_; (case hd => rfl); (case hg => rfl); (case hr => first | (go_simp; done) | (go_simp; rfl)); intro gb205 hg w87 hbox hb; have n0_ := Aside0.mk (below_step (by repeat (first | (with_reducible first | exact HB.out | apply below_alloc | apply pw_below_drewN | apply below_drew1) | exact HB.out)) hb); have n1_ := Aside0.mk (hbox); have n2_ := Aside0.mk ((by rw [hg]; exact (below_size (by repeat (first | (with_reducible first | exact HB.out | apply below_alloc | apply pw_below_drewN | apply below_drew1) | exact HB.out))) : w.heap.size ≤ gb205)); have n3_ := Aside0.mk ((by rw [hg]; exact (below_size (by repeat (first | (with_reducible first | exact HB.out | apply below_alloc | apply pw_below_drewN | apply below_drew1) | exact HB.out))) : w.heap.size ≤ gb205)); clear HB; have HB := n0_; have BK205 := n1_; have GW205 := n2_; have GE205 := n3_; clear n0_ n1_ n2_ n3_; clear hb hbox hg) | ((with_reducible refine gate_callee (f := 34) rfl ?_); refine goesL_ (some 18) rfl rfl Tryz.func34 (by kernel_rfl) rfl #[.string a0, .int .i64 a1] rfl (by (try simp only [List.map_toArray, List.map_cons, List.map_nil]); first | done | rfl | (simp only [List.length_drop, List.length_take]; rfl)) ?_; (with_reducible refine (breviaryref06_name.calls k a0 a1 t206 t207 _ A3.out).mono ?_); rintro e w88 ⟨rfl, hb⟩; refine ⟨_, rfl, ?_⟩; have n0_ := Aside0.mk (blk_below (g := gb205) (o := .cells #[.int .i64 0, .string (⟨#[]⟩ : ByteArray), .string (⟨#[]⟩ : ByteArray), .slice none 0 0, .bool false] 33 (0, 0)) (by (with_reducible repeat (first | refine blk_drewN ?_ _ | refine blk_drew ?_ | refine blk_alloc ?_ _)); exact BK205.out) hb); have n1_ := Aside0.mk (below_step (by repeat (first | (with_reducible first | exact HB.out | apply below_alloc | apply pw_below_drewN | apply below_drew1 | refine below_set ?_ GE205.out) | exact HB.out)) hb); clear BK205; clear HB; have BK205 := n0_; have HB := n1_; clear n0_ n1_; (try clear hb); (try clear hb2); (try clear hk); (try clear hi); have hcz89_0 : w88.cell? ⟨gb205, 0, none⟩ = some (.int .i64 0) := (blk_cell BK205.out 0).trans rfl; have hcz89_1 : w88.cell? ⟨gb205, 1, none⟩ = some (.string (⟨#[]⟩ : ByteArray)) := (blk_cell BK205.out 1).trans rfl; have hcz89_2 : w88.cell? ⟨gb205, 2, none⟩ = some (.string (⟨#[]⟩ : ByteArray)) := (blk_cell BK205.out 2).trans rfl; have hcz89_3 : w88.cell? ⟨gb205, 3, none⟩ = some (.slice none 0 0) := (blk_cell BK205.out 3).trans rfl; have hcz89_4 : w88.cell? ⟨gb205, 4, none⟩ = some (.bool false) := (blk_cell BK205.out 4).trans rfl; have hfz89_0 := blk_frozen BK205.out 0; have hfz89_1 := blk_frozen BK205.out 1; have hfz89_2 := blk_frozen BK205.out 2; have hfz89_3 := blk_frozen BK205.out 3; have hfz89_4 := blk_frozen BK205.out 4))
    refine bodyPost_ret (results_ctt rfl _ _ gb205 33 #[.int .i64 0, .string (⟨#[]⟩ : ByteArray), .string (⟨#[]⟩ : ByteArray), .slice none 0 0, .bool false] (0, 0) _ rfl (by (with_reducible repeat (first | refine blk_drewN ?_ _ | refine blk_drew ?_ | refine blk_alloc ?_ _)); refine blk_put (cs := #[.int .i64 0, .string (⟨#[]⟩ : ByteArray), .string (⟨#[]⟩ : ByteArray), .slice none 0 0, .bool false]) ?_ 4 _ rfl; (with_reducible repeat (first | refine blk_drewN ?_ _ | refine blk_drew ?_ | refine blk_alloc ?_ _)); refine blk_put (cs := #[.int .i64 0, .string (⟨#[]⟩ : ByteArray), .string (⟨#[]⟩ : ByteArray), .slice none 0 0, .bool false]) ?_ 3 _ rfl; (with_reducible repeat (first | refine blk_drewN ?_ _ | refine blk_drew ?_ | refine blk_alloc ?_ _)); refine blk_put (cs := #[.int .i64 0, .string (⟨#[]⟩ : ByteArray), .string (⟨#[]⟩ : ByteArray), .slice none 0 0, .bool false]) ?_ 2 _ rfl; (with_reducible repeat (first | refine blk_drewN ?_ _ | refine blk_drew ?_ | refine blk_alloc ?_ _)); refine blk_put (cs := #[.int .i64 0, .string (⟨#[]⟩ : ByteArray), .string (⟨#[]⟩ : ByteArray), .slice none 0 0, .bool false]) ?_ 1 _ rfl; (with_reducible repeat (first | refine blk_drewN ?_ _ | refine blk_drew ?_ | refine blk_alloc ?_ _)); refine blk_put (cs := #[.int .i64 0, .string (⟨#[]⟩ : ByteArray), .string (⟨#[]⟩ : ByteArray), .slice none 0 0, .bool false]) ?_ 0 _ rfl; (with_reducible repeat (first | refine blk_drewN ?_ _ | refine blk_drew ?_ | refine blk_alloc ?_ _)); exact BK205.out) Tryz.underlying33 rfl (by kernel_rfl)) rfl ?_
    exact ⟨_, by first | rfl | (simp [errW_none, errW_some] <;> rfl) | (simp [*, errW_none, errW_some] <;> rfl), by first | exact Kd.R_nil _ _ _ _ _ | exact Kd.N_nil _ _ _ _ _ | exact Kd.V_nil _ _ _ _ _ | exact Kd.Q_nil _ _ _ _ _ | exact Kd.S_nil _ _ _ _ _, by repeat (first | (with_reducible first | exact HB.out | apply below_alloc | apply pw_below_drewN | apply below_drew1 | refine below_set ?_ GE205.out) | exact HB.out)⟩
end Go.Proofs.YtagihjlklbckmaaGreatDoor.Sc
