import Derived.Test.YthkdihpbdaehbaaMg5
namespace Go.Proofs.Ythkdihpbdaehbaa.Pr
set_option linter.unusedVariables false
set_option linter.unusedSimpArgs false
open Go.RowKit Go.Proofs.YthkdihpbdaehbaaW.PrintWords Go.Proofs.YthkdihpbdaehbaaW.PrintLast Go.Proofs.YthkdihpbdaehbaaW.PrintMore Go.Proofs.Ythkdihpbdaehbaa.Bs
set_option maxRecDepth 100000 in
set_option maxHeartbeats 64000000 in
theorem gr_6 (w : World) (A : Option Addr) (c : Nat) (xs : List Int) (hC : (Kd.int .u8).C w A xs.length xs) (hc : xs.length ≤ c) (hby : Bys xs) (h22 : ¬ xs.length < 22) (h42 : ¬ 4200 < xs.length) (hcls : cls xs = 6) : Calls Try.prog 15 #[.slice A xs.length c] w (GotRep w (getRep xs).1 ((getRep xs).2 == 0)) := by
  have HCLS := Aside0.mk hcls
  clear hcls
  have HP := parseRep_head xs h22
  obtain ⟨ad, rfl, hx0⟩ := Kd.at_int hC 0 (by omega) (by omega)
  have hk0 := hby _ (rd_mem xs 0 (by omega))
  have HV : ∀ a b n : Nat, a + n = b → b ≤ 19 → n ≤ 8 → ∃ A' : Option Addr, (∀ W : World, (Instr.slice 27 (.slice (some ad) xs.length c) (some (.int .i64 a)) (some (.int .i64 b)) none).run Try.prog W = .ok (.slice A' n (c - a)) W) ∧ (∀ W, (Kd.int .u8).C W (some ad) xs.length xs → Calls Try.prog 31 #[.slice A' n (c - a)] W fun e w' => e = .returned (.int .u64 (val (sub xs a b))) ∧ w' = W) := by
    intro a b n e h1 h8
    obtain ⟨A', hcut, hA⟩ := mid (some ad) c xs a b (by omega) (by omega) hc
    have hs := sub_length xs a b (by omega)
    rw [show b - a = n by omega] at hcut hA hs
    refine ⟨A', hcut, fun W hW => ?_⟩
    have h := value_still W A' (c - a) (sub xs a b) (hs.symm ▸ hA W hW) (sub_bys hby a b) (by omega)
    rw [hs] at h
    exact h
  obtain ⟨A1, cut1, V1⟩ := HV 1 3 2 rfl (by decide) (by decide)
  obtain ⟨A2, cut2, V2⟩ := HV 3 7 4 rfl (by decide) (by decide)
  obtain ⟨A3, cut3, V3⟩ := HV 7 11 4 rfl (by decide) (by decide)
  obtain ⟨A4, cut4, V4⟩ := HV 11 19 8 rfl (by decide) (by decide)
  clear HV
  have B1 := val_lt (sub xs 1 3) (sub_bys hby 1 3)
  have B2 := val_lt (sub xs 3 7) (sub_bys hby 3 7)
  have B3 := val_lt (sub xs 7 11) (sub_bys hby 7 11)
  rw [sub_length xs 1 3 (by omega)] at B1
  rw [sub_length xs 3 7 (by omega)] at B2
  rw [sub_length xs 7 11 (by omega)] at B3
  obtain ⟨b10, b11⟩ := (show 0 ≤ val (sub xs 1 3) ∧ val (sub xs 1 3) < 65536 from B1)
  obtain ⟨b20, b21⟩ := (show 0 ≤ val (sub xs 3 7) ∧ val (sub xs 3 7) < 4294967296 from B2)
  obtain ⟨b30, b31⟩ := (show 0 ≤ val (sub xs 7 11) ∧ val (sub xs 7 11) < 4294967296 from B3)
  clear B1 B2 B3
  generalize rd xs 0 = k at *
  generalize val (sub xs 1 3) = er at *
  generalize val (sub xs 3 7) = tx at *
  generalize val (sub xs 7 11) = id at *
  generalize val (sub xs 11 19) = ti at *
  obtain ⟨kk0, kk1⟩ := hk0
  have hx : ∀ z, (w.alloc z).cell? ad = some (.int .u8 k) := fun z => by have h := pw_cell_below (below_alloc (Below.refl _ _) z) hx0; exact h
  have hp0 : (0 : Int) < xs.length := by omega
  have h' : ¬ (xs.length : Int) < 22 := by omega
  have h2' : ¬ 4200 < (xs.length : Int) := by omega
  have HC := Aside0.mk hC
  have HPA := Aside0.mk HP
  have HBY := Aside0.mk hby
  have HCC := Aside0.mk hc
  have HX0 := Aside0.mk hx0
  have h42' := Aside0.mk (And.intro h22 h42)
  have cut1' : ∀ W : World, (Instr.slice 27 (.slice (some ad) xs.length c) (some (.int .i64 1)) (some (.int .i64 3)) none).run Try.prog W = .ok (.slice A1 2 (c - 1)) W := cut1
  have cut2' : ∀ W : World, (Instr.slice 27 (.slice (some ad) xs.length c) (some (.int .i64 3)) (some (.int .i64 7)) none).run Try.prog W = .ok (.slice A2 4 (c - 3)) W := cut2
  have cut3' : ∀ W : World, (Instr.slice 27 (.slice (some ad) xs.length c) (some (.int .i64 7)) (some (.int .i64 11)) none).run Try.prog W = .ok (.slice A3 4 (c - 7)) W := cut3
  have cut4' : ∀ W : World, (Instr.slice 27 (.slice (some ad) xs.length c) (some (.int .i64 11)) (some (.int .i64 19)) none).run Try.prog W = .ok (.slice A4 8 (c - 11)) W := cut4
  have W1 := Aside0.mk V1
  have W2 := Aside0.mk V2
  have W3 := Aside0.mk V3
  have W4 := Aside0.mk V4
  have hwr0 : IntKind.i64.wrap k = k := IntWalk.i64_in _ ⟨by omega, by omega⟩
  have hwr1 : IntKind.i64.wrap er = er := IntWalk.i64_in _ ⟨by omega, by omega⟩
  have hwr2 : IntKind.i64.wrap tx = tx := IntWalk.i64_in _ ⟨by omega, by omega⟩
  have hwr3 : IntKind.i64.wrap id = id := IntWalk.i64_in _ ⟨by omega, by omega⟩
  have hq : (0 < xs.length) = True := eq_true (by omega)
  clear cut1 cut2 cut3 cut4 V1 V2 V3 V4 HP hC hby hc hx0 h22 h42
  go_enter Try.func15, Try.ntmps15
  go_upto_region 3 with fail
  go_cut [4] (fun s4 wx => s4 = .pointer (some ⟨w.heap.size + 1, 0, none⟩) ∧ GR w #[.int .i64 k, .int .i64 er, .int .i64 tx, .int .i64 id, .int .u64 ti, .int .i64 0, .slice none 0 0, .bool false, .int .i64 0, .int .i64 0, .string ⟨#[]⟩, .string ⟨#[]⟩] wx)
  case first =>
    have hy : ∀ z z', ((w.alloc z).drew.alloc z').cell? ad = some (.int .u8 k) := fun z z' => by have h := pw_cell_below (below_alloc (below_drew (below_alloc (Below.refl _ _) z)) z') HX0.out; exact h
    have hy3 : ∀ z z', ((w.alloc z).alloc z').cell? ad = some (.int .u8 k) := fun z z' => by have h := pw_cell_below (below_alloc (below_alloc (Below.refl _ _) z) z') HX0.out; exact h
    have hy2 : ∀ z, (w.alloc z).drew.cell? ad = some (.int .u8 k) := fun z => by have h := pw_cell_below (below_drew (below_alloc (Below.refl _ _) z)) HX0.out; exact h
    go_region_held3 (fun w' => w'.cell? ad = some (.int .u8 k)) (first | exact hy _ _ | exact hy2 _ | exact hy3 _ _ | exact hx _ | go_keep) (first | (go_at_call 31; (with_reducible refine (W1.out _ ?_).mono ?_); (repeat (first | exact HC.out | refine Kd.C_drewN ?_ _ | refine Kd.C_drew ?_ | refine Kd.C_alloc ?_ _)); rintro e w' ⟨rfl, rfl⟩) | (go_at_call 31; (with_reducible refine (W2.out _ ?_).mono ?_); (repeat (first | exact HC.out | refine Kd.C_drewN ?_ _ | refine Kd.C_drew ?_ | refine Kd.C_alloc ?_ _)); rintro e w' ⟨rfl, rfl⟩) | (go_at_call 31; (with_reducible refine (W3.out _ ?_).mono ?_); (repeat (first | exact HC.out | refine Kd.C_drewN ?_ _ | refine Kd.C_drew ?_ | refine Kd.C_alloc ?_ _)); rintro e w' ⟨rfl, rfl⟩) | (go_at_call 31; (with_reducible refine (W4.out _ ?_).mono ?_); (repeat (first | exact HC.out | refine Kd.C_drewN ?_ _ | refine Kd.C_drew ?_ | refine Kd.C_alloc ?_ _)); rintro e w' ⟨rfl, rfl⟩))
    all_goals
      go_wp2_with fail
      go_meet
      exact ⟨rfl, (GR.start w #[.int .i64 k, .int .i64 er, .int .i64 tx, .int .i64 id, .int .u64 ti, .int .i64 0, .slice none 0 0, .bool false, .int .i64 0, .int .i64 0, .string ⟨#[]⟩, .string ⟨#[]⟩]).drew⟩
  case rest =>
    obtain ⟨rfl, G0⟩ := hcut
    clear hx cut1' cut2' cut3' cut4' hwr1 hwr2 hwr3
    obtain ⟨a0, a1, a2, a3, a4, a5, a6, a7, a8, a9, a10, a11, a12⟩ := blk12 G0.q
    have G0 := Aside0.mk G0
    go_wp2_with fail
    have C30 := Aside0.mk (show ∀ (w : World) (hC : (Kd.int .u8).C w (some ad) xs.length xs), Calls Try.prog 30 #[.slice (some ad) xs.length c, .int .i64 19] w fun e w' => e = .returned (.tuple #[.string (wordsAt xs 19).1, .int .i64 (wordsAt xs 19).2]) ∧ Drawn0 w w' from fun w hC => words_ref w (some ad) c xs 19 hC HCC.out HBY.out (by have := h42'.out.1; omega) (by have := h42'.out.2; omega))
    have HWT := Aside0.mk (show wordsAt xs 19 = match textP (xs.drop 19) with | none => (nil8, -1) | some (s, r) => (s, (xs.length : Int) - r.length) from rfl)
    cases htp : textP (xs.drop 19) with
    | none =>
      have EP := Aside0.mk (show parseRep xs = none by rw [HPA.out, htp])
      have hw : wordsAt xs 19 = (nil8, -1) := by rw [HWT.out, htp]
      rw [hw] at C30
      clear hw htp HWT
      refine (C30.out _ (Kd.C_below HC.out G0.out.b)).mono ?_
      rintro e w1 ⟨rfl, hd⟩
      have g1 := G0.out.drawn hd
      clear a0 a1 a2 a3 a4 a5 a6 a7 a8 a9 a10 a11 a12
      obtain ⟨a0, a1, a2, a3, a4, a5, a6, a7, a8, a9, a10, a11, a12⟩ := blk12 g1.q
      have G1 := Aside0.mk g1
      clear hd g1
      have EZ := Aside0.mk (rp_none xs EP.out : getRep xs = (zeroRep, 61))
      have GE := G1.out
      obtain ⟨m0, m1, m2, m3, m4, m5, m6, m7, m8, m9, m10, m11, m12⟩ := blk12 GE.r
      have S := Aside0.mk (set12_q GE.r (.int .i64 0) (.int .i64 0) (.int .i64 0) (.int .i64 0) (.int .u64 0) (.int .i64 0) (.slice none 0 0) (.bool false) (.int .i64 0) (.int .i64 0) (.string ⟨#[]⟩) (.string ⟨#[]⟩))
      have SB := Aside0.mk (GE.b.trans (Ch.to_below (set12_ch w1 w.heap.size (.int .i64 0) (.int .i64 0) (.int .i64 0) (.int .i64 0) (.int .u64 0) (.int .i64 0) (.slice none 0 0) (.bool false) (.int .i64 0) (.int .i64 0) (.string ⟨#[]⟩) (.string ⟨#[]⟩)) (B := w.heap.size) (fun k hk => by omega) (Nat.le_trans GE.b.size (Nat.le_refl _))))
      clear GE
      go_wp2_with fail
      change bodyPost Try.prog Try.f15 _ Exit.ret _ (set12 w1 w.heap.size (.int .i64 0) (.int .i64 0) (.int .i64 0) (.int .i64 0) (.int .u64 0) (.int .i64 0) (.slice none 0 0) (.bool false) (.int .i64 0) (.int .i64 0) (.string ⟨#[]⟩) (.string ⟨#[]⟩))
      clear m0 m1 m2 m3 m4 m5 m6 m7 m8 m9 m10 m11 m12 a0 a1 a2 a3 a4 a5 a6 a7 a8 a9 a10 a11 a12
      generalize set12 w1 w.heap.size (.int .i64 0) (.int .i64 0) (.int .i64 0) (.int .i64 0) (.int .u64 0) (.int .i64 0) (.slice none 0 0) (.bool false) (.int .i64 0) (.int .i64 0) (.string ⟨#[]⟩) (.string ⟨#[]⟩) = w2_ at *
      obtain ⟨d0, d1, d2, d3, d4, d5, d6, d7, d8, d9, d10, d11, d12⟩ := blk12 S.out
      rw [EZ.out]
      exact bodyPost_ret (v := .tuple #[.agg zrep, .bool false]) (by simp [results, Try.results15, go_sem, d0, d1, d2, d3, d4, d5, d6, d7, d8, d9, d10, d11, zrep, zeroRep, Rp.cells, nil8]) rfl (GotRep.zero SB.out)
    | some sr =>
      obtain ⟨s, r⟩ := sr
      obtain ⟨hrr, hrl⟩ := textP_rest htp
      rw [List.length_drop] at hrl hrr
      have hl22 := h42'.out.1
      rw [List.drop_drop, show 19 + (xs.length - 19 - r.length) = xs.length - r.length by omega] at hrr
      obtain ⟨m, hm⟩ : ∃ m, m = xs.length - r.length := ⟨_, rfl⟩
      have hml : m ≤ xs.length := by omega
      have hmi : (xs.length : Int) - r.length = m := by omega
      have hw : wordsAt xs 19 = (s, (m : Int)) := by rw [HWT.out, htp]; exact congrArg (Prod.mk s) hmi
      rw [← hm] at hrr
      rw [hw] at C30
      have EP0 := Aside0.mk (show parseRep xs = match numP 1 r with | none => none | some (vt, x7) => tailP k er tx id ti s vt x7 by rw [HPA.out, htp]; first | done | rfl)
      have HCT := Aside0.mk (show cls xs = clsL r by rw [cls, htp]; first | done | rfl)
      clear hw htp HWT HPA hmi
      by_cases hr0 : r = []
      · skip
        have EP := Aside0.mk (show parseRep xs = none by rw [EP0.out, hr0]; rfl)
        have hr00 : r.length = 0 := by rw [hr0]; rfl
        have hge : (m : Int) ≥ xs.length := by omega
        have hge1 : ¬ (m : Int) < 0 := by omega
        have hge2 : (xs.length : Int) ≤ m := hge
        clear hr0 hr00 hrr hrl hm EP0 hl22
        refine (C30.out _ (Kd.C_below HC.out G0.out.b)).mono ?_
        rintro e w1 ⟨rfl, hd⟩
        have g1 := G0.out.drawn hd
        clear a0 a1 a2 a3 a4 a5 a6 a7 a8 a9 a10 a11 a12
        obtain ⟨a0, a1, a2, a3, a4, a5, a6, a7, a8, a9, a10, a11, a12⟩ := blk12 g1.q
        have G1 := Aside0.mk g1
        clear hd g1
        have EZ := Aside0.mk (rp_none xs EP.out : getRep xs = (zeroRep, 61))
        have GE := G1.out
        obtain ⟨m0, m1, m2, m3, m4, m5, m6, m7, m8, m9, m10, m11, m12⟩ := blk12 GE.r
        have S := Aside0.mk (set12_q GE.r (.int .i64 0) (.int .i64 0) (.int .i64 0) (.int .i64 0) (.int .u64 0) (.int .i64 0) (.slice none 0 0) (.bool false) (.int .i64 0) (.int .i64 0) (.string ⟨#[]⟩) (.string ⟨#[]⟩))
        have SB := Aside0.mk (GE.b.trans (Ch.to_below (set12_ch w1 w.heap.size (.int .i64 0) (.int .i64 0) (.int .i64 0) (.int .i64 0) (.int .u64 0) (.int .i64 0) (.slice none 0 0) (.bool false) (.int .i64 0) (.int .i64 0) (.string ⟨#[]⟩) (.string ⟨#[]⟩)) (B := w.heap.size) (fun k hk => by omega) (Nat.le_trans GE.b.size (Nat.le_refl _))))
        clear GE
        go_wp2_with fail
        change bodyPost Try.prog Try.f15 _ Exit.ret _ (set12 w1 w.heap.size (.int .i64 0) (.int .i64 0) (.int .i64 0) (.int .i64 0) (.int .u64 0) (.int .i64 0) (.slice none 0 0) (.bool false) (.int .i64 0) (.int .i64 0) (.string ⟨#[]⟩) (.string ⟨#[]⟩))
        clear m0 m1 m2 m3 m4 m5 m6 m7 m8 m9 m10 m11 m12 a0 a1 a2 a3 a4 a5 a6 a7 a8 a9 a10 a11 a12
        generalize set12 w1 w.heap.size (.int .i64 0) (.int .i64 0) (.int .i64 0) (.int .i64 0) (.int .u64 0) (.int .i64 0) (.slice none 0 0) (.bool false) (.int .i64 0) (.int .i64 0) (.string ⟨#[]⟩) (.string ⟨#[]⟩) = w2_ at *
        obtain ⟨d0, d1, d2, d3, d4, d5, d6, d7, d8, d9, d10, d11, d12⟩ := blk12 S.out
        rw [EZ.out]
        exact bodyPost_ret (v := .tuple #[.agg zrep, .bool false]) (by simp [results, Try.results15, go_sem, d0, d1, d2, d3, d4, d5, d6, d7, d8, d9, d10, d11, zrep, zeroRep, Rp.cells, nil8]) rfl (GotRep.zero SB.out)
      exact absurd (HCT.out.symm.trans HCLS.out) (cls_ne r hr0)
set_option maxRecDepth 100000 in
set_option maxHeartbeats 64000000 in
theorem gr_0 (w : World) (A : Option Addr) (c : Nat) (xs : List Int) (hC : (Kd.int .u8).C w A xs.length xs) (hc : xs.length ≤ c) (hby : Bys xs) (h22 : ¬ xs.length < 22) (h42 : ¬ 4200 < xs.length) (hcls : cls xs = 0) : Calls Try.prog 15 #[.slice A xs.length c] w (GotRep w (getRep xs).1 ((getRep xs).2 == 0)) := by
  have HCLS := Aside0.mk hcls
  clear hcls
  have HP := parseRep_head xs h22
  obtain ⟨ad, rfl, hx0⟩ := Kd.at_int hC 0 (by omega) (by omega)
  have hk0 := hby _ (rd_mem xs 0 (by omega))
  have HV : ∀ a b n : Nat, a + n = b → b ≤ 19 → n ≤ 8 → ∃ A' : Option Addr, (∀ W : World, (Instr.slice 27 (.slice (some ad) xs.length c) (some (.int .i64 a)) (some (.int .i64 b)) none).run Try.prog W = .ok (.slice A' n (c - a)) W) ∧ (∀ W, (Kd.int .u8).C W (some ad) xs.length xs → Calls Try.prog 31 #[.slice A' n (c - a)] W fun e w' => e = .returned (.int .u64 (val (sub xs a b))) ∧ w' = W) := by
    intro a b n e h1 h8
    obtain ⟨A', hcut, hA⟩ := mid (some ad) c xs a b (by omega) (by omega) hc
    have hs := sub_length xs a b (by omega)
    rw [show b - a = n by omega] at hcut hA hs
    refine ⟨A', hcut, fun W hW => ?_⟩
    have h := value_still W A' (c - a) (sub xs a b) (hs.symm ▸ hA W hW) (sub_bys hby a b) (by omega)
    rw [hs] at h
    exact h
  obtain ⟨A1, cut1, V1⟩ := HV 1 3 2 rfl (by decide) (by decide)
  obtain ⟨A2, cut2, V2⟩ := HV 3 7 4 rfl (by decide) (by decide)
  obtain ⟨A3, cut3, V3⟩ := HV 7 11 4 rfl (by decide) (by decide)
  obtain ⟨A4, cut4, V4⟩ := HV 11 19 8 rfl (by decide) (by decide)
  clear HV
  have B1 := val_lt (sub xs 1 3) (sub_bys hby 1 3)
  have B2 := val_lt (sub xs 3 7) (sub_bys hby 3 7)
  have B3 := val_lt (sub xs 7 11) (sub_bys hby 7 11)
  rw [sub_length xs 1 3 (by omega)] at B1
  rw [sub_length xs 3 7 (by omega)] at B2
  rw [sub_length xs 7 11 (by omega)] at B3
  obtain ⟨b10, b11⟩ := (show 0 ≤ val (sub xs 1 3) ∧ val (sub xs 1 3) < 65536 from B1)
  obtain ⟨b20, b21⟩ := (show 0 ≤ val (sub xs 3 7) ∧ val (sub xs 3 7) < 4294967296 from B2)
  obtain ⟨b30, b31⟩ := (show 0 ≤ val (sub xs 7 11) ∧ val (sub xs 7 11) < 4294967296 from B3)
  clear B1 B2 B3
  generalize rd xs 0 = k at *
  generalize val (sub xs 1 3) = er at *
  generalize val (sub xs 3 7) = tx at *
  generalize val (sub xs 7 11) = id at *
  generalize val (sub xs 11 19) = ti at *
  obtain ⟨kk0, kk1⟩ := hk0
  have hx : ∀ z, (w.alloc z).cell? ad = some (.int .u8 k) := fun z => by have h := pw_cell_below (below_alloc (Below.refl _ _) z) hx0; exact h
  have hp0 : (0 : Int) < xs.length := by omega
  have h' : ¬ (xs.length : Int) < 22 := by omega
  have h2' : ¬ 4200 < (xs.length : Int) := by omega
  have HC := Aside0.mk hC
  have HPA := Aside0.mk HP
  have HBY := Aside0.mk hby
  have HCC := Aside0.mk hc
  have HX0 := Aside0.mk hx0
  have h42' := Aside0.mk (And.intro h22 h42)
  have cut1' : ∀ W : World, (Instr.slice 27 (.slice (some ad) xs.length c) (some (.int .i64 1)) (some (.int .i64 3)) none).run Try.prog W = .ok (.slice A1 2 (c - 1)) W := cut1
  have cut2' : ∀ W : World, (Instr.slice 27 (.slice (some ad) xs.length c) (some (.int .i64 3)) (some (.int .i64 7)) none).run Try.prog W = .ok (.slice A2 4 (c - 3)) W := cut2
  have cut3' : ∀ W : World, (Instr.slice 27 (.slice (some ad) xs.length c) (some (.int .i64 7)) (some (.int .i64 11)) none).run Try.prog W = .ok (.slice A3 4 (c - 7)) W := cut3
  have cut4' : ∀ W : World, (Instr.slice 27 (.slice (some ad) xs.length c) (some (.int .i64 11)) (some (.int .i64 19)) none).run Try.prog W = .ok (.slice A4 8 (c - 11)) W := cut4
  have W1 := Aside0.mk V1
  have W2 := Aside0.mk V2
  have W3 := Aside0.mk V3
  have W4 := Aside0.mk V4
  have hwr0 : IntKind.i64.wrap k = k := IntWalk.i64_in _ ⟨by omega, by omega⟩
  have hwr1 : IntKind.i64.wrap er = er := IntWalk.i64_in _ ⟨by omega, by omega⟩
  have hwr2 : IntKind.i64.wrap tx = tx := IntWalk.i64_in _ ⟨by omega, by omega⟩
  have hwr3 : IntKind.i64.wrap id = id := IntWalk.i64_in _ ⟨by omega, by omega⟩
  have hq : (0 < xs.length) = True := eq_true (by omega)
  clear cut1 cut2 cut3 cut4 V1 V2 V3 V4 HP hC hby hc hx0 h22 h42
  go_enter Try.func15, Try.ntmps15
  go_upto_region 3 with fail
  go_cut [4] (fun s4 wx => s4 = .pointer (some ⟨w.heap.size + 1, 0, none⟩) ∧ GR w #[.int .i64 k, .int .i64 er, .int .i64 tx, .int .i64 id, .int .u64 ti, .int .i64 0, .slice none 0 0, .bool false, .int .i64 0, .int .i64 0, .string ⟨#[]⟩, .string ⟨#[]⟩] wx)
  case first =>
    have hy : ∀ z z', ((w.alloc z).drew.alloc z').cell? ad = some (.int .u8 k) := fun z z' => by have h := pw_cell_below (below_alloc (below_drew (below_alloc (Below.refl _ _) z)) z') HX0.out; exact h
    have hy3 : ∀ z z', ((w.alloc z).alloc z').cell? ad = some (.int .u8 k) := fun z z' => by have h := pw_cell_below (below_alloc (below_alloc (Below.refl _ _) z) z') HX0.out; exact h
    have hy2 : ∀ z, (w.alloc z).drew.cell? ad = some (.int .u8 k) := fun z => by have h := pw_cell_below (below_drew (below_alloc (Below.refl _ _) z)) HX0.out; exact h
    go_region_held3 (fun w' => w'.cell? ad = some (.int .u8 k)) (first | exact hy _ _ | exact hy2 _ | exact hy3 _ _ | exact hx _ | go_keep) (first | (go_at_call 31; (with_reducible refine (W1.out _ ?_).mono ?_); (repeat (first | exact HC.out | refine Kd.C_drewN ?_ _ | refine Kd.C_drew ?_ | refine Kd.C_alloc ?_ _)); rintro e w' ⟨rfl, rfl⟩) | (go_at_call 31; (with_reducible refine (W2.out _ ?_).mono ?_); (repeat (first | exact HC.out | refine Kd.C_drewN ?_ _ | refine Kd.C_drew ?_ | refine Kd.C_alloc ?_ _)); rintro e w' ⟨rfl, rfl⟩) | (go_at_call 31; (with_reducible refine (W3.out _ ?_).mono ?_); (repeat (first | exact HC.out | refine Kd.C_drewN ?_ _ | refine Kd.C_drew ?_ | refine Kd.C_alloc ?_ _)); rintro e w' ⟨rfl, rfl⟩) | (go_at_call 31; (with_reducible refine (W4.out _ ?_).mono ?_); (repeat (first | exact HC.out | refine Kd.C_drewN ?_ _ | refine Kd.C_drew ?_ | refine Kd.C_alloc ?_ _)); rintro e w' ⟨rfl, rfl⟩))
    all_goals
      go_wp2_with fail
      go_meet
      exact ⟨rfl, (GR.start w #[.int .i64 k, .int .i64 er, .int .i64 tx, .int .i64 id, .int .u64 ti, .int .i64 0, .slice none 0 0, .bool false, .int .i64 0, .int .i64 0, .string ⟨#[]⟩, .string ⟨#[]⟩]).drew⟩
  case rest =>
    obtain ⟨rfl, G0⟩ := hcut
    clear hx cut1' cut2' cut3' cut4' hwr1 hwr2 hwr3
    obtain ⟨a0, a1, a2, a3, a4, a5, a6, a7, a8, a9, a10, a11, a12⟩ := blk12 G0.q
    have G0 := Aside0.mk G0
    go_wp2_with fail
    have C30 := Aside0.mk (show ∀ (w : World) (hC : (Kd.int .u8).C w (some ad) xs.length xs), Calls Try.prog 30 #[.slice (some ad) xs.length c, .int .i64 19] w fun e w' => e = .returned (.tuple #[.string (wordsAt xs 19).1, .int .i64 (wordsAt xs 19).2]) ∧ Drawn0 w w' from fun w hC => words_ref w (some ad) c xs 19 hC HCC.out HBY.out (by have := h42'.out.1; omega) (by have := h42'.out.2; omega))
    have HWT := Aside0.mk (show wordsAt xs 19 = match textP (xs.drop 19) with | none => (nil8, -1) | some (s, r) => (s, (xs.length : Int) - r.length) from rfl)
    cases htp : textP (xs.drop 19) with
    | none =>
      exact absurd (HCLS.out.symm.trans (show cls xs = 6 by rw [cls, htp]; first | done | rfl)) (by decide)
    | some sr =>
      obtain ⟨s, r⟩ := sr
      obtain ⟨hrr, hrl⟩ := textP_rest htp
      rw [List.length_drop] at hrl hrr
      have hl22 := h42'.out.1
      rw [List.drop_drop, show 19 + (xs.length - 19 - r.length) = xs.length - r.length by omega] at hrr
      obtain ⟨m, hm⟩ : ∃ m, m = xs.length - r.length := ⟨_, rfl⟩
      have hml : m ≤ xs.length := by omega
      have hmi : (xs.length : Int) - r.length = m := by omega
      have hw : wordsAt xs 19 = (s, (m : Int)) := by rw [HWT.out, htp]; exact congrArg (Prod.mk s) hmi
      rw [← hm] at hrr
      rw [hw] at C30
      have EP0 := Aside0.mk (show parseRep xs = match numP 1 r with | none => none | some (vt, x7) => tailP k er tx id ti s vt x7 by rw [HPA.out, htp]; first | done | rfl)
      have HCT := Aside0.mk (show cls xs = clsL r by rw [cls, htp]; first | done | rfl)
      clear hw htp HWT HPA hmi
      by_cases hr0 : r = []
      · skip
        exact absurd (HCLS.out.symm.trans (show cls xs = 6 by rw [HCT.out, hr0]; first | done | rfl)) (by decide)
      have hrpos : 0 < r.length := List.length_pos_iff.mpr hr0
      have hm1 : m < xs.length := by omega
      have hdm : xs.drop m = rd xs (m : Int) :: xs.drop (m + 1) := rd_drop' xs m hm1
      have hnp : numP 1 r = some (rd xs (m : Int), xs.drop (m + 1)) := by rw [hrr, numP_at xs m 1 (m + 1) rfl (by omega), val_one xs m hm1]
      have EP1 := Aside0.mk (show parseRep xs = tailP k er tx id ti s (rd xs (m : Int)) (xs.drop (m + 1)) by rw [EP0.out, hnp])
      have HCV := Aside0.mk (show clsV (rd xs (m : Int)) = 0 by rw [← HCLS.out, HCT.out, hrr, hdm]; first | done | rfl)
      clear HCT
      have hvb := HBY.out _ (rd_mem xs m hm1)
      obtain ⟨A5, cut5, HA5⟩ := suffix (some ad) c xs (m + 1) (by omega) HCC.out
      have cut5' : ∀ W : World, (Instr.slice 27 (.slice (some ad) xs.length c) (some (.int .i64 ((m : Int) + 1))) none none).run Try.prog W = .ok (.slice A5 (xs.drop (m + 1)).length (c - (m + 1))) W := cut5
      have HY2 := Aside0.mk (show Bys (xs.drop (m + 1)) from HBY.out.drop _)
      have hc5 := Aside0.mk (show (xs.drop (m + 1)).length ≤ c - (m + 1) by rw [List.length_drop]; have := HCC.out; omega)
      have hL := Aside0.mk (show (xs.drop (m + 1)).length ≤ 4200 by rw [List.length_drop]; have := h42'.out.2; omega)
      clear hnp hdm hrr hrl hm hr0 EP0 cut5 hrpos hl22
      have hcl : ∀ W, (Kd.int .u8).C W (some ad) xs.length xs → W.cell? (ad.add m) = some (.int .u8 (rd xs (m : Int))) := fun W hW => by
        obtain ⟨ad', e', hh⟩ := Kd.at_int hW (m : Int) (by omega) (by omega)
        cases e'
        rw [Int.toNat_natCast] at hh
        exact hh
      generalize rd xs (m : Int) = vt at *
      generalize xs.drop (m + 1) = ys at *
      generalize c - (m + 1) = c5 at *
      obtain ⟨vt0, vt1⟩ := hvb
      have hm2 : ¬ (m : Int) ≥ xs.length := by omega
      have hm3 : ¬ (m : Int) < 0 := by omega
      have hm4 : (m : Int) < xs.length := by omega
      have hm5 : ¬ (xs.length : Int) ≤ m := by omega
      have HCL := Aside0.mk hcl
      have HA5 := Aside0.mk HA5
      clear hcl
      refine (C30.out _ (Kd.C_below HC.out G0.out.b)).mono ?_
      rintro e w1 ⟨rfl, hd⟩
      have g1 := G0.out.drawn hd
      clear a0 a1 a2 a3 a4 a5 a6 a7 a8 a9 a10 a11 a12 C30
      obtain ⟨a0, a1, a2, a3, a4, a5, a6, a7, a8, a9, a10, a11, a12⟩ := blk12 g1.q
      have G1 := Aside0.mk g1
      clear hd g1 G0
      have g2 := G1.out.set 11 (.string s) rfl
      have hcl2 := HCL.out _ (Kd.C_below HC.out g2.b)
      have G2 := Aside0.mk (g2.set 5 (.int .i64 vt) rfl)
      clear g2
      by_cases v1 : vt = 1
      · exact absurd HCV.out (by simp [clsV, v1])
      by_cases v2 : vt = 2
      · exact absurd HCV.out (by simp [clsV, v1, v2])
      by_cases v3 : vt = 3
      · exact absurd HCV.out (by simp [clsV, v1, v2, v3])
      by_cases v4 : vt = 4
      · exact absurd HCV.out (by simp [clsV, v1, v2, v3, v4])
      have EP := Aside0.mk (show parseRep xs = some (⟨k, er, tx, id, ti, vt, [], false, 0, 0, nil8, s⟩, true, ys) by rw [EP1.out, tailP, if_neg v1, if_neg v2, if_neg v3, if_neg v4])
      have u1 : (vt == 1) = false := by simpa using v1
      have u2 : (vt == 2) = false := by simpa using v2
      have u3 : (vt == 3) = false := by simpa using v3
      have u4 : (vt == 4) = false := by simpa using v4
      clear v1 v2 v3 v4 EP1
      by_cases hy0 : ys = []
      case neg =>
        have hy1 := List.length_pos_iff.mpr hy0
        have t1 : 0 < (ys.length : Int) := by omega
        have EN := Aside0.mk (rp_more xs ys _ _ EP.out hy0)
        clear hy0
        have EZ := Aside0.mk (EN.out : getRep xs = (zeroRep, 61))
        have GE := G2.out
        obtain ⟨m0, m1, m2, m3, m4, m5, m6, m7, m8, m9, m10, m11, m12⟩ := blk12 (G2.out).r
        have S := Aside0.mk (set12_q GE.r (.int .i64 0) (.int .i64 0) (.int .i64 0) (.int .i64 0) (.int .u64 0) (.int .i64 0) (.slice none 0 0) (.bool false) (.int .i64 0) (.int .i64 0) (.string ⟨#[]⟩) (.string ⟨#[]⟩))
        have SB := Aside0.mk (GE.b.trans (Ch.to_below (set12_ch ((w1.setCell ⟨w.heap.size + 1, 11, none⟩ (.string s)).setCell ⟨w.heap.size + 1, 5, none⟩ (.int .i64 vt)) w.heap.size (.int .i64 0) (.int .i64 0) (.int .i64 0) (.int .i64 0) (.int .u64 0) (.int .i64 0) (.slice none 0 0) (.bool false) (.int .i64 0) (.int .i64 0) (.string ⟨#[]⟩) (.string ⟨#[]⟩)) (B := w.heap.size) (fun k hk => by omega) (Nat.le_trans GE.b.size (Nat.le_refl _))))
        clear GE
        go_wp2_with fail
        change bodyPost Try.prog Try.f15 _ Exit.ret _ (set12 ((w1.setCell ⟨w.heap.size + 1, 11, none⟩ (.string s)).setCell ⟨w.heap.size + 1, 5, none⟩ (.int .i64 vt)) w.heap.size (.int .i64 0) (.int .i64 0) (.int .i64 0) (.int .i64 0) (.int .u64 0) (.int .i64 0) (.slice none 0 0) (.bool false) (.int .i64 0) (.int .i64 0) (.string ⟨#[]⟩) (.string ⟨#[]⟩))
        clear m0 m1 m2 m3 m4 m5 m6 m7 m8 m9 m10 m11 m12 a0 a1 a2 a3 a4 a5 a6 a7 a8 a9 a10 a11 a12
        generalize set12 ((w1.setCell ⟨w.heap.size + 1, 11, none⟩ (.string s)).setCell ⟨w.heap.size + 1, 5, none⟩ (.int .i64 vt)) w.heap.size (.int .i64 0) (.int .i64 0) (.int .i64 0) (.int .i64 0) (.int .u64 0) (.int .i64 0) (.slice none 0 0) (.bool false) (.int .i64 0) (.int .i64 0) (.string ⟨#[]⟩) (.string ⟨#[]⟩) = w2_ at *
        obtain ⟨d0, d1, d2, d3, d4, d5, d6, d7, d8, d9, d10, d11, d12⟩ := blk12 S.out
        rw [EZ.out]
        exact bodyPost_ret (v := .tuple #[.agg zrep, .bool false]) (by simp [results, Try.results15, go_sem, d0, d1, d2, d3, d4, d5, d6, d7, d8, d9, d10, d11, zrep, zeroRep, Rp.cells, nil8]) rfl (GotRep.zero SB.out)
      subst hy0
      simp only [List.length_nil] at *
      have EQ := Aside0.mk (rp_all xs ⟨k, er, tx, id, ti, vt, [], false, 0, 0, nil8, s⟩ h42'.out.2 EP.out)
      have C18 := fun W (hW : (Kd.int .i64).C W none (Rp.nodes ⟨k, er, tx, id, ti, vt, [], false, 0, 0, nil8, s⟩).length (Rp.nodes ⟨k, er, tx, id, ti, vt, [], false, 0, 0, nil8, s⟩)) => rep_refR W ⟨k, er, tx, id, ti, vt, [], false, 0, 0, nil8, s⟩ none 0 hW (by simp)
      generalize hrb : rightRepB ⟨k, er, tx, id, ti, vt, [], false, 0, 0, nil8, s⟩ = rb at *
      clear hrb
      simp only [Rp.cells, List.length_nil] at C18
      have C18 := Aside0.mk C18
      cases rb with
      | false =>
        go_wp2_with fail
        refine (C18.out _ (Kd.C_nil _ _)).mono ?_
        rintro e w9 ⟨rfl, hb9⟩
        have g9 : GR w #[.int .i64 k, .int .i64 er, .int .i64 tx, .int .i64 id, .int .u64 ti, .int .i64 vt, .slice none 0 0, .bool false, .int .i64 0, .int .i64 0, .string ⟨#[]⟩, .string s] w9 := G2.out.below hb9
        clear a0 a1 a2 a3 a4 a5 a6 a7 a8 a9 a10 a11 a12
        obtain ⟨a0, a1, a2, a3, a4, a5, a6, a7, a8, a9, a10, a11, a12⟩ := blk12 g9.q
        obtain ⟨m0, m1, m2, m3, m4, m5, m6, m7, m8, m9, m10, m11, m12⟩ := blk12 g9.r
        have S := Aside0.mk (set12_q g9.r (.int .i64 0) (.int .i64 0) (.int .i64 0) (.int .i64 0) (.int .u64 0) (.int .i64 0) (.slice none 0 0) (.bool false) (.int .i64 0) (.int .i64 0) (.string ⟨#[]⟩) (.string ⟨#[]⟩))
        have SB := Aside0.mk (g9.b.trans (Ch.to_below (set12_ch w9 w.heap.size (.int .i64 0) (.int .i64 0) (.int .i64 0) (.int .i64 0) (.int .u64 0) (.int .i64 0) (.slice none 0 0) (.bool false) (.int .i64 0) (.int .i64 0) (.string ⟨#[]⟩) (.string ⟨#[]⟩)) (B := w.heap.size) (fun k hk => by omega) g9.b.size))
        clear g9 hb9
        go_wp2_with fail
        change bodyPost Try.prog Try.f15 _ Exit.ret _ (set12 w9 w.heap.size (.int .i64 0) (.int .i64 0) (.int .i64 0) (.int .i64 0) (.int .u64 0) (.int .i64 0) (.slice none 0 0) (.bool false) (.int .i64 0) (.int .i64 0) (.string ⟨#[]⟩) (.string ⟨#[]⟩))
        clear m0 m1 m2 m3 m4 m5 m6 m7 m8 m9 m10 m11 m12 a0 a1 a2 a3 a4 a5 a6 a7 a8 a9 a10 a11 a12
        generalize set12 w9 w.heap.size (.int .i64 0) (.int .i64 0) (.int .i64 0) (.int .i64 0) (.int .u64 0) (.int .i64 0) (.slice none 0 0) (.bool false) (.int .i64 0) (.int .i64 0) (.string ⟨#[]⟩) (.string ⟨#[]⟩) = w2_ at *
        obtain ⟨d0, d1, d2, d3, d4, d5, d6, d7, d8, d9, d10, d11, d12⟩ := blk12 S.out
        rw [EQ.out]
        exact bodyPost_ret (v := .tuple #[.agg zrep, .bool false]) (by simp [results, Try.results15, go_sem, d0, d1, d2, d3, d4, d5, d6, d7, d8, d9, d10, d11, zrep, zeroRep, Rp.cells, nil8]) rfl (GotRep.zero SB.out)
      | true =>
        go_wp2_with fail
        refine (C18.out _ (Kd.C_nil _ _)).mono ?_
        rintro e w9 ⟨rfl, hb9⟩
        have g9 : GR w #[.int .i64 k, .int .i64 er, .int .i64 tx, .int .i64 id, .int .u64 ti, .int .i64 vt, .slice none 0 0, .bool false, .int .i64 0, .int .i64 0, .string ⟨#[]⟩, .string s] w9 := G2.out.below hb9
        clear a0 a1 a2 a3 a4 a5 a6 a7 a8 a9 a10 a11 a12
        obtain ⟨a0, a1, a2, a3, a4, a5, a6, a7, a8, a9, a10, a11, a12⟩ := blk12 g9.q
        obtain ⟨m0, m1, m2, m3, m4, m5, m6, m7, m8, m9, m10, m11, m12⟩ := blk12 g9.r
        have S := Aside0.mk (set12_q g9.r (.int .i64 k) (.int .i64 er) (.int .i64 tx) (.int .i64 id) (.int .u64 ti) (.int .i64 vt) (.slice none 0 0) (.bool false) (.int .i64 0) (.int .i64 0) (.string ⟨#[]⟩) (.string s))
        have SB := Aside0.mk (g9.b.trans (Ch.to_below (set12_ch w9 w.heap.size (.int .i64 k) (.int .i64 er) (.int .i64 tx) (.int .i64 id) (.int .u64 ti) (.int .i64 vt) (.slice none 0 0) (.bool false) (.int .i64 0) (.int .i64 0) (.string ⟨#[]⟩) (.string s)) (B := w.heap.size) (fun k hk => by omega) g9.b.size))
        clear g9 hb9
        go_wp2_with fail
        change bodyPost Try.prog Try.f15 _ Exit.ret _ (set12 w9 w.heap.size (.int .i64 k) (.int .i64 er) (.int .i64 tx) (.int .i64 id) (.int .u64 ti) (.int .i64 vt) (.slice none 0 0) (.bool false) (.int .i64 0) (.int .i64 0) (.string ⟨#[]⟩) (.string s))
        clear m0 m1 m2 m3 m4 m5 m6 m7 m8 m9 m10 m11 m12 a0 a1 a2 a3 a4 a5 a6 a7 a8 a9 a10 a11 a12
        generalize set12 w9 w.heap.size (.int .i64 k) (.int .i64 er) (.int .i64 tx) (.int .i64 id) (.int .u64 ti) (.int .i64 vt) (.slice none 0 0) (.bool false) (.int .i64 0) (.int .i64 0) (.string ⟨#[]⟩) (.string s) = w2_ at *
        obtain ⟨d0, d1, d2, d3, d4, d5, d6, d7, d8, d9, d10, d11, d12⟩ := blk12 S.out
        rw [EQ.out]
        exact bodyPost_ret (v := .tuple #[.agg #[.int .i64 k, .int .i64 er, .int .i64 tx, .int .i64 id, .int .u64 ti, .int .i64 vt, .slice none 0 0, .bool false, .int .i64 0, .int .i64 0, .string ⟨#[]⟩, .string s], .bool true]) (by simp [results, Try.results15, go_sem, d0, d1, d2, d3, d4, d5, d6, d7, d8, d9, d10, d11]) rfl ⟨none, 0, rfl, Kd.R_nil _ _ _ _ _, (Nat.le_refl _), SB.out⟩
end Go.Proofs.Ythkdihpbdaehbaa.Pr
namespace Go.Proofs.Ythkdihpbdaehbaa.Pr
set_option linter.unusedVariables false
set_option linter.unusedSimpArgs false
open Go.RowKit Go.Proofs.YthkdihpbdaehbaaW.PrintWords Go.Proofs.YthkdihpbdaehbaaW.PrintLast Go.Proofs.YthkdihpbdaehbaaW.PrintMore Go.Proofs.Ythkdihpbdaehbaa.Bs
set_option maxRecDepth 100000 in
set_option maxHeartbeats 64000000 in
theorem gr_2 (w : World) (A : Option Addr) (c : Nat) (xs : List Int) (hC : (Kd.int .u8).C w A xs.length xs) (hc : xs.length ≤ c) (hby : Bys xs) (h22 : ¬ xs.length < 22) (h42 : ¬ 4200 < xs.length) (hcls : cls xs = 2) : Calls Try.prog 15 #[.slice A xs.length c] w (GotRep w (getRep xs).1 ((getRep xs).2 == 0)) := by
  have HCLS := Aside0.mk hcls
  clear hcls
  have HP := parseRep_head xs h22
  obtain ⟨ad, rfl, hx0⟩ := Kd.at_int hC 0 (by omega) (by omega)
  have hk0 := hby _ (rd_mem xs 0 (by omega))
  have HV : ∀ a b n : Nat, a + n = b → b ≤ 19 → n ≤ 8 → ∃ A' : Option Addr, (∀ W : World, (Instr.slice 27 (.slice (some ad) xs.length c) (some (.int .i64 a)) (some (.int .i64 b)) none).run Try.prog W = .ok (.slice A' n (c - a)) W) ∧ (∀ W, (Kd.int .u8).C W (some ad) xs.length xs → Calls Try.prog 31 #[.slice A' n (c - a)] W fun e w' => e = .returned (.int .u64 (val (sub xs a b))) ∧ w' = W) := by
    intro a b n e h1 h8
    obtain ⟨A', hcut, hA⟩ := mid (some ad) c xs a b (by omega) (by omega) hc
    have hs := sub_length xs a b (by omega)
    rw [show b - a = n by omega] at hcut hA hs
    refine ⟨A', hcut, fun W hW => ?_⟩
    have h := value_still W A' (c - a) (sub xs a b) (hs.symm ▸ hA W hW) (sub_bys hby a b) (by omega)
    rw [hs] at h
    exact h
  obtain ⟨A1, cut1, V1⟩ := HV 1 3 2 rfl (by decide) (by decide)
  obtain ⟨A2, cut2, V2⟩ := HV 3 7 4 rfl (by decide) (by decide)
  obtain ⟨A3, cut3, V3⟩ := HV 7 11 4 rfl (by decide) (by decide)
  obtain ⟨A4, cut4, V4⟩ := HV 11 19 8 rfl (by decide) (by decide)
  clear HV
  have B1 := val_lt (sub xs 1 3) (sub_bys hby 1 3)
  have B2 := val_lt (sub xs 3 7) (sub_bys hby 3 7)
  have B3 := val_lt (sub xs 7 11) (sub_bys hby 7 11)
  rw [sub_length xs 1 3 (by omega)] at B1
  rw [sub_length xs 3 7 (by omega)] at B2
  rw [sub_length xs 7 11 (by omega)] at B3
  obtain ⟨b10, b11⟩ := (show 0 ≤ val (sub xs 1 3) ∧ val (sub xs 1 3) < 65536 from B1)
  obtain ⟨b20, b21⟩ := (show 0 ≤ val (sub xs 3 7) ∧ val (sub xs 3 7) < 4294967296 from B2)
  obtain ⟨b30, b31⟩ := (show 0 ≤ val (sub xs 7 11) ∧ val (sub xs 7 11) < 4294967296 from B3)
  clear B1 B2 B3
  generalize rd xs 0 = k at *
  generalize val (sub xs 1 3) = er at *
  generalize val (sub xs 3 7) = tx at *
  generalize val (sub xs 7 11) = id at *
  generalize val (sub xs 11 19) = ti at *
  obtain ⟨kk0, kk1⟩ := hk0
  have hx : ∀ z, (w.alloc z).cell? ad = some (.int .u8 k) := fun z => by have h := pw_cell_below (below_alloc (Below.refl _ _) z) hx0; exact h
  have hp0 : (0 : Int) < xs.length := by omega
  have h' : ¬ (xs.length : Int) < 22 := by omega
  have h2' : ¬ 4200 < (xs.length : Int) := by omega
  have HC := Aside0.mk hC
  have HPA := Aside0.mk HP
  have HBY := Aside0.mk hby
  have HCC := Aside0.mk hc
  have HX0 := Aside0.mk hx0
  have h42' := Aside0.mk (And.intro h22 h42)
  have cut1' : ∀ W : World, (Instr.slice 27 (.slice (some ad) xs.length c) (some (.int .i64 1)) (some (.int .i64 3)) none).run Try.prog W = .ok (.slice A1 2 (c - 1)) W := cut1
  have cut2' : ∀ W : World, (Instr.slice 27 (.slice (some ad) xs.length c) (some (.int .i64 3)) (some (.int .i64 7)) none).run Try.prog W = .ok (.slice A2 4 (c - 3)) W := cut2
  have cut3' : ∀ W : World, (Instr.slice 27 (.slice (some ad) xs.length c) (some (.int .i64 7)) (some (.int .i64 11)) none).run Try.prog W = .ok (.slice A3 4 (c - 7)) W := cut3
  have cut4' : ∀ W : World, (Instr.slice 27 (.slice (some ad) xs.length c) (some (.int .i64 11)) (some (.int .i64 19)) none).run Try.prog W = .ok (.slice A4 8 (c - 11)) W := cut4
  have W1 := Aside0.mk V1
  have W2 := Aside0.mk V2
  have W3 := Aside0.mk V3
  have W4 := Aside0.mk V4
  have hwr0 : IntKind.i64.wrap k = k := IntWalk.i64_in _ ⟨by omega, by omega⟩
  have hwr1 : IntKind.i64.wrap er = er := IntWalk.i64_in _ ⟨by omega, by omega⟩
  have hwr2 : IntKind.i64.wrap tx = tx := IntWalk.i64_in _ ⟨by omega, by omega⟩
  have hwr3 : IntKind.i64.wrap id = id := IntWalk.i64_in _ ⟨by omega, by omega⟩
  have hq : (0 < xs.length) = True := eq_true (by omega)
  clear cut1 cut2 cut3 cut4 V1 V2 V3 V4 HP hC hby hc hx0 h22 h42
  go_enter Try.func15, Try.ntmps15
  go_upto_region 3 with fail
  go_cut [4] (fun s4 wx => s4 = .pointer (some ⟨w.heap.size + 1, 0, none⟩) ∧ GR w #[.int .i64 k, .int .i64 er, .int .i64 tx, .int .i64 id, .int .u64 ti, .int .i64 0, .slice none 0 0, .bool false, .int .i64 0, .int .i64 0, .string ⟨#[]⟩, .string ⟨#[]⟩] wx)
  case first =>
    have hy : ∀ z z', ((w.alloc z).drew.alloc z').cell? ad = some (.int .u8 k) := fun z z' => by have h := pw_cell_below (below_alloc (below_drew (below_alloc (Below.refl _ _) z)) z') HX0.out; exact h
    have hy3 : ∀ z z', ((w.alloc z).alloc z').cell? ad = some (.int .u8 k) := fun z z' => by have h := pw_cell_below (below_alloc (below_alloc (Below.refl _ _) z) z') HX0.out; exact h
    have hy2 : ∀ z, (w.alloc z).drew.cell? ad = some (.int .u8 k) := fun z => by have h := pw_cell_below (below_drew (below_alloc (Below.refl _ _) z)) HX0.out; exact h
    go_region_held3 (fun w' => w'.cell? ad = some (.int .u8 k)) (first | exact hy _ _ | exact hy2 _ | exact hy3 _ _ | exact hx _ | go_keep) (first | (go_at_call 31; (with_reducible refine (W1.out _ ?_).mono ?_); (repeat (first | exact HC.out | refine Kd.C_drewN ?_ _ | refine Kd.C_drew ?_ | refine Kd.C_alloc ?_ _)); rintro e w' ⟨rfl, rfl⟩) | (go_at_call 31; (with_reducible refine (W2.out _ ?_).mono ?_); (repeat (first | exact HC.out | refine Kd.C_drewN ?_ _ | refine Kd.C_drew ?_ | refine Kd.C_alloc ?_ _)); rintro e w' ⟨rfl, rfl⟩) | (go_at_call 31; (with_reducible refine (W3.out _ ?_).mono ?_); (repeat (first | exact HC.out | refine Kd.C_drewN ?_ _ | refine Kd.C_drew ?_ | refine Kd.C_alloc ?_ _)); rintro e w' ⟨rfl, rfl⟩) | (go_at_call 31; (with_reducible refine (W4.out _ ?_).mono ?_); (repeat (first | exact HC.out | refine Kd.C_drewN ?_ _ | refine Kd.C_drew ?_ | refine Kd.C_alloc ?_ _)); rintro e w' ⟨rfl, rfl⟩))
    all_goals
      go_wp2_with fail
      go_meet
      exact ⟨rfl, (GR.start w #[.int .i64 k, .int .i64 er, .int .i64 tx, .int .i64 id, .int .u64 ti, .int .i64 0, .slice none 0 0, .bool false, .int .i64 0, .int .i64 0, .string ⟨#[]⟩, .string ⟨#[]⟩]).drew⟩
  case rest =>
    obtain ⟨rfl, G0⟩ := hcut
    clear hx cut1' cut2' cut3' cut4' hwr1 hwr2 hwr3
    obtain ⟨a0, a1, a2, a3, a4, a5, a6, a7, a8, a9, a10, a11, a12⟩ := blk12 G0.q
    have G0 := Aside0.mk G0
    go_wp2_with fail
    have C30 := Aside0.mk (show ∀ (w : World) (hC : (Kd.int .u8).C w (some ad) xs.length xs), Calls Try.prog 30 #[.slice (some ad) xs.length c, .int .i64 19] w fun e w' => e = .returned (.tuple #[.string (wordsAt xs 19).1, .int .i64 (wordsAt xs 19).2]) ∧ Drawn0 w w' from fun w hC => words_ref w (some ad) c xs 19 hC HCC.out HBY.out (by have := h42'.out.1; omega) (by have := h42'.out.2; omega))
    have HWT := Aside0.mk (show wordsAt xs 19 = match textP (xs.drop 19) with | none => (nil8, -1) | some (s, r) => (s, (xs.length : Int) - r.length) from rfl)
    cases htp : textP (xs.drop 19) with
    | none =>
      exact absurd (HCLS.out.symm.trans (show cls xs = 6 by rw [cls, htp]; first | done | rfl)) (by decide)
    | some sr =>
      obtain ⟨s, r⟩ := sr
      obtain ⟨hrr, hrl⟩ := textP_rest htp
      rw [List.length_drop] at hrl hrr
      have hl22 := h42'.out.1
      rw [List.drop_drop, show 19 + (xs.length - 19 - r.length) = xs.length - r.length by omega] at hrr
      obtain ⟨m, hm⟩ : ∃ m, m = xs.length - r.length := ⟨_, rfl⟩
      have hml : m ≤ xs.length := by omega
      have hmi : (xs.length : Int) - r.length = m := by omega
      have hw : wordsAt xs 19 = (s, (m : Int)) := by rw [HWT.out, htp]; exact congrArg (Prod.mk s) hmi
      rw [← hm] at hrr
      rw [hw] at C30
      have EP0 := Aside0.mk (show parseRep xs = match numP 1 r with | none => none | some (vt, x7) => tailP k er tx id ti s vt x7 by rw [HPA.out, htp]; first | done | rfl)
      have HCT := Aside0.mk (show cls xs = clsL r by rw [cls, htp]; first | done | rfl)
      clear hw htp HWT HPA hmi
      by_cases hr0 : r = []
      · skip
        exact absurd (HCLS.out.symm.trans (show cls xs = 6 by rw [HCT.out, hr0]; first | done | rfl)) (by decide)
      have hrpos : 0 < r.length := List.length_pos_iff.mpr hr0
      have hm1 : m < xs.length := by omega
      have hdm : xs.drop m = rd xs (m : Int) :: xs.drop (m + 1) := rd_drop' xs m hm1
      have hnp : numP 1 r = some (rd xs (m : Int), xs.drop (m + 1)) := by rw [hrr, numP_at xs m 1 (m + 1) rfl (by omega), val_one xs m hm1]
      have EP1 := Aside0.mk (show parseRep xs = tailP k er tx id ti s (rd xs (m : Int)) (xs.drop (m + 1)) by rw [EP0.out, hnp])
      have HCV := Aside0.mk (show clsV (rd xs (m : Int)) = 2 by rw [← HCLS.out, HCT.out, hrr, hdm]; first | done | rfl)
      clear HCT
      have hvb := HBY.out _ (rd_mem xs m hm1)
      obtain ⟨A5, cut5, HA5⟩ := suffix (some ad) c xs (m + 1) (by omega) HCC.out
      have cut5' : ∀ W : World, (Instr.slice 27 (.slice (some ad) xs.length c) (some (.int .i64 ((m : Int) + 1))) none none).run Try.prog W = .ok (.slice A5 (xs.drop (m + 1)).length (c - (m + 1))) W := cut5
      have HY2 := Aside0.mk (show Bys (xs.drop (m + 1)) from HBY.out.drop _)
      have hc5 := Aside0.mk (show (xs.drop (m + 1)).length ≤ c - (m + 1) by rw [List.length_drop]; have := HCC.out; omega)
      have hL := Aside0.mk (show (xs.drop (m + 1)).length ≤ 4200 by rw [List.length_drop]; have := h42'.out.2; omega)
      clear hnp hdm hrr hrl hm hr0 EP0 cut5 hrpos hl22
      have hcl : ∀ W, (Kd.int .u8).C W (some ad) xs.length xs → W.cell? (ad.add m) = some (.int .u8 (rd xs (m : Int))) := fun W hW => by
        obtain ⟨ad', e', hh⟩ := Kd.at_int hW (m : Int) (by omega) (by omega)
        cases e'
        rw [Int.toNat_natCast] at hh
        exact hh
      generalize rd xs (m : Int) = vt at *
      generalize xs.drop (m + 1) = ys at *
      generalize c - (m + 1) = c5 at *
      obtain ⟨vt0, vt1⟩ := hvb
      have hm2 : ¬ (m : Int) ≥ xs.length := by omega
      have hm3 : ¬ (m : Int) < 0 := by omega
      have hm4 : (m : Int) < xs.length := by omega
      have hm5 : ¬ (xs.length : Int) ≤ m := by omega
      have HCL := Aside0.mk hcl
      have HA5 := Aside0.mk HA5
      clear hcl
      refine (C30.out _ (Kd.C_below HC.out G0.out.b)).mono ?_
      rintro e w1 ⟨rfl, hd⟩
      have g1 := G0.out.drawn hd
      clear a0 a1 a2 a3 a4 a5 a6 a7 a8 a9 a10 a11 a12 C30
      obtain ⟨a0, a1, a2, a3, a4, a5, a6, a7, a8, a9, a10, a11, a12⟩ := blk12 g1.q
      have G1 := Aside0.mk g1
      clear hd g1 G0
      have g2 := G1.out.set 11 (.string s) rfl
      have hcl2 := HCL.out _ (Kd.C_below HC.out g2.b)
      have G2 := Aside0.mk (g2.set 5 (.int .i64 vt) rfl)
      clear g2
      by_cases v1 : vt = 1
      · exact absurd HCV.out (by simp [clsV, v1])
      by_cases v2 : vt = 2
      · skip
        subst v2
        have EP2 := Aside0.mk (show parseRep xs = match numP 1 ys with | none => none | some (v, zs) => some (⟨k, er, tx, id, ti, 2, [], v == 1, 0, 0, nil8, s⟩, decide (v ≤ 1), zs) from EP1.out)
        clear EP1
        by_cases hs1 : ys.length = 1
        case neg =>
          have t1 : ((ys.length : Int) == 1) = false := by simp; omega
          have t2 : ((ys.length : Int) != 1) = true := by simp; omega
          have EN := Aside0.mk (show getRep xs = (zeroRep, 61) by
            by_cases hz : ys.length < 1
            · exact rp_none xs (by rw [EP2.out, numP, if_pos hz])
            · exact rp_more xs _ _ _ (by rw [EP2.out, show numP 1 ys = _ from numP_at ys 0 1 1 rfl (by omega)]) (fun h => by have := congrArg List.length h; rw [List.length_drop] at this; simp at this; omega))
          clear hs1
          have EZ := Aside0.mk (EN.out : getRep xs = (zeroRep, 61))
          have GE := G2.out
          obtain ⟨m0, m1, m2, m3, m4, m5, m6, m7, m8, m9, m10, m11, m12⟩ := blk12 (G2.out).r
          have S := Aside0.mk (set12_q GE.r (.int .i64 0) (.int .i64 0) (.int .i64 0) (.int .i64 0) (.int .u64 0) (.int .i64 0) (.slice none 0 0) (.bool false) (.int .i64 0) (.int .i64 0) (.string ⟨#[]⟩) (.string ⟨#[]⟩))
          have SB := Aside0.mk (GE.b.trans (Ch.to_below (set12_ch ((w1.setCell ⟨w.heap.size + 1, 11, none⟩ (.string s)).setCell ⟨w.heap.size + 1, 5, none⟩ (.int .i64 2)) w.heap.size (.int .i64 0) (.int .i64 0) (.int .i64 0) (.int .i64 0) (.int .u64 0) (.int .i64 0) (.slice none 0 0) (.bool false) (.int .i64 0) (.int .i64 0) (.string ⟨#[]⟩) (.string ⟨#[]⟩)) (B := w.heap.size) (fun k hk => by omega) (Nat.le_trans GE.b.size (Nat.le_refl _))))
          clear GE
          go_wp2_with fail
          change bodyPost Try.prog Try.f15 _ Exit.ret _ (set12 ((w1.setCell ⟨w.heap.size + 1, 11, none⟩ (.string s)).setCell ⟨w.heap.size + 1, 5, none⟩ (.int .i64 2)) w.heap.size (.int .i64 0) (.int .i64 0) (.int .i64 0) (.int .i64 0) (.int .u64 0) (.int .i64 0) (.slice none 0 0) (.bool false) (.int .i64 0) (.int .i64 0) (.string ⟨#[]⟩) (.string ⟨#[]⟩))
          clear m0 m1 m2 m3 m4 m5 m6 m7 m8 m9 m10 m11 m12 a0 a1 a2 a3 a4 a5 a6 a7 a8 a9 a10 a11 a12
          generalize set12 ((w1.setCell ⟨w.heap.size + 1, 11, none⟩ (.string s)).setCell ⟨w.heap.size + 1, 5, none⟩ (.int .i64 2)) w.heap.size (.int .i64 0) (.int .i64 0) (.int .i64 0) (.int .i64 0) (.int .u64 0) (.int .i64 0) (.slice none 0 0) (.bool false) (.int .i64 0) (.int .i64 0) (.string ⟨#[]⟩) (.string ⟨#[]⟩) = w2_ at *
          obtain ⟨d0, d1, d2, d3, d4, d5, d6, d7, d8, d9, d10, d11, d12⟩ := blk12 S.out
          rw [EZ.out]
          exact bodyPost_ret (v := .tuple #[.agg zrep, .bool false]) (by simp [results, Try.results15, go_sem, d0, d1, d2, d3, d4, d5, d6, d7, d8, d9, d10, d11, zrep, zeroRep, Rp.cells, nil8]) rfl (GotRep.zero SB.out)
        have hys : ys = [rd ys 0] := by
          have h := rd_drop' ys 0 (by omega)
          rw [List.drop_zero, List.drop_eq_nil_of_le (by omega)] at h
          exact h
        have EP3 := Aside0.mk (show parseRep xs = some (⟨k, er, tx, id, ti, 2, [], rd ys 0 == 1, 0, 0, nil8, s⟩, decide (rd ys 0 ≤ 1), []) by
          have h := numP_at ys 0 1 1 rfl (by omega)
          rw [List.drop_zero, val_one ys 0 (by omega), List.drop_eq_nil_of_le (by omega : ys.length ≤ 1)] at h
          rw [EP2.out, h]; rfl)
        have hvb := HY2.out _ (rd_mem ys 0 (by omega))
        have hC5 := HA5.out _ (Kd.C_below HC.out G2.out.b)
        obtain ⟨ad5, rfl, hz0⟩ := Kd.at_int hC5 0 (by omega) (by omega)
        have t1 : ((ys.length : Int) == 1) = true := by simp; omega
        have t2 : ((ys.length : Int) != 1) = false := by simp; omega
        have hz : ((w1.setCell ⟨w.heap.size + 1, 11, none⟩ (.string s)).setCell ⟨w.heap.size + 1, 5, none⟩ (.int .i64 2)).cell? ad5 = some (.int .u8 (rd ys 0)) := hz0
        have hpy : (0 : Int) < ys.length := by omega
        have hpy2 : 0 < ys.length := by omega
        have HS1 := Aside0.mk hs1
        clear EP2 hz0 hys hC5 hs1
        have hg := Aside0.mk (show True from trivial)
        generalize rd ys 0 = x at *
        obtain ⟨x0, x1⟩ := hvb
        by_cases hx1 : 1 < x
        · skip
          have EN := Aside0.mk (show getRep xs = (zeroRep, 61) from rp_bad xs [] _ (by rw [EP3.out, decide_eq_false (by omega : ¬ x ≤ 1)]))
          have EZ := Aside0.mk (EN.out : getRep xs = (zeroRep, 61))
          have GE := G2.out
          obtain ⟨m0, m1, m2, m3, m4, m5, m6, m7, m8, m9, m10, m11, m12⟩ := blk12 (G2.out).r
          have S := Aside0.mk (set12_q GE.r (.int .i64 0) (.int .i64 0) (.int .i64 0) (.int .i64 0) (.int .u64 0) (.int .i64 0) (.slice none 0 0) (.bool false) (.int .i64 0) (.int .i64 0) (.string ⟨#[]⟩) (.string ⟨#[]⟩))
          have SB := Aside0.mk (GE.b.trans (Ch.to_below (set12_ch ((w1.setCell ⟨w.heap.size + 1, 11, none⟩ (.string s)).setCell ⟨w.heap.size + 1, 5, none⟩ (.int .i64 2)) w.heap.size (.int .i64 0) (.int .i64 0) (.int .i64 0) (.int .i64 0) (.int .u64 0) (.int .i64 0) (.slice none 0 0) (.bool false) (.int .i64 0) (.int .i64 0) (.string ⟨#[]⟩) (.string ⟨#[]⟩)) (B := w.heap.size) (fun k hk => by omega) (Nat.le_trans GE.b.size (Nat.le_refl _))))
          clear GE
          go_wp2_with fail
          change bodyPost Try.prog Try.f15 _ Exit.ret _ (set12 ((w1.setCell ⟨w.heap.size + 1, 11, none⟩ (.string s)).setCell ⟨w.heap.size + 1, 5, none⟩ (.int .i64 2)) w.heap.size (.int .i64 0) (.int .i64 0) (.int .i64 0) (.int .i64 0) (.int .u64 0) (.int .i64 0) (.slice none 0 0) (.bool false) (.int .i64 0) (.int .i64 0) (.string ⟨#[]⟩) (.string ⟨#[]⟩))
          clear m0 m1 m2 m3 m4 m5 m6 m7 m8 m9 m10 m11 m12 a0 a1 a2 a3 a4 a5 a6 a7 a8 a9 a10 a11 a12
          generalize set12 ((w1.setCell ⟨w.heap.size + 1, 11, none⟩ (.string s)).setCell ⟨w.heap.size + 1, 5, none⟩ (.int .i64 2)) w.heap.size (.int .i64 0) (.int .i64 0) (.int .i64 0) (.int .i64 0) (.int .u64 0) (.int .i64 0) (.slice none 0 0) (.bool false) (.int .i64 0) (.int .i64 0) (.string ⟨#[]⟩) (.string ⟨#[]⟩) = w2_ at *
          obtain ⟨d0, d1, d2, d3, d4, d5, d6, d7, d8, d9, d10, d11, d12⟩ := blk12 S.out
          rw [EZ.out]
          exact bodyPost_ret (v := .tuple #[.agg zrep, .bool false]) (by simp [results, Try.results15, go_sem, d0, d1, d2, d3, d4, d5, d6, d7, d8, d9, d10, d11, zrep, zeroRep, Rp.cells, nil8]) rfl (GotRep.zero SB.out)
        have hx2 : ¬ 1 < x := hx1
        have hx3 := Aside0.mk (show decide (x ≤ 1) = true from decide_eq_true (by omega))
        obtain ⟨bx, hbx⟩ : ∃ bx, bx = (x == 1) := ⟨_, rfl⟩
        have hbx' : (x == 1) = bx := hbx.symm
        have EP4 := Aside0.mk (show parseRep xs = some (⟨k, er, tx, id, ti, 2, [], bx, 0, 0, nil8, s⟩, true, []) by rw [EP3.out, hx3.out, hbx'])
        have G3 := Aside0.mk (G2.out.set 7 (.bool bx) rfl)
        clear hbx EP3
        have EQ := Aside0.mk (rp_all xs ⟨k, er, tx, id, ti, 2, [], bx, 0, 0, nil8, s⟩ h42'.out.2 EP4.out)
        have C18 := fun W (hW : (Kd.int .i64).C W none (Rp.nodes ⟨k, er, tx, id, ti, 2, [], bx, 0, 0, nil8, s⟩).length (Rp.nodes ⟨k, er, tx, id, ti, 2, [], bx, 0, 0, nil8, s⟩)) => rep_refR W ⟨k, er, tx, id, ti, 2, [], bx, 0, 0, nil8, s⟩ none 0 hW (by simp)
        generalize hrb : rightRepB ⟨k, er, tx, id, ti, 2, [], bx, 0, 0, nil8, s⟩ = rb at *
        clear hrb
        simp only [Rp.cells, List.length_nil] at C18
        have C18 := Aside0.mk C18
        cases rb with
        | false =>
          go_wp2_with fail
          refine (C18.out _ (Kd.C_nil _ _)).mono ?_
          rintro e w9 ⟨rfl, hb9⟩
          have g9 : GR w #[.int .i64 k, .int .i64 er, .int .i64 tx, .int .i64 id, .int .u64 ti, .int .i64 2, .slice none 0 0, .bool bx, .int .i64 0, .int .i64 0, .string ⟨#[]⟩, .string s] w9 := G3.out.below hb9
          clear a0 a1 a2 a3 a4 a5 a6 a7 a8 a9 a10 a11 a12
          obtain ⟨a0, a1, a2, a3, a4, a5, a6, a7, a8, a9, a10, a11, a12⟩ := blk12 g9.q
          obtain ⟨m0, m1, m2, m3, m4, m5, m6, m7, m8, m9, m10, m11, m12⟩ := blk12 g9.r
          have S := Aside0.mk (set12_q g9.r (.int .i64 0) (.int .i64 0) (.int .i64 0) (.int .i64 0) (.int .u64 0) (.int .i64 0) (.slice none 0 0) (.bool false) (.int .i64 0) (.int .i64 0) (.string ⟨#[]⟩) (.string ⟨#[]⟩))
          have SB := Aside0.mk (g9.b.trans (Ch.to_below (set12_ch w9 w.heap.size (.int .i64 0) (.int .i64 0) (.int .i64 0) (.int .i64 0) (.int .u64 0) (.int .i64 0) (.slice none 0 0) (.bool false) (.int .i64 0) (.int .i64 0) (.string ⟨#[]⟩) (.string ⟨#[]⟩)) (B := w.heap.size) (fun k hk => by omega) g9.b.size))
          clear g9 hb9
          go_wp2_with fail
          change bodyPost Try.prog Try.f15 _ Exit.ret _ (set12 w9 w.heap.size (.int .i64 0) (.int .i64 0) (.int .i64 0) (.int .i64 0) (.int .u64 0) (.int .i64 0) (.slice none 0 0) (.bool false) (.int .i64 0) (.int .i64 0) (.string ⟨#[]⟩) (.string ⟨#[]⟩))
          clear m0 m1 m2 m3 m4 m5 m6 m7 m8 m9 m10 m11 m12 a0 a1 a2 a3 a4 a5 a6 a7 a8 a9 a10 a11 a12
          generalize set12 w9 w.heap.size (.int .i64 0) (.int .i64 0) (.int .i64 0) (.int .i64 0) (.int .u64 0) (.int .i64 0) (.slice none 0 0) (.bool false) (.int .i64 0) (.int .i64 0) (.string ⟨#[]⟩) (.string ⟨#[]⟩) = w2_ at *
          obtain ⟨d0, d1, d2, d3, d4, d5, d6, d7, d8, d9, d10, d11, d12⟩ := blk12 S.out
          rw [EQ.out]
          exact bodyPost_ret (v := .tuple #[.agg zrep, .bool false]) (by simp [results, Try.results15, go_sem, d0, d1, d2, d3, d4, d5, d6, d7, d8, d9, d10, d11, zrep, zeroRep, Rp.cells, nil8]) rfl (GotRep.zero SB.out)
        | true =>
          go_wp2_with fail
          refine (C18.out _ (Kd.C_nil _ _)).mono ?_
          rintro e w9 ⟨rfl, hb9⟩
          have g9 : GR w #[.int .i64 k, .int .i64 er, .int .i64 tx, .int .i64 id, .int .u64 ti, .int .i64 2, .slice none 0 0, .bool bx, .int .i64 0, .int .i64 0, .string ⟨#[]⟩, .string s] w9 := G3.out.below hb9
          clear a0 a1 a2 a3 a4 a5 a6 a7 a8 a9 a10 a11 a12
          obtain ⟨a0, a1, a2, a3, a4, a5, a6, a7, a8, a9, a10, a11, a12⟩ := blk12 g9.q
          obtain ⟨m0, m1, m2, m3, m4, m5, m6, m7, m8, m9, m10, m11, m12⟩ := blk12 g9.r
          have S := Aside0.mk (set12_q g9.r (.int .i64 k) (.int .i64 er) (.int .i64 tx) (.int .i64 id) (.int .u64 ti) (.int .i64 2) (.slice none 0 0) (.bool bx) (.int .i64 0) (.int .i64 0) (.string ⟨#[]⟩) (.string s))
          have SB := Aside0.mk (g9.b.trans (Ch.to_below (set12_ch w9 w.heap.size (.int .i64 k) (.int .i64 er) (.int .i64 tx) (.int .i64 id) (.int .u64 ti) (.int .i64 2) (.slice none 0 0) (.bool bx) (.int .i64 0) (.int .i64 0) (.string ⟨#[]⟩) (.string s)) (B := w.heap.size) (fun k hk => by omega) g9.b.size))
          clear g9 hb9
          go_wp2_with fail
          change bodyPost Try.prog Try.f15 _ Exit.ret _ (set12 w9 w.heap.size (.int .i64 k) (.int .i64 er) (.int .i64 tx) (.int .i64 id) (.int .u64 ti) (.int .i64 2) (.slice none 0 0) (.bool bx) (.int .i64 0) (.int .i64 0) (.string ⟨#[]⟩) (.string s))
          clear m0 m1 m2 m3 m4 m5 m6 m7 m8 m9 m10 m11 m12 a0 a1 a2 a3 a4 a5 a6 a7 a8 a9 a10 a11 a12
          generalize set12 w9 w.heap.size (.int .i64 k) (.int .i64 er) (.int .i64 tx) (.int .i64 id) (.int .u64 ti) (.int .i64 2) (.slice none 0 0) (.bool bx) (.int .i64 0) (.int .i64 0) (.string ⟨#[]⟩) (.string s) = w2_ at *
          obtain ⟨d0, d1, d2, d3, d4, d5, d6, d7, d8, d9, d10, d11, d12⟩ := blk12 S.out
          rw [EQ.out]
          exact bodyPost_ret (v := .tuple #[.agg #[.int .i64 k, .int .i64 er, .int .i64 tx, .int .i64 id, .int .u64 ti, .int .i64 2, .slice none 0 0, .bool bx, .int .i64 0, .int .i64 0, .string ⟨#[]⟩, .string s], .bool true]) (by simp [results, Try.results15, go_sem, d0, d1, d2, d3, d4, d5, d6, d7, d8, d9, d10, d11]) rfl ⟨none, 0, rfl, Kd.R_nil _ _ _ _ _, (Nat.le_refl _), SB.out⟩
      exact absurd HCV.out (by simp [clsV, v1, v2] <;> (repeat' split) <;> decide)
end Go.Proofs.Ythkdihpbdaehbaa.Pr
