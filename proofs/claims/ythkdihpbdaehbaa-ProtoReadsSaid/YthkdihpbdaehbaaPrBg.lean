import Derived.Test.YthkdihpbdaehbaaPrBh
import Derived.Test.YthkdihpbdaehbaaPrBj
import Derived.Test.YthkdihpbdaehbaaMg5
namespace Go.Proofs.Ythkdihpbdaehbaa.Pr
set_option linter.unusedVariables false
set_option linter.unusedSimpArgs false
open Go.RowKit Go.Proofs.YthkdihpbdaehbaaW.PrintWords Go.Proofs.YthkdihpbdaehbaaW.PrintLast Go.Proofs.YthkdihpbdaehbaaW.PrintMore Go.Proofs.Ythkdihpbdaehbaa.Bs
set_option maxRecDepth 100000 in
set_option maxHeartbeats 64000000 in
theorem gr_1 (w : World) (A : Option Addr) (c : Nat) (xs : List Int) (hC : (Kd.int .u8).C w A xs.length xs) (hc : xs.length ≤ c) (hby : Bys xs) (h22 : ¬ xs.length < 22) (h42 : ¬ 4200 < xs.length) (hcls : cls xs = 1) : Calls Try.prog 15 #[.slice A xs.length c] w (GotRep w (getRep xs).1 ((getRep xs).2 == 0)) := by
  have HCLS := Aside0.mk hcls
  clear hcls
  have HP := parseRep_head xs h22
  obtain ⟨ad, rfl, hx0⟩ := Kd.at_int hC 0 (by omega) (by omega)
  have hk0 := hby _ (rd_mem xs 0 (by omega))
  have HV : ∀ a b n : Nat, a + n = b → b ≤ 19 → n ≤ 8 → ∃ A' : Option Addr, (∀ W : World, (Instr.slice 27 (.slice (some ad) xs.length c) (some (.int .i64 a)) (some (.int .i64 b)) none).run Try.prog W = .ok (.slice A' n (c - a)) W) ∧ (∀ W, (Kd.int .u8).C W (some ad) xs.length xs → Calls Try.prog 31 #[.slice A' n (c - a)] W fun e w' => e = .returned (.int .u64 (val (sub xs a b))) ∧ w' = W) := by
    intro a b n e h1 h8
    obtain ⟨A', hcut, hA⟩ := mid (some ad) c xs a b (by omega) (by omega) hc
    have hs := sub_length xs a b (by omega)
    rw [show b - a = n by omega] at hcut hA hs
    refine ⟨A', hcut, fun W hW => ?_⟩
    have h := value_still W A' (c - a) (sub xs a b) (hs.symm ▸ hA W hW) (sub_bys hby a b) (by omega)
    rw [hs] at h
    exact h
  obtain ⟨A1, cut1, V1⟩ := HV 1 3 2 rfl (by decide) (by decide)
  obtain ⟨A2, cut2, V2⟩ := HV 3 7 4 rfl (by decide) (by decide)
  obtain ⟨A3, cut3, V3⟩ := HV 7 11 4 rfl (by decide) (by decide)
  obtain ⟨A4, cut4, V4⟩ := HV 11 19 8 rfl (by decide) (by decide)
  clear HV
  have B1 := val_lt (sub xs 1 3) (sub_bys hby 1 3)
  have B2 := val_lt (sub xs 3 7) (sub_bys hby 3 7)
  have B3 := val_lt (sub xs 7 11) (sub_bys hby 7 11)
  rw [sub_length xs 1 3 (by omega)] at B1
  rw [sub_length xs 3 7 (by omega)] at B2
  rw [sub_length xs 7 11 (by omega)] at B3
  obtain ⟨b10, b11⟩ := (show 0 ≤ val (sub xs 1 3) ∧ val (sub xs 1 3) < 65536 from B1)
  obtain ⟨b20, b21⟩ := (show 0 ≤ val (sub xs 3 7) ∧ val (sub xs 3 7) < 4294967296 from B2)
  obtain ⟨b30, b31⟩ := (show 0 ≤ val (sub xs 7 11) ∧ val (sub xs 7 11) < 4294967296 from B3)
  clear B1 B2 B3
  generalize rd xs 0 = k at *
  generalize val (sub xs 1 3) = er at *
  generalize val (sub xs 3 7) = tx at *
  generalize val (sub xs 7 11) = id at *
  generalize val (sub xs 11 19) = ti at *
  obtain ⟨kk0, kk1⟩ := hk0
  have hx : ∀ z, (w.alloc z).cell? ad = some (.int .u8 k) := fun z => by have h := pw_cell_below (below_alloc (Below.refl _ _) z) hx0; exact h
  have hp0 : (0 : Int) < xs.length := by omega
  have h' : ¬ (xs.length : Int) < 22 := by omega
  have h2' : ¬ 4200 < (xs.length : Int) := by omega
  have HC := Aside0.mk hC
  have HPA := Aside0.mk HP
  have HBY := Aside0.mk hby
  have HCC := Aside0.mk hc
  have HX0 := Aside0.mk hx0
  have h42' := Aside0.mk (And.intro h22 h42)
  have cut1' : ∀ W : World, (Instr.slice 27 (.slice (some ad) xs.length c) (some (.int .i64 1)) (some (.int .i64 3)) none).run Try.prog W = .ok (.slice A1 2 (c - 1)) W := cut1
  have cut2' : ∀ W : World, (Instr.slice 27 (.slice (some ad) xs.length c) (some (.int .i64 3)) (some (.int .i64 7)) none).run Try.prog W = .ok (.slice A2 4 (c - 3)) W := cut2
  have cut3' : ∀ W : World, (Instr.slice 27 (.slice (some ad) xs.length c) (some (.int .i64 7)) (some (.int .i64 11)) none).run Try.prog W = .ok (.slice A3 4 (c - 7)) W := cut3
  have cut4' : ∀ W : World, (Instr.slice 27 (.slice (some ad) xs.length c) (some (.int .i64 11)) (some (.int .i64 19)) none).run Try.prog W = .ok (.slice A4 8 (c - 11)) W := cut4
  have W1 := Aside0.mk V1
  have W2 := Aside0.mk V2
  have W3 := Aside0.mk V3
  have W4 := Aside0.mk V4
  have hwr0 : IntKind.i64.wrap k = k := IntWalk.i64_in _ ⟨by omega, by omega⟩
  have hwr1 : IntKind.i64.wrap er = er := IntWalk.i64_in _ ⟨by omega, by omega⟩
  have hwr2 : IntKind.i64.wrap tx = tx := IntWalk.i64_in _ ⟨by omega, by omega⟩
  have hwr3 : IntKind.i64.wrap id = id := IntWalk.i64_in _ ⟨by omega, by omega⟩
  have hq : (0 < xs.length) = True := eq_true (by omega)
  clear cut1 cut2 cut3 cut4 V1 V2 V3 V4 HP hC hby hc hx0 h22 h42
  go_enter Try.func15, Try.ntmps15
  go_upto_region 3 with fail
  go_cut [4] (fun s4 wx => s4 = .pointer (some ⟨w.heap.size + 1, 0, none⟩) ∧ GR w #[.int .i64 k, .int .i64 er, .int .i64 tx, .int .i64 id, .int .u64 ti, .int .i64 0, .slice none 0 0, .bool false, .int .i64 0, .int .i64 0, .string ⟨#[]⟩, .string ⟨#[]⟩] wx)
  case first =>
    have hy : ∀ z z', ((w.alloc z).drew.alloc z').cell? ad = some (.int .u8 k) := fun z z' => by have h := pw_cell_below (below_alloc (below_drew (below_alloc (Below.refl _ _) z)) z') HX0.out; exact h
    have hy3 : ∀ z z', ((w.alloc z).alloc z').cell? ad = some (.int .u8 k) := fun z z' => by have h := pw_cell_below (below_alloc (below_alloc (Below.refl _ _) z) z') HX0.out; exact h
    have hy2 : ∀ z, (w.alloc z).drew.cell? ad = some (.int .u8 k) := fun z => by have h := pw_cell_below (below_drew (below_alloc (Below.refl _ _) z)) HX0.out; exact h
    go_region_held3 (fun w' => w'.cell? ad = some (.int .u8 k)) (first | exact hy _ _ | exact hy2 _ | exact hy3 _ _ | exact hx _ | go_keep) (first | (go_at_call 31; (with_reducible refine (W1.out _ ?_).mono ?_); (repeat (first | exact HC.out | refine Kd.C_drewN ?_ _ | refine Kd.C_drew ?_ | refine Kd.C_alloc ?_ _)); rintro e w' ⟨rfl, rfl⟩) | (go_at_call 31; (with_reducible refine (W2.out _ ?_).mono ?_); (repeat (first | exact HC.out | refine Kd.C_drewN ?_ _ | refine Kd.C_drew ?_ | refine Kd.C_alloc ?_ _)); rintro e w' ⟨rfl, rfl⟩) | (go_at_call 31; (with_reducible refine (W3.out _ ?_).mono ?_); (repeat (first | exact HC.out | refine Kd.C_drewN ?_ _ | refine Kd.C_drew ?_ | refine Kd.C_alloc ?_ _)); rintro e w' ⟨rfl, rfl⟩) | (go_at_call 31; (with_reducible refine (W4.out _ ?_).mono ?_); (repeat (first | exact HC.out | refine Kd.C_drewN ?_ _ | refine Kd.C_drew ?_ | refine Kd.C_alloc ?_ _)); rintro e w' ⟨rfl, rfl⟩))
    all_goals
      go_wp2_with fail
      go_meet
      exact ⟨rfl, (GR.start w #[.int .i64 k, .int .i64 er, .int .i64 tx, .int .i64 id, .int .u64 ti, .int .i64 0, .slice none 0 0, .bool false, .int .i64 0, .int .i64 0, .string ⟨#[]⟩, .string ⟨#[]⟩]).drew⟩
  case rest =>
    obtain ⟨rfl, G0⟩ := hcut
    clear hx cut1' cut2' cut3' cut4' hwr1 hwr2 hwr3
    obtain ⟨a0, a1, a2, a3, a4, a5, a6, a7, a8, a9, a10, a11, a12⟩ := blk12 G0.q
    have G0 := Aside0.mk G0
    go_wp2_with fail
    have C30 := Aside0.mk (show ∀ (w : World) (hC : (Kd.int .u8).C w (some ad) xs.length xs), Calls Try.prog 30 #[.slice (some ad) xs.length c, .int .i64 19] w fun e w' => e = .returned (.tuple #[.string (wordsAt xs 19).1, .int .i64 (wordsAt xs 19).2]) ∧ Drawn0 w w' from fun w hC => words_ref w (some ad) c xs 19 hC HCC.out HBY.out (by have := h42'.out.1; omega) (by have := h42'.out.2; omega))
    have HWT := Aside0.mk (show wordsAt xs 19 = match textP (xs.drop 19) with | none => (nil8, -1) | some (s, r) => (s, (xs.length : Int) - r.length) from rfl)
    cases htp : textP (xs.drop 19) with
    | none =>
      exact absurd (HCLS.out.symm.trans (show cls xs = 6 by rw [cls, htp]; first | done | rfl)) (by decide)
    | some sr =>
      obtain ⟨s, r⟩ := sr
      obtain ⟨hrr, hrl⟩ := textP_rest htp
      rw [List.length_drop] at hrl hrr
      have hl22 := h42'.out.1
      rw [List.drop_drop, show 19 + (xs.length - 19 - r.length) = xs.length - r.length by omega] at hrr
      obtain ⟨m, hm⟩ : ∃ m, m = xs.length - r.length := ⟨_, rfl⟩
      have hml : m ≤ xs.length := by omega
      have hmi : (xs.length : Int) - r.length = m := by omega
      have hw : wordsAt xs 19 = (s, (m : Int)) := by rw [HWT.out, htp]; exact congrArg (Prod.mk s) hmi
      rw [← hm] at hrr
      rw [hw] at C30
      have EP0 := Aside0.mk (show parseRep xs = match numP 1 r with | none => none | some (vt, x7) => tailP k er tx id ti s vt x7 by rw [HPA.out, htp]; first | done | rfl)
      have HCT := Aside0.mk (show cls xs = clsL r by rw [cls, htp]; first | done | rfl)
      clear hw htp HWT HPA hmi
      by_cases hr0 : r = []
      · skip
        exact absurd (HCLS.out.symm.trans (show cls xs = 6 by rw [HCT.out, hr0]; first | done | rfl)) (by decide)
      have hrpos : 0 < r.length := List.length_pos_iff.mpr hr0
      have hm1 : m < xs.length := by omega
      have hdm : xs.drop m = rd xs (m : Int) :: xs.drop (m + 1) := rd_drop' xs m hm1
      have hnp : numP 1 r = some (rd xs (m : Int), xs.drop (m + 1)) := by rw [hrr, numP_at xs m 1 (m + 1) rfl (by omega), val_one xs m hm1]
      have EP1 := Aside0.mk (show parseRep xs = tailP k er tx id ti s (rd xs (m : Int)) (xs.drop (m + 1)) by rw [EP0.out, hnp])
      have HCV := Aside0.mk (show clsV (rd xs (m : Int)) = 1 by rw [← HCLS.out, HCT.out, hrr, hdm]; first | done | rfl)
      clear HCT
      have hvb := HBY.out _ (rd_mem xs m hm1)
      obtain ⟨A5, cut5, HA5⟩ := suffix (some ad) c xs (m + 1) (by omega) HCC.out
      have cut5' : ∀ W : World, (Instr.slice 27 (.slice (some ad) xs.length c) (some (.int .i64 ((m : Int) + 1))) none none).run Try.prog W = .ok (.slice A5 (xs.drop (m + 1)).length (c - (m + 1))) W := cut5
      have HY2 := Aside0.mk (show Bys (xs.drop (m + 1)) from HBY.out.drop _)
      have hc5 := Aside0.mk (show (xs.drop (m + 1)).length ≤ c - (m + 1) by rw [List.length_drop]; have := HCC.out; omega)
      have hL := Aside0.mk (show (xs.drop (m + 1)).length ≤ 4200 by rw [List.length_drop]; have := h42'.out.2; omega)
      clear hnp hdm hrr hrl hm hr0 EP0 cut5 hrpos hl22
      have hcl : ∀ W, (Kd.int .u8).C W (some ad) xs.length xs → W.cell? (ad.add m) = some (.int .u8 (rd xs (m : Int))) := fun W hW => by
        obtain ⟨ad', e', hh⟩ := Kd.at_int hW (m : Int) (by omega) (by omega)
        cases e'
        rw [Int.toNat_natCast] at hh
        exact hh
      generalize rd xs (m : Int) = vt at *
      generalize xs.drop (m + 1) = ys at *
      generalize c - (m + 1) = c5 at *
      obtain ⟨vt0, vt1⟩ := hvb
      have hm2 : ¬ (m : Int) ≥ xs.length := by omega
      have hm3 : ¬ (m : Int) < 0 := by omega
      have hm4 : (m : Int) < xs.length := by omega
      have hm5 : ¬ (xs.length : Int) ≤ m := by omega
      have HCL := Aside0.mk hcl
      have HA5 := Aside0.mk HA5
      clear hcl
      refine (C30.out _ (Kd.C_below HC.out G0.out.b)).mono ?_
      rintro e w1 ⟨rfl, hd⟩
      have g1 := G0.out.drawn hd
      clear a0 a1 a2 a3 a4 a5 a6 a7 a8 a9 a10 a11 a12 C30
      obtain ⟨a0, a1, a2, a3, a4, a5, a6, a7, a8, a9, a10, a11, a12⟩ := blk12 g1.q
      have G1 := Aside0.mk g1
      clear hd g1 G0
      have g2 := G1.out.set 11 (.string s) rfl
      have hcl2 := HCL.out _ (Kd.C_below HC.out g2.b)
      have G2 := Aside0.mk (g2.set 5 (.int .i64 vt) rfl)
      clear g2
      by_cases v1 : vt = 1
      · skip
        subst v1
        have EP2 := Aside0.mk (show parseRep xs = match nodesP ys with | none => none | some (l, zs) => some (⟨k, er, tx, id, ti, 1, l, false, 0, 0, nil8, s⟩, true, zs) from EP1.out)
        clear EP1
        by_cases hs2 : ys.length < 2
        · skip
          have EN := Aside0.mk (show parseRep xs = none by rw [EP2.out, nodesP, numP, if_pos hs2])
          have hs2' : (ys.length : Int) < 2 := by omega
          clear hs2
          have EZ := Aside0.mk (rp_none xs EN.out : getRep xs = (zeroRep, 61))
          have GE := G2.out
          obtain ⟨m0, m1, m2, m3, m4, m5, m6, m7, m8, m9, m10, m11, m12⟩ := blk12 (G2.out).r
          have S := Aside0.mk (set12_q GE.r (.int .i64 0) (.int .i64 0) (.int .i64 0) (.int .i64 0) (.int .u64 0) (.int .i64 0) (.slice none 0 0) (.bool false) (.int .i64 0) (.int .i64 0) (.string ⟨#[]⟩) (.string ⟨#[]⟩))
          have SB := Aside0.mk (GE.b.trans (Ch.to_below (set12_ch ((w1.setCell ⟨w.heap.size + 1, 11, none⟩ (.string s)).setCell ⟨w.heap.size + 1, 5, none⟩ (.int .i64 1)) w.heap.size (.int .i64 0) (.int .i64 0) (.int .i64 0) (.int .i64 0) (.int .u64 0) (.int .i64 0) (.slice none 0 0) (.bool false) (.int .i64 0) (.int .i64 0) (.string ⟨#[]⟩) (.string ⟨#[]⟩)) (B := w.heap.size) (fun k hk => by omega) (Nat.le_trans GE.b.size (Nat.le_refl _))))
          clear GE
          go_wp2_with fail
          change bodyPost Try.prog Try.f15 _ Exit.ret _ (set12 ((w1.setCell ⟨w.heap.size + 1, 11, none⟩ (.string s)).setCell ⟨w.heap.size + 1, 5, none⟩ (.int .i64 1)) w.heap.size (.int .i64 0) (.int .i64 0) (.int .i64 0) (.int .i64 0) (.int .u64 0) (.int .i64 0) (.slice none 0 0) (.bool false) (.int .i64 0) (.int .i64 0) (.string ⟨#[]⟩) (.string ⟨#[]⟩))
          clear m0 m1 m2 m3 m4 m5 m6 m7 m8 m9 m10 m11 m12 a0 a1 a2 a3 a4 a5 a6 a7 a8 a9 a10 a11 a12
          generalize set12 ((w1.setCell ⟨w.heap.size + 1, 11, none⟩ (.string s)).setCell ⟨w.heap.size + 1, 5, none⟩ (.int .i64 1)) w.heap.size (.int .i64 0) (.int .i64 0) (.int .i64 0) (.int .i64 0) (.int .u64 0) (.int .i64 0) (.slice none 0 0) (.bool false) (.int .i64 0) (.int .i64 0) (.string ⟨#[]⟩) (.string ⟨#[]⟩) = w2_ at *
          obtain ⟨d0, d1, d2, d3, d4, d5, d6, d7, d8, d9, d10, d11, d12⟩ := blk12 S.out
          rw [EZ.out]
          exact bodyPost_ret (v := .tuple #[.agg zrep, .bool false]) (by simp [results, Try.results15, go_sem, d0, d1, d2, d3, d4, d5, d6, d7, d8, d9, d10, d11, zrep, zeroRep, Rp.cells, nil8]) rfl (GotRep.zero SB.out)
        obtain ⟨cutp, HAp⟩ := prefix2 A5 c5 ys (by omega) hc5.out
        have HAP := Aside0.mk HAp
        have hv2 := val_lt (sub ys 0 2) (sub_bys HY2.out 0 2)
        rw [sub_length ys 0 2 (by omega)] at hv2
        obtain ⟨n0, n1⟩ := (show 0 ≤ val (sub ys 0 2) ∧ val (sub ys 0 2) < 65536 from hv2)
        have C31 := fun (W : World) (hW : (Kd.int .u8).C W A5 ys.length ys) => value_still W A5 c5 (sub ys 0 2) ((sub_length ys 0 2 (by omega)).symm ▸ HAP.out W hW) (sub_bys HY2.out 0 2) (by rw [sub_length ys 0 2 (by omega)]; omega)
        rw [sub_length ys 0 2 (by omega)] at C31
        have hnp : numP 2 ys = some (val (sub ys 0 2), ys.drop 2) := numP_at ys 0 2 2 rfl (by omega)
        obtain ⟨n, hn⟩ := Int.eq_ofNat_of_zero_le n0
        rw [hn] at C31 hnp
        have EP3 := Aside0.mk (show parseRep xs = match (if 1000 < (n : Int) then none else intsP n (ys.drop 2)) with | none => none | some (l, zs) => some (⟨k, er, tx, id, ti, 1, l, false, 0, 0, nil8, s⟩, true, zs) by rw [EP2.out, nodesP, hnp]; rfl)
        have hn1 : (n : Int) ≤ 65535 := by omega
        clear hv2 n0 n1 hn hnp EP2 HAp
        have C31 := Aside0.mk (show ∀ W, (Kd.int .u8).C W A5 ys.length ys → Calls Try.prog 31 #[.slice A5 2 c5] W fun e w' => e = .returned (.int .u64 (n : Int)) ∧ w' = W from C31)
        have hwn : IntKind.i64.wrap (n : Int) = n := IntWalk.i64_in _ ⟨by omega, by omega⟩
        have hs3 : ¬ (ys.length : Int) < 2 := by omega
        by_cases hne : ys.length = 2 + 4 * n
        case neg =>
          have t1 : ((ys.length : Int) == 2 + 4 * (n : Int)) = false := by simp; omega
          have t2 : ((ys.length : Int) != 2 + 4 * (n : Int)) = true := by simp; omega
          have EN := Aside0.mk (show getRep xs = (zeroRep, 61) by
            by_cases hb : 1000 < (n : Int)
            · exact rp_none xs (by rw [EP3.out, if_pos hb])
            · rw [if_neg hb] at EP3
              cases hi : intsP n (ys.drop 2) with
              | none => exact rp_none xs (by rw [EP3.out, hi])
              | some lz =>
                obtain ⟨l, zs⟩ := lz
                obtain ⟨e1, e2⟩ := intsP_back n (ys.drop 2) zs l (HY2.out.drop 2) hi
                refine rp_more xs zs _ true (by rw [EP3.out, hi]) (fun hz => ?_)
                have := congrArg List.length e1
                rw [hz, List.append_nil, beAll_len, List.length_drop] at this
                omega)
          go_wp2_with fail
          refine (C31.out _ (HA5.out _ (Kd.C_below HC.out G2.out.b))).mono ?_
          rintro e w3 ⟨rfl, rfl⟩
          have EZ := Aside0.mk (EN.out : getRep xs = (zeroRep, 61))
          have GE := G2.out
          obtain ⟨m0, m1, m2, m3, m4, m5, m6, m7, m8, m9, m10, m11, m12⟩ := blk12 (G2.out).r
          have S := Aside0.mk (set12_q GE.r (.int .i64 0) (.int .i64 0) (.int .i64 0) (.int .i64 0) (.int .u64 0) (.int .i64 0) (.slice none 0 0) (.bool false) (.int .i64 0) (.int .i64 0) (.string ⟨#[]⟩) (.string ⟨#[]⟩))
          have SB := Aside0.mk (GE.b.trans (Ch.to_below (set12_ch ((w1.setCell ⟨w.heap.size + 1, 11, none⟩ (.string s)).setCell ⟨w.heap.size + 1, 5, none⟩ (.int .i64 1)) w.heap.size (.int .i64 0) (.int .i64 0) (.int .i64 0) (.int .i64 0) (.int .u64 0) (.int .i64 0) (.slice none 0 0) (.bool false) (.int .i64 0) (.int .i64 0) (.string ⟨#[]⟩) (.string ⟨#[]⟩)) (B := w.heap.size) (fun k hk => by omega) (Nat.le_trans GE.b.size (Nat.le_refl _))))
          clear GE
          go_wp2_with fail
          change bodyPost Try.prog Try.f15 _ Exit.ret _ (set12 ((w1.setCell ⟨w.heap.size + 1, 11, none⟩ (.string s)).setCell ⟨w.heap.size + 1, 5, none⟩ (.int .i64 1)) w.heap.size (.int .i64 0) (.int .i64 0) (.int .i64 0) (.int .i64 0) (.int .u64 0) (.int .i64 0) (.slice none 0 0) (.bool false) (.int .i64 0) (.int .i64 0) (.string ⟨#[]⟩) (.string ⟨#[]⟩))
          clear m0 m1 m2 m3 m4 m5 m6 m7 m8 m9 m10 m11 m12 a0 a1 a2 a3 a4 a5 a6 a7 a8 a9 a10 a11 a12
          generalize set12 ((w1.setCell ⟨w.heap.size + 1, 11, none⟩ (.string s)).setCell ⟨w.heap.size + 1, 5, none⟩ (.int .i64 1)) w.heap.size (.int .i64 0) (.int .i64 0) (.int .i64 0) (.int .i64 0) (.int .u64 0) (.int .i64 0) (.slice none 0 0) (.bool false) (.int .i64 0) (.int .i64 0) (.string ⟨#[]⟩) (.string ⟨#[]⟩) = w2_ at *
          obtain ⟨d0, d1, d2, d3, d4, d5, d6, d7, d8, d9, d10, d11, d12⟩ := blk12 S.out
          rw [EZ.out]
          exact bodyPost_ret (v := .tuple #[.agg zrep, .bool false]) (by simp [results, Try.results15, go_sem, d0, d1, d2, d3, d4, d5, d6, d7, d8, d9, d10, d11, zrep, zeroRep, Rp.cells, nil8]) rfl (GotRep.zero SB.out)
        have t1 : ((ys.length : Int) == 2 + 4 * (n : Int)) = true := by simp; omega
        have t2 : ((ys.length : Int) != 2 + 4 * (n : Int)) = false := by simp; omega
        obtain ⟨l, hi⟩ := intsP_some n (ys.drop 2) (by rw [List.length_drop]; omega)
        obtain ⟨hbe, hln⟩ := intsP_back n (ys.drop 2) [] l (HY2.out.drop 2) hi
        have hget := intsP_get n (ys.drop 2) [] l hi
        have hL2 := hL.out
        have EQ0 := Aside0.mk (show getRep xs = if rightRepB ⟨k, er, tx, id, ti, 1, l, false, 0, 0, nil8, s⟩ = true then (⟨k, er, tx, id, ti, 1, l, false, 0, 0, nil8, s⟩, 0) else (zeroRep, 61) by
          by_cases hb : 1000 < (n : Int)
          · have hr : ¬ rightRepB ⟨k, er, tx, id, ti, 1, l, false, 0, 0, nil8, s⟩ = true := fun h => by
              obtain ⟨_, _, _, _, _, h6⟩ := rightRep_parts _ h
              obtain ⟨_, _, _, _, _, h7, _⟩ := val_parts _ _ _ _ _ _ h6
              have : l.length ≤ 1000 := h7
              omega
            rw [if_neg hr]
            exact rp_none xs (by rw [EP3.out, if_pos hb])
          · exact rp_all xs _ h42'.out.2 (by rw [EP3.out, if_neg hb, hi]))
        have HG := Aside0.mk hget
        have HNE := Aside0.mk hne
        have HLN := Aside0.mk hln
        have hn2 : (n : Int) ≤ 1050 := by omega
        clear EP3 hi hbe hget hne hln hs2
        go_wp2_with fail
        refine (C31.out _ (HA5.out _ (Kd.C_below HC.out G2.out.b))).mono ?_
        rintro e w3 ⟨rfl, rfl⟩
        clear cutp hwn hn1
        go_wp2_with fail
        clear a0 a1 a2 a3 a4 a5 a6 a7 a8 a9 a10 a11 a12 t1 t2
        go_loopw [8] (fun v8 wr => ∃ (j kk : Nat) (L : List Int) (Aj : Option Addr) (cj : Nat), Aside0 (kk = 2 + 4 * j) ∧ v8 = .int .i64 kk ∧ j ≤ n ∧ Aside0 (L = l.take j) ∧ Aside0 (GR w #[.int .i64 k, .int .i64 er, .int .i64 tx, .int .i64 id, .int .u64 ti, .int .i64 1, .slice Aj L.length cj, .bool false, .int .i64 0, .int .i64 0, .string ⟨#[]⟩, .string s] wr) ∧ Aside0 ((Kd.int .i64).R 3 wr (w.heap.size + 2) (fun _ => True) (.slice Aj L.length cj) L)) (fun v8 _ => (ys.length - intOf v8).toNat)
        case atStart => exact ⟨0, 2, [], none, 0, ⟨rfl⟩, rfl, Nat.zero_le _, ⟨rfl⟩, G2, ⟨Kd.R_nil _ _ _ _ _⟩⟩
        case round =>
          obtain ⟨j, kk, L, Aj, cj, HK, rfl, hj, HL1, HGR, HROW⟩ := hrel
          obtain ⟨a0, a1, a2, a3, a4, a5, a6, a7, a8, a9, a10, a11, a12⟩ := blk12 HGR.out.q
          have hkk := HK.out
          have hyl := HNE.out
          by_cases hjn : j < n
          · have hlt : (kk : Int) < ys.length := by omega
            obtain ⟨A', cutm, hAm⟩ := mid A5 c5 ys kk (kk + 4) (by omega) (by omega) hc5.out
            have hsl := sub_length ys kk (kk + 4) (by omega)
            rw [show kk + 4 - kk = 4 by omega] at cutm hAm hsl
            have cutm' : ∀ W : World, (Instr.slice 27 (.slice A5 ys.length c5) (some (.int .i64 (kk : Int))) (some (.int .i64 ((kk : Int) + 4))) none).run Try.prog W = .ok (.slice A' 4 (c5 - kk)) W := cutm
            have KJ := value_still wr.drew A' (c5 - kk) (sub ys kk (kk + 4)) (hsl.symm ▸ hAm _ (HA5.out _ (Kd.C_below HC.out HGR.out.drew.b))) (sub_bys HY2.out kk (kk + 4)) (by omega)
            rw [hsl] at KJ
            have hv4 := val_lt (sub ys kk (kk + 4)) (sub_bys HY2.out kk (kk + 4))
            rw [hsl] at hv4
            obtain ⟨x0, x1⟩ := (show 0 ≤ val (sub ys kk (kk + 4)) ∧ val (sub ys kk (kk + 4)) < 4294967296 from hv4)
            have htk := Aside0.mk (show l.take (j + 1) = l.take j ++ [val (sub ys kk (kk + 4))] by
              rw [take_rd l j (by have := HLN.out; omega), HG.out j hjn, sub_drop, show 2 + 4 * j = kk by omega, show 2 + (4 * j + 4) = kk + 4 by omega])
            generalize val (sub ys kk (kk + 4)) = x at *
            have hwx : IntKind.i64.wrap x = x := IntWalk.i64_in _ ⟨by omega, by omega⟩
            have KJ := Aside0.mk KJ
            have HLL := Aside0.mk (show (L.length + 1) * 8 ≤ 140737488355328 by rw [HL1.out, List.length_take]; omega)
            have HR1 := Aside0.mk (Kd.R_drew HROW.out)
            have HBW := Aside0.mk (show w.heap.size + 2 ≤ wr.drew.heap.size from blk_lt HGR.out.drew.q)
            have hka : ∀ o, (wr.alloc o).cell? ⟨w.heap.size + 1, 6, none⟩ = some (.slice Aj L.length cj) := fun o => pw_cell_below (below_alloc (Below.refl _ _) o) a6
            have hkb : ∀ o, (wr.drew.alloc o).cell? ⟨w.heap.size + 1, 6, none⟩ = some (.slice Aj L.length cj) := fun o => pw_cell_below (below_alloc (Below.refl _ _) o) a6
            have hk8 : (kk : Int) ≤ 4300 := by have := hL.out; omega
            have hs98 : IntKind.i64.wrap ((kk : Int) + 4) = (kk : Int) + 4 := IntWalk.i64_in _ ⟨by omega, by omega⟩
            clear cutm hAm hsl hv4 hkk hyl
            go_wp2_with fail
            go_region_law (first | (go_simp; go_at_call 31; (with_reducible refine KJ.out.mono ?_); rintro e w' ⟨rfl, rfl⟩) | (refine app_step (Kd.int .i64) (W := wr.drew) (w.heap.size + 2) rfl (.tmp 94) (.tmp 102) 38 3 (.int .i64 0) 8 rfl Try.underlying38 info3 z3ok (.slice Aj L.length cj) L x [.int .i64 x] (fun _ => True) (fun _ => False) rfl rfl rfl (fun _ h => h.elim) HR1.out HBW.out HLL.out ?_; intro A1 c1 w4 hr4 hch4 hat4; have g4 := HGR.out.drew.app HR1.out hch4; obtain ⟨f0, f1, f2, f3, f4, f5, f6, f7, f8, f9, f10, f11, f12⟩ := blk12 g4.q; have G4 := Aside0.mk g4; have HR4 := Aside0.mk hr4; clear g4 hr4 hch4 hat4))
            all_goals
              go_wp2
              go_roundw
              case rel =>
                have hll : L.length + 1 = (L ++ [x]).length := by simp
                have g5 := G4.out.set 6 (.slice A1 (L.length + 1) c1) rfl
                refine ⟨j + 1, kk + 4, L ++ [x], A1, c1, ⟨by have := HK.out; omega⟩, rfl, hjn, ⟨by rw [htk.out, HL1.out]⟩, ⟨?_⟩, ⟨?_⟩⟩
                · rw [← hll]; exact g5
                · rw [← hll]; exact R_ch HR4.out G4.out.q (by decide) ((Ch.refl (fun k => k = w.heap.size + 1) _).setCell (p := ⟨w.heap.size + 1, 6, none⟩) (.inl rfl) _)
              case measure => simp [intOf]; omega
          · have hlt : ¬ (kk : Int) < ys.length := by omega
            have hLe : L = l := by rw [HL1.out, List.take_of_length_le (by have := HLN.out; omega)]
            subst hLe
            clear HL1 hkk hyl
            have EQ := Aside0.mk (show _ from EQ0.out)
            have C18 := fun W (hW : (Kd.int .i64).C W Aj (Rp.nodes ⟨k, er, tx, id, ti, 1, L, false, 0, 0, nil8, s⟩).length (Rp.nodes ⟨k, er, tx, id, ti, 1, L, false, 0, 0, nil8, s⟩)) => rep_refR W ⟨k, er, tx, id, ti, 1, L, false, 0, 0, nil8, s⟩ Aj cj hW (by have := HLN.out; show L.length ≤ _; omega)
            generalize hrb : rightRepB ⟨k, er, tx, id, ti, 1, L, false, 0, 0, nil8, s⟩ = rb at *
            clear hrb
            simp only [Rp.cells] at C18
            have C18 := Aside0.mk C18
            cases rb with
            | false =>
              go_wp2_with fail
              refine (C18.out _ (Kd.R_reads' HROW.out).2.2).mono ?_
              rintro e w9 ⟨rfl, hb9⟩
              have g9 : GR w #[.int .i64 k, .int .i64 er, .int .i64 tx, .int .i64 id, .int .u64 ti, .int .i64 1, .slice Aj L.length cj, .bool false, .int .i64 0, .int .i64 0, .string ⟨#[]⟩, .string s] w9 := HGR.out.below hb9
              have hrow9 := Kd.R_below HROW.out hb9
              clear a0 a1 a2 a3 a4 a5 a6 a7 a8 a9 a10 a11 a12
              obtain ⟨a0, a1, a2, a3, a4, a5, a6, a7, a8, a9, a10, a11, a12⟩ := blk12 g9.q
              obtain ⟨m0, m1, m2, m3, m4, m5, m6, m7, m8, m9, m10, m11, m12⟩ := blk12 g9.r
              have S := Aside0.mk (set12_q g9.r (.int .i64 0) (.int .i64 0) (.int .i64 0) (.int .i64 0) (.int .u64 0) (.int .i64 0) (.slice none 0 0) (.bool false) (.int .i64 0) (.int .i64 0) (.string ⟨#[]⟩) (.string ⟨#[]⟩))
              have SB := Aside0.mk (g9.b.trans (Ch.to_below (set12_ch w9 w.heap.size (.int .i64 0) (.int .i64 0) (.int .i64 0) (.int .i64 0) (.int .u64 0) (.int .i64 0) (.slice none 0 0) (.bool false) (.int .i64 0) (.int .i64 0) (.string ⟨#[]⟩) (.string ⟨#[]⟩)) (B := w.heap.size) (fun k hk => by omega) g9.b.size))
              clear g9 hb9 hrow9
              go_wp2_with fail
              change bodyPost Try.prog Try.f15 _ Exit.ret _ (set12 w9 w.heap.size (.int .i64 0) (.int .i64 0) (.int .i64 0) (.int .i64 0) (.int .u64 0) (.int .i64 0) (.slice none 0 0) (.bool false) (.int .i64 0) (.int .i64 0) (.string ⟨#[]⟩) (.string ⟨#[]⟩))
              clear m0 m1 m2 m3 m4 m5 m6 m7 m8 m9 m10 m11 m12 a0 a1 a2 a3 a4 a5 a6 a7 a8 a9 a10 a11 a12
              generalize set12 w9 w.heap.size (.int .i64 0) (.int .i64 0) (.int .i64 0) (.int .i64 0) (.int .u64 0) (.int .i64 0) (.slice none 0 0) (.bool false) (.int .i64 0) (.int .i64 0) (.string ⟨#[]⟩) (.string ⟨#[]⟩) = w2_ at *
              obtain ⟨d0, d1, d2, d3, d4, d5, d6, d7, d8, d9, d10, d11, d12⟩ := blk12 S.out
              rw [EQ.out]
              exact bodyPost_ret (v := .tuple #[.agg zrep, .bool false]) (by simp [results, Try.results15, go_sem, d0, d1, d2, d3, d4, d5, d6, d7, d8, d9, d10, d11, zrep, zeroRep, Rp.cells, nil8]) rfl (GotRep.zero SB.out)
            | true =>
              go_wp2_with fail
              refine (C18.out _ (Kd.R_reads' HROW.out).2.2).mono ?_
              rintro e w9 ⟨rfl, hb9⟩
              have g9 : GR w #[.int .i64 k, .int .i64 er, .int .i64 tx, .int .i64 id, .int .u64 ti, .int .i64 1, .slice Aj L.length cj, .bool false, .int .i64 0, .int .i64 0, .string ⟨#[]⟩, .string s] w9 := HGR.out.below hb9
              have hrow9 := Kd.R_below HROW.out hb9
              clear a0 a1 a2 a3 a4 a5 a6 a7 a8 a9 a10 a11 a12
              obtain ⟨a0, a1, a2, a3, a4, a5, a6, a7, a8, a9, a10, a11, a12⟩ := blk12 g9.q
              obtain ⟨m0, m1, m2, m3, m4, m5, m6, m7, m8, m9, m10, m11, m12⟩ := blk12 g9.r
              have S := Aside0.mk (set12_q g9.r (.int .i64 k) (.int .i64 er) (.int .i64 tx) (.int .i64 id) (.int .u64 ti) (.int .i64 1) (.slice Aj L.length cj) (.bool false) (.int .i64 0) (.int .i64 0) (.string ⟨#[]⟩) (.string s))
              have SB := Aside0.mk (g9.b.trans (Ch.to_below (set12_ch w9 w.heap.size (.int .i64 k) (.int .i64 er) (.int .i64 tx) (.int .i64 id) (.int .u64 ti) (.int .i64 1) (.slice Aj L.length cj) (.bool false) (.int .i64 0) (.int .i64 0) (.string ⟨#[]⟩) (.string s)) (B := w.heap.size) (fun k hk => by omega) g9.b.size))
              have SR := Aside0.mk (R_ch (Kd.R_lower hrow9 (Nat.le_trans (Nat.le_succ _) (Nat.le_succ _))) g9.r (by decide) (set12_ch w9 w.heap.size (.int .i64 k) (.int .i64 er) (.int .i64 tx) (.int .i64 id) (.int .u64 ti) (.int .i64 1) (.slice Aj L.length cj) (.bool false) (.int .i64 0) (.int .i64 0) (.string ⟨#[]⟩) (.string s)))
              clear g9 hb9 hrow9
              go_wp2_with fail
              change bodyPost Try.prog Try.f15 _ Exit.ret _ (set12 w9 w.heap.size (.int .i64 k) (.int .i64 er) (.int .i64 tx) (.int .i64 id) (.int .u64 ti) (.int .i64 1) (.slice Aj L.length cj) (.bool false) (.int .i64 0) (.int .i64 0) (.string ⟨#[]⟩) (.string s))
              clear m0 m1 m2 m3 m4 m5 m6 m7 m8 m9 m10 m11 m12 a0 a1 a2 a3 a4 a5 a6 a7 a8 a9 a10 a11 a12
              generalize set12 w9 w.heap.size (.int .i64 k) (.int .i64 er) (.int .i64 tx) (.int .i64 id) (.int .u64 ti) (.int .i64 1) (.slice Aj L.length cj) (.bool false) (.int .i64 0) (.int .i64 0) (.string ⟨#[]⟩) (.string s) = w2_ at *
              obtain ⟨d0, d1, d2, d3, d4, d5, d6, d7, d8, d9, d10, d11, d12⟩ := blk12 S.out
              rw [EQ.out]
              exact bodyPost_ret (v := .tuple #[.agg #[.int .i64 k, .int .i64 er, .int .i64 tx, .int .i64 id, .int .u64 ti, .int .i64 1, .slice Aj L.length cj, .bool false, .int .i64 0, .int .i64 0, .string ⟨#[]⟩, .string s], .bool true]) (by simp [results, Try.results15, go_sem, d0, d1, d2, d3, d4, d5, d6, d7, d8, d9, d10, d11]) rfl ⟨Aj, cj, rfl, SR.out, (Kd.R_reads' HROW.out).2.1, SB.out⟩
      exact absurd HCV.out (by simp [clsV, v1] <;> (repeat' split) <;> decide)
end Go.Proofs.Ythkdihpbdaehbaa.Pr
namespace Go.Proofs.Ythkdihpbdaehbaa.Pr
set_option linter.unusedVariables false
set_option linter.unusedSimpArgs false
open Go.RowKit Go.Proofs.YthkdihpbdaehbaaW.PrintWords Go.Proofs.YthkdihpbdaehbaaW.PrintLast Go.Proofs.YthkdihpbdaehbaaW.PrintMore Go.Proofs.Ythkdihpbdaehbaa.Bs
theorem cls_all (xs : List Int) : cls xs = 6 ∨ cls xs = 1 ∨ cls xs = 2 ∨ cls xs = 3 ∨ cls xs = 4 ∨ cls xs = 0 := by
  rw [cls]
  split
  · exact .inl rfl
  · rename_i s r h
    cases r with
    | nil => exact .inl rfl
    | cons v r =>
      simp only [clsL, clsV]
      split
      · simp
      split
      · simp
      split
      · simp
      split <;> simp
theorem gr_main (w : World) (A : Option Addr) (c : Nat) (xs : List Int) (hC : (Kd.int .u8).C w A xs.length xs) (hc : xs.length ≤ c) (hby : Bys xs) (h22 : ¬ xs.length < 22) (h42 : ¬ 4200 < xs.length) : Calls Try.prog 15 #[.slice A xs.length c] w (GotRep w (getRep xs).1 ((getRep xs).2 == 0)) := by
  rcases cls_all xs with h | h | h | h | h | h
  · exact gr_6 w A c xs hC hc hby h22 h42 h
  · exact gr_1 w A c xs hC hc hby h22 h42 h
  · exact gr_2 w A c xs hC hc hby h22 h42 h
  · exact gr_3 w A c xs hC hc hby h22 h42 h
  · exact gr_4 w A c xs hC hc hby h22 h42 h
  · exact gr_0 w A c xs hC hc hby h22 h42 h
theorem rp_short (xs : List Int) (h : xs.length < 22) : getRep xs = (zeroRep, 61) := by
  refine rp_none xs ?_
  have hn : ∀ (n : Nat) (l : List Int) (v : Int) (r : List Int), numP n l = some (v, r) → l.length = r.length + n := by
    intro n l v r h
    simp only [numP] at h
    split at h
    · cases h
    · cases h; rw [List.length_drop]; omega
  unfold parseRep
  split
  · rfl
  rename_i k x1 h1
  have e1 := hn _ _ _ _ h1
  split
  · rfl
  rename_i er x2 h2
  have e2 := hn _ _ _ _ h2
  split
  · rfl
  rename_i tx x3 h3
  have e3 := hn _ _ _ _ h3
  split
  · rfl
  rename_i id x4 h4
  have e4 := hn _ _ _ _ h4
  split
  · rfl
  rename_i ti x5 h5
  have e5 := hn _ _ _ _ h5
  split
  · rfl
  rename_i s x6 h6
  have e6 := (textP_rest h6).2
  split
  · rfl
  rename_i vt x7 h7
  have e7 := hn _ _ _ _ h7
  omega
theorem gotRep_calls (w : World) (A : Option Addr) (c : Nat) (xs : List Int) (hC : (Kd.int .u8).C w A xs.length xs) (hc : xs.length ≤ c) (hby : Bys xs) :
    Calls Try.prog 15 #[.slice A xs.length c] w (GotRep w (getRep xs).1 ((getRep xs).2 == 0)) := by
  by_cases h22 : xs.length < 22
  · have e : getRep xs = (zeroRep, 61) := rp_short xs h22
    rw [e]
    exact gr_lo w A c xs h22
  by_cases h42 : 4200 < xs.length
  · rw [rp_hi xs h42]
    have h := gr_hi w A c xs h42
    exact h
  exact gr_main w A c xs hC hc hby h22 h42
set_option maxRecDepth 100000 in
set_option maxHeartbeats 600000 in
theorem reads_l (w : World) (A : Option Addr) (c : Nat) (xs : List Int) (h1 : 5000 < xs.length) : Calls Try.prog 4 #[.slice A xs.length c] w (True_ w) := by
  have h1' : 5000 < (xs.length : Int) := by omega
  clear h1
  go_enter Try.func4, Try.ntmps4
  go_wp2_with fail
  refine (works_calls _).mono ?_
  rintro e v0 ⟨rfl, hbv⟩
  have HV := Aside0.mk hbv
  clear hbv
  go_wp2_with fail
  go_ret
  exact ⟨rfl, HV.out⟩
set_option maxRecDepth 100000 in
set_option maxHeartbeats 2000000 in
theorem reads_00 (w : World) (A : Option Addr) (c : Nat) (xs : List Int) (q : Rq) (r : Rp) (hC : (Kd.int .u8).C w A xs.length xs) (hl : xs.length ≤ c) (hby : Bys xs) (h1 : ¬ 5000 < xs.length) (e1 : getReq xs = (q, 61)) (e2 : getRep xs = (r, 61)) (hrn : r.nodes.length ≤ 1000) : Calls Try.prog 4 #[.slice A xs.length c] w (True_ w) := by
  have h1' : ¬ 5000 < (xs.length : Int) := by omega
  have C1 := getReq_calls w A c xs hC hl hby
  have C2 := Aside0.mk (fun w hC => gotReq_calls w A c xs hC hl hby)
  have C3 := Aside0.mk (fun w hC => getRep_calls w A c xs hC hl hby (fun q' h' => Nat.le_trans (readRep_back hby h').2.2.2 (by decide)))
  have C4 := Aside0.mk (fun w hC => gotRep_calls w A c xs hC hl hby)
  have C5 := Aside0.mk (fun w A A' c c' h1 h2 h3 h4 => rep_same w r A A' c c' h1 h2 h3 h4 (by omega))
  have hE : ∀ w, (binOp .eql 25 (.agg q.cells) (.agg q.cells)).run Try.prog w = .ok (.bool true) w := fun w => by
    rw [eqReq]; simp
  rw [e1] at C1 C2
  rw [e2] at C3 C4
  have HC := Aside0.mk hC
  unfold GetPost at C1
  unfold RepPost at C3
  unfold GotPost at C2
  unfold GotRep at C4
  obtain ⟨k, s, o, i, p, nm, os⟩ := q
  obtain ⟨k', er, tx, id, ti, vt, ns, vb, tag, vv, vs, s'⟩ := r
  simp only [Rq.cells, Rp.cells] at *
  clear hC hl hby h1 e1 e2 hrn
  go_enter Try.func4, Try.ntmps4
  go_wp2_with fail
  refine C1.mono ?_
  rintro e w1 ⟨rfl, hb⟩
  have HB1 := Aside0.mk (below_alloc hb (.cells #[.int .i64 k, .string s, .int .i64 o, .int .i64 i, .int .i64 p, .string nm, .string os] 25))
  have g1 : (w1.alloc (.cells #[.int .i64 k, .string s, .int .i64 o, .int .i64 i, .int .i64 p, .string nm, .string os] 25)).heap[w1.heap.size]? = some (.cells #[.int .i64 k, .string s, .int .i64 o, .int .i64 i, .int .i64 p, .string nm, .string os] 25 (0, 0)) := heap_alloc_new w1 _
  have G1 := Aside0.mk g1
  clear hb C1 g1
  go_wp2_with fail
  refine (C2.out _ (Kd.C_below HC.out HB1.out)).mono ?_
  rintro e w2 ⟨rfl, hb⟩
  have HB2 := Aside0.mk (below_alloc (below_step HB1.out hb) (.cells #[.int .i64 k, .string s, .int .i64 o, .int .i64 i, .int .i64 p, .string nm, .string os] 25))
  have G1 := Aside0.mk ((Below.heap_alloc w2 (.cells #[.int .i64 k, .string s, .int .i64 o, .int .i64 i, .int .i64 p, .string nm, .string os] 25) w1.heap.size (blk_lt ((hb.block _ (blk_lt G1.out)).trans G1.out))).trans ((hb.block _ (blk_lt G1.out)).trans G1.out))
  have g2 : (w2.alloc (.cells #[.int .i64 k, .string s, .int .i64 o, .int .i64 i, .int .i64 p, .string nm, .string os] 25)).heap[w2.heap.size]? = some (.cells #[.int .i64 k, .string s, .int .i64 o, .int .i64 i, .int .i64 p, .string nm, .string os] 25 (0, 0)) := heap_alloc_new w2 _
  have G2 := Aside0.mk g2
  clear hb g2
  go_wp2_with fail
  refine (C3.out _ (Kd.C_below HC.out HB2.out)).mono ?_
  rintro e w3 ⟨A3, c3, rfl, hR3, hb⟩
  have HB3 := Aside0.mk (below_alloc (below_step HB2.out hb) (.cells #[.int .i64 k', .int .i64 er, .int .i64 tx, .int .i64 id, .int .u64 ti, .int .i64 vt, .slice A3 ns.length c3, .bool vb, .int .i64 tag, .int .i64 vv, .string vs, .string s'] 44))
  have G1 := Aside0.mk ((Below.heap_alloc w3 (.cells #[.int .i64 k', .int .i64 er, .int .i64 tx, .int .i64 id, .int .u64 ti, .int .i64 vt, .slice A3 ns.length c3, .bool vb, .int .i64 tag, .int .i64 vv, .string vs, .string s'] 44) w1.heap.size (blk_lt ((hb.block _ (blk_lt G1.out)).trans G1.out))).trans ((hb.block _ (blk_lt G1.out)).trans G1.out))
  have G2 := Aside0.mk ((Below.heap_alloc w3 (.cells #[.int .i64 k', .int .i64 er, .int .i64 tx, .int .i64 id, .int .u64 ti, .int .i64 vt, .slice A3 ns.length c3, .bool vb, .int .i64 tag, .int .i64 vv, .string vs, .string s'] 44) w2.heap.size (blk_lt ((hb.block _ (blk_lt G2.out)).trans G2.out))).trans ((hb.block _ (blk_lt G2.out)).trans G2.out))
  have g3 : (w3.alloc (.cells #[.int .i64 k', .int .i64 er, .int .i64 tx, .int .i64 id, .int .u64 ti, .int .i64 vt, .slice A3 ns.length c3, .bool vb, .int .i64 tag, .int .i64 vv, .string vs, .string s'] 44)).heap[w3.heap.size]? = some (.cells #[.int .i64 k', .int .i64 er, .int .i64 tx, .int .i64 id, .int .u64 ti, .int .i64 vt, .slice A3 ns.length c3, .bool vb, .int .i64 tag, .int .i64 vv, .string vs, .string s'] 44 (0, 0)) := heap_alloc_new w3 _
  have G3 := Aside0.mk g3
  have HR3 := Aside0.mk (Kd.R_below hR3 (below_alloc (Below.refl _ _) (.cells #[.int .i64 k', .int .i64 er, .int .i64 tx, .int .i64 id, .int .u64 ti, .int .i64 vt, .slice A3 ns.length c3, .bool vb, .int .i64 tag, .int .i64 vv, .string vs, .string s'] 44)))
  clear hb g3 hR3
  go_wp2_with fail
  refine (C4.out _ (Kd.C_below HC.out HB3.out)).mono ?_
  rintro e w4 ⟨A4, c4, rfl, hR4, hcap4, hb⟩
  obtain ⟨W, hW⟩ : ∃ W, W = w4.alloc (.cells #[.int .i64 k', .int .i64 er, .int .i64 tx, .int .i64 id, .int .u64 ti, .int .i64 vt, .slice A4 ns.length c4, .bool vb, .int .i64 tag, .int .i64 vv, .string vs, .string s'] 44) := ⟨_, rfl⟩
  have hbW : Below (w3.alloc (.cells #[.int .i64 k', .int .i64 er, .int .i64 tx, .int .i64 id, .int .u64 ti, .int .i64 vt, .slice A3 ns.length c3, .bool vb, .int .i64 tag, .int .i64 vv, .string vs, .string s'] 44)).heap.size (w3.alloc (.cells #[.int .i64 k', .int .i64 er, .int .i64 tx, .int .i64 id, .int .u64 ti, .int .i64 vt, .slice A3 ns.length c3, .bool vb, .int .i64 tag, .int .i64 vv, .string vs, .string s'] 44)) W := by rw [hW]; exact below_alloc hb _
  have HB4 := Aside0.mk (below_step HB3.out hbW)
  have g1 := (hbW.block _ (blk_lt G1.out)).trans G1.out
  have g2 := (hbW.block _ (blk_lt G2.out)).trans G2.out
  have g3 := (hbW.block _ (blk_lt G3.out)).trans G3.out
  have g4 : W.heap[w4.heap.size]? = some (.cells #[.int .i64 k', .int .i64 er, .int .i64 tx, .int .i64 id, .int .u64 ti, .int .i64 vt, .slice A4 ns.length c4, .bool vb, .int .i64 tag, .int .i64 vv, .string vs, .string s'] 44 (0, 0)) := by rw [hW]; exact heap_alloc_new w4 _
  have HR3 := Aside0.mk (Kd.R_below HR3.out hbW)
  have HR4 := Aside0.mk (show (Kd.int .i64).R 3 W _ (fun _ => True) (.slice A4 ns.length c4) ns by rw [hW]; exact Kd.R_below hR4 (below_alloc (Below.refl _ _) _))
  have HCAP := Aside0.mk hcap4
  obtain ⟨p0, p1, p2, p3, p4, p5, p6, p7⟩ := blk7 g1
  obtain ⟨r0, r1, r2, r3, r4, r5, r6, r7⟩ := blk7 g2
  obtain ⟨s0, s1, s2, s3, s4, s5, s6, s7, s8, s9, s10, s11, s12⟩ := blk12 g3
  obtain ⟨t0, t1, t2, t3, t4, t5, t6, t7, t8, t9, t10, t11, t12⟩ := blk12 g4
  clear hb hR4 hbW hcap4 g1 g2 g3 g4
  rw [hW] at p0 p1 p2 p3 p4 p5 p6 p7 r0 r1 r2 r3 r4 r5 r6 r7 s0 s1 s2 s3 s4 s5 s6 s7 s8 s9 s10 s11 s12 t0 t1 t2 t3 t4 t5 t6 t7 t8 t9 t10 t11 t12
  go_wp2_with fail
  rw [← hW]
  refine (C5.out _ A3 A4 c3 c4 (Kd.R_reads' HR3.out).2.2 (Kd.R_reads' HR3.out).2.1 (Kd.R_reads' HR4.out).2.2 HCAP.out).mono ?_
  rintro e w5 ⟨rfl, hb⟩
  have HB5 := Aside0.mk (below_step HB4.out hb)
  clear hb hW p0 p1 p2 p3 p4 p5 p6 p7 r0 r1 r2 r3 r4 r5 r6 r7 s0 s1 s2 s3 s4 s5 s6 s7 s8 s9 s10 s11 s12 t0 t1 t2 t3 t4 t5 t6 t7 t8 t9 t10 t11 t12
  go_wp2_with fail
  refine (works_calls _).mono ?_
  rintro e v0 ⟨rfl, hbv⟩
  have HV := Aside0.mk (below_step HB5.out hbv)
  clear hbv
  go_wp2_with fail
  go_ret
  exact ⟨rfl, HV.out⟩
set_option maxRecDepth 100000 in
set_option maxHeartbeats 2000000 in
theorem reads_01 (w : World) (A : Option Addr) (c : Nat) (xs : List Int) (q : Rq) (r : Rp) (hC : (Kd.int .u8).C w A xs.length xs) (hl : xs.length ≤ c) (hby : Bys xs) (h1 : ¬ 5000 < xs.length) (e1 : getReq xs = (q, 61)) (e2 : getRep xs = (r, 0)) (hrn : r.nodes.length ≤ 1000) : Calls Try.prog 4 #[.slice A xs.length c] w (True_ w) := by
  have h1' : ¬ 5000 < (xs.length : Int) := by omega
  have C1 := getReq_calls w A c xs hC hl hby
  have C2 := Aside0.mk (fun w hC => gotReq_calls w A c xs hC hl hby)
  have C3 := Aside0.mk (fun w hC => getRep_calls w A c xs hC hl hby (fun q' h' => Nat.le_trans (readRep_back hby h').2.2.2 (by decide)))
  have C4 := Aside0.mk (fun w hC => gotRep_calls w A c xs hC hl hby)
  have C5 := Aside0.mk (fun w A A' c c' h1 h2 h3 h4 => rep_same w r A A' c c' h1 h2 h3 h4 (by omega))
  have hE : ∀ w, (binOp .eql 25 (.agg q.cells) (.agg q.cells)).run Try.prog w = .ok (.bool true) w := fun w => by
    rw [eqReq]; simp
  rw [e1] at C1 C2
  rw [e2] at C3 C4
  have HC := Aside0.mk hC
  unfold GetPost at C1
  unfold RepPost at C3
  unfold GotPost at C2
  unfold GotRep at C4
  obtain ⟨k, s, o, i, p, nm, os⟩ := q
  obtain ⟨k', er, tx, id, ti, vt, ns, vb, tag, vv, vs, s'⟩ := r
  simp only [Rq.cells, Rp.cells] at *
  clear hC hl hby h1 e1 e2 hrn
  go_enter Try.func4, Try.ntmps4
  go_wp2_with fail
  refine C1.mono ?_
  rintro e w1 ⟨rfl, hb⟩
  have HB1 := Aside0.mk (below_alloc hb (.cells #[.int .i64 k, .string s, .int .i64 o, .int .i64 i, .int .i64 p, .string nm, .string os] 25))
  have g1 : (w1.alloc (.cells #[.int .i64 k, .string s, .int .i64 o, .int .i64 i, .int .i64 p, .string nm, .string os] 25)).heap[w1.heap.size]? = some (.cells #[.int .i64 k, .string s, .int .i64 o, .int .i64 i, .int .i64 p, .string nm, .string os] 25 (0, 0)) := heap_alloc_new w1 _
  have G1 := Aside0.mk g1
  clear hb C1 g1
  go_wp2_with fail
  refine (C2.out _ (Kd.C_below HC.out HB1.out)).mono ?_
  rintro e w2 ⟨rfl, hb⟩
  have HB2 := Aside0.mk (below_alloc (below_step HB1.out hb) (.cells #[.int .i64 k, .string s, .int .i64 o, .int .i64 i, .int .i64 p, .string nm, .string os] 25))
  have G1 := Aside0.mk ((Below.heap_alloc w2 (.cells #[.int .i64 k, .string s, .int .i64 o, .int .i64 i, .int .i64 p, .string nm, .string os] 25) w1.heap.size (blk_lt ((hb.block _ (blk_lt G1.out)).trans G1.out))).trans ((hb.block _ (blk_lt G1.out)).trans G1.out))
  have g2 : (w2.alloc (.cells #[.int .i64 k, .string s, .int .i64 o, .int .i64 i, .int .i64 p, .string nm, .string os] 25)).heap[w2.heap.size]? = some (.cells #[.int .i64 k, .string s, .int .i64 o, .int .i64 i, .int .i64 p, .string nm, .string os] 25 (0, 0)) := heap_alloc_new w2 _
  have G2 := Aside0.mk g2
  clear hb g2
  go_wp2_with fail
  refine (C3.out _ (Kd.C_below HC.out HB2.out)).mono ?_
  rintro e w3 ⟨A3, c3, rfl, hR3, hb⟩
  have HB3 := Aside0.mk (below_alloc (below_step HB2.out hb) (.cells #[.int .i64 k', .int .i64 er, .int .i64 tx, .int .i64 id, .int .u64 ti, .int .i64 vt, .slice A3 ns.length c3, .bool vb, .int .i64 tag, .int .i64 vv, .string vs, .string s'] 44))
  have G1 := Aside0.mk ((Below.heap_alloc w3 (.cells #[.int .i64 k', .int .i64 er, .int .i64 tx, .int .i64 id, .int .u64 ti, .int .i64 vt, .slice A3 ns.length c3, .bool vb, .int .i64 tag, .int .i64 vv, .string vs, .string s'] 44) w1.heap.size (blk_lt ((hb.block _ (blk_lt G1.out)).trans G1.out))).trans ((hb.block _ (blk_lt G1.out)).trans G1.out))
  have G2 := Aside0.mk ((Below.heap_alloc w3 (.cells #[.int .i64 k', .int .i64 er, .int .i64 tx, .int .i64 id, .int .u64 ti, .int .i64 vt, .slice A3 ns.length c3, .bool vb, .int .i64 tag, .int .i64 vv, .string vs, .string s'] 44) w2.heap.size (blk_lt ((hb.block _ (blk_lt G2.out)).trans G2.out))).trans ((hb.block _ (blk_lt G2.out)).trans G2.out))
  have g3 : (w3.alloc (.cells #[.int .i64 k', .int .i64 er, .int .i64 tx, .int .i64 id, .int .u64 ti, .int .i64 vt, .slice A3 ns.length c3, .bool vb, .int .i64 tag, .int .i64 vv, .string vs, .string s'] 44)).heap[w3.heap.size]? = some (.cells #[.int .i64 k', .int .i64 er, .int .i64 tx, .int .i64 id, .int .u64 ti, .int .i64 vt, .slice A3 ns.length c3, .bool vb, .int .i64 tag, .int .i64 vv, .string vs, .string s'] 44 (0, 0)) := heap_alloc_new w3 _
  have G3 := Aside0.mk g3
  have HR3 := Aside0.mk (Kd.R_below hR3 (below_alloc (Below.refl _ _) (.cells #[.int .i64 k', .int .i64 er, .int .i64 tx, .int .i64 id, .int .u64 ti, .int .i64 vt, .slice A3 ns.length c3, .bool vb, .int .i64 tag, .int .i64 vv, .string vs, .string s'] 44)))
  clear hb g3 hR3
  go_wp2_with fail
  refine (C4.out _ (Kd.C_below HC.out HB3.out)).mono ?_
  rintro e w4 ⟨A4, c4, rfl, hR4, hcap4, hb⟩
  obtain ⟨W, hW⟩ : ∃ W, W = w4.alloc (.cells #[.int .i64 k', .int .i64 er, .int .i64 tx, .int .i64 id, .int .u64 ti, .int .i64 vt, .slice A4 ns.length c4, .bool vb, .int .i64 tag, .int .i64 vv, .string vs, .string s'] 44) := ⟨_, rfl⟩
  have hbW : Below (w3.alloc (.cells #[.int .i64 k', .int .i64 er, .int .i64 tx, .int .i64 id, .int .u64 ti, .int .i64 vt, .slice A3 ns.length c3, .bool vb, .int .i64 tag, .int .i64 vv, .string vs, .string s'] 44)).heap.size (w3.alloc (.cells #[.int .i64 k', .int .i64 er, .int .i64 tx, .int .i64 id, .int .u64 ti, .int .i64 vt, .slice A3 ns.length c3, .bool vb, .int .i64 tag, .int .i64 vv, .string vs, .string s'] 44)) W := by rw [hW]; exact below_alloc hb _
  have HB4 := Aside0.mk (below_step HB3.out hbW)
  have g1 := (hbW.block _ (blk_lt G1.out)).trans G1.out
  have g2 := (hbW.block _ (blk_lt G2.out)).trans G2.out
  have g3 := (hbW.block _ (blk_lt G3.out)).trans G3.out
  have g4 : W.heap[w4.heap.size]? = some (.cells #[.int .i64 k', .int .i64 er, .int .i64 tx, .int .i64 id, .int .u64 ti, .int .i64 vt, .slice A4 ns.length c4, .bool vb, .int .i64 tag, .int .i64 vv, .string vs, .string s'] 44 (0, 0)) := by rw [hW]; exact heap_alloc_new w4 _
  have HR3 := Aside0.mk (Kd.R_below HR3.out hbW)
  have HR4 := Aside0.mk (show (Kd.int .i64).R 3 W _ (fun _ => True) (.slice A4 ns.length c4) ns by rw [hW]; exact Kd.R_below hR4 (below_alloc (Below.refl _ _) _))
  have HCAP := Aside0.mk hcap4
  obtain ⟨p0, p1, p2, p3, p4, p5, p6, p7⟩ := blk7 g1
  obtain ⟨r0, r1, r2, r3, r4, r5, r6, r7⟩ := blk7 g2
  obtain ⟨s0, s1, s2, s3, s4, s5, s6, s7, s8, s9, s10, s11, s12⟩ := blk12 g3
  obtain ⟨t0, t1, t2, t3, t4, t5, t6, t7, t8, t9, t10, t11, t12⟩ := blk12 g4
  clear hb hR4 hbW hcap4 g1 g2 g3 g4
  rw [hW] at p0 p1 p2 p3 p4 p5 p6 p7 r0 r1 r2 r3 r4 r5 r6 r7 s0 s1 s2 s3 s4 s5 s6 s7 s8 s9 s10 s11 s12 t0 t1 t2 t3 t4 t5 t6 t7 t8 t9 t10 t11 t12
  go_wp2_with fail
  rw [← hW]
  refine (C5.out _ A3 A4 c3 c4 (Kd.R_reads' HR3.out).2.2 (Kd.R_reads' HR3.out).2.1 (Kd.R_reads' HR4.out).2.2 HCAP.out).mono ?_
  rintro e w5 ⟨rfl, hb⟩
  have HB5 := Aside0.mk (below_step HB4.out hb)
  clear hb hW p0 p1 p2 p3 p4 p5 p6 p7 r0 r1 r2 r3 r4 r5 r6 r7 s0 s1 s2 s3 s4 s5 s6 s7 s8 s9 s10 s11 s12 t0 t1 t2 t3 t4 t5 t6 t7 t8 t9 t10 t11 t12
  go_wp2_with fail
  refine (works_calls _).mono ?_
  rintro e v0 ⟨rfl, hbv⟩
  have HV := Aside0.mk (below_step HB5.out hbv)
  clear hbv
  go_wp2_with fail
  go_ret
  exact ⟨rfl, HV.out⟩
set_option maxRecDepth 100000 in
set_option maxHeartbeats 2000000 in
theorem reads_10 (w : World) (A : Option Addr) (c : Nat) (xs : List Int) (q : Rq) (r : Rp) (hC : (Kd.int .u8).C w A xs.length xs) (hl : xs.length ≤ c) (hby : Bys xs) (h1 : ¬ 5000 < xs.length) (e1 : getReq xs = (q, 0)) (e2 : getRep xs = (r, 61)) (hrn : r.nodes.length ≤ 1000) : Calls Try.prog 4 #[.slice A xs.length c] w (True_ w) := by
  have h1' : ¬ 5000 < (xs.length : Int) := by omega
  have C1 := getReq_calls w A c xs hC hl hby
  have C2 := Aside0.mk (fun w hC => gotReq_calls w A c xs hC hl hby)
  have C3 := Aside0.mk (fun w hC => getRep_calls w A c xs hC hl hby (fun q' h' => Nat.le_trans (readRep_back hby h').2.2.2 (by decide)))
  have C4 := Aside0.mk (fun w hC => gotRep_calls w A c xs hC hl hby)
  have C5 := Aside0.mk (fun w A A' c c' h1 h2 h3 h4 => rep_same w r A A' c c' h1 h2 h3 h4 (by omega))
  have hE : ∀ w, (binOp .eql 25 (.agg q.cells) (.agg q.cells)).run Try.prog w = .ok (.bool true) w := fun w => by
    rw [eqReq]; simp
  rw [e1] at C1 C2
  rw [e2] at C3 C4
  have HC := Aside0.mk hC
  unfold GetPost at C1
  unfold RepPost at C3
  unfold GotPost at C2
  unfold GotRep at C4
  obtain ⟨k, s, o, i, p, nm, os⟩ := q
  obtain ⟨k', er, tx, id, ti, vt, ns, vb, tag, vv, vs, s'⟩ := r
  simp only [Rq.cells, Rp.cells] at *
  clear hC hl hby h1 e1 e2 hrn
  go_enter Try.func4, Try.ntmps4
  go_wp2_with fail
  refine C1.mono ?_
  rintro e w1 ⟨rfl, hb⟩
  have HB1 := Aside0.mk (below_alloc hb (.cells #[.int .i64 k, .string s, .int .i64 o, .int .i64 i, .int .i64 p, .string nm, .string os] 25))
  have g1 : (w1.alloc (.cells #[.int .i64 k, .string s, .int .i64 o, .int .i64 i, .int .i64 p, .string nm, .string os] 25)).heap[w1.heap.size]? = some (.cells #[.int .i64 k, .string s, .int .i64 o, .int .i64 i, .int .i64 p, .string nm, .string os] 25 (0, 0)) := heap_alloc_new w1 _
  have G1 := Aside0.mk g1
  clear hb C1 g1
  go_wp2_with fail
  refine (C2.out _ (Kd.C_below HC.out HB1.out)).mono ?_
  rintro e w2 ⟨rfl, hb⟩
  have HB2 := Aside0.mk (below_alloc (below_step HB1.out hb) (.cells #[.int .i64 k, .string s, .int .i64 o, .int .i64 i, .int .i64 p, .string nm, .string os] 25))
  have G1 := Aside0.mk ((Below.heap_alloc w2 (.cells #[.int .i64 k, .string s, .int .i64 o, .int .i64 i, .int .i64 p, .string nm, .string os] 25) w1.heap.size (blk_lt ((hb.block _ (blk_lt G1.out)).trans G1.out))).trans ((hb.block _ (blk_lt G1.out)).trans G1.out))
  have g2 : (w2.alloc (.cells #[.int .i64 k, .string s, .int .i64 o, .int .i64 i, .int .i64 p, .string nm, .string os] 25)).heap[w2.heap.size]? = some (.cells #[.int .i64 k, .string s, .int .i64 o, .int .i64 i, .int .i64 p, .string nm, .string os] 25 (0, 0)) := heap_alloc_new w2 _
  have G2 := Aside0.mk g2
  clear hb g2
  go_wp2_with fail
  refine (C3.out _ (Kd.C_below HC.out HB2.out)).mono ?_
  rintro e w3 ⟨A3, c3, rfl, hR3, hb⟩
  have HB3 := Aside0.mk (below_alloc (below_step HB2.out hb) (.cells #[.int .i64 k', .int .i64 er, .int .i64 tx, .int .i64 id, .int .u64 ti, .int .i64 vt, .slice A3 ns.length c3, .bool vb, .int .i64 tag, .int .i64 vv, .string vs, .string s'] 44))
  have G1 := Aside0.mk ((Below.heap_alloc w3 (.cells #[.int .i64 k', .int .i64 er, .int .i64 tx, .int .i64 id, .int .u64 ti, .int .i64 vt, .slice A3 ns.length c3, .bool vb, .int .i64 tag, .int .i64 vv, .string vs, .string s'] 44) w1.heap.size (blk_lt ((hb.block _ (blk_lt G1.out)).trans G1.out))).trans ((hb.block _ (blk_lt G1.out)).trans G1.out))
  have G2 := Aside0.mk ((Below.heap_alloc w3 (.cells #[.int .i64 k', .int .i64 er, .int .i64 tx, .int .i64 id, .int .u64 ti, .int .i64 vt, .slice A3 ns.length c3, .bool vb, .int .i64 tag, .int .i64 vv, .string vs, .string s'] 44) w2.heap.size (blk_lt ((hb.block _ (blk_lt G2.out)).trans G2.out))).trans ((hb.block _ (blk_lt G2.out)).trans G2.out))
  have g3 : (w3.alloc (.cells #[.int .i64 k', .int .i64 er, .int .i64 tx, .int .i64 id, .int .u64 ti, .int .i64 vt, .slice A3 ns.length c3, .bool vb, .int .i64 tag, .int .i64 vv, .string vs, .string s'] 44)).heap[w3.heap.size]? = some (.cells #[.int .i64 k', .int .i64 er, .int .i64 tx, .int .i64 id, .int .u64 ti, .int .i64 vt, .slice A3 ns.length c3, .bool vb, .int .i64 tag, .int .i64 vv, .string vs, .string s'] 44 (0, 0)) := heap_alloc_new w3 _
  have G3 := Aside0.mk g3
  have HR3 := Aside0.mk (Kd.R_below hR3 (below_alloc (Below.refl _ _) (.cells #[.int .i64 k', .int .i64 er, .int .i64 tx, .int .i64 id, .int .u64 ti, .int .i64 vt, .slice A3 ns.length c3, .bool vb, .int .i64 tag, .int .i64 vv, .string vs, .string s'] 44)))
  clear hb g3 hR3
  go_wp2_with fail
  refine (C4.out _ (Kd.C_below HC.out HB3.out)).mono ?_
  rintro e w4 ⟨A4, c4, rfl, hR4, hcap4, hb⟩
  obtain ⟨W, hW⟩ : ∃ W, W = w4.alloc (.cells #[.int .i64 k', .int .i64 er, .int .i64 tx, .int .i64 id, .int .u64 ti, .int .i64 vt, .slice A4 ns.length c4, .bool vb, .int .i64 tag, .int .i64 vv, .string vs, .string s'] 44) := ⟨_, rfl⟩
  have hbW : Below (w3.alloc (.cells #[.int .i64 k', .int .i64 er, .int .i64 tx, .int .i64 id, .int .u64 ti, .int .i64 vt, .slice A3 ns.length c3, .bool vb, .int .i64 tag, .int .i64 vv, .string vs, .string s'] 44)).heap.size (w3.alloc (.cells #[.int .i64 k', .int .i64 er, .int .i64 tx, .int .i64 id, .int .u64 ti, .int .i64 vt, .slice A3 ns.length c3, .bool vb, .int .i64 tag, .int .i64 vv, .string vs, .string s'] 44)) W := by rw [hW]; exact below_alloc hb _
  have HB4 := Aside0.mk (below_step HB3.out hbW)
  have g1 := (hbW.block _ (blk_lt G1.out)).trans G1.out
  have g2 := (hbW.block _ (blk_lt G2.out)).trans G2.out
  have g3 := (hbW.block _ (blk_lt G3.out)).trans G3.out
  have g4 : W.heap[w4.heap.size]? = some (.cells #[.int .i64 k', .int .i64 er, .int .i64 tx, .int .i64 id, .int .u64 ti, .int .i64 vt, .slice A4 ns.length c4, .bool vb, .int .i64 tag, .int .i64 vv, .string vs, .string s'] 44 (0, 0)) := by rw [hW]; exact heap_alloc_new w4 _
  have HR3 := Aside0.mk (Kd.R_below HR3.out hbW)
  have HR4 := Aside0.mk (show (Kd.int .i64).R 3 W _ (fun _ => True) (.slice A4 ns.length c4) ns by rw [hW]; exact Kd.R_below hR4 (below_alloc (Below.refl _ _) _))
  have HCAP := Aside0.mk hcap4
  obtain ⟨p0, p1, p2, p3, p4, p5, p6, p7⟩ := blk7 g1
  obtain ⟨r0, r1, r2, r3, r4, r5, r6, r7⟩ := blk7 g2
  obtain ⟨s0, s1, s2, s3, s4, s5, s6, s7, s8, s9, s10, s11, s12⟩ := blk12 g3
  obtain ⟨t0, t1, t2, t3, t4, t5, t6, t7, t8, t9, t10, t11, t12⟩ := blk12 g4
  clear hb hR4 hbW hcap4 g1 g2 g3 g4
  rw [hW] at p0 p1 p2 p3 p4 p5 p6 p7 r0 r1 r2 r3 r4 r5 r6 r7 s0 s1 s2 s3 s4 s5 s6 s7 s8 s9 s10 s11 s12 t0 t1 t2 t3 t4 t5 t6 t7 t8 t9 t10 t11 t12
  go_wp2_with fail
  rw [← hW]
  refine (C5.out _ A3 A4 c3 c4 (Kd.R_reads' HR3.out).2.2 (Kd.R_reads' HR3.out).2.1 (Kd.R_reads' HR4.out).2.2 HCAP.out).mono ?_
  rintro e w5 ⟨rfl, hb⟩
  have HB5 := Aside0.mk (below_step HB4.out hb)
  clear hb hW p0 p1 p2 p3 p4 p5 p6 p7 r0 r1 r2 r3 r4 r5 r6 r7 s0 s1 s2 s3 s4 s5 s6 s7 s8 s9 s10 s11 s12 t0 t1 t2 t3 t4 t5 t6 t7 t8 t9 t10 t11 t12
  go_wp2_with fail
  refine (works_calls _).mono ?_
  rintro e v0 ⟨rfl, hbv⟩
  have HV := Aside0.mk (below_step HB5.out hbv)
  clear hbv
  go_wp2_with fail
  go_ret
  exact ⟨rfl, HV.out⟩
set_option maxRecDepth 100000 in
set_option maxHeartbeats 2000000 in
theorem reads_11 (w : World) (A : Option Addr) (c : Nat) (xs : List Int) (q : Rq) (r : Rp) (hC : (Kd.int .u8).C w A xs.length xs) (hl : xs.length ≤ c) (hby : Bys xs) (h1 : ¬ 5000 < xs.length) (e1 : getReq xs = (q, 0)) (e2 : getRep xs = (r, 0)) (hrn : r.nodes.length ≤ 1000) : Calls Try.prog 4 #[.slice A xs.length c] w (True_ w) := by
  have h1' : ¬ 5000 < (xs.length : Int) := by omega
  have C1 := getReq_calls w A c xs hC hl hby
  have C2 := Aside0.mk (fun w hC => gotReq_calls w A c xs hC hl hby)
  have C3 := Aside0.mk (fun w hC => getRep_calls w A c xs hC hl hby (fun q' h' => Nat.le_trans (readRep_back hby h').2.2.2 (by decide)))
  have C4 := Aside0.mk (fun w hC => gotRep_calls w A c xs hC hl hby)
  have C5 := Aside0.mk (fun w A A' c c' h1 h2 h3 h4 => rep_same w r A A' c c' h1 h2 h3 h4 (by omega))
  have hE : ∀ w, (binOp .eql 25 (.agg q.cells) (.agg q.cells)).run Try.prog w = .ok (.bool true) w := fun w => by
    rw [eqReq]; simp
  rw [e1] at C1 C2
  rw [e2] at C3 C4
  have HC := Aside0.mk hC
  unfold GetPost at C1
  unfold RepPost at C3
  unfold GotPost at C2
  unfold GotRep at C4
  obtain ⟨k, s, o, i, p, nm, os⟩ := q
  obtain ⟨k', er, tx, id, ti, vt, ns, vb, tag, vv, vs, s'⟩ := r
  simp only [Rq.cells, Rp.cells] at *
  clear hC hl hby h1 e1 e2 hrn
  go_enter Try.func4, Try.ntmps4
  go_wp2_with fail
  refine C1.mono ?_
  rintro e w1 ⟨rfl, hb⟩
  have HB1 := Aside0.mk (below_alloc hb (.cells #[.int .i64 k, .string s, .int .i64 o, .int .i64 i, .int .i64 p, .string nm, .string os] 25))
  have g1 : (w1.alloc (.cells #[.int .i64 k, .string s, .int .i64 o, .int .i64 i, .int .i64 p, .string nm, .string os] 25)).heap[w1.heap.size]? = some (.cells #[.int .i64 k, .string s, .int .i64 o, .int .i64 i, .int .i64 p, .string nm, .string os] 25 (0, 0)) := heap_alloc_new w1 _
  have G1 := Aside0.mk g1
  clear hb C1 g1
  go_wp2_with fail
  refine (C2.out _ (Kd.C_below HC.out HB1.out)).mono ?_
  rintro e w2 ⟨rfl, hb⟩
  have HB2 := Aside0.mk (below_alloc (below_step HB1.out hb) (.cells #[.int .i64 k, .string s, .int .i64 o, .int .i64 i, .int .i64 p, .string nm, .string os] 25))
  have G1 := Aside0.mk ((Below.heap_alloc w2 (.cells #[.int .i64 k, .string s, .int .i64 o, .int .i64 i, .int .i64 p, .string nm, .string os] 25) w1.heap.size (blk_lt ((hb.block _ (blk_lt G1.out)).trans G1.out))).trans ((hb.block _ (blk_lt G1.out)).trans G1.out))
  have g2 : (w2.alloc (.cells #[.int .i64 k, .string s, .int .i64 o, .int .i64 i, .int .i64 p, .string nm, .string os] 25)).heap[w2.heap.size]? = some (.cells #[.int .i64 k, .string s, .int .i64 o, .int .i64 i, .int .i64 p, .string nm, .string os] 25 (0, 0)) := heap_alloc_new w2 _
  have G2 := Aside0.mk g2
  clear hb g2
  go_wp2_with fail
  refine (C3.out _ (Kd.C_below HC.out HB2.out)).mono ?_
  rintro e w3 ⟨A3, c3, rfl, hR3, hb⟩
  have HB3 := Aside0.mk (below_alloc (below_step HB2.out hb) (.cells #[.int .i64 k', .int .i64 er, .int .i64 tx, .int .i64 id, .int .u64 ti, .int .i64 vt, .slice A3 ns.length c3, .bool vb, .int .i64 tag, .int .i64 vv, .string vs, .string s'] 44))
  have G1 := Aside0.mk ((Below.heap_alloc w3 (.cells #[.int .i64 k', .int .i64 er, .int .i64 tx, .int .i64 id, .int .u64 ti, .int .i64 vt, .slice A3 ns.length c3, .bool vb, .int .i64 tag, .int .i64 vv, .string vs, .string s'] 44) w1.heap.size (blk_lt ((hb.block _ (blk_lt G1.out)).trans G1.out))).trans ((hb.block _ (blk_lt G1.out)).trans G1.out))
  have G2 := Aside0.mk ((Below.heap_alloc w3 (.cells #[.int .i64 k', .int .i64 er, .int .i64 tx, .int .i64 id, .int .u64 ti, .int .i64 vt, .slice A3 ns.length c3, .bool vb, .int .i64 tag, .int .i64 vv, .string vs, .string s'] 44) w2.heap.size (blk_lt ((hb.block _ (blk_lt G2.out)).trans G2.out))).trans ((hb.block _ (blk_lt G2.out)).trans G2.out))
  have g3 : (w3.alloc (.cells #[.int .i64 k', .int .i64 er, .int .i64 tx, .int .i64 id, .int .u64 ti, .int .i64 vt, .slice A3 ns.length c3, .bool vb, .int .i64 tag, .int .i64 vv, .string vs, .string s'] 44)).heap[w3.heap.size]? = some (.cells #[.int .i64 k', .int .i64 er, .int .i64 tx, .int .i64 id, .int .u64 ti, .int .i64 vt, .slice A3 ns.length c3, .bool vb, .int .i64 tag, .int .i64 vv, .string vs, .string s'] 44 (0, 0)) := heap_alloc_new w3 _
  have G3 := Aside0.mk g3
  have HR3 := Aside0.mk (Kd.R_below hR3 (below_alloc (Below.refl _ _) (.cells #[.int .i64 k', .int .i64 er, .int .i64 tx, .int .i64 id, .int .u64 ti, .int .i64 vt, .slice A3 ns.length c3, .bool vb, .int .i64 tag, .int .i64 vv, .string vs, .string s'] 44)))
  clear hb g3 hR3
  go_wp2_with fail
  refine (C4.out _ (Kd.C_below HC.out HB3.out)).mono ?_
  rintro e w4 ⟨A4, c4, rfl, hR4, hcap4, hb⟩
  obtain ⟨W, hW⟩ : ∃ W, W = w4.alloc (.cells #[.int .i64 k', .int .i64 er, .int .i64 tx, .int .i64 id, .int .u64 ti, .int .i64 vt, .slice A4 ns.length c4, .bool vb, .int .i64 tag, .int .i64 vv, .string vs, .string s'] 44) := ⟨_, rfl⟩
  have hbW : Below (w3.alloc (.cells #[.int .i64 k', .int .i64 er, .int .i64 tx, .int .i64 id, .int .u64 ti, .int .i64 vt, .slice A3 ns.length c3, .bool vb, .int .i64 tag, .int .i64 vv, .string vs, .string s'] 44)).heap.size (w3.alloc (.cells #[.int .i64 k', .int .i64 er, .int .i64 tx, .int .i64 id, .int .u64 ti, .int .i64 vt, .slice A3 ns.length c3, .bool vb, .int .i64 tag, .int .i64 vv, .string vs, .string s'] 44)) W := by rw [hW]; exact below_alloc hb _
  have HB4 := Aside0.mk (below_step HB3.out hbW)
  have g1 := (hbW.block _ (blk_lt G1.out)).trans G1.out
  have g2 := (hbW.block _ (blk_lt G2.out)).trans G2.out
  have g3 := (hbW.block _ (blk_lt G3.out)).trans G3.out
  have g4 : W.heap[w4.heap.size]? = some (.cells #[.int .i64 k', .int .i64 er, .int .i64 tx, .int .i64 id, .int .u64 ti, .int .i64 vt, .slice A4 ns.length c4, .bool vb, .int .i64 tag, .int .i64 vv, .string vs, .string s'] 44 (0, 0)) := by rw [hW]; exact heap_alloc_new w4 _
  have HR3 := Aside0.mk (Kd.R_below HR3.out hbW)
  have HR4 := Aside0.mk (show (Kd.int .i64).R 3 W _ (fun _ => True) (.slice A4 ns.length c4) ns by rw [hW]; exact Kd.R_below hR4 (below_alloc (Below.refl _ _) _))
  have HCAP := Aside0.mk hcap4
  obtain ⟨p0, p1, p2, p3, p4, p5, p6, p7⟩ := blk7 g1
  obtain ⟨r0, r1, r2, r3, r4, r5, r6, r7⟩ := blk7 g2
  obtain ⟨s0, s1, s2, s3, s4, s5, s6, s7, s8, s9, s10, s11, s12⟩ := blk12 g3
  obtain ⟨t0, t1, t2, t3, t4, t5, t6, t7, t8, t9, t10, t11, t12⟩ := blk12 g4
  clear hb hR4 hbW hcap4 g1 g2 g3 g4
  rw [hW] at p0 p1 p2 p3 p4 p5 p6 p7 r0 r1 r2 r3 r4 r5 r6 r7 s0 s1 s2 s3 s4 s5 s6 s7 s8 s9 s10 s11 s12 t0 t1 t2 t3 t4 t5 t6 t7 t8 t9 t10 t11 t12
  go_wp2_with fail
  rw [← hW]
  refine (C5.out _ A3 A4 c3 c4 (Kd.R_reads' HR3.out).2.2 (Kd.R_reads' HR3.out).2.1 (Kd.R_reads' HR4.out).2.2 HCAP.out).mono ?_
  rintro e w5 ⟨rfl, hb⟩
  have HB5 := Aside0.mk (below_step HB4.out hb)
  clear hb hW p0 p1 p2 p3 p4 p5 p6 p7 r0 r1 r2 r3 r4 r5 r6 r7 s0 s1 s2 s3 s4 s5 s6 s7 s8 s9 s10 s11 s12 t0 t1 t2 t3 t4 t5 t6 t7 t8 t9 t10 t11 t12
  go_wp2_with fail
  refine (works_calls _).mono ?_
  rintro e v0 ⟨rfl, hbv⟩
  have HV := Aside0.mk (below_step HB5.out hbv)
  clear hbv
  go_wp2_with fail
  go_ret
  exact ⟨rfl, HV.out⟩
theorem getRep_nodes (xs : List Int) (hby : Bys xs) : (getRep xs).1.nodes.length ≤ 1000 := by
  rw [getRep]
  cases h : readRep xs with
  | none => exact Nat.zero_le _
  | some q =>
    simp only [getRepOf]
    split
    · exact (readRep_back hby h).2.2.2
    · exact Nat.zero_le _
theorem reads_calls (w : World) (A : Option Addr) (c : Nat) (xs : List Int) (hC : (Kd.int .u8).C w A xs.length xs) (hl : xs.length ≤ c) (hby : Bys xs) : Calls Try.prog 4 #[.slice A xs.length c] w (True_ w) := by
  by_cases h1 : 5000 < xs.length
  · exact reads_l w A c xs h1
  have hn := getRep_nodes xs hby
  rcases getReq_code xs with a | a <;> rcases getRep_code xs with b | b
  · exact reads_11 w A c xs _ _ hC hl hby h1 (Prod.ext rfl a) (Prod.ext rfl b) hn
  · exact reads_10 w A c xs _ _ hC hl hby h1 (Prod.ext rfl a) (Prod.ext rfl b) hn
  · exact reads_01 w A c xs _ _ hC hl hby h1 (Prod.ext rfl a) (Prod.ext rfl b) hn
  · exact reads_00 w A c xs _ _ hC hl hby h1 (Prod.ext rfl a) (Prod.ext rfl b) hn
theorem reads_row (W : World) (A : Option Addr) (cp : Nat) (l : List Int) (f : (Kd.int .u8).C W A l.length l) (e : l.length ≤ cp) (g : (∀ x ∈ l, (Lit.int .u8 x).wf = true) ∧ l.length ≤ maxLen) :
    Calls Try.prog 4 #[.slice A l.length cp] W fun e w' => e = .returned (.bool true) ∧ Below W.heap.size W w' :=
  reads_calls W A cp l f e (fun x hx => wf_u8 (g.1 x hx))
end Go.Proofs.Ythkdihpbdaehbaa.Pr
