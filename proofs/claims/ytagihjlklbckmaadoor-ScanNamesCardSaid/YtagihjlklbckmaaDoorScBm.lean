import Derived.Test.YtagihjlklbckmaaDoorScBl
import Derived.Deep.QuietTactic
import Derived.BigQuiet
namespace Go.Proofs.YtagihjlklbckmaaDoor.Sc
set_option linter.unusedVariables false
set_option linter.unusedSimpArgs false
open Go.RowKit Go.Proofs.YtagihjlklbckmaaDoorW.PrintWords Go.Proofs.YtagihjlklbckmaaDoorW.PrintLast Go.Proofs.YtagihjlklbckmaaDoorW.PrintMore Go.Proofs.YtagihjlklbckmaaDoor.Bs
set_option maxRecDepth 100000 in
set_option maxHeartbeats 4000000 in
theorem law_names (w : World) (l : LB) (E : Env w) (hmax : l.length ≤ maxLen) :
    Calls Tryd.prog 5 #[.string (ofL l)] w fun e w' => e = .returned (.bool true) ∧ Below w.heap.size w w' := by
  clear hmax
  have CS := Aside0.mk (scan_calls w l E)
  have HG := Aside0.mk (fun toks (h : scanM l = .ok toks) => And.intro (scan_good h) (scan_few h))
  have HE := Aside0.mk E
  clear E
  generalize scanM l = R at CS HG
  go_enter Tryd.func5, Tryd.ntmps5
  go_wp2_with fail
  (with_reducible refine CS.out.mono ?_)
  rintro e w2 hT
  clear CS
  by_cases herr : ∃ k, ¬ k = 0 ∧ R = .error k
  · obtain ⟨k, hk, rfl⟩ := herr
    obtain ⟨rfl, hb⟩ := hT
    have HB2 := Aside0.mk hb
    have CW := Aside0.mk (works_calls w2 (HE.out.below hb))
    have hkb : (k == 0) = false := by rw [beq_eq_false_iff_ne]; exact hk
    clear hb HG
    go_wp2_with fail
    (with_reducible refine CW.out.mono ?_)
    rintro e w3 ⟨rfl, hb⟩
    have HB3 := Aside0.mk (below_step HB2.out hb)
    clear hb CW
    go_wp2_with fail
    go_ret
    exact ⟨rfl, HB3.out⟩
  · obtain ⟨toks, v, rfl, hR, hgood, hfew, hb⟩ : ∃ toks v, e = .returned (.tuple #[v, .int .i64 0]) ∧ kTok.R 31 w2 w.heap.size (fun _ => True) v toks ∧ (∀ x ∈ toks, GoodT x) ∧ toks.length ≤ 4000 ∧ Below w.heap.size w w2 := by
      cases R with
      | error k =>
        have hk : k = 0 := Decidable.byContradiction fun h => herr ⟨k, h, rfl⟩
        obtain ⟨he, hb⟩ := hT
        exact ⟨[], _, by rw [he, hk], Kd.R_nil _ _ _ _ _, (fun x h => by cases h), by decide, hb⟩
      | ok toks =>
        obtain ⟨⟨v, he, hR⟩, hb⟩ := hT
        exact ⟨toks, v, he, hR, (HG.out toks rfl).1, (HG.out toks rfl).2, hb⟩
    clear herr hT HG
    obtain ⟨A, cc, rfl⟩ := Kd.R_slice hR
    have HC := Aside0.mk (Kd.R_reads' hR).2.2
    have HGD := Aside0.mk hgood
    have HB2 := Aside0.mk hb
    have HE2 := Aside0.mk (HE.out.below hb)
    have HBR := Aside0.mk (Below.refl w2.heap.size w2)
    clear hb hR hgood HE
    go_wp2_with fail
    go_loopw [5] (fun v5 wr => ∃ i : Nat, v5 = .int .i64 i ∧ i ≤ toks.length ∧ Aside0 (Below w2.heap.size w2 wr)) (fun v5 _ => toks.length - (intOf v5).toNat)
    case atStart => exact ⟨0, rfl, Nat.zero_le _, HBR⟩
    case round =>
      clear HBR
      obtain ⟨i, rfl, hi, HB⟩ := hrel
      by_cases hlt : i < toks.length
      · obtain ⟨ad, Aa, ca, rfl, a0, a1, a2, a3, a4, _, hCa⟩ := toks_at (Kd.C_below HC.out HB.out) i hlt
        have HGX := Aside0.mk (HGD.out _ (List.getElem_mem hlt))
        have HCA := Aside0.mk hCa
        generalize toks[i] = x at *
        have h1 : (i : Int) < (toks.length : Int) := by omega
        have h0 : (0 : Int) ≤ (i : Int) := by omega
        have CN := Aside0.mk (fun (h3 : ¬ x.kind = 3) (h4 : ¬ x.kind = 4) W => show Calls Tryd.prog 11 #[.string (ofL x.name)] W fun e w' => e = .returned (.bool true) ∧ Below W.heap.size W w' by
          have hn := HGX.out.name h3 h4
          have h := refname_calls W x.name (by have := nameL_len hn; omega)
          rw [hn] at h; exact h)
        have CT := Aside0.mk (fun W => show Calls Tryd.prog 10 #[.string (ofL x.text)] W fun e w' => e = .returned (.bool true) ∧ Below W.heap.size W w' by
          have h := reftext_calls W x.text HGX.out.len
          rw [HGX.out.text] at h; exact h)
        have HA3 := Aside0.mk a3
        have HA1 := Aside0.mk (fun W (hb : Below wr.heap.size wr W) => pw_cell_below hb a2)
        have hk : x.kind = 3 ∨ (¬ x.kind = 3 ∧ x.kind = 4) ∨ (¬ x.kind = 3 ∧ ¬ x.kind = 4) := by omega
        clear hCa a4 a3
        rcases hk with hk3 | ⟨hk3, hk4⟩ | ⟨hk3, hk4⟩
        all_goals
          try rw [hk3] at a0
          try rw [hk4] at a0
          try (have n3 : (x.kind == 3) = false := by rw [beq_eq_false_iff_ne]; exact hk3)
          try (have n4 : (x.kind == 4) = false := by rw [beq_eq_false_iff_ne]; exact hk4)
          go_wp2_with (first
            | (go_at_call 11; (with_reducible refine (CN.out hk3 hk4 _).mono ?_); rintro e w3 ⟨rfl, hb3⟩; have b2 := HA1.out w3 hb3)
            | (go_at_call 10; (with_reducible refine (CT.out _).mono ?_); rintro e w4 ⟨rfl, hb4⟩))
          have HB4 := Aside0.mk (show Below wr.heap.size wr w4 by first | exact below_step hb3 hb4 | exact hb4)
          have HBR2 := Aside0.mk (Below.refl w4.heap.size w4)
          go_loopw [6] (fun v6 wy => ∃ j : Nat, v6 = .int .i64 j ∧ j ≤ x.attrs.length ∧ Aside0 (Below w4.heap.size w4 wy)) (fun v6 _ => x.attrs.length - (intOf v6).toNat)
          case atStart => exact ⟨0, rfl, Nat.zero_le _, HBR2⟩
          case round =>
            clear HBR2
            obtain ⟨j, rfl, hj, HBY⟩ := hrel
            have HBZ := Aside0.mk (below_step HB4.out HBY.out)
            have y3 := pw_cell_below HBZ.out HA3.out
            by_cases hjl : j < x.attrs.length
            · obtain ⟨ae, rfl, e0, e1⟩ := attrs_at (Kd.C_below HCA.out HBZ.out) j hjl
              have g1 : (j : Int) < (x.attrs.length : Int) := by have := HGX.out.wide; omega
              have g0 : (0 : Int) ≤ (j : Int) := by omega
              have HWD := Aside0.mk (show j ≤ 1000 by have := HGX.out.wide; omega)
              have hjw : (j : Int) ≤ 1000 := by have := HWD.out; omega
              have CA := Aside0.mk (fun W => show Calls Tryd.prog 11 #[.string (ofL x.attrs[j].1)] W fun e w' => e = .returned (.bool true) ∧ Below W.heap.size W w' by
                have hn := HGX.out.attrs _ (List.getElem_mem hjl)
                have h := refname_calls W x.attrs[j].1 (by have := nameL_len hn; omega)
                rw [hn] at h; exact h)
              go_wp2_with fail
              (with_reducible refine (CA.out _).mono ?_)
              rintro e w5 ⟨rfl, hb5⟩
              have HB5 := Aside0.mk hb5
              have HBR3 := Aside0.mk (Below.refl w5.heap.size w5)
              clear hb5 y3 e0 e1 CA
              go_wp2_with fail
              go_loopw [7] (fun v7 wz => ∃ q : Nat, v7 = .int .i64 q ∧ q ≤ j ∧ Aside0 (Below w5.heap.size w5 wz)) (fun v7 _ => j - (intOf v7).toNat)
              case atStart => exact ⟨0, rfl, Nat.zero_le _, HBR3⟩
              case round =>
                clear HBR3
                obtain ⟨q, rfl, hq, HBQ⟩ := hrel
                have HBA := Aside0.mk (below_step (below_step HBZ.out HB5.out) HBQ.out)
                by_cases hqj : q < j
                · have z3 := pw_cell_below HBA.out HA3.out
                  obtain ⟨ae', he, e0, e1⟩ := attrs_at (Kd.C_below HCA.out HBA.out) j hjl
                  obtain rfl := Option.some.inj he
                  obtain ⟨ae'', he2, f0, f1⟩ := attrs_at (Kd.C_below HCA.out HBA.out) q (Nat.lt_trans hqj hjl)
                  obtain rfl := Option.some.inj he2
                  have hne := HGX.out.twice q j hjl hqj
                  have hneb : ((ofL x.attrs[q].1).toList == (ofL x.attrs[j].1).toList) = false := by rw [ofL_toList, ofL_toList, beq_eq_false_iff_ne]; exact hne
                  have k1 : (q : Int) < (x.attrs.length : Int) := by omega
                  have k0 : (0 : Int) ≤ (q : Int) := by omega
                  have k2 : (q : Int) < (j : Int) := by omega
                  clear he he2 e1 f1 hne
                  go_upto_region 17 with (fail)
                  go_quiet (fail)
                  go_wp2_with fail
                  exact ⟨⟨q + 1, rfl, by omega, Aside0.mk (pw_below_drewN HBQ.out _)⟩, by simp only [intOf]; omega⟩
                · go_wp2_with fail
                  exact ⟨⟨j + 1, rfl, by omega, Aside0.mk (below_step (below_step HBY.out HB5.out) HBQ.out)⟩, by simp only [intOf]; omega⟩
            · go_wp2_with fail
              exact ⟨⟨i + 1, rfl, by omega, Aside0.mk (below_step (below_step HB.out HB4.out) HBY.out)⟩, by simp only [intOf]; omega⟩
      · have CW := Aside0.mk (works_calls wr (HE2.out.below HB.out))
        go_wp2_with fail
        (with_reducible refine CW.out.mono ?_)
        rintro e w3 ⟨rfl, hb⟩
        have HB3 := Aside0.mk (HB2.out.trans ((below_step HB.out hb).mono HB2.out.size))
        clear hb CW
        go_wp2_with fail
        go_ret
        exact ⟨rfl, HB3.out⟩
end Go.Proofs.YtagihjlklbckmaaDoor.Sc
