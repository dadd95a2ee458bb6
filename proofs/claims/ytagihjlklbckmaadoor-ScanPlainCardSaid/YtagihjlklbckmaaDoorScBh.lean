import Derived.Test.YtagihjlklbckmaaDoorScBg
import Derived.Deep.RegionHeld3
namespace Go.Proofs.YtagihjlklbckmaaDoor.Sc
set_option linter.unusedVariables false
set_option linter.unusedSimpArgs false
open Go.RowKit Go.Proofs.YtagihjlklbckmaaDoorW.PrintWords Go.Proofs.YtagihjlklbckmaaDoorW.PrintLast Go.Proofs.YtagihjlklbckmaaDoorW.PrintMore Go.Proofs.YtagihjlklbckmaaDoor.Bs
theorem scanM_nil : scanM [] = .ok [] := by
  unfold scanM
  rw [if_neg (by decide), if_neg (by decide)]; rfl
set_option maxRecDepth 100000 in
set_option maxHeartbeats 4000000 in
theorem plain_one (w : World) (l : LB) (E : Env w) (hp : ∀ c ∈ l, ¬ c = 60 ∧ ¬ c = 38) (htx : textL l = true) (hne : l ≠ []) (h4 : l.length ≤ 4000) :
    Calls Tryd.prog 4 #[.string (ofL l)] w fun e w' => e = .returned (.bool true) ∧ Below w.heap.size w w' := by
  have HPL := Aside0.mk hp
  have HSP := Aside0.mk (scan_plain l hp htx hne h4)
  have CT := Aside0.mk (fun w => reftext_calls w l (by omega))
  have CR := Aside0.mk (fun w => reflines_calls w l (by omega))
  have hn2 : ¬ (ofL l).toList = [] := by rw [ofL_toList]; exact hne
  have hn3 : (ofL l).toList.isEmpty = false := by rw [ofL_toList]; cases l with | nil => exact absurd rfl hne | cons => rfl
  rw [htx] at CT
  have h4' : ¬ (4000 : Int) < (l.length : Int) := by omega
  clear hp htx hne
  have hsz : ((ofL l).size : Int) = (l.length : Int) := by rw [ofL_size]
  have HE := Aside0.mk E
  have HB0 := Aside0.mk (Below.refl w.heap.size w)
  clear E
  go_enter Tryd.func4, Tryd.ntmps4
  go_wp2_with fail
  go_loopw [3] (fun v3 wr => ∃ i : Nat, v3 = .int .i64 i ∧ i ≤ l.length ∧ Aside0 (Below w.heap.size w wr)) (fun v3 _ => l.length - (intOf v3).toNat)
  case atStart => exact ⟨0, rfl, Nat.zero_le _, HB0⟩
  case round =>
    clear HB0
    obtain ⟨i, rfl, hi, HB⟩ := hrel
    have HEr := Aside0.mk (HE.out.below HB.out)
    by_cases hlt : i < l.length
    · obtain ⟨x, hx⟩ : ∃ x, x = l[i] := ⟨_, rfl⟩
      have h1 : (i : Int) < (l.length : Int) := by omega
      have h0 : (0 : Int) ≤ (i : Int) := by omega
      have hin : i < (ofL l).size := by omega
      have hget : (ofL l)[i]'hin = x := ofL_get l i x (by rw [hx]; exact List.getElem?_eq_getElem _) _
      have hxx := HPL.out x (by rw [hx]; exact List.getElem_mem _)
      have n1 : ¬ (x.toNat : Int) = 60 := by
        intro e; exact hxx.1 (UInt8.toNat_inj.1 (show x.toNat = (60 : UInt8).toNat by have : (60 : UInt8).toNat = 60 := rfl; omega))
      have n2 : ¬ (x.toNat : Int) = 38 := by
        intro e; exact hxx.2 (UInt8.toNat_inj.1 (show x.toNat = (38 : UInt8).toNat by have : (38 : UInt8).toNat = 38 := rfl; omega))
      have n1b : ((x.toNat : Int) == 60) = false := by simp [n1]
      have n2b : ((x.toNat : Int) == 38) = false := by simp [n2]
      have hw1 : wrap64 ((i : Int) + 1) = (i : Int) + 1 := w64 _ (by omega)
      clear hx hxx
      go_wp2_with fail
      go_roundw
      case rel => exact ⟨i + 1, by first | rfl | (rw [hw1]; rfl) | simp, by omega, HB⟩
      case measure => simp [intOf]; omega
    · have CS := Aside0.mk (scan_calls wr l HEr.out)
      rw [HSP.out] at CS
      have hil : ¬ (i : Int) < (l.length : Int) := by omega
      generalize linesL l = ls at CS CR
      clear HPL HSP hlt hi h4
      go_wp2_with fail
      (with_reducible refine CS.out.mono ?_)
      rintro e w2 ⟨⟨v, rfl, hR⟩, hb⟩
      have HB2 := Aside0.mk (below_step HB.out hb)
      have HE2 := Aside0.mk (HEr.out.below hb)
      obtain ⟨A, cc, rfl⟩ := Kd.R_slice hR
      have HR := Aside0.mk hR
      clear hb CS hR
      go_wp2_with fail
      (with_reducible refine (CT.out _).mono ?_)
      rintro e w3 ⟨rfl, hb⟩
      have HB3 := Aside0.mk (below_step HB2.out hb)
      have HE3 := Aside0.mk (HE2.out.below hb)
      have HR3 := Aside0.mk (Kd.R_below HR.out hb)
      clear hb CT
      obtain ⟨g, rfl⟩ : ∃ g, A = some ⟨g, 0, none⟩ := by
        obtain ⟨g, cap, e, _⟩ := Kd.R_form HR3.out (by simp)
        injection e with e1
        exact ⟨g, e1⟩
      obtain ⟨ad, A0, c0, he, a0, a1, a2, a3, a4, _, _⟩ := toks_at (Kd.R_reads' HR3.out).2.2 0 (by simp)
      obtain rfl := Option.some.inj he
      simp [Addr.add] at a0 a2
      clear a1 a3 a4 he HR HR3
      have K := fun W' (hb : Below w3.heap.size w3 W') => show W'.cell? ⟨g, 0, none⟩ = some (.int .i64 3) ∧ W'.cell? ⟨g, 2, none⟩ = some (.string (ofL ls)) ∧ Below w3.heap.size w3 W' from ⟨pw_cell_below hb a0, pw_cell_below hb a2, hb⟩
      have K0 := K w3.drew (below_drew (Below.refl _ _))
      have CR2 := Aside0.mk (fun W' (h : W'.cell? ⟨g, 0, none⟩ = some (.int .i64 3) ∧ W'.cell? ⟨g, 2, none⟩ = some (.string (ofL ls)) ∧ Below w3.heap.size w3 W') => (CR.out W').mono (fun e w'' ⟨he, hb⟩ => And.intro he (K w'' (below_step h.2.2 hb))))
      have CW2 := Aside0.mk (fun W' (h : W'.cell? ⟨g, 0, none⟩ = some (.int .i64 3) ∧ W'.cell? ⟨g, 2, none⟩ = some (.string (ofL ls)) ∧ Below w3.heap.size w3 W') => (works_calls W' (HE3.out.below h.2.2)).mono (fun e w'' ⟨he, hb⟩ => And.intro he (K w'' (below_step h.2.2 hb))))
      clear CR K HE3 HE2 HB2
      go_upto_region 11 with (fail)
      go_region_held3 (fun w' => w'.cell? ⟨g, 0, none⟩ = some (.int .i64 3) ∧ w'.cell? ⟨g, 2, none⟩ = some (.string (ofL ls)) ∧ Below w3.heap.size w3 w') (first | exact K0 | assumption) (first | (go_at_call 8; (with_reducible refine (CR2.out _ ?_).mono ?_); assumption; rintro e w' ⟨rfl, hS⟩) | (go_at_call 6; (with_reducible refine (CW2.out _ ?_).mono ?_); assumption; rintro e w' ⟨rfl, hS⟩))
      all_goals
        have HBF := Aside0.mk (below_step HB3.out (‹_ ∧ _ ∧ Below w3.heap.size w3 _›).2.2)
        go_wp2_with fail
        go_ret
        exact ⟨rfl, HBF.out⟩
end Go.Proofs.YtagihjlklbckmaaDoor.Sc
