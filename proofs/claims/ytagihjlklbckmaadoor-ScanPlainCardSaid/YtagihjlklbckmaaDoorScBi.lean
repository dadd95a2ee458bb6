import Derived.Test.YtagihjlklbckmaaDoorScBh
namespace Go.Proofs.YtagihjlklbckmaaDoor.Sc
set_option linter.unusedVariables false
set_option linter.unusedSimpArgs false
open Go.RowKit Go.Proofs.YtagihjlklbckmaaDoorW.PrintWords Go.Proofs.YtagihjlklbckmaaDoorW.PrintLast Go.Proofs.YtagihjlklbckmaaDoorW.PrintMore Go.Proofs.YtagihjlklbckmaaDoor.Bs
set_option maxRecDepth 100000 in
set_option maxHeartbeats 4000000 in
theorem plain_rest (w : World) (l : LB) (E : Env w) (hmax : l.length ≤ maxLen) (hno : ¬ ((∀ c ∈ l, ¬ c = 60 ∧ ¬ c = 38) ∧ textL l = true ∧ l ≠ [] ∧ l.length ≤ 4000)) :
    Calls Tryd.prog 4 #[.string (ofL l)] w fun e w' => e = .returned (.bool true) ∧ Below w.heap.size w w' := by
  have HMX := Aside0.mk hmax
  have HNO := Aside0.mk hno
  clear hmax hno
  have hsz : ((ofL l).size : Int) = (l.length : Int) := by rw [ofL_size]
  have HE := Aside0.mk E
  have HB0 := Aside0.mk (Below.refl w.heap.size w)
  clear E
  go_enter Tryd.func4, Tryd.ntmps4
  go_wp2_with fail
  go_loopw [3] (fun v3 wr => ∃ i : Nat, v3 = .int .i64 i ∧ i ≤ l.length ∧ Aside0 (∀ c ∈ l.take i, ¬ c = 60 ∧ ¬ c = 38) ∧ Aside0 (Below w.heap.size w wr)) (fun v3 _ => l.length - (intOf v3).toNat)
  case atStart => exact ⟨0, rfl, Nat.zero_le _, Aside0.mk (fun c hc => by cases hc), HB0⟩
  case round =>
    clear HB0
    obtain ⟨i, rfl, hi, HP, HB⟩ := hrel
    have HEr := Aside0.mk (HE.out.below HB.out)
    by_cases hlt : i < l.length
    · obtain ⟨x, hx⟩ : ∃ x, x = l[i] := ⟨_, rfl⟩
      have h1 : (i : Int) < (l.length : Int) := by omega
      have h0 : (0 : Int) ≤ (i : Int) := by omega
      have hin : i < (ofL l).size := by omega
      have hget : (ofL l)[i]'hin = x := ofL_get l i x (by rw [hx]; exact List.getElem?_eq_getElem _) _
      have HTK := Aside0.mk (show l.take (i + 1) = l.take i ++ [x] by rw [hx]; exact List.take_succ_eq_append_getElem hlt)
      clear hx
      by_cases hbad : x = 60 ∨ x = 38
      · have CW := Aside0.mk (works_calls wr HEr.out)
        rcases hbad with rfl | rfl
        all_goals
          go_wp2_with fail
          (with_reducible refine CW.out.mono ?_)
          rintro e w2 ⟨rfl, hb⟩
          have HB2 := Aside0.mk (below_step HB.out hb)
          clear hb CW
          go_wp2_with fail
          go_ret
          exact ⟨rfl, HB2.out⟩
      · have n1 : ¬ (x.toNat : Int) = 60 := by
          intro e; exact hbad (.inl (UInt8.toNat_inj.1 (show x.toNat = (60 : UInt8).toNat by have : (60 : UInt8).toNat = 60 := rfl; omega)))
        have n2 : ¬ (x.toNat : Int) = 38 := by
          intro e; exact hbad (.inr (UInt8.toNat_inj.1 (show x.toNat = (38 : UInt8).toNat by have : (38 : UInt8).toNat = 38 := rfl; omega)))
        have n1b : ((x.toNat : Int) == 60) = false := by simp [n1]
        have n2b : ((x.toNat : Int) == 38) = false := by simp [n2]
        have HP2 := Aside0.mk (show ∀ c ∈ l.take (i + 1), ¬ c = 60 ∧ ¬ c = 38 from fun c hc => by
          rw [HTK.out] at hc
          rcases List.mem_append.1 hc with hc | hc
          · exact HP.out c hc
          · rw [List.mem_singleton.1 hc]; exact ⟨fun e => hbad (.inl e), fun e => hbad (.inr e)⟩)
        have HEM := Aside0.mk (show l.length - ((i : Int) + 1).toNat < l.length - (i : Int).toNat by omega)
        have hw1 : wrap64 ((i : Int) + 1) = (i : Int) + 1 := IntWalk.wrap64_in _ ⟨by omega, by have := HMX.out; unfold maxLen at this; omega⟩
        have hw0 : IntKind.i64.wrap ((i : Int) + 1) = (i : Int) + 1 := (IntWalk.i64_left _).trans hw1
        clear HTK hbad
        go_wp2_with fail
        go_roundw
        case rel => exact ⟨i + 1, by rfl, by omega, HP2, HB⟩
        case measure =>
          simp only [intOf]
          exact HEM.out
    · have HPL := Aside0.mk (show ∀ c ∈ l, ¬ c = 60 ∧ ¬ c = 38 by have := HP.out; rwa [List.take_of_length_le (by omega)] at this)
      have CS := Aside0.mk (scan_calls wr l HEr.out)
      have hil : ¬ (i : Int) < (l.length : Int) := by omega
      clear HP
      by_cases h4 : 4000 < l.length
      · have hM : scanM l = .error 3 := by unfold scanM; rw [if_pos h4]
        rw [hM] at CS
        have h4' : (4000 : Int) < (l.length : Int) := by omega
        clear hM h4
        go_wp2_with fail
        (with_reducible refine CS.out.mono ?_)
        rintro e w2 ⟨rfl, hb⟩
        have HB2 := Aside0.mk (below_step HB.out hb)
        have CW := Aside0.mk (works_calls w2 (HEr.out.below hb))
        clear hb CS
        go_wp2_with fail
        (with_reducible refine CW.out.mono ?_)
        rintro e w3 ⟨rfl, hb⟩
        have HB3 := Aside0.mk (below_step HB2.out hb)
        clear hb CW
        go_wp2_with fail
        go_ret
        exact ⟨rfl, HB3.out⟩
      · have h4' : ¬ (4000 : Int) < (l.length : Int) := by omega
        have CT := Aside0.mk (fun w => reftext_calls w l (by omega))
        cases htx : textL l with
        | false =>
          have hM : scanM l = .error 10 := by unfold scanM; rw [if_neg h4, if_pos htx]
          rw [hM] at CS
          rw [htx] at CT
          clear hM h4 htx
          go_wp2_with fail
          (with_reducible refine CS.out.mono ?_)
          rintro e w2 ⟨rfl, hb⟩
          have HB2 := Aside0.mk (below_step HB.out hb)
          have HE2 := Aside0.mk (HEr.out.below hb)
          clear hb CS
          go_wp2_with fail
          (with_reducible refine (CT.out _).mono ?_)
          rintro e w3 ⟨rfl, hb⟩
          have HB3 := Aside0.mk (below_step HB2.out hb)
          have CW := Aside0.mk (works_calls w3 (HE2.out.below hb))
          clear hb CT
          go_wp2_with fail
          (with_reducible refine CW.out.mono ?_)
          rintro e w4 ⟨rfl, hb⟩
          have HB4 := Aside0.mk (below_step HB3.out hb)
          clear hb CW
          go_wp2_with fail
          go_ret
          exact ⟨rfl, HB4.out⟩
        | true =>
          rw [htx] at CT
          cases l with
          | nil =>
            rw [scanM_nil] at CS
            have hn : (ofL ([] : LB)).toList = [] := ofL_toList []
            clear h4 htx
            go_wp2_with fail
            (with_reducible refine CS.out.mono ?_)
            rintro e w2 ⟨⟨v, rfl, hR⟩, hb⟩
            have HB2 := Aside0.mk (below_step HB.out hb)
            have HE2 := Aside0.mk (HEr.out.below hb)
            obtain ⟨A, c, rfl⟩ := Kd.R_slice hR
            clear hb CS hR
            go_wp2_with fail
            (with_reducible refine (CT.out _).mono ?_)
            rintro e w3 ⟨rfl, hb⟩
            have HB3 := Aside0.mk (below_step HB2.out hb)
            have CW := Aside0.mk (works_calls w3 (HE2.out.below hb))
            clear hb CT
            go_wp2_with fail
            (with_reducible refine CW.out.mono ?_)
            rintro e w4 ⟨rfl, hb⟩
            have HB4 := Aside0.mk (below_step HB3.out hb)
            clear hb CW
            go_wp2_with fail
            go_ret
            exact ⟨rfl, HB4.out⟩
          | cons c r => exact absurd ⟨HPL.out, htx, by simp, by omega⟩ HNO.out
theorem law_plain (w : World) (l : LB) (E : Env w) (hmax : l.length ≤ maxLen) :
    Calls Tryd.prog 4 #[.string (ofL l)] w fun e w' => e = .returned (.bool true) ∧ Below w.heap.size w w' := by
  by_cases h : (∀ c ∈ l, ¬ c = 60 ∧ ¬ c = 38) ∧ textL l = true ∧ l ≠ [] ∧ l.length ≤ 4000
  · exact plain_one w l E h.1 h.2.1 h.2.2.1 h.2.2.2
  · exact plain_rest w l E hmax h
end Go.Proofs.YtagihjlklbckmaaDoor.Sc
