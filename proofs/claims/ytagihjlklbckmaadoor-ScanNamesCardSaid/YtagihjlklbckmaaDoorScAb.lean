import Derived.Test.YtagihjlklbckmaaDoorScAa
namespace Go.Proofs.YtagihjlklbckmaaDoor.Sc
set_option linter.unusedVariables false
set_option linter.unusedSimpArgs false
open Go.RowKit Go.Proofs.YtagihjlklbckmaaDoorW.PrintWords Go.Proofs.YtagihjlklbckmaaDoorW.PrintLast Go.Proofs.YtagihjlklbckmaaDoorW.PrintMore Go.Proofs.YtagihjlklbckmaaDoor.Bs
set_option maxRecDepth 100000 in
set_option maxHeartbeats 1000000 in
theorem law_lines (w : World) (l : LB) (E : Env w) (hmax : l.length ≤ maxLen) :
    Calls Tryd.prog 3 #[.string (ofL l)] w fun e w' => e = .returned (.bool true) ∧ Below w.heap.size w w' := by
  clear hmax
  have hsz : ((ofL l).size : Int) = (l.length : Int) := by rw [ofL_size]
  have HE := Aside0.mk E
  by_cases h4 : 4100 < l.length
  · have h4' : (4100 : Int) < (l.length : Int) := by omega
    have CW := Aside0.mk (works_calls w E)
    clear E h4
    go_enter Tryd.func3, Tryd.ntmps3
    go_wp2_with fail
    (with_reducible refine CW.out.mono ?_)
    rintro e w2 ⟨rfl, hb⟩
    have HB := Aside0.mk hb
    clear hb
    go_wp2_with fail
    go_ret
    exact ⟨rfl, HB.out⟩
  · have h4' : ¬ (4100 : Int) < (l.length : Int) := by omega
    have CL := Aside0.mk (lines_calls w l E (by omega))
    have CR := Aside0.mk (fun w => reflines_calls w l (by omega))
    have HLL := Aside0.mk (show (linesL l).length ≤ 1000000 by have := lines_len l; omega)
    have HLA := Aside0.mk (lines_again l)
    generalize linesL l = t at CL CR HLL HLA
    clear E h4
    go_enter Tryd.func3, Tryd.ntmps3
    go_wp2_with fail
    (with_reducible refine CL.out.mono ?_)
    rintro e w2 ⟨rfl, hb⟩
    have HB2 := Aside0.mk hb
    have HE2 := Aside0.mk (HE.out.below hb)
    clear hb CL
    go_wp2_with fail
    (with_reducible refine (CR.out _).mono ?_)
    rintro e w3 ⟨rfl, hb⟩
    have HB3 := Aside0.mk (below_step HB2.out hb)
    have HE3 := Aside0.mk (HE2.out.below hb)
    clear hb CR
    have CL := Aside0.mk (lines_calls w3 t HE3.out HLL.out)
    rw [HLA.out] at CL
    go_wp2_with fail
    (with_reducible refine CL.out.mono ?_)
    rintro e w4 ⟨rfl, hb⟩
    have HB4 := Aside0.mk (below_step HB3.out hb)
    have HE4 := Aside0.mk (HE3.out.below hb)
    clear hb CL
    have CW := Aside0.mk (works_calls w4 HE4.out)
    go_wp2_with fail
    (with_reducible refine CW.out.mono ?_)
    rintro e w5 ⟨rfl, hb⟩
    have HB5 := Aside0.mk (below_step HB4.out hb)
    clear hb CW
    go_wp2_with fail
    go_ret
    exact ⟨rfl, HB5.out⟩
end Go.Proofs.YtagihjlklbckmaaDoor.Sc
