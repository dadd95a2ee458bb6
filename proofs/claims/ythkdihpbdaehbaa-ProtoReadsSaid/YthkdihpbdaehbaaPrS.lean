import Derived.Test.YthkdihpbdaehbaaPrR
namespace Go.Proofs.Ythkdihpbdaehbaa.Pr
set_option linter.unusedVariables false
set_option linter.unusedSimpArgs false
open Go.RowKit Go.Proofs.YthkdihpbdaehbaaW.PrintWords Go.Proofs.YthkdihpbdaehbaaW.PrintLast Go.Proofs.YthkdihpbdaehbaaW.PrintMore Go.Proofs.Ythkdihpbdaehbaa.Bs
theorem strOf_data (l : List Int) : strOfNums l = ⟨(l.map fun n => UInt8.ofNat n.toNat).toArray⟩ := rfl
set_option maxRecDepth 100000 in
set_option maxHeartbeats 400000 in
theorem works_calls (w : World) : Calls Try.prog 7 #[] w fun e w' => e = .returned (.bool true) ∧ Below w.heap.size w w' := by
  have C1 := putReq_calls w wq
  rw [wq_put] at C1
  have E : ∀ w, (binOp .eql 25 (.agg wq.cells) (.agg wq.cells)).run Try.prog w = .ok (.bool true) w := fun w => by
    rw [eqReq]; simp
  simp only [Rq.cells, wq, nil8] at C1 E
  go_enter Try.func7, Try.ntmps7
  go_wp2_with fail
  refine C1.mono ?_
  rintro e w1 ⟨⟨A, c, rfl, hR⟩, hB⟩
  have hRd := Kd.R_reads' hR
  have C2 := getReq_calls w1 A c [2, 0, 1, 97] hRd.2.2 hRd.2.1 (wq_bytes ▸ bys_bytes wq)
  rw [wq_get] at C2
  unfold GetPost at C2
  simp only [Rq.cells, wq, nil8] at C2
  have HR := Aside0.mk hR
  have HB := Aside0.mk hB
  clear hR hB hRd C1
  go_wp2_with fail
  refine C2.mono ?_
  rintro e w2 ⟨rfl, hB2⟩
  have HB2 := Aside0.mk (below_step HB.out hB2)
  have hR2 := Kd.R_below HR.out hB2
  have hst : ∀ o, (convert 27 9 (.slice A 4 c)).run Try.prog (w2.alloc o) = .ok (.string ⟨#[2, 0, 1, 97]⟩) (w2.alloc o) := fun o => Kd.C_string Try.underlying27 Try.underlying5 Try.underlying9 (Kd.C_alloc (Kd.R_reads' hR2).2.2 o)
  clear hR2 hB2 C2
  go_wp2_with fail
  go_ret
  exact ⟨rfl, by repeat (first | exact HB2.out | apply below_alloc | apply pw_below_drewN | apply below_drew1)⟩
end Go.Proofs.Ythkdihpbdaehbaa.Pr
