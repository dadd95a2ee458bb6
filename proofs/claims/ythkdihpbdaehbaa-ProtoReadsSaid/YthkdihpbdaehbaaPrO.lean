import Derived.Test.YthkdihpbdaehbaaPrN
import Derived.Defers
import Derived.Recover
namespace Go.Proofs.Ythkdihpbdaehbaa.Pr
set_option linter.unusedVariables false
set_option linter.unusedSimpArgs false
open Go.RowKit Go.Proofs.YthkdihpbdaehbaaW.PrintWords Go.Proofs.YthkdihpbdaehbaaW.PrintLast Go.Proofs.YthkdihpbdaehbaaW.PrintMore Go.Proofs.Ythkdihpbdaehbaa.Bs
theorem ta (w : World) : (Instr.typeAssert (.iface 79 (.agg #[])) 20 79 true).run Try.prog w = .ok (.tuple #[.agg #[], .bool true]) w := by
  simp [Instr.typeAssert, run_underlying Try.underlying79]
set_option maxRecDepth 100000 in
set_option maxHeartbeats 400000 in
theorem catch_idle (b : Nat) (w : World) :
    CallsD Try.prog 39 #[.pointer (some ⟨b, 0, none⟩)] .returning w fun e u' w' => e = .returned (.tuple #[]) ∧ u' = .returning ∧ w' = w := by
  have q0 : ∀ (w : World), (binOp .neq 20 .nilIface .nilIface).run Try.prog w = .ok (.bool false) w := fun w => by kernel_rfl
  refine callsD_of_wpS Try.func39 rfl fun c₀ cs hu => ?_
  apply wpS_seq
  apply wpS_region
  simp [wpOpsS, go_sem, recoverD, hu, Try.ntmps39, Exit.thenS]
  refine wpS_of_wp ?_
  go_wp2
  cases c₀
  simp_all [bodyPostS, results, Try.results39]
set_option maxRecDepth 100000 in
set_option maxHeartbeats 400000 in
theorem catch_lost (b : Nat) (x : Bool) (w : World) (older : List PanicEntry) (hc : w.heap[b]? = some (.cells #[.bool x] 4 (0, 0))) :
    CallsD Try.prog 39 #[.pointer (some ⟨b, 0, none⟩)] (.panicking ({ v := .iface 79 (.agg #[]), recovered := false } :: older)) w fun e u' w' =>
      e = .returned (.tuple #[]) ∧ u' = .panicking ({ v := .iface 79 (.agg #[]), recovered := true } :: older) ∧ w'.heap[b]? = some (.cells #[.bool false] 4 (0, 0)) ∧ Ch (fun k => k = b) w w' := by
  have q0 : ∀ (w : World), (binOp .neq 20 (.iface 79 (.agg #[])) .nilIface).run Try.prog w = .ok (.bool true) w := fun w => by kernel_rfl
  have hta := ta
  obtain ⟨k0, k1⟩ := blk1 hc
  have hlt := blk_lt hc
  have HH := Aside0.mk hc
  clear hc
  refine callsD_of_wpS Try.func39 rfl fun c₀ cs hu => ?_
  apply wpS_seq
  apply wpS_region
  simp [wpOpsS, go_sem, recoverD, hu, Try.ntmps39, Exit.thenS]
  refine wpS_of_wp ?_
  change Code.wp _ _ _ { tmps := #[.pointer (some ⟨b, 0, none⟩), .iface 79 (.agg #[]), undef, undef, .iface 79 (.agg #[]), undef, undef, undef, undef, undef, undef, undef, undef, undef, undef], defers := [] } _
  go_wp2
  have h1 : ((w.setCell ⟨b, 0, none⟩ (.bool false)).alloc (.cells #[] 79)).heap[b]? = some (.cells #[.bool false] 4 (0, 0)) :=
    (Below.heap_alloc _ _ b (by simp [World.setCell]; exact hlt)).trans (blk_upd 0 _ HH.out rfl)
  have h2 : Ch (fun k => k = b) w ((w.setCell ⟨b, 0, none⟩ (.bool false)).alloc (.cells #[] 79)) := ((Ch.refl (fun k => k = b) w).setCell (p := ⟨b, 0, none⟩) (.inl rfl) _).alloc _
  generalize (w.setCell ⟨b, 0, none⟩ (.bool false)).alloc (.cells #[] 79) = w2 at *
  simp [bodyPostS, results, Try.results39, h1, h2]
end Go.Proofs.Ythkdihpbdaehbaa.Pr
