import Derived.Test.YtpmnjeiemocbbaaFrJ
import Derived.Test.YtpmnjeiemocbbaaBt
namespace Go.Proofs.Ytpmnjeiemocbbaa.Fr
set_option linter.unusedVariables false
set_option linter.unusedSimpArgs false
open Go.RowKit Go.Proofs.YtpmnjeiemocbbaaW.PrintWords Go.Proofs.Ytpmnjeiemocbbaa.FrK Go.Proofs.Ytpmnjeiemocbbaa.Bs Go.Proofs.YtpmnjeiemocbbaaW.PrintMore Go.Proofs.YtpmnjeiemocbbaaW.PrintLast

set_option maxHeartbeats 1000000 in
theorem same_any (w : World) (okx oky : Nat → Prop) (A A' : Option Addr) (n c c' : Nat) (xs : List S35) (hx : Kd.F k35 w okx A n xs) (hy : Kd.F k35 w oky A' n xs) (hl : xs.length ≤ 1000000) :
    Calls Try.prog 12 #[.slice A n c, .slice A' n c'] w fun e w' => e = .returned (.bool true) ∧ Below w.heap.size w w' := by
  obtain rfl := Kd.F_len hx
  have HX := Aside0.mk (Kd.F_now hx)
  have HY := Aside0.mk (Kd.F_now hy)
  clear hx hy
  go_enter Try.func12, Try.ntmps12
  go_wp2
  go_loopw [5] (fun i wr => ∃ k : Nat, i = .int .i64 k ∧ k ≤ xs.length ∧ Drawn0 w wr) (fun i _ => xs.length - (intOf i).toNat)
  case atStart => exact ⟨0, rfl, Nat.zero_le _, Drawn0.refl _⟩
  case round =>
    obtain ⟨k, rfl, hk, hd⟩ := hrel
    by_cases hlt : k < xs.length
    · have hX := Kd.C_below HX.out hd.below
      have hY := Kd.C_below HY.out hd.below
      obtain ⟨ad, A0, c0, rfl, x0, x1, _, xg⟩ := at_T35 hX k (by omega) (by omega)
      obtain ⟨ad', A0', c0', rfl, y0, y1, _, yg⟩ := at_T35 hY k (by omega) (by omega)
      have xs0 : ∀ n, (convert 23 9 (.slice A0 (rd_T35 xs k).f0.length c0)).run Try.prog (wr.drewN n) = .ok (.string (strOfNums (rd_T35 xs k).f0)) (wr.drewN n) := fun n => Kd.C_string Try.underlying23 Try.underlying5 Try.underlying9 (Kd.C_drewN xg n)
      have ys0 : ∀ n, (convert 23 9 (.slice A0' (rd_T35 xs k).f0.length c0')).run Try.prog (wr.drewN n) = .ok (.string (strOfNums (rd_T35 xs k).f0)) (wr.drewN n) := fun n => Kd.C_string Try.underlying23 Try.underlying5 Try.underlying9 (Kd.C_drewN yg n)
      rw [show ((k : Int)).toNat = k by omega] at x0 x1 y0 y1
      generalize strOfNums (rd_T35 xs k).f0 = str at *
      generalize (rd_T35 xs k).f1 = er at *
      generalize (rd_T35 xs k).f0.length = ln at *
      have hb2 : (er != er) = false := bne_eq_false_iff_eq.mpr rfl
      have HD := Aside0.mk hd
      clear hd hX hY xg yg
      go_wp2
      go_quiet (fail)
      go_wp2
      go_roundw
      case rel => exact ⟨k + 1, by go_num, by omega, HD.out.step _⟩
      case measure => simp [intOf]; omega
    · go_wp2
      refine bodyPost_ret (results_tmp rfl _ _ _) rfl ?_
      exact ⟨rfl, hd.below⟩
end Go.Proofs.Ytpmnjeiemocbbaa.Fr
