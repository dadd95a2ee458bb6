import Derived.Test.YthkdihpbdaehbaaPrC
import Derived.Test.YthkdihpbdaehbaaWEqStruct
namespace Go.Proofs.Ythkdihpbdaehbaa.Pr
set_option linter.unusedVariables false
set_option linter.unusedSimpArgs false
open Go.RowKit Go.Proofs.YthkdihpbdaehbaaW.PrintWords Go.Proofs.Ythkdihpbdaehbaa.Bs

def fitsB (n : Int) : Bool := decide (0 ≤ n) && decide (n ≤ 2147483647)
theorem fits_calls (w : World) (n : Int) : Calls Try.prog 25 #[.int .i64 n] w fun e w' => e = .returned (.bool (fitsB n)) ∧ Drawn0 w w' := by
  by_cases h1 : 0 ≤ n
  · go_enter Try.func25, Try.ntmps25
    go_wp2
    go_ret
    exact ⟨by simp [fitsB, h1]; try omega, by repeat (first | exact Drawn0.refl _ | apply Drawn0.step)⟩
  · go_enter Try.func25, Try.ntmps25
    go_wp2
    go_ret
    exact ⟨by simp [fitsB, h1]; try omega, by repeat (first | exact Drawn0.refl _ | apply Drawn0.step)⟩
theorem fits2_calls (w : World) (n : Int) : Calls Try.prog 23 #[.int .i64 n] w fun e w' => e = .returned (.bool (fitsB n)) ∧ Drawn0 w w' := by
  by_cases h1 : 0 ≤ n
  · go_enter Try.func23, Try.ntmps23
    go_wp2
    go_ret
    exact ⟨by simp [fitsB, h1]; try omega, by repeat (first | exact Drawn0.refl _ | apply Drawn0.step)⟩
  · go_enter Try.func23, Try.ntmps23
    go_wp2
    go_ret
    exact ⟨by simp [fitsB, h1]; try omega, by repeat (first | exact Drawn0.refl _ | apply Drawn0.step)⟩
structure Op5 where
  kind : Int
  id : Int
  pos : Int
  name : ByteArray
  s : ByteArray
def Op5.cells (o : Op5) : Array Value := #[.int .i64 o.kind, .int .i64 o.id, .int .i64 o.pos, .string o.name, .string o.s]
def opB (o : Op5) : Bool := (decide (0 ≤ o.kind) && decide (o.kind ≤ 255)) && fitsB o.id && fitsB o.pos && decide (o.name.size ≤ 200) && decide (o.s.size ≤ 4000)
set_option maxRecDepth 100000 in
set_option maxHeartbeats 1000000 in
theorem op_calls (w : World) (o : Op5) : Calls Try.prog 24 #[.agg o.cells] w fun e w' => e = .returned (.bool (opB o)) ∧ Below w.heap.size w w' := by
  obtain ⟨k, i, p, nm, s⟩ := o
  have C1 := Aside0.mk (fun w => fits_calls w i)
  have C2 := Aside0.mk (fun w => fits_calls w p)
  simp only [Op5.cells]
  by_cases h1 : 0 ≤ k
  · by_cases h2 : k ≤ 255
    · cases e3 : fitsB i with
      | false =>
        rw [e3] at C1
        go_enter Try.func24, Try.ntmps24
        go_wp2_with (first | (go_at_call 25; (with_reducible refine (C1.out _).mono ?_); rintro e w' ⟨rfl, ⟨nd, rfl⟩⟩))
        all_goals (go_ret; exact ⟨by simp [opB, *]; try omega, by repeat (first | exact Below.refl _ _ | apply below_alloc | apply pw_below_drewN | apply below_drew1)⟩)
      | true =>
        rw [e3] at C1
        cases e4 : fitsB p with
        | false =>
          rw [e4] at C2
          go_enter Try.func24, Try.ntmps24
          go_wp2_with (first | (go_at_call 25; (with_reducible refine (C1.out _).mono ?_); rintro e w' ⟨rfl, ⟨nd, rfl⟩⟩) | (go_at_call 25; (with_reducible refine (C2.out _).mono ?_); rintro e w' ⟨rfl, ⟨nd, rfl⟩⟩))
          all_goals (go_ret; exact ⟨by simp [opB, *]; try omega, by repeat (first | exact Below.refl _ _ | apply below_alloc | apply pw_below_drewN | apply below_drew1)⟩)
        | true =>
          rw [e4] at C2
          by_cases h5 : nm.size ≤ 200
          · have h5' : (nm.size : Int) ≤ 200 := by omega
            go_enter Try.func24, Try.ntmps24
            go_wp2_with (first | (go_at_call 25; (with_reducible refine (C1.out _).mono ?_); rintro e w' ⟨rfl, ⟨nd, rfl⟩⟩) | (go_at_call 25; (with_reducible refine (C2.out _).mono ?_); rintro e w' ⟨rfl, ⟨nd, rfl⟩⟩))
            all_goals (go_ret; exact ⟨by simp [opB, *]; try omega, by repeat (first | exact Below.refl _ _ | apply below_alloc | apply pw_below_drewN | apply below_drew1)⟩)
          · have h5' : ¬ (nm.size : Int) ≤ 200 := by omega
            go_enter Try.func24, Try.ntmps24
            go_wp2_with (first | (go_at_call 25; (with_reducible refine (C1.out _).mono ?_); rintro e w' ⟨rfl, ⟨nd, rfl⟩⟩) | (go_at_call 25; (with_reducible refine (C2.out _).mono ?_); rintro e w' ⟨rfl, ⟨nd, rfl⟩⟩))
            all_goals (go_ret; exact ⟨by simp [opB, *]; try omega, by repeat (first | exact Below.refl _ _ | apply below_alloc | apply pw_below_drewN | apply below_drew1)⟩)
    · go_enter Try.func24, Try.ntmps24
      go_wp2
      all_goals (go_ret; exact ⟨by simp [opB, *]; try omega, by repeat (first | exact Below.refl _ _ | apply below_alloc | apply pw_below_drewN | apply below_drew1)⟩)
  · go_enter Try.func24, Try.ntmps24
    go_wp2
    all_goals (go_ret; exact ⟨by simp [opB, *]; try omega, by repeat (first | exact Below.refl _ _ | apply below_alloc | apply pw_below_drewN | apply below_drew1)⟩)
end Go.Proofs.Ythkdihpbdaehbaa.Pr
