import Derived.Test.YtpmnjeiemocbbaaFrO
import Derived.Test.YtpmnjeiemocbbaaBo
namespace Go.Proofs.Ytpmnjeiemocbbaa.Fr
set_option linter.unusedVariables false
set_option linter.unusedSimpArgs false
open Go.RowKit Go.Proofs.YtpmnjeiemocbbaaW.PrintWords Go.Proofs.Ytpmnjeiemocbbaa.FrK Go.Proofs.Ytpmnjeiemocbbaa.Bs
theorem op23 : Opens Try.prog 23 (Kd.slice 5 (Kd.int .u8)) (fun xs => (∀ x ∈ xs, (Lit.int .u8 x).wf = true) ∧ xs.length ≤ maxLen) := Opens.slice Try.underlying23 (by kernel_rfl) (Opens.int Try.underlying5)
theorem op22 : Opens Try.prog 22 (Kd.slice 23 (Kd.slice 5 (Kd.int .u8))) (fun xs => (∀ x ∈ xs, (∀ y ∈ x, (Lit.int .u8 y).wf = true) ∧ x.length ≤ maxLen) ∧ xs.length ≤ maxLen) := Opens.slice Try.underlying22 (by kernel_rfl) op23
theorem wf_u8 {x : Int} (h : (Lit.int .u8 x).wf = true) : 0 ≤ x ∧ x ≤ 255 := by
  simp [Lit.wf, IntKind.min, IntKind.max, IntKind.signed, IntKind.bits] at h
  omega
theorem pieces_row (W : World) (A : Option Addr) (cp : Nat) (l : List (List Int)) (f : Kd.C (Kd.slice 5 (Kd.int .u8)) W A l.length l) (e : l.length ≤ cp) (g : (∀ x ∈ l, (∀ y ∈ x, (Lit.int .u8 y).wf = true) ∧ x.length ≤ maxLen) ∧ l.length ≤ maxLen) :
    Calls Try.prog 5 #[.slice A l.length cp] W fun e w' => e = .returned (.bool true) ∧ Below W.heap.size W w' :=
  pieces_any W A cp l f (fun x hx c hc => wf_u8 ((g.1 x hx).1 c hc)) (by have := g.2; simp only [maxLen] at this; omega)
end Go.Proofs.Ytpmnjeiemocbbaa.Fr
