import Derived.Test.YthkdihpbdaehbaaPrT
import Derived.Test.YthkdihpbdaehbaaBo
import Derived.WideShapes
namespace Go.Proofs.Ythkdihpbdaehbaa.Pr
set_option linter.unusedVariables false
set_option linter.unusedSimpArgs false
open Go.RowKit Go.Proofs.YthkdihpbdaehbaaW.PrintWords Go.Proofs.Ythkdihpbdaehbaa.Bs Go.WideShapes
def k23 := Kd.pair (Kd.int .i64) (Kd.pair (Kd.int .i64) (Kd.pair (Kd.int .i64) (Kd.pair Kd.string Kd.string)))
def k25 := Kd.pair (Kd.int .i64) (Kd.pair Kd.string k23)
theorem opens23 : ∃ g, Opens Try.prog 23 k23 g :=
  ⟨_, Opens.struct Try.underlying23 (by kernel_rfl) (OpensF.cons (Opens.int Try.underlying3) (by kernel_rfl) rfl (OpensF.cons (Opens.int Try.underlying3) (by kernel_rfl) rfl (OpensF.cons (Opens.int Try.underlying3) (by kernel_rfl) rfl (OpensF.cons (Opens.string Try.underlying9) (by kernel_rfl) rfl (OpensF.one (Opens.string Try.underlying9) (by kernel_rfl) rfl)))))⟩
theorem opens25 : Opens Try.prog 25 k25 (fun _ => True) := by
  obtain ⟨g, h⟩ := opens23
  exact (Opens.struct Try.underlying25 (by kernel_rfl) (OpensF.cons (Opens.int Try.underlying3) (by kernel_rfl) rfl (OpensF.cons (Opens.string Try.underlying9) (by kernel_rfl) rfl (OpensF.one h (by kernel_rfl) rfl)))).imp (fun _ _ => trivial)
theorem agg25 {W : World} {r : Reach} {base : Nat} {v : Value} (h : Value.okWide Try.prog W r base 25 v) : ∃ cs, v = .agg cs := by
  obtain ⟨cs, e, _⟩ := okWide_struct Try.underlying25 h
  exact ⟨cs, e⟩
theorem req_of (W : World) (x) (cs : Array Value) (h : k25.K W x (Value.agg cs).cells.toList) : ∃ q : Rq, cs = q.cells := by
  obtain ⟨a, s, o, i, p, nm, os⟩ := x
  obtain ⟨c1, c2, e, h1, c3, c4, rfl, h3, c5, c6, rfl, h5, c7, c8, rfl, h7, c9, c10, rfl, h9, c11, c12, rfl, h11, h12⟩ := h
  have e1 : c1 = [.int .i64 a] := h1
  have e3 : c3 = [.string s] := h3
  have e5 : c5 = [.int .i64 o] := h5
  have e7 : c7 = [.int .i64 i] := h7
  have e9 : c9 = [.int .i64 p] := h9
  have e11 : c11 = [.string nm] := h11
  have e12 : c12 = [.string os] := h12
  subst e1 e3 e5 e7 e9 e11 e12
  exact ⟨⟨a, s, o, i, p, nm, os⟩, Array.toList_inj.mp e⟩
theorem reqs_row (W : World) (x) (cs : Array Value) (f : k25.K W x (Value.agg cs).cells.toList) (g : True) : Calls Try.prog 3 #[.agg cs] W fun e w' => e = .returned (.bool true) ∧ Below W.heap.size W w' := by
  obtain ⟨q, rfl⟩ := req_of W x cs f
  exact reqs_calls W q
end Go.Proofs.Ythkdihpbdaehbaa.Pr
