import Derived.Test.YtpmnjeiemocbbaaFrM
namespace Go.Proofs.Ytpmnjeiemocbbaa.Fr
set_option linter.unusedVariables false
set_option linter.unusedSimpArgs false
open Go.RowKit Go.Proofs.YtpmnjeiemocbbaaW.PrintWords Go.Proofs.Ytpmnjeiemocbbaa.FrK Go.Proofs.Ytpmnjeiemocbbaa.Bs Go.Proofs.YtpmnjeiemocbbaaW.PrintMore Go.Proofs.YtpmnjeiemocbbaaW.PrintLast
theorem splits_long (w : World) (A : Option Addr) (n cp : Nat) (x : Int) (h : 9000 < n) (hn : n ≤ 9223372036854775807) : Calls Try.prog 4 #[.slice A n cp, .int .u16 x] w fun e w' => e = .returned (.bool true) ∧ Below w.heap.size w w' := by
  have hg : decide (9000 < n) = true := by simpa using h
  go_enter Try.func4, Try.ntmps4
  go_wp2_with (go_at_call 11; refine (works_any _).mono ?_; rintro e w' ⟨rfl, hb⟩)
  refine bodyPost_ret (results_tmp rfl _ _ _) rfl ?_
  exact ⟨rfl, hb⟩
theorem splits_row (a : Option Addr) (len cap : Nat) (zs : List Int) (x : Int) (w : World)
    (h : (a = none ∧ len = 0 ∧ cap = 0 ∧ zs = []) ∨ ∃ x, a = some x ∧ len ≤ cap ∧ cap ≤ maxLen ∧ zs.length = cap ∧ (∀ i, i < zs.length → w.cell? (x.add i) = some (.int .u8 (zs.getD i 0))) ∧ ∀ n ∈ zs, (Lit.int .u8 n).wf = true) (hx : (Lit.int .u16 x).wf = true) :
    Calls Try.prog 4 #[.slice a len cap, .int .u16 x] w fun e w' => e = .returned (.bool true) ∧ Below w.heap.size w w' := by
  obtain ⟨l, rfl, h1, h2, h3, h4⟩ := ReadsInt.ofRowC h
  have hC : Kd.C (Kd.int .u8) w a l.length l := Kd.C_of_reads (d := (0 : Int)) h1
  have hb : ∀ c ∈ l, 0 ≤ c ∧ c ≤ 255 := fun c hc => by
    have := h3 c hc
    simp [Lit.wf, IntKind.min, IntKind.max, IntKind.signed, IntKind.bits] at this
    omega
  have hx2 : 0 ≤ x ∧ x ≤ 65535 := by
    simp [Lit.wf, IntKind.min, IntKind.max, IntKind.signed, IntKind.bits] at hx
    omega
  unfold maxLen at h2
  by_cases hl : l.length ≤ 9000
  · exact splits_any w a cap l x (F_came (Kd.heap_int _) hC) h4 hl hb hx2.1 hx2.2
  · exact splits_long w a l.length cap x (by omega) (by omega)
end Go.Proofs.Ytpmnjeiemocbbaa.Fr
