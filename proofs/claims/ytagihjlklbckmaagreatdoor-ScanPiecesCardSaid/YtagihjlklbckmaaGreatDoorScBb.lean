import Derived.Test.YtagihjlklbckmaaGreatDoorScBa
namespace Go.Proofs.YtagihjlklbckmaaGreatDoor.Sc
set_option linter.unusedVariables false
set_option linter.unusedSimpArgs false
open Go.ChangeShapes Go.WideShapes Go.ChangeAt Go.RowKit Go.Lib Go.Shelf Go.Proofs.YtagihjlklbckmaaGreatDoor.Bs
open Go.ChangeMaps (open_string shut_string)
theorem own : ownKnob Tryz.prog.godebug = none := by kernel_rfl
def pairCells : DataW Unit → List Value
  | .agg [.lit (.int k a), .lit (.int k' b)] => [.int k a, .int k' b]
  | _ => []
def orbitCells : List Value := match (Rows.laid_unicode_caseOrbit : DataW Unit) with
  | .slice l _ => l.flatMap pairCells
  | _ => []
def orbitLen : Nat := match (Rows.laid_unicode_caseOrbit : DataW Unit) with
  | .slice l _ => l.length
  | _ => 0
/-- THE WITNESS: the settled world with two blocks more, the five variables holding what their initialisers lay. -/
noncomputable def laidWorld (os : Os) : World :=
  let N := (World.settled Tryz.prog os).heap.size
  let w0 := World.holding Tryz.prog os ⟨#[.cells orbitCells.toArray 127, .cells caseCells5 141], #[], []⟩
  let put (h : Array Obj) (g : Nat) (cs : Array Value) : Array Obj := h.modify g fun
    | .cells _ t frozen => .cells cs t frozen
    | o => o
  let h1 := put w0.heap 0 (firstTab.map fun z => Value.int .u8 z).toArray
  let h2 := put h1 1 ((List.range 16).flatMap fun i => [Value.int .u8 (accLo i), Value.int .u8 (accHi i)]).toArray
  let h3 := put h2 2 (foldT.map fun z => Value.int .u16 z).toArray
  let h4 := put h3 3 #[.slice (some ⟨N, 0, none⟩) orbitLen orbitLen]
  let h5 := put h4 4 #[.slice (some ⟨N + 1, 0, none⟩) 336 336]
  { w0 with heap := h5 }
noncomputable def NB : Nat := (World.settled Tryz.prog default).heap.size
def caseRen : Ren := { Tryz.lays274_ren with g := fun | 13 => 4 | n => n }
theorem caseLay : Lays.n274 Tryz.prog caseRen := { Tryz.lays274 with }
theorem caseX : CaseExtra Tryz.prog caseRen := ⟨by kernel_rfl, by kernel_rfl, by kernel_rfl, by kernel_rfl, by kernel_rfl, by kernel_rfl⟩
set_option maxRecDepth 100000 in
/-- The one great table, by proof. -/
theorem laid_case {w : World} (R : Nat) (t : TypeId) (hgR : 4 ≠ R) (hvar : w.heap[4]? = some (.cells #[.slice (some ⟨R, 0, none⟩) caseA.size caseA.size] 130 (0, 0))) (hblk : w.heap[R]? = some (.cells caseCells5 t (0, 0))) :
    LaidIn Tryz.prog w [("unicode.CaseRanges", caseData)] [4, R] := by
  have hT := caseTab_of_block hblk
  have hread := case_slice_reads (ρ := caseRen) caseLay Tryz.underlying139 caseX hT caseA_wf (by rw [caseA_size]; unfold maxLen; omega) 0
  rw [case_rows_data] at hread
  have hn : Tryz.prog.globalNamed "unicode.CaseRanges" = some 4 := by kernel_rfl
  have hv : w.var? Tryz.prog "unicode.CaseRanges" = some #[.slice (some ⟨R, 0, none⟩) caseA.size caseA.size] := by simp [World.var?, hn, hvar]
  refine LaidIn.one [4, R] hn (by kernel_rfl) hv hread ?_ ?_ ?_
  · refine List.nodup_append.2 ⟨row_nodup _ _, row_nodup _ _, ?_⟩
    intro a ha b hb e
    obtain ⟨i, _, rfl⟩ := MemPlace.mem_row.1 ha
    obtain ⟨j, _, rfl⟩ := MemPlace.mem_row.1 hb
    simp at e
    exact hgR e.1
  · intro b off hp
    rcases List.mem_append.1 hp with hp | hp
    · obtain ⟨i, hi, e⟩ := MemPlace.mem_row.1 hp
      cases e
      refine ⟨⟨_, _, hvar⟩, fun u v hc => ?_⟩
      simp at hi
      subst hi
      rw [Lib.cell_of_heap hvar] at hc
      simp at hc
    · obtain ⟨i, hi, e⟩ := MemPlace.mem_row.1 hp
      cases e
      refine ⟨⟨_, _, hblk⟩, fun u v hc => ?_⟩
      obtain ⟨c0, c1, c2, c3, c4⟩ := hT (i / 5) (by omega)
      have hi5 : 0 + i = 0 + i / 5 * 5 + i % 5 := by omega
      simp only at hc
      rw [hi5] at hc
      have hm : i % 5 < 5 := Nat.mod_lt _ (by omega)
      match hk : i % 5, hm with
      | 0, _ => rw [hk, Nat.add_zero, c0] at hc; cases hc
      | 1, _ => rw [hk, c1] at hc; cases hc
      | 2, _ => rw [hk, c2] at hc; cases hc
      | 3, _ => rw [hk, c3] at hc; cases hc
      | 4, _ => rw [hk, c4] at hc; cases hc
  · intro x hx
    rcases List.mem_append.1 hx with hx | hx
    · obtain ⟨i, _, rfl⟩ := MemPlace.mem_row.1 hx
      simp [MemPlace.block]
    · obtain ⟨i, _, rfl⟩ := MemPlace.mem_row.1 hx
      simp [MemPlace.block]
set_option maxRecDepth 100000 in
theorem laid_met (os : Os) (args : Array Value) : laidMet Tryz.prog laidL ((laidWorld os).forCall (fun _ _ => 0) ⟨#[], args, []⟩).memory := by
  have a1 : LaidIn Tryz.prog ((laidWorld os).forCall (fun _ _ => 0) ⟨#[], args, []⟩).memory [("unicode/utf8.acceptRanges", Rows.laid_unicode_utf8_acceptRanges), ("unicode.asciiFold", Rows.laid_unicode_asciiFold), ("unicode.caseOrbit", Rows.laid_unicode_caseOrbit)] [1, 2, 3, NB] :=
    LaidIn.of_run _ 10 (by kernel_rfl) (by kernel_rfl) (by kernel_rfl) (by kernel_rfl)
  have a2 : LaidIn Tryz.prog ((laidWorld os).forCall (fun _ _ => 0) ⟨#[], args, []⟩).memory [("unicode.CaseRanges", caseData)] [4, NB + 1] :=
    laid_case (NB + 1) 141 (of_decide_eq_true (by kernel_rfl)) (by kernel_rfl) (by kernel_rfl)
  have a3 : LaidIn Tryz.prog ((laidWorld os).forCall (fun _ _ => 0) ⟨#[], args, []⟩).memory [("unicode/utf8.first", firstData)] [0] :=
    LaidIn.of_run _ 10 (by kernel_rfl) (by kernel_rfl) (by kernel_rfl) (by kernel_rfl)
  rw [← case_data] at a2
  rw [← first_data] at a3
  exact (LaidIn.append (LaidIn.append a1 a2 (by kernel_rfl)) a3 (by kernel_rfl)).met
end Go.Proofs.YtagihjlklbckmaaGreatDoor.Sc
