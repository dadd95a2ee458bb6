import Derived.Test.YtagihjlklbckmaaGreatDoorMz4
import Derived.Test.YtagihjlklbckmaaGreatDoorRows
import Derived.Test.YtagihjlklbckmaaGreatDoorSi
import Derived.Lib.LaidIn
import Derived.Lib.LaidU8T
import Derived.Lib.LaidCaseMet
import Derived.PinnedBridge
import Derived.Deep.DeepHandedRow
import Derived.Deep.DeepWitnessRowRef
import Derived.ProofKit
import Derived.SizedLaws
namespace Go.Proofs.YtagihjlklbckmaaGreatDoor.Sc
set_option linter.unusedVariables false
set_option linter.unusedSimpArgs false
open Go.ChangeShapes Go.WideShapes Go.ChangeAt Go.RowKit Go.Lib Go.Shelf Go.Proofs.YtagihjlklbckmaaGreatDoor.Bs
open Go.ChangeMaps (open_string shut_string)
def foldZ (i : Nat) : Int := if 65 ≤ i ∧ i ≤ 90 then (i + 32 : Nat) else if i = 75 + 32 then (8490 : Int) else if i = 83 + 32 then (383 : Int) else if 97 ≤ i ∧ i ≤ 122 then (i - 32 : Nat) else (i : Nat)
def foldT : List Int := (List.range 128).map foldZ
set_option maxRecDepth 100000 in
theorem fold_data : (Rows.laid_unicode_asciiFold : DataW Unit) = tabData .u16 foldT := by kernel_rfl
set_option maxRecDepth 100000 in
theorem accept_data : Rows.laid_unicode_utf8_acceptRanges = acceptData := by kernel_rfl
theorem first_data : Rows.laid_unicode_utf8_first = firstData := Pinned.utf8First_eq
theorem case_data : Rows.laid_unicode_CaseRanges = caseData := Pinned.caseRanges_eq
def laidL : List (String × DataW Unit) := [("unicode/utf8.acceptRanges", Rows.laid_unicode_utf8_acceptRanges), ("unicode.asciiFold", Rows.laid_unicode_asciiFold), ("unicode.caseOrbit", Rows.laid_unicode_caseOrbit), ("unicode.CaseRanges", Rows.laid_unicode_CaseRanges), ("unicode/utf8.first", Rows.laid_unicode_utf8_first)]
theorem u8x : U8Extra Tryz.prog Tryz.lays196_ren := ⟨by kernel_rfl, by kernel_rfl, by kernel_rfl, by kernel_rfl, by kernel_rfl, by kernel_rfl, by kernel_rfl⟩
theorem env_of {W : World} (hL : laidMet Tryz.prog laidL W) (hsh : W.ShapedOpen Tryz.prog) : Env W := by
  have h0 : VarReads Tryz.prog W "unicode/utf8.first" firstData := first_data ▸ Lib.laidMet.reads hL (.tail _ (.tail _ (.tail _ (.tail _ (.head _)))))
  have h1 : VarReads Tryz.prog W "unicode/utf8.acceptRanges" acceptData := accept_data ▸ Lib.laidMet.reads hL (.head _)
  have h3 : VarReads Tryz.prog W "unicode.asciiFold" (tabData .u16 foldT) := fold_data ▸ Lib.laidMet.reads hL (.tail _ (.head _))
  have h5 := Lib.laidMet.reads hL (n := "unicode.CaseRanges") (.tail _ (.tail _ (.tail _ (.head _))))
  refine ⟨utf8Tabs_of_readsT (U8Types.of196 Tryz.lays196) u8x h0 h1, Tryz.laysM145.s1_3 W hsh, fun i hi => ?_, ?_⟩
  · obtain ⟨g, t, cs, fuel, p, hg, hty, hvar, hd⟩ := h3
    have hg' : Tryz.prog.globalNamed "unicode.asciiFold" = some 2 := by kernel_rfl
    have ht' : (Tryz.prog.globals[2]?).map (·.type) = some 124 := by kernel_rfl
    obtain rfl := Option.some.inj (hg'.symm.trans hg)
    obtain rfl := Option.some.inj (ht'.symm.trans hty)
    have hcs := cells_of_tab Tryz.underlying124 Tryz.underlying123 (by kernel_rfl) (by kernel_rfl) hd
    rw [World.var?_cell hg hvar i, ← Array.getElem?_toList, hcs]
    unfold foldT
    rw [List.map_map, List.getElem?_map, List.getElem?_range hi]
    rfl
  · have ha : 4 < W.heap.size := by
      obtain ⟨g, t, cs, fuel, p, hg, hty, hvar, hd⟩ := h5
      have hg' : Tryz.prog.globalNamed "unicode.CaseRanges" = some 4 := by kernel_rfl
      obtain rfl := Option.some.inj (hg'.symm.trans hg)
      unfold World.var? at hvar
      rw [hg] at hvar
      simp only [Option.bind_some] at hvar
      split at hvar
      · rename_i hh
        exact (Array.getElem?_eq_some_iff.1 hh).1
      · cases hvar
    have hb : 5 < W.heap.size := by
      obtain ⟨m, hm⟩ := Tryz.laysM145.s1_3 W hsh
      refine Decidable.byContradiction fun h => ?_
      have hn : W.heap[5]? = none := Array.getElem?_eq_none (Nat.le_of_not_lt h)
      have hm2 : W.cell? ⟨5, 0, none⟩ = some (.int .i64 m) := hm
      unfold World.cell? at hm2
      simp only [hn] at hm2
      cases hm2
    first | exact ha | exact hb
end Go.Proofs.YtagihjlklbckmaaGreatDoor.Sc
