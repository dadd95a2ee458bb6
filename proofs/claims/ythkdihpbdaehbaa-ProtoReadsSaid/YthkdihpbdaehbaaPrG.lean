import Derived.Test.YthkdihpbdaehbaaPrFa
namespace Go.Proofs.Ythkdihpbdaehbaa.Pr
set_option linter.unusedVariables false
set_option linter.unusedSimpArgs false
open Go.RowKit Go.Proofs.YthkdihpbdaehbaaW.PrintWords Go.Proofs.YthkdihpbdaehbaaW.PrintLast Go.Proofs.YthkdihpbdaehbaaW.PrintMore Go.Proofs.Ythkdihpbdaehbaa.Bs
theorem Gives.mk {w w' : World} {l : List Int} {v : Value} (h : (Kd.int .u8).R 5 w' w.heap.size (fun _ => True) v l) (hb : Below w.heap.size w w') : Gives w l (.returned v) w' := ⟨v, rfl, h, hb⟩
set_option maxRecDepth 100000 in
set_option maxHeartbeats 400000 in
theorem text_ref (w : World) (s : ByteArray) (hs : s.size ≤ 60000) : Calls Try.prog 26 #[.string s] w (Gives w (textB s)) := by
  have hu : IntKind.u64.wrap (s.size : Int) = s.size := by rw [IntKind.wrap_u64]; omega
  have C1 := refnum_calls w (s.size : Int) 2 (by omega) (by omega) (by decide)
  have kb := fun W => print_bytes (P := Try.prog) 9 27 5 Try.underlying9 Try.underlying27 Try.underlying5 s W
  go_enter Try.func26, Try.ntmps26
  go_wp2_with fail
  refine C1.mono ?_
  rintro e w1 ⟨v, rfl, hR, hB⟩
  obtain ⟨A, c, rfl⟩ := Kd.R_slice hR
  have hS := bytes_reads w1 5 s (by omega)
  have hz1 := hB.size
  have hW := bytes_below (Below.refl w1.heap.size w1) (Nat.le_refl _) 5 s
  have HR := Aside0.mk (Kd.R_below hR hW)
  have HC := Aside0.mk (Kd.C_of_reads (h1 := fun _ => rfl) (readsInt_of.1 hS))
  have HBW := Aside0.mk (below_step hB hW)
  have hl : ((be 2 (s.size : Int)).length + s.size) * 1 ≤ 140737488355328 := by rw [be_length]; omega
  have HL := Aside0.mk hl
  have HZ := Aside0.mk (Nat.le_trans hB.size hW.size)
  clear C1 hR hS hB hW hz1 hl
  generalize hbl : be 2 (s.size : Int) = bl at *
  have HBL := Aside0.mk hbl
  clear hbl
  go_wp2_with (first | ((with_reducible refine gate_builtin (b := .append) (xs := #[.tmp 6, .tmp 8]) rfl ?_); at_builtin; go_loud (refine Kd.R_append_rows (Kd.int .u8) (w0 := w) w.heap.size rfl (.tmp 6) (.tmp 8) 27 5 (.int .u8 0) 1 rfl Try.underlying27 info5 rfl (by decide) (by omega) _ bl (bytesOf s) _ _ _ (fun _ => True) (fun _ => False) rfl rfl HR.out HC.out (fun _ _ h => h) (fun _ h => h.elim) (fun _ _ => trivial) HBW.out HZ.out HL.out ?_); intro v1 w2 hr hb hg hat; have HR2 := Aside0.mk hr; have HB2 := Aside0.mk hb; clear hr hb hg hat))
  go_ret
  rw [textB, HBL.out]
  exact Gives.mk HR2.out HB2.out
end Go.Proofs.Ythkdihpbdaehbaa.Pr
