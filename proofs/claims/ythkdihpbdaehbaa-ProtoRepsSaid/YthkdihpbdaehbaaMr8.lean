import Derived.Test.YthkdihpbdaehbaaMr7
namespace Go.Proofs.Ythkdihpbdaehbaa.Pr
set_option linter.unusedVariables false
set_option linter.unusedSimpArgs false
open Go.RowKit Go.Proofs.YthkdihpbdaehbaaW.PrintWords Go.Proofs.YthkdihpbdaehbaaW.PrintLast Go.Proofs.YthkdihpbdaehbaaW.PrintMore Go.Proofs.Ythkdihpbdaehbaa.Bs
theorem Rs.old {w w1 : World} {cs : Array Value} {t : Nat} {l : List Int} {v : Value} (h : Rs w cs t l v w1) : Below w.heap.size w w1 := below_step (below_alloc (Below.refl _ _) _) (Below.mono h.b (by simp))
theorem lit_le {n m : Nat} (h : n ≤ m) (hm : (m + 1) * 1 ≤ 140737488355328) : (n + 1) * 1 ≤ 140737488355328 := by omega
theorem lit_len {n m r l : Nat} (h : n ≤ m) (e : n + 1 = l) (hm : m + 1 ≤ r) : l ≤ r := by omega
theorem row_le {n m k : Nat} (h : n ≤ m) (hk : k ≤ 70000) (hm : m + 70000 ≤ 140737488355328) : (n + k) * 1 ≤ 140737488355328 := by omega
theorem row_len {n m k r : Nat} (h : n ≤ m) (hk : k ≤ 70000) (hm : m + 70000 ≤ r) : n + k ≤ r := by omega
theorem be_70 (s : Nat) (n : Int) (hs : s ≤ 8) : (be s n).length ≤ 70000 := by rw [be_length]; omega
theorem text_70 (s : ByteArray) (hs : s.size ≤ 60000) : (textB s).length ≤ 70000 := by rw [textB_len]; omega
set_option maxRecDepth 100000 in
set_option maxHeartbeats 2000000 in
theorem rep_ref0 (w : World) (r : Rp) (A0 : Option Addr) (cp : Nat) (hC : (Kd.int .i64).C w A0 r.nodes.length r.nodes) (hs : r.small) (hti : r.time ≤ 18446744073709551615) (hss : r.s.size ≤ 9000) (hvs : r.vs.size ≤ 9000) (h2 : r.vt = 0) : Calls Try.prog 20 #[.agg (r.cells (.slice A0 r.nodes.length cp))] w (Gives w r.bytes) := by
  obtain ⟨⟨ka, kb⟩, ⟨ea, eb⟩, ⟨xa, xb⟩, ⟨ia, ib⟩, ta, ss, ⟨va, vb'⟩, nl, nn, ⟨ga, gb⟩, ⟨wa, wb⟩, vl⟩ := hs
  obtain ⟨k, er, tx, id, ti, vt, ns, vb, tag, vv, vs, s⟩ := r
  simp only [Rp.cells] at *
  subst h2
  have hwe : IntKind.u64.wrap er = er := by rw [IntKind.wrap_u64]; omega
  have hwt : IntKind.u64.wrap tx = tx := by rw [IntKind.wrap_u64]; omega
  have hwi : IntKind.u64.wrap id = id := by rw [IntKind.wrap_u64]; omega
  have E := Aside0.mk (show Rp.bytes ⟨k, er, tx, id, ti, 0, ns, vb, tag, vv, vs, s⟩ = ((((((([k] ++ be 2 er) ++ be 4 tx) ++ be 4 id) ++ be 8 ti) ++ textB s) ++ [0]) ++ Rp.tail ⟨k, er, tx, id, ti, 0, ns, vb, tag, vv, vs, s⟩) by simp [Rp.bytes, Rp.head, be1]; omega)
  clear hC nn
  go_enter Try.func20, Try.ntmps20
  go_wp2_with (first | ((with_reducible refine gate_dst (N := 8) rfl ?_); refine Kd.R_lit (Kd.int .u8) _ 5 ?hg (N := 8) ?hd (xs := ([k] : List Int)) (inner := [.int .u8 k]) (ok := fun _ => True) (okp := fun _ => True) ?hr ?hp (fun _ hk => hk) trivial (Below.refl _ _) (Nat.le_refl _) (by simp) ?_; (case hd => rfl); (case hg => rfl); (case hr => first | (go_simp; done) | (go_simp; rfl)); (case hp => exact (Reps.one (show Kd.M (Kd.int .u8) _ _ _ k [.int .u8 k] from rfl) (Reps.none _ _))); intro v0 w0 ho hb hg hnew; have rs := Rs.lit ho hb; obtain ⟨L0, hL⟩ : ∃ L, L = ([k] : List Int) := ⟨_, rfl⟩; rw [← hL] at rs; have HN0 := Aside0.mk hL; clear hL; obtain ⟨E0, f0, rfl⟩ := Kd.R_slice rs.r; obtain ⟨c0, c1, c2, c3, c4, c5, c6, c7, c8, c9, c10, c11, c12⟩ := blk12 rs.q; have RS0 := Aside0.mk rs; have HQ0 := Aside0.mk (show L0.length ≤ 200000 by rw [HN0.out]; simp); clear ho hb hg hnew rs))
  refine (refnum_calls w0 er 2 (by omega) (by omega) (by decide)).mono ?_
  rintro e u1 ⟨x1, rfl, hr, hb⟩
  obtain ⟨B1, d1, rfl⟩ := Kd.R_slice hr
  have rs := RS0.out.grow hb
  have HC1 := Aside0.mk (Kd.R_reads' hr).2.2
  have HZ1 := Aside0.mk rs.z
  have HP1 := Aside0.mk (show (be 2 er).length ≤ 70000 from be_70 2 _ (by decide))
  have HL1 := Aside0.mk (row_le HQ0.out HP1.out (by decide))
  clear c0 c1 c2 c3 c4 c5 c6 c7 c8 c9 c10 c11 c12 hr hb
  obtain ⟨c0, c1, c2, c3, c4, c5, c6, c7, c8, c9, c10, c11, c12⟩ := blk12 rs.q
  have RT1 := Aside0.mk rs
  clear rs
  go_wp2_with (first | ((with_reducible refine gate_builtin (b := .append) (xs := #[.tmp 9, .tmp 13]) rfl ?_); at_builtin; go_loud (refine Kd.R_append_rows (Kd.int .u8) (w0 := w.alloc (.cells #[.int .i64 k, .int .i64 er, .int .i64 tx, .int .i64 id, .int .u64 ti, .int .i64 0, .slice A0 ns.length cp, .bool vb, .int .i64 tag, .int .i64 vv, .string vs, .string s] 44)) (w.heap.size + 1) rfl (.tmp 9) (.tmp 13) 27 5 (.int .u8 0) 1 rfl Try.underlying27 info5 rfl (by decide) (by omega) _ L0 (be 2 er) _ _ _ (fun _ => True) (fun _ => False) rfl rfl RT1.out.r HC1.out (fun _ _ h => h) (fun _ h => h.elim) (fun _ _ => trivial) RT1.out.b HZ1.out HL1.out ?_); intro v1 w1 hr hb hg hat; have rs : Rs w #[.int .i64 k, .int .i64 er, .int .i64 tx, .int .i64 id, .int .u64 ti, .int .i64 0, .slice A0 ns.length cp, .bool vb, .int .i64 tag, .int .i64 vv, .string vs, .string s] 44 _ v1 w1 := ⟨hr, hb⟩; obtain ⟨L1, hL⟩ : ∃ L, L = L0 ++ be 2 er := ⟨_, rfl⟩; rw [← hL] at rs; have HN1 := Aside0.mk hL; have HQ1 := Aside0.mk (show L1.length ≤ 280000 from Eq.mpr (by rw [hL, List.length_append]) (row_len HQ0.out HP1.out (by decide))); clear hL; obtain ⟨E1, f1, rfl⟩ := Kd.R_slice rs.r; clear c0 c1 c2 c3 c4 c5 c6 c7 c8 c9 c10 c11 c12; obtain ⟨c0, c1, c2, c3, c4, c5, c6, c7, c8, c9, c10, c11, c12⟩ := blk12 rs.q; have RS1 := Aside0.mk rs; clear rs hr hb hg hat))
  refine (refnum_calls w1 tx 4 (by omega) (by omega) (by decide)).mono ?_
  rintro e u2 ⟨x2, rfl, hr, hb⟩
  obtain ⟨B2, d2, rfl⟩ := Kd.R_slice hr
  have rs := RS1.out.grow hb
  have HC2 := Aside0.mk (Kd.R_reads' hr).2.2
  have HZ2 := Aside0.mk rs.z
  have HP2 := Aside0.mk (show (be 4 tx).length ≤ 70000 from be_70 4 _ (by decide))
  have HL2 := Aside0.mk (row_le HQ1.out HP2.out (by decide))
  clear c0 c1 c2 c3 c4 c5 c6 c7 c8 c9 c10 c11 c12 hr hb
  obtain ⟨c0, c1, c2, c3, c4, c5, c6, c7, c8, c9, c10, c11, c12⟩ := blk12 rs.q
  have RT2 := Aside0.mk rs
  clear rs
  go_wp2_with (first | ((with_reducible refine gate_builtin (b := .append) (xs := #[.tmp 15, .tmp 19]) rfl ?_); at_builtin; go_loud (refine Kd.R_append_rows (Kd.int .u8) (w0 := w.alloc (.cells #[.int .i64 k, .int .i64 er, .int .i64 tx, .int .i64 id, .int .u64 ti, .int .i64 0, .slice A0 ns.length cp, .bool vb, .int .i64 tag, .int .i64 vv, .string vs, .string s] 44)) (w.heap.size + 1) rfl (.tmp 15) (.tmp 19) 27 5 (.int .u8 0) 1 rfl Try.underlying27 info5 rfl (by decide) (by omega) _ L1 (be 4 tx) _ _ _ (fun _ => True) (fun _ => False) rfl rfl RT2.out.r HC2.out (fun _ _ h => h) (fun _ h => h.elim) (fun _ _ => trivial) RT2.out.b HZ2.out HL2.out ?_); intro v2 w2 hr hb hg hat; have rs : Rs w #[.int .i64 k, .int .i64 er, .int .i64 tx, .int .i64 id, .int .u64 ti, .int .i64 0, .slice A0 ns.length cp, .bool vb, .int .i64 tag, .int .i64 vv, .string vs, .string s] 44 _ v2 w2 := ⟨hr, hb⟩; obtain ⟨L2, hL⟩ : ∃ L, L = L1 ++ be 4 tx := ⟨_, rfl⟩; rw [← hL] at rs; have HN2 := Aside0.mk hL; have HQ2 := Aside0.mk (show L2.length ≤ 360000 from Eq.mpr (by rw [hL, List.length_append]) (row_len HQ1.out HP2.out (by decide))); clear hL; obtain ⟨E2, f2, rfl⟩ := Kd.R_slice rs.r; clear c0 c1 c2 c3 c4 c5 c6 c7 c8 c9 c10 c11 c12; obtain ⟨c0, c1, c2, c3, c4, c5, c6, c7, c8, c9, c10, c11, c12⟩ := blk12 rs.q; have RS2 := Aside0.mk rs; clear rs hr hb hg hat))
  refine (refnum_calls w2 id 4 (by omega) (by omega) (by decide)).mono ?_
  rintro e u3 ⟨x3, rfl, hr, hb⟩
  obtain ⟨B3, d3, rfl⟩ := Kd.R_slice hr
  have rs := RS2.out.grow hb
  have HC3 := Aside0.mk (Kd.R_reads' hr).2.2
  have HZ3 := Aside0.mk rs.z
  have HP3 := Aside0.mk (show (be 4 id).length ≤ 70000 from be_70 4 _ (by decide))
  have HL3 := Aside0.mk (row_le HQ2.out HP3.out (by decide))
  clear c0 c1 c2 c3 c4 c5 c6 c7 c8 c9 c10 c11 c12 hr hb
  obtain ⟨c0, c1, c2, c3, c4, c5, c6, c7, c8, c9, c10, c11, c12⟩ := blk12 rs.q
  have RT3 := Aside0.mk rs
  clear rs
  go_wp2_with (first | ((with_reducible refine gate_builtin (b := .append) (xs := #[.tmp 21, .tmp 25]) rfl ?_); at_builtin; go_loud (refine Kd.R_append_rows (Kd.int .u8) (w0 := w.alloc (.cells #[.int .i64 k, .int .i64 er, .int .i64 tx, .int .i64 id, .int .u64 ti, .int .i64 0, .slice A0 ns.length cp, .bool vb, .int .i64 tag, .int .i64 vv, .string vs, .string s] 44)) (w.heap.size + 1) rfl (.tmp 21) (.tmp 25) 27 5 (.int .u8 0) 1 rfl Try.underlying27 info5 rfl (by decide) (by omega) _ L2 (be 4 id) _ _ _ (fun _ => True) (fun _ => False) rfl rfl RT3.out.r HC3.out (fun _ _ h => h) (fun _ h => h.elim) (fun _ _ => trivial) RT3.out.b HZ3.out HL3.out ?_); intro v3 w3 hr hb hg hat; have rs : Rs w #[.int .i64 k, .int .i64 er, .int .i64 tx, .int .i64 id, .int .u64 ti, .int .i64 0, .slice A0 ns.length cp, .bool vb, .int .i64 tag, .int .i64 vv, .string vs, .string s] 44 _ v3 w3 := ⟨hr, hb⟩; obtain ⟨L3, hL⟩ : ∃ L, L = L2 ++ be 4 id := ⟨_, rfl⟩; rw [← hL] at rs; have HN3 := Aside0.mk hL; have HQ3 := Aside0.mk (show L3.length ≤ 440000 from Eq.mpr (by rw [hL, List.length_append]) (row_len HQ2.out HP3.out (by decide))); clear hL; obtain ⟨E3, f3, rfl⟩ := Kd.R_slice rs.r; clear c0 c1 c2 c3 c4 c5 c6 c7 c8 c9 c10 c11 c12; obtain ⟨c0, c1, c2, c3, c4, c5, c6, c7, c8, c9, c10, c11, c12⟩ := blk12 rs.q; have RS3 := Aside0.mk rs; clear rs hr hb hg hat))
  refine (refnum_calls w3 ti 8 (by omega) (by omega) (by decide)).mono ?_
  rintro e u4 ⟨x4, rfl, hr, hb⟩
  obtain ⟨B4, d4, rfl⟩ := Kd.R_slice hr
  have rs := RS3.out.grow hb
  have HC4 := Aside0.mk (Kd.R_reads' hr).2.2
  have HZ4 := Aside0.mk rs.z
  have HP4 := Aside0.mk (show (be 8 ti).length ≤ 70000 from be_70 8 _ (by decide))
  have HL4 := Aside0.mk (row_le HQ3.out HP4.out (by decide))
  clear c0 c1 c2 c3 c4 c5 c6 c7 c8 c9 c10 c11 c12 hr hb
  obtain ⟨c0, c1, c2, c3, c4, c5, c6, c7, c8, c9, c10, c11, c12⟩ := blk12 rs.q
  have RT4 := Aside0.mk rs
  clear rs
  go_wp2_with (first | ((with_reducible refine gate_builtin (b := .append) (xs := #[.tmp 27, .tmp 30]) rfl ?_); at_builtin; go_loud (refine Kd.R_append_rows (Kd.int .u8) (w0 := w.alloc (.cells #[.int .i64 k, .int .i64 er, .int .i64 tx, .int .i64 id, .int .u64 ti, .int .i64 0, .slice A0 ns.length cp, .bool vb, .int .i64 tag, .int .i64 vv, .string vs, .string s] 44)) (w.heap.size + 1) rfl (.tmp 27) (.tmp 30) 27 5 (.int .u8 0) 1 rfl Try.underlying27 info5 rfl (by decide) (by omega) _ L3 (be 8 ti) _ _ _ (fun _ => True) (fun _ => False) rfl rfl RT4.out.r HC4.out (fun _ _ h => h) (fun _ h => h.elim) (fun _ _ => trivial) RT4.out.b HZ4.out HL4.out ?_); intro v4 w4 hr hb hg hat; have rs : Rs w #[.int .i64 k, .int .i64 er, .int .i64 tx, .int .i64 id, .int .u64 ti, .int .i64 0, .slice A0 ns.length cp, .bool vb, .int .i64 tag, .int .i64 vv, .string vs, .string s] 44 _ v4 w4 := ⟨hr, hb⟩; obtain ⟨L4, hL⟩ : ∃ L, L = L3 ++ be 8 ti := ⟨_, rfl⟩; rw [← hL] at rs; have HN4 := Aside0.mk hL; have HQ4 := Aside0.mk (show L4.length ≤ 520000 from Eq.mpr (by rw [hL, List.length_append]) (row_len HQ3.out HP4.out (by decide))); clear hL; obtain ⟨E4, f4, rfl⟩ := Kd.R_slice rs.r; clear c0 c1 c2 c3 c4 c5 c6 c7 c8 c9 c10 c11 c12; obtain ⟨c0, c1, c2, c3, c4, c5, c6, c7, c8, c9, c10, c11, c12⟩ := blk12 rs.q; have RS4 := Aside0.mk rs; clear rs hr hb hg hat))
  refine (text_ref w4 s (by omega)).mono ?_
  rintro e u5 ⟨x5, rfl, hr, hb⟩
  obtain ⟨B5, d5, rfl⟩ := Kd.R_slice hr
  have rs := RS4.out.grow hb
  have HC5 := Aside0.mk (Kd.R_reads' hr).2.2
  have HZ5 := Aside0.mk rs.z
  have HP5 := Aside0.mk (show (textB s).length ≤ 70000 from text_70 s (by omega))
  have HL5 := Aside0.mk (row_le HQ4.out HP5.out (by decide))
  clear c0 c1 c2 c3 c4 c5 c6 c7 c8 c9 c10 c11 c12 hr hb
  obtain ⟨c0, c1, c2, c3, c4, c5, c6, c7, c8, c9, c10, c11, c12⟩ := blk12 rs.q
  have RT5 := Aside0.mk rs
  clear rs
  go_wp2_with (first | ((with_reducible refine gate_builtin (b := .append) (xs := #[.tmp 32, .tmp 35]) rfl ?_); at_builtin; go_loud (refine Kd.R_append_rows (Kd.int .u8) (w0 := w.alloc (.cells #[.int .i64 k, .int .i64 er, .int .i64 tx, .int .i64 id, .int .u64 ti, .int .i64 0, .slice A0 ns.length cp, .bool vb, .int .i64 tag, .int .i64 vv, .string vs, .string s] 44)) (w.heap.size + 1) rfl (.tmp 32) (.tmp 35) 27 5 (.int .u8 0) 1 rfl Try.underlying27 info5 rfl (by decide) (by omega) _ L4 (textB s) _ _ _ (fun _ => True) (fun _ => False) rfl rfl RT5.out.r HC5.out (fun _ _ h => h) (fun _ h => h.elim) (fun _ _ => trivial) RT5.out.b HZ5.out HL5.out ?_); intro v5 w5 hr hb hg hat; have rs : Rs w #[.int .i64 k, .int .i64 er, .int .i64 tx, .int .i64 id, .int .u64 ti, .int .i64 0, .slice A0 ns.length cp, .bool vb, .int .i64 tag, .int .i64 vv, .string vs, .string s] 44 _ v5 w5 := ⟨hr, hb⟩; obtain ⟨L5, hL⟩ : ∃ L, L = L4 ++ textB s := ⟨_, rfl⟩; rw [← hL] at rs; have HN5 := Aside0.mk hL; have HQ5 := Aside0.mk (show L5.length ≤ 600000 from Eq.mpr (by rw [hL, List.length_append]) (row_len HQ4.out HP5.out (by decide))); clear hL; obtain ⟨E5, f5, rfl⟩ := Kd.R_slice rs.r; clear c0 c1 c2 c3 c4 c5 c6 c7 c8 c9 c10 c11 c12; obtain ⟨c0, c1, c2, c3, c4, c5, c6, c7, c8, c9, c10, c11, c12⟩ := blk12 rs.q; have RS5 := Aside0.mk rs; clear rs hr hb hg hat) | ((with_reducible refine gate_builtin (b := .append) (xs := #[.tmp 37, .tmp 42]) rfl ?_); at_builtin; go_loud (refine app_list (Kd.int .u8) (W := w5) (w.heap.size + 1) rfl (.tmp 37) (.tmp 42) 27 5 (.int .u8 0) 1 rfl Try.underlying27 info5 z5ok _ L5 (0) [.int .u8 (0)] (fun _ => True) (fun _ => False) rfl rfl rfl (fun _ h => h.elim) RS5.out.r RS5.out.z (lit_le HQ5.out (by decide)) ?_); intro A6 d6 w6 hr hch hat; have rs := RS5.out.app hr hch; obtain ⟨L6, hL⟩ : ∃ L, L = L5 ++ [0] := ⟨_, rfl⟩; rw [← hL] at rs; have HN6 := Aside0.mk hL; have hLl : L5.length + 1 = L6.length := (by rw [hL]; simp); clear hL; rw [hLl] at rs ⊢; have HQ6 := Aside0.mk (show L6.length ≤ 680000 from lit_len HQ5.out hLl (by decide)); clear hLl c0 c1 c2 c3 c4 c5 c6 c7 c8 c9 c10 c11 c12; obtain ⟨c0, c1, c2, c3, c4, c5, c6, c7, c8, c9, c10, c11, c12⟩ := blk12 rs.q; have RS6 := Aside0.mk rs; clear rs hr hch hat))
  go_ret
  have ET : Rp.tail ⟨k, er, tx, id, ti, 0, ns, vb, tag, vv, vs, s⟩ = [] := by simp [Rp.tail, be1]
  rw [E.out, ET]
  have HF : ((((((([k] ++ be 2 er) ++ be 4 tx) ++ be 4 id) ++ be 8 ti) ++ textB s) ++ [0]) ++ ([])) = L6 := by
    rw [HN6.out, HN5.out, HN4.out, HN3.out, HN2.out, HN1.out, HN0.out] <;> simp
  rw [HF]
  exact RS6.out.gives
set_option maxRecDepth 100000 in
set_option maxHeartbeats 2000000 in
theorem rep_ref1 (w : World) (r : Rp) (A0 : Option Addr) (cp : Nat) (hC : (Kd.int .i64).C w A0 r.nodes.length r.nodes) (hs : r.small) (hti : r.time ≤ 18446744073709551615) (hss : r.s.size ≤ 9000) (hvs : r.vs.size ≤ 9000) (h2 : r.vt = 1) : Calls Try.prog 20 #[.agg (r.cells (.slice A0 r.nodes.length cp))] w (Gives w r.bytes) := by
  obtain ⟨⟨ka, kb⟩, ⟨ea, eb⟩, ⟨xa, xb⟩, ⟨ia, ib⟩, ta, ss, ⟨va, vb'⟩, nl, nn, ⟨ga, gb⟩, ⟨wa, wb⟩, vl⟩ := hs
  obtain ⟨k, er, tx, id, ti, vt, ns, vb, tag, vv, vs, s⟩ := r
  simp only [Rp.cells] at *
  subst h2
  have hwe : IntKind.u64.wrap er = er := by rw [IntKind.wrap_u64]; omega
  have hwt : IntKind.u64.wrap tx = tx := by rw [IntKind.wrap_u64]; omega
  have hwi : IntKind.u64.wrap id = id := by rw [IntKind.wrap_u64]; omega
  have E := Aside0.mk (show Rp.bytes ⟨k, er, tx, id, ti, 1, ns, vb, tag, vv, vs, s⟩ = ((((((([k] ++ be 2 er) ++ be 4 tx) ++ be 4 id) ++ be 8 ti) ++ textB s) ++ [1]) ++ Rp.tail ⟨k, er, tx, id, ti, 1, ns, vb, tag, vv, vs, s⟩) by simp [Rp.bytes, Rp.head, be1]; omega)
  have hwn : IntKind.u64.wrap (ns.length : Int) = ns.length := by rw [IntKind.wrap_u64]; omega
  have HCN := Aside0.mk hC
  have HNN := Aside0.mk nn
  clear hC nn
  go_enter Try.func20, Try.ntmps20
  go_wp2_with (first | ((with_reducible refine gate_dst (N := 8) rfl ?_); refine Kd.R_lit (Kd.int .u8) _ 5 ?hg (N := 8) ?hd (xs := ([k] : List Int)) (inner := [.int .u8 k]) (ok := fun _ => True) (okp := fun _ => True) ?hr ?hp (fun _ hk => hk) trivial (Below.refl _ _) (Nat.le_refl _) (by simp) ?_; (case hd => rfl); (case hg => rfl); (case hr => first | (go_simp; done) | (go_simp; rfl)); (case hp => exact (Reps.one (show Kd.M (Kd.int .u8) _ _ _ k [.int .u8 k] from rfl) (Reps.none _ _))); intro v0 w0 ho hb hg hnew; have rs := Rs.lit ho hb; obtain ⟨L0, hL⟩ : ∃ L, L = ([k] : List Int) := ⟨_, rfl⟩; rw [← hL] at rs; have HN0 := Aside0.mk hL; clear hL; obtain ⟨E0, f0, rfl⟩ := Kd.R_slice rs.r; obtain ⟨c0, c1, c2, c3, c4, c5, c6, c7, c8, c9, c10, c11, c12⟩ := blk12 rs.q; have RS0 := Aside0.mk rs; have HQ0 := Aside0.mk (show L0.length ≤ 200000 by rw [HN0.out]; simp); clear ho hb hg hnew rs))
  refine (refnum_calls w0 er 2 (by omega) (by omega) (by decide)).mono ?_
  rintro e u1 ⟨x1, rfl, hr, hb⟩
  obtain ⟨B1, d1, rfl⟩ := Kd.R_slice hr
  have rs := RS0.out.grow hb
  have HC1 := Aside0.mk (Kd.R_reads' hr).2.2
  have HZ1 := Aside0.mk rs.z
  have HP1 := Aside0.mk (show (be 2 er).length ≤ 70000 from be_70 2 _ (by decide))
  have HL1 := Aside0.mk (row_le HQ0.out HP1.out (by decide))
  clear c0 c1 c2 c3 c4 c5 c6 c7 c8 c9 c10 c11 c12 hr hb
  obtain ⟨c0, c1, c2, c3, c4, c5, c6, c7, c8, c9, c10, c11, c12⟩ := blk12 rs.q
  have RT1 := Aside0.mk rs
  clear rs
  go_wp2_with (first | ((with_reducible refine gate_builtin (b := .append) (xs := #[.tmp 9, .tmp 13]) rfl ?_); at_builtin; go_loud (refine Kd.R_append_rows (Kd.int .u8) (w0 := w.alloc (.cells #[.int .i64 k, .int .i64 er, .int .i64 tx, .int .i64 id, .int .u64 ti, .int .i64 1, .slice A0 ns.length cp, .bool vb, .int .i64 tag, .int .i64 vv, .string vs, .string s] 44)) (w.heap.size + 1) rfl (.tmp 9) (.tmp 13) 27 5 (.int .u8 0) 1 rfl Try.underlying27 info5 rfl (by decide) (by omega) _ L0 (be 2 er) _ _ _ (fun _ => True) (fun _ => False) rfl rfl RT1.out.r HC1.out (fun _ _ h => h) (fun _ h => h.elim) (fun _ _ => trivial) RT1.out.b HZ1.out HL1.out ?_); intro v1 w1 hr hb hg hat; have rs : Rs w #[.int .i64 k, .int .i64 er, .int .i64 tx, .int .i64 id, .int .u64 ti, .int .i64 1, .slice A0 ns.length cp, .bool vb, .int .i64 tag, .int .i64 vv, .string vs, .string s] 44 _ v1 w1 := ⟨hr, hb⟩; obtain ⟨L1, hL⟩ : ∃ L, L = L0 ++ be 2 er := ⟨_, rfl⟩; rw [← hL] at rs; have HN1 := Aside0.mk hL; have HQ1 := Aside0.mk (show L1.length ≤ 280000 from Eq.mpr (by rw [hL, List.length_append]) (row_len HQ0.out HP1.out (by decide))); clear hL; obtain ⟨E1, f1, rfl⟩ := Kd.R_slice rs.r; clear c0 c1 c2 c3 c4 c5 c6 c7 c8 c9 c10 c11 c12; obtain ⟨c0, c1, c2, c3, c4, c5, c6, c7, c8, c9, c10, c11, c12⟩ := blk12 rs.q; have RS1 := Aside0.mk rs; clear rs hr hb hg hat))
  refine (refnum_calls w1 tx 4 (by omega) (by omega) (by decide)).mono ?_
  rintro e u2 ⟨x2, rfl, hr, hb⟩
  obtain ⟨B2, d2, rfl⟩ := Kd.R_slice hr
  have rs := RS1.out.grow hb
  have HC2 := Aside0.mk (Kd.R_reads' hr).2.2
  have HZ2 := Aside0.mk rs.z
  have HP2 := Aside0.mk (show (be 4 tx).length ≤ 70000 from be_70 4 _ (by decide))
  have HL2 := Aside0.mk (row_le HQ1.out HP2.out (by decide))
  clear c0 c1 c2 c3 c4 c5 c6 c7 c8 c9 c10 c11 c12 hr hb
  obtain ⟨c0, c1, c2, c3, c4, c5, c6, c7, c8, c9, c10, c11, c12⟩ := blk12 rs.q
  have RT2 := Aside0.mk rs
  clear rs
  go_wp2_with (first | ((with_reducible refine gate_builtin (b := .append) (xs := #[.tmp 15, .tmp 19]) rfl ?_); at_builtin; go_loud (refine Kd.R_append_rows (Kd.int .u8) (w0 := w.alloc (.cells #[.int .i64 k, .int .i64 er, .int .i64 tx, .int .i64 id, .int .u64 ti, .int .i64 1, .slice A0 ns.length cp, .bool vb, .int .i64 tag, .int .i64 vv, .string vs, .string s] 44)) (w.heap.size + 1) rfl (.tmp 15) (.tmp 19) 27 5 (.int .u8 0) 1 rfl Try.underlying27 info5 rfl (by decide) (by omega) _ L1 (be 4 tx) _ _ _ (fun _ => True) (fun _ => False) rfl rfl RT2.out.r HC2.out (fun _ _ h => h) (fun _ h => h.elim) (fun _ _ => trivial) RT2.out.b HZ2.out HL2.out ?_); intro v2 w2 hr hb hg hat; have rs : Rs w #[.int .i64 k, .int .i64 er, .int .i64 tx, .int .i64 id, .int .u64 ti, .int .i64 1, .slice A0 ns.length cp, .bool vb, .int .i64 tag, .int .i64 vv, .string vs, .string s] 44 _ v2 w2 := ⟨hr, hb⟩; obtain ⟨L2, hL⟩ : ∃ L, L = L1 ++ be 4 tx := ⟨_, rfl⟩; rw [← hL] at rs; have HN2 := Aside0.mk hL; have HQ2 := Aside0.mk (show L2.length ≤ 360000 from Eq.mpr (by rw [hL, List.length_append]) (row_len HQ1.out HP2.out (by decide))); clear hL; obtain ⟨E2, f2, rfl⟩ := Kd.R_slice rs.r; clear c0 c1 c2 c3 c4 c5 c6 c7 c8 c9 c10 c11 c12; obtain ⟨c0, c1, c2, c3, c4, c5, c6, c7, c8, c9, c10, c11, c12⟩ := blk12 rs.q; have RS2 := Aside0.mk rs; clear rs hr hb hg hat))
  refine (refnum_calls w2 id 4 (by omega) (by omega) (by decide)).mono ?_
  rintro e u3 ⟨x3, rfl, hr, hb⟩
  obtain ⟨B3, d3, rfl⟩ := Kd.R_slice hr
  have rs := RS2.out.grow hb
  have HC3 := Aside0.mk (Kd.R_reads' hr).2.2
  have HZ3 := Aside0.mk rs.z
  have HP3 := Aside0.mk (show (be 4 id).length ≤ 70000 from be_70 4 _ (by decide))
  have HL3 := Aside0.mk (row_le HQ2.out HP3.out (by decide))
  clear c0 c1 c2 c3 c4 c5 c6 c7 c8 c9 c10 c11 c12 hr hb
  obtain ⟨c0, c1, c2, c3, c4, c5, c6, c7, c8, c9, c10, c11, c12⟩ := blk12 rs.q
  have RT3 := Aside0.mk rs
  clear rs
  go_wp2_with (first | ((with_reducible refine gate_builtin (b := .append) (xs := #[.tmp 21, .tmp 25]) rfl ?_); at_builtin; go_loud (refine Kd.R_append_rows (Kd.int .u8) (w0 := w.alloc (.cells #[.int .i64 k, .int .i64 er, .int .i64 tx, .int .i64 id, .int .u64 ti, .int .i64 1, .slice A0 ns.length cp, .bool vb, .int .i64 tag, .int .i64 vv, .string vs, .string s] 44)) (w.heap.size + 1) rfl (.tmp 21) (.tmp 25) 27 5 (.int .u8 0) 1 rfl Try.underlying27 info5 rfl (by decide) (by omega) _ L2 (be 4 id) _ _ _ (fun _ => True) (fun _ => False) rfl rfl RT3.out.r HC3.out (fun _ _ h => h) (fun _ h => h.elim) (fun _ _ => trivial) RT3.out.b HZ3.out HL3.out ?_); intro v3 w3 hr hb hg hat; have rs : Rs w #[.int .i64 k, .int .i64 er, .int .i64 tx, .int .i64 id, .int .u64 ti, .int .i64 1, .slice A0 ns.length cp, .bool vb, .int .i64 tag, .int .i64 vv, .string vs, .string s] 44 _ v3 w3 := ⟨hr, hb⟩; obtain ⟨L3, hL⟩ : ∃ L, L = L2 ++ be 4 id := ⟨_, rfl⟩; rw [← hL] at rs; have HN3 := Aside0.mk hL; have HQ3 := Aside0.mk (show L3.length ≤ 440000 from Eq.mpr (by rw [hL, List.length_append]) (row_len HQ2.out HP3.out (by decide))); clear hL; obtain ⟨E3, f3, rfl⟩ := Kd.R_slice rs.r; clear c0 c1 c2 c3 c4 c5 c6 c7 c8 c9 c10 c11 c12; obtain ⟨c0, c1, c2, c3, c4, c5, c6, c7, c8, c9, c10, c11, c12⟩ := blk12 rs.q; have RS3 := Aside0.mk rs; clear rs hr hb hg hat))
  refine (refnum_calls w3 ti 8 (by omega) (by omega) (by decide)).mono ?_
  rintro e u4 ⟨x4, rfl, hr, hb⟩
  obtain ⟨B4, d4, rfl⟩ := Kd.R_slice hr
  have rs := RS3.out.grow hb
  have HC4 := Aside0.mk (Kd.R_reads' hr).2.2
  have HZ4 := Aside0.mk rs.z
  have HP4 := Aside0.mk (show (be 8 ti).length ≤ 70000 from be_70 8 _ (by decide))
  have HL4 := Aside0.mk (row_le HQ3.out HP4.out (by decide))
  clear c0 c1 c2 c3 c4 c5 c6 c7 c8 c9 c10 c11 c12 hr hb
  obtain ⟨c0, c1, c2, c3, c4, c5, c6, c7, c8, c9, c10, c11, c12⟩ := blk12 rs.q
  have RT4 := Aside0.mk rs
  clear rs
  go_wp2_with (first | ((with_reducible refine gate_builtin (b := .append) (xs := #[.tmp 27, .tmp 30]) rfl ?_); at_builtin; go_loud (refine Kd.R_append_rows (Kd.int .u8) (w0 := w.alloc (.cells #[.int .i64 k, .int .i64 er, .int .i64 tx, .int .i64 id, .int .u64 ti, .int .i64 1, .slice A0 ns.length cp, .bool vb, .int .i64 tag, .int .i64 vv, .string vs, .string s] 44)) (w.heap.size + 1) rfl (.tmp 27) (.tmp 30) 27 5 (.int .u8 0) 1 rfl Try.underlying27 info5 rfl (by decide) (by omega) _ L3 (be 8 ti) _ _ _ (fun _ => True) (fun _ => False) rfl rfl RT4.out.r HC4.out (fun _ _ h => h) (fun _ h => h.elim) (fun _ _ => trivial) RT4.out.b HZ4.out HL4.out ?_); intro v4 w4 hr hb hg hat; have rs : Rs w #[.int .i64 k, .int .i64 er, .int .i64 tx, .int .i64 id, .int .u64 ti, .int .i64 1, .slice A0 ns.length cp, .bool vb, .int .i64 tag, .int .i64 vv, .string vs, .string s] 44 _ v4 w4 := ⟨hr, hb⟩; obtain ⟨L4, hL⟩ : ∃ L, L = L3 ++ be 8 ti := ⟨_, rfl⟩; rw [← hL] at rs; have HN4 := Aside0.mk hL; have HQ4 := Aside0.mk (show L4.length ≤ 520000 from Eq.mpr (by rw [hL, List.length_append]) (row_len HQ3.out HP4.out (by decide))); clear hL; obtain ⟨E4, f4, rfl⟩ := Kd.R_slice rs.r; clear c0 c1 c2 c3 c4 c5 c6 c7 c8 c9 c10 c11 c12; obtain ⟨c0, c1, c2, c3, c4, c5, c6, c7, c8, c9, c10, c11, c12⟩ := blk12 rs.q; have RS4 := Aside0.mk rs; clear rs hr hb hg hat))
  refine (text_ref w4 s (by omega)).mono ?_
  rintro e u5 ⟨x5, rfl, hr, hb⟩
  obtain ⟨B5, d5, rfl⟩ := Kd.R_slice hr
  have rs := RS4.out.grow hb
  have HC5 := Aside0.mk (Kd.R_reads' hr).2.2
  have HZ5 := Aside0.mk rs.z
  have HP5 := Aside0.mk (show (textB s).length ≤ 70000 from text_70 s (by omega))
  have HL5 := Aside0.mk (row_le HQ4.out HP5.out (by decide))
  clear c0 c1 c2 c3 c4 c5 c6 c7 c8 c9 c10 c11 c12 hr hb
  obtain ⟨c0, c1, c2, c3, c4, c5, c6, c7, c8, c9, c10, c11, c12⟩ := blk12 rs.q
  have RT5 := Aside0.mk rs
  clear rs
  go_wp2_with (first | ((with_reducible refine gate_builtin (b := .append) (xs := #[.tmp 32, .tmp 35]) rfl ?_); at_builtin; go_loud (refine Kd.R_append_rows (Kd.int .u8) (w0 := w.alloc (.cells #[.int .i64 k, .int .i64 er, .int .i64 tx, .int .i64 id, .int .u64 ti, .int .i64 1, .slice A0 ns.length cp, .bool vb, .int .i64 tag, .int .i64 vv, .string vs, .string s] 44)) (w.heap.size + 1) rfl (.tmp 32) (.tmp 35) 27 5 (.int .u8 0) 1 rfl Try.underlying27 info5 rfl (by decide) (by omega) _ L4 (textB s) _ _ _ (fun _ => True) (fun _ => False) rfl rfl RT5.out.r HC5.out (fun _ _ h => h) (fun _ h => h.elim) (fun _ _ => trivial) RT5.out.b HZ5.out HL5.out ?_); intro v5 w5 hr hb hg hat; have rs : Rs w #[.int .i64 k, .int .i64 er, .int .i64 tx, .int .i64 id, .int .u64 ti, .int .i64 1, .slice A0 ns.length cp, .bool vb, .int .i64 tag, .int .i64 vv, .string vs, .string s] 44 _ v5 w5 := ⟨hr, hb⟩; obtain ⟨L5, hL⟩ : ∃ L, L = L4 ++ textB s := ⟨_, rfl⟩; rw [← hL] at rs; have HN5 := Aside0.mk hL; have HQ5 := Aside0.mk (show L5.length ≤ 600000 from Eq.mpr (by rw [hL, List.length_append]) (row_len HQ4.out HP5.out (by decide))); clear hL; obtain ⟨E5, f5, rfl⟩ := Kd.R_slice rs.r; clear c0 c1 c2 c3 c4 c5 c6 c7 c8 c9 c10 c11 c12; obtain ⟨c0, c1, c2, c3, c4, c5, c6, c7, c8, c9, c10, c11, c12⟩ := blk12 rs.q; have RS5 := Aside0.mk rs; clear rs hr hb hg hat) | ((with_reducible refine gate_builtin (b := .append) (xs := #[.tmp 37, .tmp 42]) rfl ?_); at_builtin; go_loud (refine app_list (Kd.int .u8) (W := w5) (w.heap.size + 1) rfl (.tmp 37) (.tmp 42) 27 5 (.int .u8 0) 1 rfl Try.underlying27 info5 z5ok _ L5 (1) [.int .u8 (1)] (fun _ => True) (fun _ => False) rfl rfl rfl (fun _ h => h.elim) RS5.out.r RS5.out.z (lit_le HQ5.out (by decide)) ?_); intro A6 d6 w6 hr hch hat; have rs := RS5.out.app hr hch; obtain ⟨L6, hL⟩ : ∃ L, L = L5 ++ [1] := ⟨_, rfl⟩; rw [← hL] at rs; have HN6 := Aside0.mk hL; have hLl : L5.length + 1 = L6.length := (by rw [hL]; simp); clear hL; rw [hLl] at rs ⊢; have HQ6 := Aside0.mk (show L6.length ≤ 680000 from lit_len HQ5.out hLl (by decide)); clear hLl c0 c1 c2 c3 c4 c5 c6 c7 c8 c9 c10 c11 c12; obtain ⟨c0, c1, c2, c3, c4, c5, c6, c7, c8, c9, c10, c11, c12⟩ := blk12 rs.q; have RS6 := Aside0.mk rs; clear rs hr hch hat))
  refine (refnum_calls w6 (ns.length : Int) 2 (by omega) (by omega) (by decide)).mono ?_
  rintro e u7 ⟨x7, rfl, hr, hb⟩
  obtain ⟨B7, d7, rfl⟩ := Kd.R_slice hr
  have rs := RS6.out.grow hb
  have HC7 := Aside0.mk (Kd.R_reads' hr).2.2
  have HZ7 := Aside0.mk rs.z
  have HP7 := Aside0.mk (show (be 2 (ns.length : Int)).length ≤ 70000 from be_70 2 _ (by decide))
  have HL7 := Aside0.mk (row_le HQ6.out HP7.out (by decide))
  clear c0 c1 c2 c3 c4 c5 c6 c7 c8 c9 c10 c11 c12 hr hb
  obtain ⟨c0, c1, c2, c3, c4, c5, c6, c7, c8, c9, c10, c11, c12⟩ := blk12 rs.q
  have RT7 := Aside0.mk rs
  clear rs
  go_wp2_with (first | ((with_reducible refine gate_builtin (b := .append) (xs := #[.tmp 48, .tmp 54]) rfl ?_); at_builtin; go_loud (refine Kd.R_append_rows (Kd.int .u8) (w0 := w.alloc (.cells #[.int .i64 k, .int .i64 er, .int .i64 tx, .int .i64 id, .int .u64 ti, .int .i64 1, .slice A0 ns.length cp, .bool vb, .int .i64 tag, .int .i64 vv, .string vs, .string s] 44)) (w.heap.size + 1) rfl (.tmp 48) (.tmp 54) 27 5 (.int .u8 0) 1 rfl Try.underlying27 info5 rfl (by decide) (by omega) _ L6 (be 2 (ns.length : Int)) _ _ _ (fun _ => True) (fun _ => False) rfl rfl RT7.out.r HC7.out (fun _ _ h => h) (fun _ h => h.elim) (fun _ _ => trivial) RT7.out.b HZ7.out HL7.out ?_); intro v7 w7 hr hb hg hat; have rs : Rs w #[.int .i64 k, .int .i64 er, .int .i64 tx, .int .i64 id, .int .u64 ti, .int .i64 1, .slice A0 ns.length cp, .bool vb, .int .i64 tag, .int .i64 vv, .string vs, .string s] 44 _ v7 w7 := ⟨hr, hb⟩; obtain ⟨L7, hL⟩ : ∃ L, L = L6 ++ be 2 (ns.length : Int) := ⟨_, rfl⟩; rw [← hL] at rs; have HN7 := Aside0.mk hL; have HQ7 := Aside0.mk (show L7.length ≤ 760000 from Eq.mpr (by rw [hL, List.length_append]) (row_len HQ6.out HP7.out (by decide))); clear hL; obtain ⟨E7, f7, rfl⟩ := Kd.R_slice rs.r; clear c0 c1 c2 c3 c4 c5 c6 c7 c8 c9 c10 c11 c12; obtain ⟨c0, c1, c2, c3, c4, c5, c6, c7, c8, c9, c10, c11, c12⟩ := blk12 rs.q; have RS7 := Aside0.mk rs; clear rs hr hb hg hat))
  clear c0 c1 c2 c3 c4 c5 c6 c7 c8 c9 c10 c11 c12
  go_loopw [4, 3] (fun v4 v3 wr => ∃ (j : Nat) (L : List Int) (A : Option Addr) (d : Nat), v4 = .int .i64 j ∧ j ≤ ns.length ∧ v3 = .slice A L.length d ∧ Aside0 (L = L7 ++ beAll (ns.take j)) ∧ Aside0 (Rs w #[.int .i64 k, .int .i64 er, .int .i64 tx, .int .i64 id, .int .u64 ti, .int .i64 1, .slice A0 ns.length cp, .bool vb, .int .i64 tag, .int .i64 vv, .string vs, .string s] 44 L (.slice A L.length d) wr)) (fun v4 v3 _ => (ns.length - intOf v4).toNat)
  case atStart => exact ⟨0, L7, E7, f7, rfl, Nat.zero_le _, rfl, ⟨by simp [beAll]⟩, RS7⟩
  case round =>
    obtain ⟨j, L, A, d, rfl, hj, rfl, HN, RS⟩ := hrel
    obtain ⟨c0, c1, c2, c3, c4, c5, c6, c7, c8, c9, c10, c11, c12⟩ := blk12 RS.out.q
    by_cases hjs : j < ns.length
    · have hjs' : (j : Int) < ns.length := by omega
      have hCw : (Kd.int .i64).C wr A0 ns.length ns := Kd.C_below HCN.out RS.out.old
      obtain ⟨ad, cc, rfl, hce, hK1, hK2⟩ := Kd.C_get hCw (0 : Int) j (by omega) (by omega)
      have e1 : cc = [.int .i64 (rd ns j)] := hK1
      have hcell : wr.cell? (ad.add j) = some (.int .i64 (rd ns j)) := by
        have := hK2 0 (.int .i64 (rd ns j)) (by rw [e1]; rfl)
        rw [show ((j : Int).toNat * (Kd.int .i64).sz + 0) = j from by show (j : Int).toNat * 1 + 0 = j; simp] at this
        exact this
      have hnj : 0 ≤ rd ns j ∧ rd ns j ≤ 2147483647 := HNN.out _ (by rw [show rd ns (j : Int) = ns[j] by simp [rd, List.getD_eq_getElem?_getD, hjs]]; exact List.getElem_mem hjs)
      have htake : beAll (ns.take (j + 1)) = beAll (ns.take j) ++ be 4 (rd ns j) := by
        rw [beAll, beAll, List.take_succ_eq_append_getElem hjs, List.flatMap_append]
        simp [rd, List.getD_eq_getElem?_getD, hjs]
      have HT := Aside0.mk htake
      generalize rd ns (j : Int) = nj at *
      obtain ⟨n0, n1⟩ := hnj
      have hwj : IntKind.u64.wrap nj = nj := by rw [IntKind.wrap_u64]; omega
      have hq := HQ7.out
      have hb4 : (beAll (ns.take j)).length ≤ 4000 := by rw [beAll_len, List.length_take]; omega
      have hll : L.length ≤ 1000000 := by rw [HN.out, List.length_append]; omega
      have HLj := Aside0.mk hll
      clear hq hb4 hll
      clear htake hK1 hK2 hce e1 hCw
      go_wp2_with fail
      refine (refnum_calls wr nj 4 (by omega) (by omega) (by decide)).mono ?_
      rintro e u1 ⟨x1, rfl, hr, hb⟩
      obtain ⟨B1, d1, rfl⟩ := Kd.R_slice hr
      have rs := RS.out.grow hb
      have HC1 := Aside0.mk (Kd.R_reads' hr).2.2
      have HZ1 := Aside0.mk rs.z
      have HL1 := Aside0.mk (row_le HLj.out (be_70 4 nj (by decide)) (by decide))
      clear c0 c1 c2 c3 c4 c5 c6 c7 c8 c9 c10 c11 c12 hr hb
      obtain ⟨c0, c1, c2, c3, c4, c5, c6, c7, c8, c9, c10, c11, c12⟩ := blk12 rs.q
      have RT1 := Aside0.mk rs
      clear rs hcell
      go_wp2_with (first | ((with_reducible refine gate_builtin (b := .append) (xs := #[.tmp 64, .tmp 72]) rfl ?_); at_builtin; go_loud (refine Kd.R_append_rows (Kd.int .u8) (w0 := w.alloc (.cells #[.int .i64 k, .int .i64 er, .int .i64 tx, .int .i64 id, .int .u64 ti, .int .i64 1, .slice (some ad) ns.length cp, .bool vb, .int .i64 tag, .int .i64 vv, .string vs, .string s] 44)) (w.heap.size + 1) rfl (.tmp 64) (.tmp 72) 27 5 (.int .u8 0) 1 rfl Try.underlying27 info5 rfl (by decide) (by omega) _ L (be 4 nj) _ _ _ (fun _ => True) (fun _ => False) rfl rfl RT1.out.r HC1.out (fun _ _ h => h) (fun _ h => h.elim) (fun _ _ => trivial) RT1.out.b HZ1.out HL1.out ?_); intro v1 w1 hr hb hg hat; have rs : Rs w #[.int .i64 k, .int .i64 er, .int .i64 tx, .int .i64 id, .int .u64 ti, .int .i64 1, .slice (some ad) ns.length cp, .bool vb, .int .i64 tag, .int .i64 vv, .string vs, .string s] 44 _ v1 w1 := ⟨hr, hb⟩; obtain ⟨L1, hL⟩ : ∃ L', L' = L ++ be 4 nj := ⟨_, rfl⟩; rw [← hL] at rs; have HN1 := Aside0.mk hL; clear hL; obtain ⟨E1, f1, rfl⟩ := Kd.R_slice rs.r; clear c0 c1 c2 c3 c4 c5 c6 c7 c8 c9 c10 c11 c12; obtain ⟨c0, c1, c2, c3, c4, c5, c6, c7, c8, c9, c10, c11, c12⟩ := blk12 rs.q; have RS1 := Aside0.mk rs; clear rs hr hb hg hat))
      go_roundw
      case rel => exact ⟨j + 1, L1, E1, f1, rfl, by omega, rfl, ⟨by rw [HN1.out, HN.out, HT.out, List.append_assoc]⟩, RS1⟩
      case measure => simp [intOf]; omega
    · have hjs' : ¬ (j : Int) < ns.length := by omega
      have hd0 : ns.take j = ns := List.take_of_length_le (by omega)
      have HF : Rp.bytes ⟨k, er, tx, id, ti, 1, ns, vb, tag, vv, vs, s⟩ = L := by
        have ET : Rp.tail ⟨k, er, tx, id, ti, 1, ns, vb, tag, vv, vs, s⟩ = be 2 (ns.length : Int) ++ beAll ns := by simp [Rp.tail]
        rw [E.out, ET, HN.out, hd0, HN7.out, HN6.out, HN5.out, HN4.out, HN3.out, HN2.out, HN1.out, HN0.out]; simp
      have HG := Aside0.mk HF
      clear HF hd0
      go_wp2
      go_ret
      rw [HG.out]
      exact RS.out.gives
set_option maxRecDepth 100000 in
set_option maxHeartbeats 2000000 in
theorem rep_ref2 (w : World) (r : Rp) (A0 : Option Addr) (cp : Nat) (hC : (Kd.int .i64).C w A0 r.nodes.length r.nodes) (hs : r.small) (hti : r.time ≤ 18446744073709551615) (hss : r.s.size ≤ 9000) (hvs : r.vs.size ≤ 9000) (h2 : r.vt = 2) : Calls Try.prog 20 #[.agg (r.cells (.slice A0 r.nodes.length cp))] w (Gives w r.bytes) := by
  obtain ⟨⟨ka, kb⟩, ⟨ea, eb⟩, ⟨xa, xb⟩, ⟨ia, ib⟩, ta, ss, ⟨va, vb'⟩, nl, nn, ⟨ga, gb⟩, ⟨wa, wb⟩, vl⟩ := hs
  obtain ⟨k, er, tx, id, ti, vt, ns, vb, tag, vv, vs, s⟩ := r
  simp only [Rp.cells] at *
  subst h2
  have hwe : IntKind.u64.wrap er = er := by rw [IntKind.wrap_u64]; omega
  have hwt : IntKind.u64.wrap tx = tx := by rw [IntKind.wrap_u64]; omega
  have hwi : IntKind.u64.wrap id = id := by rw [IntKind.wrap_u64]; omega
  have E := Aside0.mk (show Rp.bytes ⟨k, er, tx, id, ti, 2, ns, vb, tag, vv, vs, s⟩ = ((((((([k] ++ be 2 er) ++ be 4 tx) ++ be 4 id) ++ be 8 ti) ++ textB s) ++ [2]) ++ Rp.tail ⟨k, er, tx, id, ti, 2, ns, vb, tag, vv, vs, s⟩) by simp [Rp.bytes, Rp.head, be1]; omega)
  cases vb
  · skip
    clear hC nn
    go_enter Try.func20, Try.ntmps20
    go_wp2_with (first | ((with_reducible refine gate_dst (N := 8) rfl ?_); refine Kd.R_lit (Kd.int .u8) _ 5 ?hg (N := 8) ?hd (xs := ([k] : List Int)) (inner := [.int .u8 k]) (ok := fun _ => True) (okp := fun _ => True) ?hr ?hp (fun _ hk => hk) trivial (Below.refl _ _) (Nat.le_refl _) (by simp) ?_; (case hd => rfl); (case hg => rfl); (case hr => first | (go_simp; done) | (go_simp; rfl)); (case hp => exact (Reps.one (show Kd.M (Kd.int .u8) _ _ _ k [.int .u8 k] from rfl) (Reps.none _ _))); intro v0 w0 ho hb hg hnew; have rs := Rs.lit ho hb; obtain ⟨L0, hL⟩ : ∃ L, L = ([k] : List Int) := ⟨_, rfl⟩; rw [← hL] at rs; have HN0 := Aside0.mk hL; clear hL; obtain ⟨E0, f0, rfl⟩ := Kd.R_slice rs.r; obtain ⟨c0, c1, c2, c3, c4, c5, c6, c7, c8, c9, c10, c11, c12⟩ := blk12 rs.q; have RS0 := Aside0.mk rs; have HQ0 := Aside0.mk (show L0.length ≤ 200000 by rw [HN0.out]; simp); clear ho hb hg hnew rs))
    refine (refnum_calls w0 er 2 (by omega) (by omega) (by decide)).mono ?_
    rintro e u1 ⟨x1, rfl, hr, hb⟩
    obtain ⟨B1, d1, rfl⟩ := Kd.R_slice hr
    have rs := RS0.out.grow hb
    have HC1 := Aside0.mk (Kd.R_reads' hr).2.2
    have HZ1 := Aside0.mk rs.z
    have HP1 := Aside0.mk (show (be 2 er).length ≤ 70000 from be_70 2 _ (by decide))
    have HL1 := Aside0.mk (row_le HQ0.out HP1.out (by decide))
    clear c0 c1 c2 c3 c4 c5 c6 c7 c8 c9 c10 c11 c12 hr hb
    obtain ⟨c0, c1, c2, c3, c4, c5, c6, c7, c8, c9, c10, c11, c12⟩ := blk12 rs.q
    have RT1 := Aside0.mk rs
    clear rs
    go_wp2_with (first | ((with_reducible refine gate_builtin (b := .append) (xs := #[.tmp 9, .tmp 13]) rfl ?_); at_builtin; go_loud (refine Kd.R_append_rows (Kd.int .u8) (w0 := w.alloc (.cells #[.int .i64 k, .int .i64 er, .int .i64 tx, .int .i64 id, .int .u64 ti, .int .i64 2, .slice A0 ns.length cp, .bool false, .int .i64 tag, .int .i64 vv, .string vs, .string s] 44)) (w.heap.size + 1) rfl (.tmp 9) (.tmp 13) 27 5 (.int .u8 0) 1 rfl Try.underlying27 info5 rfl (by decide) (by omega) _ L0 (be 2 er) _ _ _ (fun _ => True) (fun _ => False) rfl rfl RT1.out.r HC1.out (fun _ _ h => h) (fun _ h => h.elim) (fun _ _ => trivial) RT1.out.b HZ1.out HL1.out ?_); intro v1 w1 hr hb hg hat; have rs : Rs w #[.int .i64 k, .int .i64 er, .int .i64 tx, .int .i64 id, .int .u64 ti, .int .i64 2, .slice A0 ns.length cp, .bool false, .int .i64 tag, .int .i64 vv, .string vs, .string s] 44 _ v1 w1 := ⟨hr, hb⟩; obtain ⟨L1, hL⟩ : ∃ L, L = L0 ++ be 2 er := ⟨_, rfl⟩; rw [← hL] at rs; have HN1 := Aside0.mk hL; have HQ1 := Aside0.mk (show L1.length ≤ 280000 from Eq.mpr (by rw [hL, List.length_append]) (row_len HQ0.out HP1.out (by decide))); clear hL; obtain ⟨E1, f1, rfl⟩ := Kd.R_slice rs.r; clear c0 c1 c2 c3 c4 c5 c6 c7 c8 c9 c10 c11 c12; obtain ⟨c0, c1, c2, c3, c4, c5, c6, c7, c8, c9, c10, c11, c12⟩ := blk12 rs.q; have RS1 := Aside0.mk rs; clear rs hr hb hg hat))
    refine (refnum_calls w1 tx 4 (by omega) (by omega) (by decide)).mono ?_
    rintro e u2 ⟨x2, rfl, hr, hb⟩
    obtain ⟨B2, d2, rfl⟩ := Kd.R_slice hr
    have rs := RS1.out.grow hb
    have HC2 := Aside0.mk (Kd.R_reads' hr).2.2
    have HZ2 := Aside0.mk rs.z
    have HP2 := Aside0.mk (show (be 4 tx).length ≤ 70000 from be_70 4 _ (by decide))
    have HL2 := Aside0.mk (row_le HQ1.out HP2.out (by decide))
    clear c0 c1 c2 c3 c4 c5 c6 c7 c8 c9 c10 c11 c12 hr hb
    obtain ⟨c0, c1, c2, c3, c4, c5, c6, c7, c8, c9, c10, c11, c12⟩ := blk12 rs.q
    have RT2 := Aside0.mk rs
    clear rs
    go_wp2_with (first | ((with_reducible refine gate_builtin (b := .append) (xs := #[.tmp 15, .tmp 19]) rfl ?_); at_builtin; go_loud (refine Kd.R_append_rows (Kd.int .u8) (w0 := w.alloc (.cells #[.int .i64 k, .int .i64 er, .int .i64 tx, .int .i64 id, .int .u64 ti, .int .i64 2, .slice A0 ns.length cp, .bool false, .int .i64 tag, .int .i64 vv, .string vs, .string s] 44)) (w.heap.size + 1) rfl (.tmp 15) (.tmp 19) 27 5 (.int .u8 0) 1 rfl Try.underlying27 info5 rfl (by decide) (by omega) _ L1 (be 4 tx) _ _ _ (fun _ => True) (fun _ => False) rfl rfl RT2.out.r HC2.out (fun _ _ h => h) (fun _ h => h.elim) (fun _ _ => trivial) RT2.out.b HZ2.out HL2.out ?_); intro v2 w2 hr hb hg hat; have rs : Rs w #[.int .i64 k, .int .i64 er, .int .i64 tx, .int .i64 id, .int .u64 ti, .int .i64 2, .slice A0 ns.length cp, .bool false, .int .i64 tag, .int .i64 vv, .string vs, .string s] 44 _ v2 w2 := ⟨hr, hb⟩; obtain ⟨L2, hL⟩ : ∃ L, L = L1 ++ be 4 tx := ⟨_, rfl⟩; rw [← hL] at rs; have HN2 := Aside0.mk hL; have HQ2 := Aside0.mk (show L2.length ≤ 360000 from Eq.mpr (by rw [hL, List.length_append]) (row_len HQ1.out HP2.out (by decide))); clear hL; obtain ⟨E2, f2, rfl⟩ := Kd.R_slice rs.r; clear c0 c1 c2 c3 c4 c5 c6 c7 c8 c9 c10 c11 c12; obtain ⟨c0, c1, c2, c3, c4, c5, c6, c7, c8, c9, c10, c11, c12⟩ := blk12 rs.q; have RS2 := Aside0.mk rs; clear rs hr hb hg hat))
    refine (refnum_calls w2 id 4 (by omega) (by omega) (by decide)).mono ?_
    rintro e u3 ⟨x3, rfl, hr, hb⟩
    obtain ⟨B3, d3, rfl⟩ := Kd.R_slice hr
    have rs := RS2.out.grow hb
    have HC3 := Aside0.mk (Kd.R_reads' hr).2.2
    have HZ3 := Aside0.mk rs.z
    have HP3 := Aside0.mk (show (be 4 id).length ≤ 70000 from be_70 4 _ (by decide))
    have HL3 := Aside0.mk (row_le HQ2.out HP3.out (by decide))
    clear c0 c1 c2 c3 c4 c5 c6 c7 c8 c9 c10 c11 c12 hr hb
    obtain ⟨c0, c1, c2, c3, c4, c5, c6, c7, c8, c9, c10, c11, c12⟩ := blk12 rs.q
    have RT3 := Aside0.mk rs
    clear rs
    go_wp2_with (first | ((with_reducible refine gate_builtin (b := .append) (xs := #[.tmp 21, .tmp 25]) rfl ?_); at_builtin; go_loud (refine Kd.R_append_rows (Kd.int .u8) (w0 := w.alloc (.cells #[.int .i64 k, .int .i64 er, .int .i64 tx, .int .i64 id, .int .u64 ti, .int .i64 2, .slice A0 ns.length cp, .bool false, .int .i64 tag, .int .i64 vv, .string vs, .string s] 44)) (w.heap.size + 1) rfl (.tmp 21) (.tmp 25) 27 5 (.int .u8 0) 1 rfl Try.underlying27 info5 rfl (by decide) (by omega) _ L2 (be 4 id) _ _ _ (fun _ => True) (fun _ => False) rfl rfl RT3.out.r HC3.out (fun _ _ h => h) (fun _ h => h.elim) (fun _ _ => trivial) RT3.out.b HZ3.out HL3.out ?_); intro v3 w3 hr hb hg hat; have rs : Rs w #[.int .i64 k, .int .i64 er, .int .i64 tx, .int .i64 id, .int .u64 ti, .int .i64 2, .slice A0 ns.length cp, .bool false, .int .i64 tag, .int .i64 vv, .string vs, .string s] 44 _ v3 w3 := ⟨hr, hb⟩; obtain ⟨L3, hL⟩ : ∃ L, L = L2 ++ be 4 id := ⟨_, rfl⟩; rw [← hL] at rs; have HN3 := Aside0.mk hL; have HQ3 := Aside0.mk (show L3.length ≤ 440000 from Eq.mpr (by rw [hL, List.length_append]) (row_len HQ2.out HP3.out (by decide))); clear hL; obtain ⟨E3, f3, rfl⟩ := Kd.R_slice rs.r; clear c0 c1 c2 c3 c4 c5 c6 c7 c8 c9 c10 c11 c12; obtain ⟨c0, c1, c2, c3, c4, c5, c6, c7, c8, c9, c10, c11, c12⟩ := blk12 rs.q; have RS3 := Aside0.mk rs; clear rs hr hb hg hat))
    refine (refnum_calls w3 ti 8 (by omega) (by omega) (by decide)).mono ?_
    rintro e u4 ⟨x4, rfl, hr, hb⟩
    obtain ⟨B4, d4, rfl⟩ := Kd.R_slice hr
    have rs := RS3.out.grow hb
    have HC4 := Aside0.mk (Kd.R_reads' hr).2.2
    have HZ4 := Aside0.mk rs.z
    have HP4 := Aside0.mk (show (be 8 ti).length ≤ 70000 from be_70 8 _ (by decide))
    have HL4 := Aside0.mk (row_le HQ3.out HP4.out (by decide))
    clear c0 c1 c2 c3 c4 c5 c6 c7 c8 c9 c10 c11 c12 hr hb
    obtain ⟨c0, c1, c2, c3, c4, c5, c6, c7, c8, c9, c10, c11, c12⟩ := blk12 rs.q
    have RT4 := Aside0.mk rs
    clear rs
    go_wp2_with (first | ((with_reducible refine gate_builtin (b := .append) (xs := #[.tmp 27, .tmp 30]) rfl ?_); at_builtin; go_loud (refine Kd.R_append_rows (Kd.int .u8) (w0 := w.alloc (.cells #[.int .i64 k, .int .i64 er, .int .i64 tx, .int .i64 id, .int .u64 ti, .int .i64 2, .slice A0 ns.length cp, .bool false, .int .i64 tag, .int .i64 vv, .string vs, .string s] 44)) (w.heap.size + 1) rfl (.tmp 27) (.tmp 30) 27 5 (.int .u8 0) 1 rfl Try.underlying27 info5 rfl (by decide) (by omega) _ L3 (be 8 ti) _ _ _ (fun _ => True) (fun _ => False) rfl rfl RT4.out.r HC4.out (fun _ _ h => h) (fun _ h => h.elim) (fun _ _ => trivial) RT4.out.b HZ4.out HL4.out ?_); intro v4 w4 hr hb hg hat; have rs : Rs w #[.int .i64 k, .int .i64 er, .int .i64 tx, .int .i64 id, .int .u64 ti, .int .i64 2, .slice A0 ns.length cp, .bool false, .int .i64 tag, .int .i64 vv, .string vs, .string s] 44 _ v4 w4 := ⟨hr, hb⟩; obtain ⟨L4, hL⟩ : ∃ L, L = L3 ++ be 8 ti := ⟨_, rfl⟩; rw [← hL] at rs; have HN4 := Aside0.mk hL; have HQ4 := Aside0.mk (show L4.length ≤ 520000 from Eq.mpr (by rw [hL, List.length_append]) (row_len HQ3.out HP4.out (by decide))); clear hL; obtain ⟨E4, f4, rfl⟩ := Kd.R_slice rs.r; clear c0 c1 c2 c3 c4 c5 c6 c7 c8 c9 c10 c11 c12; obtain ⟨c0, c1, c2, c3, c4, c5, c6, c7, c8, c9, c10, c11, c12⟩ := blk12 rs.q; have RS4 := Aside0.mk rs; clear rs hr hb hg hat))
    refine (text_ref w4 s (by omega)).mono ?_
    rintro e u5 ⟨x5, rfl, hr, hb⟩
    obtain ⟨B5, d5, rfl⟩ := Kd.R_slice hr
    have rs := RS4.out.grow hb
    have HC5 := Aside0.mk (Kd.R_reads' hr).2.2
    have HZ5 := Aside0.mk rs.z
    have HP5 := Aside0.mk (show (textB s).length ≤ 70000 from text_70 s (by omega))
    have HL5 := Aside0.mk (row_le HQ4.out HP5.out (by decide))
    clear c0 c1 c2 c3 c4 c5 c6 c7 c8 c9 c10 c11 c12 hr hb
    obtain ⟨c0, c1, c2, c3, c4, c5, c6, c7, c8, c9, c10, c11, c12⟩ := blk12 rs.q
    have RT5 := Aside0.mk rs
    clear rs
    go_wp2_with (first | ((with_reducible refine gate_builtin (b := .append) (xs := #[.tmp 32, .tmp 35]) rfl ?_); at_builtin; go_loud (refine Kd.R_append_rows (Kd.int .u8) (w0 := w.alloc (.cells #[.int .i64 k, .int .i64 er, .int .i64 tx, .int .i64 id, .int .u64 ti, .int .i64 2, .slice A0 ns.length cp, .bool false, .int .i64 tag, .int .i64 vv, .string vs, .string s] 44)) (w.heap.size + 1) rfl (.tmp 32) (.tmp 35) 27 5 (.int .u8 0) 1 rfl Try.underlying27 info5 rfl (by decide) (by omega) _ L4 (textB s) _ _ _ (fun _ => True) (fun _ => False) rfl rfl RT5.out.r HC5.out (fun _ _ h => h) (fun _ h => h.elim) (fun _ _ => trivial) RT5.out.b HZ5.out HL5.out ?_); intro v5 w5 hr hb hg hat; have rs : Rs w #[.int .i64 k, .int .i64 er, .int .i64 tx, .int .i64 id, .int .u64 ti, .int .i64 2, .slice A0 ns.length cp, .bool false, .int .i64 tag, .int .i64 vv, .string vs, .string s] 44 _ v5 w5 := ⟨hr, hb⟩; obtain ⟨L5, hL⟩ : ∃ L, L = L4 ++ textB s := ⟨_, rfl⟩; rw [← hL] at rs; have HN5 := Aside0.mk hL; have HQ5 := Aside0.mk (show L5.length ≤ 600000 from Eq.mpr (by rw [hL, List.length_append]) (row_len HQ4.out HP5.out (by decide))); clear hL; obtain ⟨E5, f5, rfl⟩ := Kd.R_slice rs.r; clear c0 c1 c2 c3 c4 c5 c6 c7 c8 c9 c10 c11 c12; obtain ⟨c0, c1, c2, c3, c4, c5, c6, c7, c8, c9, c10, c11, c12⟩ := blk12 rs.q; have RS5 := Aside0.mk rs; clear rs hr hb hg hat) | ((with_reducible refine gate_builtin (b := .append) (xs := #[.tmp 37, .tmp 42]) rfl ?_); at_builtin; go_loud (refine app_list (Kd.int .u8) (W := w5) (w.heap.size + 1) rfl (.tmp 37) (.tmp 42) 27 5 (.int .u8 0) 1 rfl Try.underlying27 info5 z5ok _ L5 (2) [.int .u8 (2)] (fun _ => True) (fun _ => False) rfl rfl rfl (fun _ h => h.elim) RS5.out.r RS5.out.z (lit_le HQ5.out (by decide)) ?_); intro A6 d6 w6 hr hch hat; have rs := RS5.out.app hr hch; obtain ⟨L6, hL⟩ : ∃ L, L = L5 ++ [2] := ⟨_, rfl⟩; rw [← hL] at rs; have HN6 := Aside0.mk hL; have hLl : L5.length + 1 = L6.length := (by rw [hL]; simp); clear hL; rw [hLl] at rs ⊢; have HQ6 := Aside0.mk (show L6.length ≤ 680000 from lit_len HQ5.out hLl (by decide)); clear hLl c0 c1 c2 c3 c4 c5 c6 c7 c8 c9 c10 c11 c12; obtain ⟨c0, c1, c2, c3, c4, c5, c6, c7, c8, c9, c10, c11, c12⟩ := blk12 rs.q; have RS6 := Aside0.mk rs; clear rs hr hch hat) | ((with_reducible refine gate_builtin (b := .append) (xs := #[.tmp 96, .tmp 97]) rfl ?_); at_builtin; go_loud (refine app_list (Kd.int .u8) (W := w6) (w.heap.size + 1) rfl (.tmp 96) (.tmp 97) 27 5 (.int .u8 0) 1 rfl Try.underlying27 info5 z5ok _ L6 (0) [.int .u8 (0)] (fun _ => True) (fun _ => False) rfl rfl rfl (fun _ h => h.elim) RS6.out.r RS6.out.z (lit_le HQ6.out (by decide)) ?_); intro A7 d7 w7 hr hch hat; have rs := RS6.out.app hr hch; obtain ⟨L7, hL⟩ : ∃ L, L = L6 ++ [0] := ⟨_, rfl⟩; rw [← hL] at rs; have HN7 := Aside0.mk hL; have hLl : L6.length + 1 = L7.length := (by rw [hL]; simp); clear hL; rw [hLl] at rs ⊢; have HQ7 := Aside0.mk (show L7.length ≤ 760000 from lit_len HQ6.out hLl (by decide)); clear hLl c0 c1 c2 c3 c4 c5 c6 c7 c8 c9 c10 c11 c12; obtain ⟨c0, c1, c2, c3, c4, c5, c6, c7, c8, c9, c10, c11, c12⟩ := blk12 rs.q; have RS7 := Aside0.mk rs; clear rs hr hch hat))
    go_ret
    have ET : Rp.tail ⟨k, er, tx, id, ti, 2, ns, false, tag, vv, vs, s⟩ = [0] := by simp [Rp.tail, be1, flag]
    rw [E.out, ET]
    have HF : ((((((([k] ++ be 2 er) ++ be 4 tx) ++ be 4 id) ++ be 8 ti) ++ textB s) ++ [2]) ++ ([0])) = L7 := by
      rw [HN7.out, HN6.out, HN5.out, HN4.out, HN3.out, HN2.out, HN1.out, HN0.out] <;> simp
    rw [HF]
    exact RS7.out.gives
  · skip
    clear hC nn
    go_enter Try.func20, Try.ntmps20
    go_wp2_with (first | ((with_reducible refine gate_dst (N := 8) rfl ?_); refine Kd.R_lit (Kd.int .u8) _ 5 ?hg (N := 8) ?hd (xs := ([k] : List Int)) (inner := [.int .u8 k]) (ok := fun _ => True) (okp := fun _ => True) ?hr ?hp (fun _ hk => hk) trivial (Below.refl _ _) (Nat.le_refl _) (by simp) ?_; (case hd => rfl); (case hg => rfl); (case hr => first | (go_simp; done) | (go_simp; rfl)); (case hp => exact (Reps.one (show Kd.M (Kd.int .u8) _ _ _ k [.int .u8 k] from rfl) (Reps.none _ _))); intro v0 w0 ho hb hg hnew; have rs := Rs.lit ho hb; obtain ⟨L0, hL⟩ : ∃ L, L = ([k] : List Int) := ⟨_, rfl⟩; rw [← hL] at rs; have HN0 := Aside0.mk hL; clear hL; obtain ⟨E0, f0, rfl⟩ := Kd.R_slice rs.r; obtain ⟨c0, c1, c2, c3, c4, c5, c6, c7, c8, c9, c10, c11, c12⟩ := blk12 rs.q; have RS0 := Aside0.mk rs; have HQ0 := Aside0.mk (show L0.length ≤ 200000 by rw [HN0.out]; simp); clear ho hb hg hnew rs))
    refine (refnum_calls w0 er 2 (by omega) (by omega) (by decide)).mono ?_
    rintro e u1 ⟨x1, rfl, hr, hb⟩
    obtain ⟨B1, d1, rfl⟩ := Kd.R_slice hr
    have rs := RS0.out.grow hb
    have HC1 := Aside0.mk (Kd.R_reads' hr).2.2
    have HZ1 := Aside0.mk rs.z
    have HP1 := Aside0.mk (show (be 2 er).length ≤ 70000 from be_70 2 _ (by decide))
    have HL1 := Aside0.mk (row_le HQ0.out HP1.out (by decide))
    clear c0 c1 c2 c3 c4 c5 c6 c7 c8 c9 c10 c11 c12 hr hb
    obtain ⟨c0, c1, c2, c3, c4, c5, c6, c7, c8, c9, c10, c11, c12⟩ := blk12 rs.q
    have RT1 := Aside0.mk rs
    clear rs
    go_wp2_with (first | ((with_reducible refine gate_builtin (b := .append) (xs := #[.tmp 9, .tmp 13]) rfl ?_); at_builtin; go_loud (refine Kd.R_append_rows (Kd.int .u8) (w0 := w.alloc (.cells #[.int .i64 k, .int .i64 er, .int .i64 tx, .int .i64 id, .int .u64 ti, .int .i64 2, .slice A0 ns.length cp, .bool true, .int .i64 tag, .int .i64 vv, .string vs, .string s] 44)) (w.heap.size + 1) rfl (.tmp 9) (.tmp 13) 27 5 (.int .u8 0) 1 rfl Try.underlying27 info5 rfl (by decide) (by omega) _ L0 (be 2 er) _ _ _ (fun _ => True) (fun _ => False) rfl rfl RT1.out.r HC1.out (fun _ _ h => h) (fun _ h => h.elim) (fun _ _ => trivial) RT1.out.b HZ1.out HL1.out ?_); intro v1 w1 hr hb hg hat; have rs : Rs w #[.int .i64 k, .int .i64 er, .int .i64 tx, .int .i64 id, .int .u64 ti, .int .i64 2, .slice A0 ns.length cp, .bool true, .int .i64 tag, .int .i64 vv, .string vs, .string s] 44 _ v1 w1 := ⟨hr, hb⟩; obtain ⟨L1, hL⟩ : ∃ L, L = L0 ++ be 2 er := ⟨_, rfl⟩; rw [← hL] at rs; have HN1 := Aside0.mk hL; have HQ1 := Aside0.mk (show L1.length ≤ 280000 from Eq.mpr (by rw [hL, List.length_append]) (row_len HQ0.out HP1.out (by decide))); clear hL; obtain ⟨E1, f1, rfl⟩ := Kd.R_slice rs.r; clear c0 c1 c2 c3 c4 c5 c6 c7 c8 c9 c10 c11 c12; obtain ⟨c0, c1, c2, c3, c4, c5, c6, c7, c8, c9, c10, c11, c12⟩ := blk12 rs.q; have RS1 := Aside0.mk rs; clear rs hr hb hg hat))
    refine (refnum_calls w1 tx 4 (by omega) (by omega) (by decide)).mono ?_
    rintro e u2 ⟨x2, rfl, hr, hb⟩
    obtain ⟨B2, d2, rfl⟩ := Kd.R_slice hr
    have rs := RS1.out.grow hb
    have HC2 := Aside0.mk (Kd.R_reads' hr).2.2
    have HZ2 := Aside0.mk rs.z
    have HP2 := Aside0.mk (show (be 4 tx).length ≤ 70000 from be_70 4 _ (by decide))
    have HL2 := Aside0.mk (row_le HQ1.out HP2.out (by decide))
    clear c0 c1 c2 c3 c4 c5 c6 c7 c8 c9 c10 c11 c12 hr hb
    obtain ⟨c0, c1, c2, c3, c4, c5, c6, c7, c8, c9, c10, c11, c12⟩ := blk12 rs.q
    have RT2 := Aside0.mk rs
    clear rs
    go_wp2_with (first | ((with_reducible refine gate_builtin (b := .append) (xs := #[.tmp 15, .tmp 19]) rfl ?_); at_builtin; go_loud (refine Kd.R_append_rows (Kd.int .u8) (w0 := w.alloc (.cells #[.int .i64 k, .int .i64 er, .int .i64 tx, .int .i64 id, .int .u64 ti, .int .i64 2, .slice A0 ns.length cp, .bool true, .int .i64 tag, .int .i64 vv, .string vs, .string s] 44)) (w.heap.size + 1) rfl (.tmp 15) (.tmp 19) 27 5 (.int .u8 0) 1 rfl Try.underlying27 info5 rfl (by decide) (by omega) _ L1 (be 4 tx) _ _ _ (fun _ => True) (fun _ => False) rfl rfl RT2.out.r HC2.out (fun _ _ h => h) (fun _ h => h.elim) (fun _ _ => trivial) RT2.out.b HZ2.out HL2.out ?_); intro v2 w2 hr hb hg hat; have rs : Rs w #[.int .i64 k, .int .i64 er, .int .i64 tx, .int .i64 id, .int .u64 ti, .int .i64 2, .slice A0 ns.length cp, .bool true, .int .i64 tag, .int .i64 vv, .string vs, .string s] 44 _ v2 w2 := ⟨hr, hb⟩; obtain ⟨L2, hL⟩ : ∃ L, L = L1 ++ be 4 tx := ⟨_, rfl⟩; rw [← hL] at rs; have HN2 := Aside0.mk hL; have HQ2 := Aside0.mk (show L2.length ≤ 360000 from Eq.mpr (by rw [hL, List.length_append]) (row_len HQ1.out HP2.out (by decide))); clear hL; obtain ⟨E2, f2, rfl⟩ := Kd.R_slice rs.r; clear c0 c1 c2 c3 c4 c5 c6 c7 c8 c9 c10 c11 c12; obtain ⟨c0, c1, c2, c3, c4, c5, c6, c7, c8, c9, c10, c11, c12⟩ := blk12 rs.q; have RS2 := Aside0.mk rs; clear rs hr hb hg hat))
    refine (refnum_calls w2 id 4 (by omega) (by omega) (by decide)).mono ?_
    rintro e u3 ⟨x3, rfl, hr, hb⟩
    obtain ⟨B3, d3, rfl⟩ := Kd.R_slice hr
    have rs := RS2.out.grow hb
    have HC3 := Aside0.mk (Kd.R_reads' hr).2.2
    have HZ3 := Aside0.mk rs.z
    have HP3 := Aside0.mk (show (be 4 id).length ≤ 70000 from be_70 4 _ (by decide))
    have HL3 := Aside0.mk (row_le HQ2.out HP3.out (by decide))
    clear c0 c1 c2 c3 c4 c5 c6 c7 c8 c9 c10 c11 c12 hr hb
    obtain ⟨c0, c1, c2, c3, c4, c5, c6, c7, c8, c9, c10, c11, c12⟩ := blk12 rs.q
    have RT3 := Aside0.mk rs
    clear rs
    go_wp2_with (first | ((with_reducible refine gate_builtin (b := .append) (xs := #[.tmp 21, .tmp 25]) rfl ?_); at_builtin; go_loud (refine Kd.R_append_rows (Kd.int .u8) (w0 := w.alloc (.cells #[.int .i64 k, .int .i64 er, .int .i64 tx, .int .i64 id, .int .u64 ti, .int .i64 2, .slice A0 ns.length cp, .bool true, .int .i64 tag, .int .i64 vv, .string vs, .string s] 44)) (w.heap.size + 1) rfl (.tmp 21) (.tmp 25) 27 5 (.int .u8 0) 1 rfl Try.underlying27 info5 rfl (by decide) (by omega) _ L2 (be 4 id) _ _ _ (fun _ => True) (fun _ => False) rfl rfl RT3.out.r HC3.out (fun _ _ h => h) (fun _ h => h.elim) (fun _ _ => trivial) RT3.out.b HZ3.out HL3.out ?_); intro v3 w3 hr hb hg hat; have rs : Rs w #[.int .i64 k, .int .i64 er, .int .i64 tx, .int .i64 id, .int .u64 ti, .int .i64 2, .slice A0 ns.length cp, .bool true, .int .i64 tag, .int .i64 vv, .string vs, .string s] 44 _ v3 w3 := ⟨hr, hb⟩; obtain ⟨L3, hL⟩ : ∃ L, L = L2 ++ be 4 id := ⟨_, rfl⟩; rw [← hL] at rs; have HN3 := Aside0.mk hL; have HQ3 := Aside0.mk (show L3.length ≤ 440000 from Eq.mpr (by rw [hL, List.length_append]) (row_len HQ2.out HP3.out (by decide))); clear hL; obtain ⟨E3, f3, rfl⟩ := Kd.R_slice rs.r; clear c0 c1 c2 c3 c4 c5 c6 c7 c8 c9 c10 c11 c12; obtain ⟨c0, c1, c2, c3, c4, c5, c6, c7, c8, c9, c10, c11, c12⟩ := blk12 rs.q; have RS3 := Aside0.mk rs; clear rs hr hb hg hat))
    refine (refnum_calls w3 ti 8 (by omega) (by omega) (by decide)).mono ?_
    rintro e u4 ⟨x4, rfl, hr, hb⟩
    obtain ⟨B4, d4, rfl⟩ := Kd.R_slice hr
    have rs := RS3.out.grow hb
    have HC4 := Aside0.mk (Kd.R_reads' hr).2.2
    have HZ4 := Aside0.mk rs.z
    have HP4 := Aside0.mk (show (be 8 ti).length ≤ 70000 from be_70 8 _ (by decide))
    have HL4 := Aside0.mk (row_le HQ3.out HP4.out (by decide))
    clear c0 c1 c2 c3 c4 c5 c6 c7 c8 c9 c10 c11 c12 hr hb
    obtain ⟨c0, c1, c2, c3, c4, c5, c6, c7, c8, c9, c10, c11, c12⟩ := blk12 rs.q
    have RT4 := Aside0.mk rs
    clear rs
    go_wp2_with (first | ((with_reducible refine gate_builtin (b := .append) (xs := #[.tmp 27, .tmp 30]) rfl ?_); at_builtin; go_loud (refine Kd.R_append_rows (Kd.int .u8) (w0 := w.alloc (.cells #[.int .i64 k, .int .i64 er, .int .i64 tx, .int .i64 id, .int .u64 ti, .int .i64 2, .slice A0 ns.length cp, .bool true, .int .i64 tag, .int .i64 vv, .string vs, .string s] 44)) (w.heap.size + 1) rfl (.tmp 27) (.tmp 30) 27 5 (.int .u8 0) 1 rfl Try.underlying27 info5 rfl (by decide) (by omega) _ L3 (be 8 ti) _ _ _ (fun _ => True) (fun _ => False) rfl rfl RT4.out.r HC4.out (fun _ _ h => h) (fun _ h => h.elim) (fun _ _ => trivial) RT4.out.b HZ4.out HL4.out ?_); intro v4 w4 hr hb hg hat; have rs : Rs w #[.int .i64 k, .int .i64 er, .int .i64 tx, .int .i64 id, .int .u64 ti, .int .i64 2, .slice A0 ns.length cp, .bool true, .int .i64 tag, .int .i64 vv, .string vs, .string s] 44 _ v4 w4 := ⟨hr, hb⟩; obtain ⟨L4, hL⟩ : ∃ L, L = L3 ++ be 8 ti := ⟨_, rfl⟩; rw [← hL] at rs; have HN4 := Aside0.mk hL; have HQ4 := Aside0.mk (show L4.length ≤ 520000 from Eq.mpr (by rw [hL, List.length_append]) (row_len HQ3.out HP4.out (by decide))); clear hL; obtain ⟨E4, f4, rfl⟩ := Kd.R_slice rs.r; clear c0 c1 c2 c3 c4 c5 c6 c7 c8 c9 c10 c11 c12; obtain ⟨c0, c1, c2, c3, c4, c5, c6, c7, c8, c9, c10, c11, c12⟩ := blk12 rs.q; have RS4 := Aside0.mk rs; clear rs hr hb hg hat))
    refine (text_ref w4 s (by omega)).mono ?_
    rintro e u5 ⟨x5, rfl, hr, hb⟩
    obtain ⟨B5, d5, rfl⟩ := Kd.R_slice hr
    have rs := RS4.out.grow hb
    have HC5 := Aside0.mk (Kd.R_reads' hr).2.2
    have HZ5 := Aside0.mk rs.z
    have HP5 := Aside0.mk (show (textB s).length ≤ 70000 from text_70 s (by omega))
    have HL5 := Aside0.mk (row_le HQ4.out HP5.out (by decide))
    clear c0 c1 c2 c3 c4 c5 c6 c7 c8 c9 c10 c11 c12 hr hb
    obtain ⟨c0, c1, c2, c3, c4, c5, c6, c7, c8, c9, c10, c11, c12⟩ := blk12 rs.q
    have RT5 := Aside0.mk rs
    clear rs
    go_wp2_with (first | ((with_reducible refine gate_builtin (b := .append) (xs := #[.tmp 32, .tmp 35]) rfl ?_); at_builtin; go_loud (refine Kd.R_append_rows (Kd.int .u8) (w0 := w.alloc (.cells #[.int .i64 k, .int .i64 er, .int .i64 tx, .int .i64 id, .int .u64 ti, .int .i64 2, .slice A0 ns.length cp, .bool true, .int .i64 tag, .int .i64 vv, .string vs, .string s] 44)) (w.heap.size + 1) rfl (.tmp 32) (.tmp 35) 27 5 (.int .u8 0) 1 rfl Try.underlying27 info5 rfl (by decide) (by omega) _ L4 (textB s) _ _ _ (fun _ => True) (fun _ => False) rfl rfl RT5.out.r HC5.out (fun _ _ h => h) (fun _ h => h.elim) (fun _ _ => trivial) RT5.out.b HZ5.out HL5.out ?_); intro v5 w5 hr hb hg hat; have rs : Rs w #[.int .i64 k, .int .i64 er, .int .i64 tx, .int .i64 id, .int .u64 ti, .int .i64 2, .slice A0 ns.length cp, .bool true, .int .i64 tag, .int .i64 vv, .string vs, .string s] 44 _ v5 w5 := ⟨hr, hb⟩; obtain ⟨L5, hL⟩ : ∃ L, L = L4 ++ textB s := ⟨_, rfl⟩; rw [← hL] at rs; have HN5 := Aside0.mk hL; have HQ5 := Aside0.mk (show L5.length ≤ 600000 from Eq.mpr (by rw [hL, List.length_append]) (row_len HQ4.out HP5.out (by decide))); clear hL; obtain ⟨E5, f5, rfl⟩ := Kd.R_slice rs.r; clear c0 c1 c2 c3 c4 c5 c6 c7 c8 c9 c10 c11 c12; obtain ⟨c0, c1, c2, c3, c4, c5, c6, c7, c8, c9, c10, c11, c12⟩ := blk12 rs.q; have RS5 := Aside0.mk rs; clear rs hr hb hg hat) | ((with_reducible refine gate_builtin (b := .append) (xs := #[.tmp 37, .tmp 42]) rfl ?_); at_builtin; go_loud (refine app_list (Kd.int .u8) (W := w5) (w.heap.size + 1) rfl (.tmp 37) (.tmp 42) 27 5 (.int .u8 0) 1 rfl Try.underlying27 info5 z5ok _ L5 (2) [.int .u8 (2)] (fun _ => True) (fun _ => False) rfl rfl rfl (fun _ h => h.elim) RS5.out.r RS5.out.z (lit_le HQ5.out (by decide)) ?_); intro A6 d6 w6 hr hch hat; have rs := RS5.out.app hr hch; obtain ⟨L6, hL⟩ : ∃ L, L = L5 ++ [2] := ⟨_, rfl⟩; rw [← hL] at rs; have HN6 := Aside0.mk hL; have hLl : L5.length + 1 = L6.length := (by rw [hL]; simp); clear hL; rw [hLl] at rs ⊢; have HQ6 := Aside0.mk (show L6.length ≤ 680000 from lit_len HQ5.out hLl (by decide)); clear hLl c0 c1 c2 c3 c4 c5 c6 c7 c8 c9 c10 c11 c12; obtain ⟨c0, c1, c2, c3, c4, c5, c6, c7, c8, c9, c10, c11, c12⟩ := blk12 rs.q; have RS6 := Aside0.mk rs; clear rs hr hch hat) | ((with_reducible refine gate_builtin (b := .append) (xs := #[.tmp 83, .tmp 84]) rfl ?_); at_builtin; go_loud (refine app_list (Kd.int .u8) (W := w6) (w.heap.size + 1) rfl (.tmp 83) (.tmp 84) 27 5 (.int .u8 0) 1 rfl Try.underlying27 info5 z5ok _ L6 (1) [.int .u8 (1)] (fun _ => True) (fun _ => False) rfl rfl rfl (fun _ h => h.elim) RS6.out.r RS6.out.z (lit_le HQ6.out (by decide)) ?_); intro A7 d7 w7 hr hch hat; have rs := RS6.out.app hr hch; obtain ⟨L7, hL⟩ : ∃ L, L = L6 ++ [1] := ⟨_, rfl⟩; rw [← hL] at rs; have HN7 := Aside0.mk hL; have hLl : L6.length + 1 = L7.length := (by rw [hL]; simp); clear hL; rw [hLl] at rs ⊢; have HQ7 := Aside0.mk (show L7.length ≤ 760000 from lit_len HQ6.out hLl (by decide)); clear hLl c0 c1 c2 c3 c4 c5 c6 c7 c8 c9 c10 c11 c12; obtain ⟨c0, c1, c2, c3, c4, c5, c6, c7, c8, c9, c10, c11, c12⟩ := blk12 rs.q; have RS7 := Aside0.mk rs; clear rs hr hch hat))
    go_ret
    have ET : Rp.tail ⟨k, er, tx, id, ti, 2, ns, true, tag, vv, vs, s⟩ = [1] := by simp [Rp.tail, be1, flag]
    rw [E.out, ET]
    have HF : ((((((([k] ++ be 2 er) ++ be 4 tx) ++ be 4 id) ++ be 8 ti) ++ textB s) ++ [2]) ++ ([1])) = L7 := by
      rw [HN7.out, HN6.out, HN5.out, HN4.out, HN3.out, HN2.out, HN1.out, HN0.out] <;> simp
    rw [HF]
    exact RS7.out.gives
set_option maxRecDepth 100000 in
set_option maxHeartbeats 2000000 in
theorem rep_ref3 (w : World) (r : Rp) (A0 : Option Addr) (cp : Nat) (hC : (Kd.int .i64).C w A0 r.nodes.length r.nodes) (hs : r.small) (hti : r.time ≤ 18446744073709551615) (hss : r.s.size ≤ 9000) (hvs : r.vs.size ≤ 9000) (h2 : r.vt = 3) : Calls Try.prog 20 #[.agg (r.cells (.slice A0 r.nodes.length cp))] w (Gives w r.bytes) := by
  obtain ⟨⟨ka, kb⟩, ⟨ea, eb⟩, ⟨xa, xb⟩, ⟨ia, ib⟩, ta, ss, ⟨va, vb'⟩, nl, nn, ⟨ga, gb⟩, ⟨wa, wb⟩, vl⟩ := hs
  obtain ⟨k, er, tx, id, ti, vt, ns, vb, tag, vv, vs, s⟩ := r
  simp only [Rp.cells] at *
  subst h2
  have hwe : IntKind.u64.wrap er = er := by rw [IntKind.wrap_u64]; omega
  have hwt : IntKind.u64.wrap tx = tx := by rw [IntKind.wrap_u64]; omega
  have hwi : IntKind.u64.wrap id = id := by rw [IntKind.wrap_u64]; omega
  have E := Aside0.mk (show Rp.bytes ⟨k, er, tx, id, ti, 3, ns, vb, tag, vv, vs, s⟩ = ((((((([k] ++ be 2 er) ++ be 4 tx) ++ be 4 id) ++ be 8 ti) ++ textB s) ++ [3]) ++ Rp.tail ⟨k, er, tx, id, ti, 3, ns, vb, tag, vv, vs, s⟩) by simp [Rp.bytes, Rp.head, be1]; omega)
  clear hC nn
  go_enter Try.func20, Try.ntmps20
  go_wp2_with (first | ((with_reducible refine gate_dst (N := 8) rfl ?_); refine Kd.R_lit (Kd.int .u8) _ 5 ?hg (N := 8) ?hd (xs := ([k] : List Int)) (inner := [.int .u8 k]) (ok := fun _ => True) (okp := fun _ => True) ?hr ?hp (fun _ hk => hk) trivial (Below.refl _ _) (Nat.le_refl _) (by simp) ?_; (case hd => rfl); (case hg => rfl); (case hr => first | (go_simp; done) | (go_simp; rfl)); (case hp => exact (Reps.one (show Kd.M (Kd.int .u8) _ _ _ k [.int .u8 k] from rfl) (Reps.none _ _))); intro v0 w0 ho hb hg hnew; have rs := Rs.lit ho hb; obtain ⟨L0, hL⟩ : ∃ L, L = ([k] : List Int) := ⟨_, rfl⟩; rw [← hL] at rs; have HN0 := Aside0.mk hL; clear hL; obtain ⟨E0, f0, rfl⟩ := Kd.R_slice rs.r; obtain ⟨c0, c1, c2, c3, c4, c5, c6, c7, c8, c9, c10, c11, c12⟩ := blk12 rs.q; have RS0 := Aside0.mk rs; have HQ0 := Aside0.mk (show L0.length ≤ 200000 by rw [HN0.out]; simp); clear ho hb hg hnew rs))
  refine (refnum_calls w0 er 2 (by omega) (by omega) (by decide)).mono ?_
  rintro e u1 ⟨x1, rfl, hr, hb⟩
  obtain ⟨B1, d1, rfl⟩ := Kd.R_slice hr
  have rs := RS0.out.grow hb
  have HC1 := Aside0.mk (Kd.R_reads' hr).2.2
  have HZ1 := Aside0.mk rs.z
  have HP1 := Aside0.mk (show (be 2 er).length ≤ 70000 from be_70 2 _ (by decide))
  have HL1 := Aside0.mk (row_le HQ0.out HP1.out (by decide))
  clear c0 c1 c2 c3 c4 c5 c6 c7 c8 c9 c10 c11 c12 hr hb
  obtain ⟨c0, c1, c2, c3, c4, c5, c6, c7, c8, c9, c10, c11, c12⟩ := blk12 rs.q
  have RT1 := Aside0.mk rs
  clear rs
  go_wp2_with (first | ((with_reducible refine gate_builtin (b := .append) (xs := #[.tmp 9, .tmp 13]) rfl ?_); at_builtin; go_loud (refine Kd.R_append_rows (Kd.int .u8) (w0 := w.alloc (.cells #[.int .i64 k, .int .i64 er, .int .i64 tx, .int .i64 id, .int .u64 ti, .int .i64 3, .slice A0 ns.length cp, .bool vb, .int .i64 tag, .int .i64 vv, .string vs, .string s] 44)) (w.heap.size + 1) rfl (.tmp 9) (.tmp 13) 27 5 (.int .u8 0) 1 rfl Try.underlying27 info5 rfl (by decide) (by omega) _ L0 (be 2 er) _ _ _ (fun _ => True) (fun _ => False) rfl rfl RT1.out.r HC1.out (fun _ _ h => h) (fun _ h => h.elim) (fun _ _ => trivial) RT1.out.b HZ1.out HL1.out ?_); intro v1 w1 hr hb hg hat; have rs : Rs w #[.int .i64 k, .int .i64 er, .int .i64 tx, .int .i64 id, .int .u64 ti, .int .i64 3, .slice A0 ns.length cp, .bool vb, .int .i64 tag, .int .i64 vv, .string vs, .string s] 44 _ v1 w1 := ⟨hr, hb⟩; obtain ⟨L1, hL⟩ : ∃ L, L = L0 ++ be 2 er := ⟨_, rfl⟩; rw [← hL] at rs; have HN1 := Aside0.mk hL; have HQ1 := Aside0.mk (show L1.length ≤ 280000 from Eq.mpr (by rw [hL, List.length_append]) (row_len HQ0.out HP1.out (by decide))); clear hL; obtain ⟨E1, f1, rfl⟩ := Kd.R_slice rs.r; clear c0 c1 c2 c3 c4 c5 c6 c7 c8 c9 c10 c11 c12; obtain ⟨c0, c1, c2, c3, c4, c5, c6, c7, c8, c9, c10, c11, c12⟩ := blk12 rs.q; have RS1 := Aside0.mk rs; clear rs hr hb hg hat))
  refine (refnum_calls w1 tx 4 (by omega) (by omega) (by decide)).mono ?_
  rintro e u2 ⟨x2, rfl, hr, hb⟩
  obtain ⟨B2, d2, rfl⟩ := Kd.R_slice hr
  have rs := RS1.out.grow hb
  have HC2 := Aside0.mk (Kd.R_reads' hr).2.2
  have HZ2 := Aside0.mk rs.z
  have HP2 := Aside0.mk (show (be 4 tx).length ≤ 70000 from be_70 4 _ (by decide))
  have HL2 := Aside0.mk (row_le HQ1.out HP2.out (by decide))
  clear c0 c1 c2 c3 c4 c5 c6 c7 c8 c9 c10 c11 c12 hr hb
  obtain ⟨c0, c1, c2, c3, c4, c5, c6, c7, c8, c9, c10, c11, c12⟩ := blk12 rs.q
  have RT2 := Aside0.mk rs
  clear rs
  go_wp2_with (first | ((with_reducible refine gate_builtin (b := .append) (xs := #[.tmp 15, .tmp 19]) rfl ?_); at_builtin; go_loud (refine Kd.R_append_rows (Kd.int .u8) (w0 := w.alloc (.cells #[.int .i64 k, .int .i64 er, .int .i64 tx, .int .i64 id, .int .u64 ti, .int .i64 3, .slice A0 ns.length cp, .bool vb, .int .i64 tag, .int .i64 vv, .string vs, .string s] 44)) (w.heap.size + 1) rfl (.tmp 15) (.tmp 19) 27 5 (.int .u8 0) 1 rfl Try.underlying27 info5 rfl (by decide) (by omega) _ L1 (be 4 tx) _ _ _ (fun _ => True) (fun _ => False) rfl rfl RT2.out.r HC2.out (fun _ _ h => h) (fun _ h => h.elim) (fun _ _ => trivial) RT2.out.b HZ2.out HL2.out ?_); intro v2 w2 hr hb hg hat; have rs : Rs w #[.int .i64 k, .int .i64 er, .int .i64 tx, .int .i64 id, .int .u64 ti, .int .i64 3, .slice A0 ns.length cp, .bool vb, .int .i64 tag, .int .i64 vv, .string vs, .string s] 44 _ v2 w2 := ⟨hr, hb⟩; obtain ⟨L2, hL⟩ : ∃ L, L = L1 ++ be 4 tx := ⟨_, rfl⟩; rw [← hL] at rs; have HN2 := Aside0.mk hL; have HQ2 := Aside0.mk (show L2.length ≤ 360000 from Eq.mpr (by rw [hL, List.length_append]) (row_len HQ1.out HP2.out (by decide))); clear hL; obtain ⟨E2, f2, rfl⟩ := Kd.R_slice rs.r; clear c0 c1 c2 c3 c4 c5 c6 c7 c8 c9 c10 c11 c12; obtain ⟨c0, c1, c2, c3, c4, c5, c6, c7, c8, c9, c10, c11, c12⟩ := blk12 rs.q; have RS2 := Aside0.mk rs; clear rs hr hb hg hat))
  refine (refnum_calls w2 id 4 (by omega) (by omega) (by decide)).mono ?_
  rintro e u3 ⟨x3, rfl, hr, hb⟩
  obtain ⟨B3, d3, rfl⟩ := Kd.R_slice hr
  have rs := RS2.out.grow hb
  have HC3 := Aside0.mk (Kd.R_reads' hr).2.2
  have HZ3 := Aside0.mk rs.z
  have HP3 := Aside0.mk (show (be 4 id).length ≤ 70000 from be_70 4 _ (by decide))
  have HL3 := Aside0.mk (row_le HQ2.out HP3.out (by decide))
  clear c0 c1 c2 c3 c4 c5 c6 c7 c8 c9 c10 c11 c12 hr hb
  obtain ⟨c0, c1, c2, c3, c4, c5, c6, c7, c8, c9, c10, c11, c12⟩ := blk12 rs.q
  have RT3 := Aside0.mk rs
  clear rs
  go_wp2_with (first | ((with_reducible refine gate_builtin (b := .append) (xs := #[.tmp 21, .tmp 25]) rfl ?_); at_builtin; go_loud (refine Kd.R_append_rows (Kd.int .u8) (w0 := w.alloc (.cells #[.int .i64 k, .int .i64 er, .int .i64 tx, .int .i64 id, .int .u64 ti, .int .i64 3, .slice A0 ns.length cp, .bool vb, .int .i64 tag, .int .i64 vv, .string vs, .string s] 44)) (w.heap.size + 1) rfl (.tmp 21) (.tmp 25) 27 5 (.int .u8 0) 1 rfl Try.underlying27 info5 rfl (by decide) (by omega) _ L2 (be 4 id) _ _ _ (fun _ => True) (fun _ => False) rfl rfl RT3.out.r HC3.out (fun _ _ h => h) (fun _ h => h.elim) (fun _ _ => trivial) RT3.out.b HZ3.out HL3.out ?_); intro v3 w3 hr hb hg hat; have rs : Rs w #[.int .i64 k, .int .i64 er, .int .i64 tx, .int .i64 id, .int .u64 ti, .int .i64 3, .slice A0 ns.length cp, .bool vb, .int .i64 tag, .int .i64 vv, .string vs, .string s] 44 _ v3 w3 := ⟨hr, hb⟩; obtain ⟨L3, hL⟩ : ∃ L, L = L2 ++ be 4 id := ⟨_, rfl⟩; rw [← hL] at rs; have HN3 := Aside0.mk hL; have HQ3 := Aside0.mk (show L3.length ≤ 440000 from Eq.mpr (by rw [hL, List.length_append]) (row_len HQ2.out HP3.out (by decide))); clear hL; obtain ⟨E3, f3, rfl⟩ := Kd.R_slice rs.r; clear c0 c1 c2 c3 c4 c5 c6 c7 c8 c9 c10 c11 c12; obtain ⟨c0, c1, c2, c3, c4, c5, c6, c7, c8, c9, c10, c11, c12⟩ := blk12 rs.q; have RS3 := Aside0.mk rs; clear rs hr hb hg hat))
  refine (refnum_calls w3 ti 8 (by omega) (by omega) (by decide)).mono ?_
  rintro e u4 ⟨x4, rfl, hr, hb⟩
  obtain ⟨B4, d4, rfl⟩ := Kd.R_slice hr
  have rs := RS3.out.grow hb
  have HC4 := Aside0.mk (Kd.R_reads' hr).2.2
  have HZ4 := Aside0.mk rs.z
  have HP4 := Aside0.mk (show (be 8 ti).length ≤ 70000 from be_70 8 _ (by decide))
  have HL4 := Aside0.mk (row_le HQ3.out HP4.out (by decide))
  clear c0 c1 c2 c3 c4 c5 c6 c7 c8 c9 c10 c11 c12 hr hb
  obtain ⟨c0, c1, c2, c3, c4, c5, c6, c7, c8, c9, c10, c11, c12⟩ := blk12 rs.q
  have RT4 := Aside0.mk rs
  clear rs
  go_wp2_with (first | ((with_reducible refine gate_builtin (b := .append) (xs := #[.tmp 27, .tmp 30]) rfl ?_); at_builtin; go_loud (refine Kd.R_append_rows (Kd.int .u8) (w0 := w.alloc (.cells #[.int .i64 k, .int .i64 er, .int .i64 tx, .int .i64 id, .int .u64 ti, .int .i64 3, .slice A0 ns.length cp, .bool vb, .int .i64 tag, .int .i64 vv, .string vs, .string s] 44)) (w.heap.size + 1) rfl (.tmp 27) (.tmp 30) 27 5 (.int .u8 0) 1 rfl Try.underlying27 info5 rfl (by decide) (by omega) _ L3 (be 8 ti) _ _ _ (fun _ => True) (fun _ => False) rfl rfl RT4.out.r HC4.out (fun _ _ h => h) (fun _ h => h.elim) (fun _ _ => trivial) RT4.out.b HZ4.out HL4.out ?_); intro v4 w4 hr hb hg hat; have rs : Rs w #[.int .i64 k, .int .i64 er, .int .i64 tx, .int .i64 id, .int .u64 ti, .int .i64 3, .slice A0 ns.length cp, .bool vb, .int .i64 tag, .int .i64 vv, .string vs, .string s] 44 _ v4 w4 := ⟨hr, hb⟩; obtain ⟨L4, hL⟩ : ∃ L, L = L3 ++ be 8 ti := ⟨_, rfl⟩; rw [← hL] at rs; have HN4 := Aside0.mk hL; have HQ4 := Aside0.mk (show L4.length ≤ 520000 from Eq.mpr (by rw [hL, List.length_append]) (row_len HQ3.out HP4.out (by decide))); clear hL; obtain ⟨E4, f4, rfl⟩ := Kd.R_slice rs.r; clear c0 c1 c2 c3 c4 c5 c6 c7 c8 c9 c10 c11 c12; obtain ⟨c0, c1, c2, c3, c4, c5, c6, c7, c8, c9, c10, c11, c12⟩ := blk12 rs.q; have RS4 := Aside0.mk rs; clear rs hr hb hg hat))
  refine (text_ref w4 s (by omega)).mono ?_
  rintro e u5 ⟨x5, rfl, hr, hb⟩
  obtain ⟨B5, d5, rfl⟩ := Kd.R_slice hr
  have rs := RS4.out.grow hb
  have HC5 := Aside0.mk (Kd.R_reads' hr).2.2
  have HZ5 := Aside0.mk rs.z
  have HP5 := Aside0.mk (show (textB s).length ≤ 70000 from text_70 s (by omega))
  have HL5 := Aside0.mk (row_le HQ4.out HP5.out (by decide))
  clear c0 c1 c2 c3 c4 c5 c6 c7 c8 c9 c10 c11 c12 hr hb
  obtain ⟨c0, c1, c2, c3, c4, c5, c6, c7, c8, c9, c10, c11, c12⟩ := blk12 rs.q
  have RT5 := Aside0.mk rs
  clear rs
  go_wp2_with (first | ((with_reducible refine gate_builtin (b := .append) (xs := #[.tmp 32, .tmp 35]) rfl ?_); at_builtin; go_loud (refine Kd.R_append_rows (Kd.int .u8) (w0 := w.alloc (.cells #[.int .i64 k, .int .i64 er, .int .i64 tx, .int .i64 id, .int .u64 ti, .int .i64 3, .slice A0 ns.length cp, .bool vb, .int .i64 tag, .int .i64 vv, .string vs, .string s] 44)) (w.heap.size + 1) rfl (.tmp 32) (.tmp 35) 27 5 (.int .u8 0) 1 rfl Try.underlying27 info5 rfl (by decide) (by omega) _ L4 (textB s) _ _ _ (fun _ => True) (fun _ => False) rfl rfl RT5.out.r HC5.out (fun _ _ h => h) (fun _ h => h.elim) (fun _ _ => trivial) RT5.out.b HZ5.out HL5.out ?_); intro v5 w5 hr hb hg hat; have rs : Rs w #[.int .i64 k, .int .i64 er, .int .i64 tx, .int .i64 id, .int .u64 ti, .int .i64 3, .slice A0 ns.length cp, .bool vb, .int .i64 tag, .int .i64 vv, .string vs, .string s] 44 _ v5 w5 := ⟨hr, hb⟩; obtain ⟨L5, hL⟩ : ∃ L, L = L4 ++ textB s := ⟨_, rfl⟩; rw [← hL] at rs; have HN5 := Aside0.mk hL; have HQ5 := Aside0.mk (show L5.length ≤ 600000 from Eq.mpr (by rw [hL, List.length_append]) (row_len HQ4.out HP5.out (by decide))); clear hL; obtain ⟨E5, f5, rfl⟩ := Kd.R_slice rs.r; clear c0 c1 c2 c3 c4 c5 c6 c7 c8 c9 c10 c11 c12; obtain ⟨c0, c1, c2, c3, c4, c5, c6, c7, c8, c9, c10, c11, c12⟩ := blk12 rs.q; have RS5 := Aside0.mk rs; clear rs hr hb hg hat) | ((with_reducible refine gate_builtin (b := .append) (xs := #[.tmp 37, .tmp 42]) rfl ?_); at_builtin; go_loud (refine app_list (Kd.int .u8) (W := w5) (w.heap.size + 1) rfl (.tmp 37) (.tmp 42) 27 5 (.int .u8 0) 1 rfl Try.underlying27 info5 z5ok _ L5 (3) [.int .u8 (3)] (fun _ => True) (fun _ => False) rfl rfl rfl (fun _ h => h.elim) RS5.out.r RS5.out.z (lit_le HQ5.out (by decide)) ?_); intro A6 d6 w6 hr hch hat; have rs := RS5.out.app hr hch; obtain ⟨L6, hL⟩ : ∃ L, L = L5 ++ [3] := ⟨_, rfl⟩; rw [← hL] at rs; have HN6 := Aside0.mk hL; have hLl : L5.length + 1 = L6.length := (by rw [hL]; simp); clear hL; rw [hLl] at rs ⊢; have HQ6 := Aside0.mk (show L6.length ≤ 680000 from lit_len HQ5.out hLl (by decide)); clear hLl c0 c1 c2 c3 c4 c5 c6 c7 c8 c9 c10 c11 c12; obtain ⟨c0, c1, c2, c3, c4, c5, c6, c7, c8, c9, c10, c11, c12⟩ := blk12 rs.q; have RS6 := Aside0.mk rs; clear rs hr hch hat) | ((with_reducible refine gate_builtin (b := .append) (xs := #[.tmp 103, .tmp 109]) rfl ?_); at_builtin; go_loud (refine app_list (Kd.int .u8) (W := w6) (w.heap.size + 1) rfl (.tmp 103) (.tmp 109) 27 5 (.int .u8 0) 1 rfl Try.underlying27 info5 z5ok _ L6 (tag) [.int .u8 (tag)] (fun _ => True) (fun _ => False) rfl rfl rfl (fun _ h => h.elim) RS6.out.r RS6.out.z (lit_le HQ6.out (by decide)) ?_); intro A7 d7 w7 hr hch hat; have rs := RS6.out.app hr hch; obtain ⟨L7, hL⟩ : ∃ L, L = L6 ++ [tag] := ⟨_, rfl⟩; rw [← hL] at rs; have HN7 := Aside0.mk hL; have hLl : L6.length + 1 = L7.length := (by rw [hL]; simp); clear hL; rw [hLl] at rs ⊢; have HQ7 := Aside0.mk (show L7.length ≤ 760000 from lit_len HQ6.out hLl (by decide)); clear hLl c0 c1 c2 c3 c4 c5 c6 c7 c8 c9 c10 c11 c12; obtain ⟨c0, c1, c2, c3, c4, c5, c6, c7, c8, c9, c10, c11, c12⟩ := blk12 rs.q; have RS7 := Aside0.mk rs; clear rs hr hch hat))
  refine (refnum_calls w7 (IntKind.u64.wrap vv) 8 (by rw [IntKind.wrap_u64]; omega) (by rw [IntKind.wrap_u64]; omega) (by decide)).mono ?_
  rintro e u8 ⟨x8, rfl, hr, hb⟩
  obtain ⟨B8, d8, rfl⟩ := Kd.R_slice hr
  have rs := RS7.out.grow hb
  have HC8 := Aside0.mk (Kd.R_reads' hr).2.2
  have HZ8 := Aside0.mk rs.z
  have HP8 := Aside0.mk (show (be 8 (IntKind.u64.wrap vv)).length ≤ 70000 from be_70 8 _ (by decide))
  have HL8 := Aside0.mk (row_le HQ7.out HP8.out (by decide))
  clear c0 c1 c2 c3 c4 c5 c6 c7 c8 c9 c10 c11 c12 hr hb
  obtain ⟨c0, c1, c2, c3, c4, c5, c6, c7, c8, c9, c10, c11, c12⟩ := blk12 rs.q
  have RT8 := Aside0.mk rs
  clear rs
  go_wp2_with (first | ((with_reducible refine gate_builtin (b := .append) (xs := #[.tmp 111, .tmp 117]) rfl ?_); at_builtin; go_loud (refine Kd.R_append_rows (Kd.int .u8) (w0 := w.alloc (.cells #[.int .i64 k, .int .i64 er, .int .i64 tx, .int .i64 id, .int .u64 ti, .int .i64 3, .slice A0 ns.length cp, .bool vb, .int .i64 tag, .int .i64 vv, .string vs, .string s] 44)) (w.heap.size + 1) rfl (.tmp 111) (.tmp 117) 27 5 (.int .u8 0) 1 rfl Try.underlying27 info5 rfl (by decide) (by omega) _ L7 (be 8 (IntKind.u64.wrap vv)) _ _ _ (fun _ => True) (fun _ => False) rfl rfl RT8.out.r HC8.out (fun _ _ h => h) (fun _ h => h.elim) (fun _ _ => trivial) RT8.out.b HZ8.out HL8.out ?_); intro v8 w8 hr hb hg hat; have rs : Rs w #[.int .i64 k, .int .i64 er, .int .i64 tx, .int .i64 id, .int .u64 ti, .int .i64 3, .slice A0 ns.length cp, .bool vb, .int .i64 tag, .int .i64 vv, .string vs, .string s] 44 _ v8 w8 := ⟨hr, hb⟩; obtain ⟨L8, hL⟩ : ∃ L, L = L7 ++ be 8 (IntKind.u64.wrap vv) := ⟨_, rfl⟩; rw [← hL] at rs; have HN8 := Aside0.mk hL; have HQ8 := Aside0.mk (show L8.length ≤ 840000 from Eq.mpr (by rw [hL, List.length_append]) (row_len HQ7.out HP8.out (by decide))); clear hL; obtain ⟨E8, f8, rfl⟩ := Kd.R_slice rs.r; clear c0 c1 c2 c3 c4 c5 c6 c7 c8 c9 c10 c11 c12; obtain ⟨c0, c1, c2, c3, c4, c5, c6, c7, c8, c9, c10, c11, c12⟩ := blk12 rs.q; have RS8 := Aside0.mk rs; clear rs hr hb hg hat))
  go_ret
  have ET : Rp.tail ⟨k, er, tx, id, ti, 3, ns, vb, tag, vv, vs, s⟩ = [tag] ++ be 8 (IntKind.u64.wrap vv) := by simp [Rp.tail, be1] <;> omega
  rw [E.out, ET]
  have HF : ((((((([k] ++ be 2 er) ++ be 4 tx) ++ be 4 id) ++ be 8 ti) ++ textB s) ++ [3]) ++ ([tag] ++ be 8 (IntKind.u64.wrap vv))) = L8 := by
    rw [HN8.out, HN7.out, HN6.out, HN5.out, HN4.out, HN3.out, HN2.out, HN1.out, HN0.out] <;> simp
  rw [HF]
  exact RS8.out.gives
set_option maxRecDepth 100000 in
set_option maxHeartbeats 2000000 in
theorem rep_ref4 (w : World) (r : Rp) (A0 : Option Addr) (cp : Nat) (hC : (Kd.int .i64).C w A0 r.nodes.length r.nodes) (hs : r.small) (hti : r.time ≤ 18446744073709551615) (hss : r.s.size ≤ 9000) (hvs : r.vs.size ≤ 9000) (h2 : r.vt = 4) : Calls Try.prog 20 #[.agg (r.cells (.slice A0 r.nodes.length cp))] w (Gives w r.bytes) := by
  obtain ⟨⟨ka, kb⟩, ⟨ea, eb⟩, ⟨xa, xb⟩, ⟨ia, ib⟩, ta, ss, ⟨va, vb'⟩, nl, nn, ⟨ga, gb⟩, ⟨wa, wb⟩, vl⟩ := hs
  obtain ⟨k, er, tx, id, ti, vt, ns, vb, tag, vv, vs, s⟩ := r
  simp only [Rp.cells] at *
  subst h2
  have hwe : IntKind.u64.wrap er = er := by rw [IntKind.wrap_u64]; omega
  have hwt : IntKind.u64.wrap tx = tx := by rw [IntKind.wrap_u64]; omega
  have hwi : IntKind.u64.wrap id = id := by rw [IntKind.wrap_u64]; omega
  have E := Aside0.mk (show Rp.bytes ⟨k, er, tx, id, ti, 4, ns, vb, tag, vv, vs, s⟩ = ((((((([k] ++ be 2 er) ++ be 4 tx) ++ be 4 id) ++ be 8 ti) ++ textB s) ++ [4]) ++ Rp.tail ⟨k, er, tx, id, ti, 4, ns, vb, tag, vv, vs, s⟩) by simp [Rp.bytes, Rp.head, be1]; omega)
  clear hC nn
  go_enter Try.func20, Try.ntmps20
  go_wp2_with (first | ((with_reducible refine gate_dst (N := 8) rfl ?_); refine Kd.R_lit (Kd.int .u8) _ 5 ?hg (N := 8) ?hd (xs := ([k] : List Int)) (inner := [.int .u8 k]) (ok := fun _ => True) (okp := fun _ => True) ?hr ?hp (fun _ hk => hk) trivial (Below.refl _ _) (Nat.le_refl _) (by simp) ?_; (case hd => rfl); (case hg => rfl); (case hr => first | (go_simp; done) | (go_simp; rfl)); (case hp => exact (Reps.one (show Kd.M (Kd.int .u8) _ _ _ k [.int .u8 k] from rfl) (Reps.none _ _))); intro v0 w0 ho hb hg hnew; have rs := Rs.lit ho hb; obtain ⟨L0, hL⟩ : ∃ L, L = ([k] : List Int) := ⟨_, rfl⟩; rw [← hL] at rs; have HN0 := Aside0.mk hL; clear hL; obtain ⟨E0, f0, rfl⟩ := Kd.R_slice rs.r; obtain ⟨c0, c1, c2, c3, c4, c5, c6, c7, c8, c9, c10, c11, c12⟩ := blk12 rs.q; have RS0 := Aside0.mk rs; have HQ0 := Aside0.mk (show L0.length ≤ 200000 by rw [HN0.out]; simp); clear ho hb hg hnew rs))
  refine (refnum_calls w0 er 2 (by omega) (by omega) (by decide)).mono ?_
  rintro e u1 ⟨x1, rfl, hr, hb⟩
  obtain ⟨B1, d1, rfl⟩ := Kd.R_slice hr
  have rs := RS0.out.grow hb
  have HC1 := Aside0.mk (Kd.R_reads' hr).2.2
  have HZ1 := Aside0.mk rs.z
  have HP1 := Aside0.mk (show (be 2 er).length ≤ 70000 from be_70 2 _ (by decide))
  have HL1 := Aside0.mk (row_le HQ0.out HP1.out (by decide))
  clear c0 c1 c2 c3 c4 c5 c6 c7 c8 c9 c10 c11 c12 hr hb
  obtain ⟨c0, c1, c2, c3, c4, c5, c6, c7, c8, c9, c10, c11, c12⟩ := blk12 rs.q
  have RT1 := Aside0.mk rs
  clear rs
  go_wp2_with (first | ((with_reducible refine gate_builtin (b := .append) (xs := #[.tmp 9, .tmp 13]) rfl ?_); at_builtin; go_loud (refine Kd.R_append_rows (Kd.int .u8) (w0 := w.alloc (.cells #[.int .i64 k, .int .i64 er, .int .i64 tx, .int .i64 id, .int .u64 ti, .int .i64 4, .slice A0 ns.length cp, .bool vb, .int .i64 tag, .int .i64 vv, .string vs, .string s] 44)) (w.heap.size + 1) rfl (.tmp 9) (.tmp 13) 27 5 (.int .u8 0) 1 rfl Try.underlying27 info5 rfl (by decide) (by omega) _ L0 (be 2 er) _ _ _ (fun _ => True) (fun _ => False) rfl rfl RT1.out.r HC1.out (fun _ _ h => h) (fun _ h => h.elim) (fun _ _ => trivial) RT1.out.b HZ1.out HL1.out ?_); intro v1 w1 hr hb hg hat; have rs : Rs w #[.int .i64 k, .int .i64 er, .int .i64 tx, .int .i64 id, .int .u64 ti, .int .i64 4, .slice A0 ns.length cp, .bool vb, .int .i64 tag, .int .i64 vv, .string vs, .string s] 44 _ v1 w1 := ⟨hr, hb⟩; obtain ⟨L1, hL⟩ : ∃ L, L = L0 ++ be 2 er := ⟨_, rfl⟩; rw [← hL] at rs; have HN1 := Aside0.mk hL; have HQ1 := Aside0.mk (show L1.length ≤ 280000 from Eq.mpr (by rw [hL, List.length_append]) (row_len HQ0.out HP1.out (by decide))); clear hL; obtain ⟨E1, f1, rfl⟩ := Kd.R_slice rs.r; clear c0 c1 c2 c3 c4 c5 c6 c7 c8 c9 c10 c11 c12; obtain ⟨c0, c1, c2, c3, c4, c5, c6, c7, c8, c9, c10, c11, c12⟩ := blk12 rs.q; have RS1 := Aside0.mk rs; clear rs hr hb hg hat))
  refine (refnum_calls w1 tx 4 (by omega) (by omega) (by decide)).mono ?_
  rintro e u2 ⟨x2, rfl, hr, hb⟩
  obtain ⟨B2, d2, rfl⟩ := Kd.R_slice hr
  have rs := RS1.out.grow hb
  have HC2 := Aside0.mk (Kd.R_reads' hr).2.2
  have HZ2 := Aside0.mk rs.z
  have HP2 := Aside0.mk (show (be 4 tx).length ≤ 70000 from be_70 4 _ (by decide))
  have HL2 := Aside0.mk (row_le HQ1.out HP2.out (by decide))
  clear c0 c1 c2 c3 c4 c5 c6 c7 c8 c9 c10 c11 c12 hr hb
  obtain ⟨c0, c1, c2, c3, c4, c5, c6, c7, c8, c9, c10, c11, c12⟩ := blk12 rs.q
  have RT2 := Aside0.mk rs
  clear rs
  go_wp2_with (first | ((with_reducible refine gate_builtin (b := .append) (xs := #[.tmp 15, .tmp 19]) rfl ?_); at_builtin; go_loud (refine Kd.R_append_rows (Kd.int .u8) (w0 := w.alloc (.cells #[.int .i64 k, .int .i64 er, .int .i64 tx, .int .i64 id, .int .u64 ti, .int .i64 4, .slice A0 ns.length cp, .bool vb, .int .i64 tag, .int .i64 vv, .string vs, .string s] 44)) (w.heap.size + 1) rfl (.tmp 15) (.tmp 19) 27 5 (.int .u8 0) 1 rfl Try.underlying27 info5 rfl (by decide) (by omega) _ L1 (be 4 tx) _ _ _ (fun _ => True) (fun _ => False) rfl rfl RT2.out.r HC2.out (fun _ _ h => h) (fun _ h => h.elim) (fun _ _ => trivial) RT2.out.b HZ2.out HL2.out ?_); intro v2 w2 hr hb hg hat; have rs : Rs w #[.int .i64 k, .int .i64 er, .int .i64 tx, .int .i64 id, .int .u64 ti, .int .i64 4, .slice A0 ns.length cp, .bool vb, .int .i64 tag, .int .i64 vv, .string vs, .string s] 44 _ v2 w2 := ⟨hr, hb⟩; obtain ⟨L2, hL⟩ : ∃ L, L = L1 ++ be 4 tx := ⟨_, rfl⟩; rw [← hL] at rs; have HN2 := Aside0.mk hL; have HQ2 := Aside0.mk (show L2.length ≤ 360000 from Eq.mpr (by rw [hL, List.length_append]) (row_len HQ1.out HP2.out (by decide))); clear hL; obtain ⟨E2, f2, rfl⟩ := Kd.R_slice rs.r; clear c0 c1 c2 c3 c4 c5 c6 c7 c8 c9 c10 c11 c12; obtain ⟨c0, c1, c2, c3, c4, c5, c6, c7, c8, c9, c10, c11, c12⟩ := blk12 rs.q; have RS2 := Aside0.mk rs; clear rs hr hb hg hat))
  refine (refnum_calls w2 id 4 (by omega) (by omega) (by decide)).mono ?_
  rintro e u3 ⟨x3, rfl, hr, hb⟩
  obtain ⟨B3, d3, rfl⟩ := Kd.R_slice hr
  have rs := RS2.out.grow hb
  have HC3 := Aside0.mk (Kd.R_reads' hr).2.2
  have HZ3 := Aside0.mk rs.z
  have HP3 := Aside0.mk (show (be 4 id).length ≤ 70000 from be_70 4 _ (by decide))
  have HL3 := Aside0.mk (row_le HQ2.out HP3.out (by decide))
  clear c0 c1 c2 c3 c4 c5 c6 c7 c8 c9 c10 c11 c12 hr hb
  obtain ⟨c0, c1, c2, c3, c4, c5, c6, c7, c8, c9, c10, c11, c12⟩ := blk12 rs.q
  have RT3 := Aside0.mk rs
  clear rs
  go_wp2_with (first | ((with_reducible refine gate_builtin (b := .append) (xs := #[.tmp 21, .tmp 25]) rfl ?_); at_builtin; go_loud (refine Kd.R_append_rows (Kd.int .u8) (w0 := w.alloc (.cells #[.int .i64 k, .int .i64 er, .int .i64 tx, .int .i64 id, .int .u64 ti, .int .i64 4, .slice A0 ns.length cp, .bool vb, .int .i64 tag, .int .i64 vv, .string vs, .string s] 44)) (w.heap.size + 1) rfl (.tmp 21) (.tmp 25) 27 5 (.int .u8 0) 1 rfl Try.underlying27 info5 rfl (by decide) (by omega) _ L2 (be 4 id) _ _ _ (fun _ => True) (fun _ => False) rfl rfl RT3.out.r HC3.out (fun _ _ h => h) (fun _ h => h.elim) (fun _ _ => trivial) RT3.out.b HZ3.out HL3.out ?_); intro v3 w3 hr hb hg hat; have rs : Rs w #[.int .i64 k, .int .i64 er, .int .i64 tx, .int .i64 id, .int .u64 ti, .int .i64 4, .slice A0 ns.length cp, .bool vb, .int .i64 tag, .int .i64 vv, .string vs, .string s] 44 _ v3 w3 := ⟨hr, hb⟩; obtain ⟨L3, hL⟩ : ∃ L, L = L2 ++ be 4 id := ⟨_, rfl⟩; rw [← hL] at rs; have HN3 := Aside0.mk hL; have HQ3 := Aside0.mk (show L3.length ≤ 440000 from Eq.mpr (by rw [hL, List.length_append]) (row_len HQ2.out HP3.out (by decide))); clear hL; obtain ⟨E3, f3, rfl⟩ := Kd.R_slice rs.r; clear c0 c1 c2 c3 c4 c5 c6 c7 c8 c9 c10 c11 c12; obtain ⟨c0, c1, c2, c3, c4, c5, c6, c7, c8, c9, c10, c11, c12⟩ := blk12 rs.q; have RS3 := Aside0.mk rs; clear rs hr hb hg hat))
  refine (refnum_calls w3 ti 8 (by omega) (by omega) (by decide)).mono ?_
  rintro e u4 ⟨x4, rfl, hr, hb⟩
  obtain ⟨B4, d4, rfl⟩ := Kd.R_slice hr
  have rs := RS3.out.grow hb
  have HC4 := Aside0.mk (Kd.R_reads' hr).2.2
  have HZ4 := Aside0.mk rs.z
  have HP4 := Aside0.mk (show (be 8 ti).length ≤ 70000 from be_70 8 _ (by decide))
  have HL4 := Aside0.mk (row_le HQ3.out HP4.out (by decide))
  clear c0 c1 c2 c3 c4 c5 c6 c7 c8 c9 c10 c11 c12 hr hb
  obtain ⟨c0, c1, c2, c3, c4, c5, c6, c7, c8, c9, c10, c11, c12⟩ := blk12 rs.q
  have RT4 := Aside0.mk rs
  clear rs
  go_wp2_with (first | ((with_reducible refine gate_builtin (b := .append) (xs := #[.tmp 27, .tmp 30]) rfl ?_); at_builtin; go_loud (refine Kd.R_append_rows (Kd.int .u8) (w0 := w.alloc (.cells #[.int .i64 k, .int .i64 er, .int .i64 tx, .int .i64 id, .int .u64 ti, .int .i64 4, .slice A0 ns.length cp, .bool vb, .int .i64 tag, .int .i64 vv, .string vs, .string s] 44)) (w.heap.size + 1) rfl (.tmp 27) (.tmp 30) 27 5 (.int .u8 0) 1 rfl Try.underlying27 info5 rfl (by decide) (by omega) _ L3 (be 8 ti) _ _ _ (fun _ => True) (fun _ => False) rfl rfl RT4.out.r HC4.out (fun _ _ h => h) (fun _ h => h.elim) (fun _ _ => trivial) RT4.out.b HZ4.out HL4.out ?_); intro v4 w4 hr hb hg hat; have rs : Rs w #[.int .i64 k, .int .i64 er, .int .i64 tx, .int .i64 id, .int .u64 ti, .int .i64 4, .slice A0 ns.length cp, .bool vb, .int .i64 tag, .int .i64 vv, .string vs, .string s] 44 _ v4 w4 := ⟨hr, hb⟩; obtain ⟨L4, hL⟩ : ∃ L, L = L3 ++ be 8 ti := ⟨_, rfl⟩; rw [← hL] at rs; have HN4 := Aside0.mk hL; have HQ4 := Aside0.mk (show L4.length ≤ 520000 from Eq.mpr (by rw [hL, List.length_append]) (row_len HQ3.out HP4.out (by decide))); clear hL; obtain ⟨E4, f4, rfl⟩ := Kd.R_slice rs.r; clear c0 c1 c2 c3 c4 c5 c6 c7 c8 c9 c10 c11 c12; obtain ⟨c0, c1, c2, c3, c4, c5, c6, c7, c8, c9, c10, c11, c12⟩ := blk12 rs.q; have RS4 := Aside0.mk rs; clear rs hr hb hg hat))
  refine (text_ref w4 s (by omega)).mono ?_
  rintro e u5 ⟨x5, rfl, hr, hb⟩
  obtain ⟨B5, d5, rfl⟩ := Kd.R_slice hr
  have rs := RS4.out.grow hb
  have HC5 := Aside0.mk (Kd.R_reads' hr).2.2
  have HZ5 := Aside0.mk rs.z
  have HP5 := Aside0.mk (show (textB s).length ≤ 70000 from text_70 s (by omega))
  have HL5 := Aside0.mk (row_le HQ4.out HP5.out (by decide))
  clear c0 c1 c2 c3 c4 c5 c6 c7 c8 c9 c10 c11 c12 hr hb
  obtain ⟨c0, c1, c2, c3, c4, c5, c6, c7, c8, c9, c10, c11, c12⟩ := blk12 rs.q
  have RT5 := Aside0.mk rs
  clear rs
  go_wp2_with (first | ((with_reducible refine gate_builtin (b := .append) (xs := #[.tmp 32, .tmp 35]) rfl ?_); at_builtin; go_loud (refine Kd.R_append_rows (Kd.int .u8) (w0 := w.alloc (.cells #[.int .i64 k, .int .i64 er, .int .i64 tx, .int .i64 id, .int .u64 ti, .int .i64 4, .slice A0 ns.length cp, .bool vb, .int .i64 tag, .int .i64 vv, .string vs, .string s] 44)) (w.heap.size + 1) rfl (.tmp 32) (.tmp 35) 27 5 (.int .u8 0) 1 rfl Try.underlying27 info5 rfl (by decide) (by omega) _ L4 (textB s) _ _ _ (fun _ => True) (fun _ => False) rfl rfl RT5.out.r HC5.out (fun _ _ h => h) (fun _ h => h.elim) (fun _ _ => trivial) RT5.out.b HZ5.out HL5.out ?_); intro v5 w5 hr hb hg hat; have rs : Rs w #[.int .i64 k, .int .i64 er, .int .i64 tx, .int .i64 id, .int .u64 ti, .int .i64 4, .slice A0 ns.length cp, .bool vb, .int .i64 tag, .int .i64 vv, .string vs, .string s] 44 _ v5 w5 := ⟨hr, hb⟩; obtain ⟨L5, hL⟩ : ∃ L, L = L4 ++ textB s := ⟨_, rfl⟩; rw [← hL] at rs; have HN5 := Aside0.mk hL; have HQ5 := Aside0.mk (show L5.length ≤ 600000 from Eq.mpr (by rw [hL, List.length_append]) (row_len HQ4.out HP5.out (by decide))); clear hL; obtain ⟨E5, f5, rfl⟩ := Kd.R_slice rs.r; clear c0 c1 c2 c3 c4 c5 c6 c7 c8 c9 c10 c11 c12; obtain ⟨c0, c1, c2, c3, c4, c5, c6, c7, c8, c9, c10, c11, c12⟩ := blk12 rs.q; have RS5 := Aside0.mk rs; clear rs hr hb hg hat) | ((with_reducible refine gate_builtin (b := .append) (xs := #[.tmp 37, .tmp 42]) rfl ?_); at_builtin; go_loud (refine app_list (Kd.int .u8) (W := w5) (w.heap.size + 1) rfl (.tmp 37) (.tmp 42) 27 5 (.int .u8 0) 1 rfl Try.underlying27 info5 z5ok _ L5 (4) [.int .u8 (4)] (fun _ => True) (fun _ => False) rfl rfl rfl (fun _ h => h.elim) RS5.out.r RS5.out.z (lit_le HQ5.out (by decide)) ?_); intro A6 d6 w6 hr hch hat; have rs := RS5.out.app hr hch; obtain ⟨L6, hL⟩ : ∃ L, L = L5 ++ [4] := ⟨_, rfl⟩; rw [← hL] at rs; have HN6 := Aside0.mk hL; have hLl : L5.length + 1 = L6.length := (by rw [hL]; simp); clear hL; rw [hLl] at rs ⊢; have HQ6 := Aside0.mk (show L6.length ≤ 680000 from lit_len HQ5.out hLl (by decide)); clear hLl c0 c1 c2 c3 c4 c5 c6 c7 c8 c9 c10 c11 c12; obtain ⟨c0, c1, c2, c3, c4, c5, c6, c7, c8, c9, c10, c11, c12⟩ := blk12 rs.q; have RS6 := Aside0.mk rs; clear rs hr hch hat))
  refine (text_ref w6 vs (by omega)).mono ?_
  rintro e u7 ⟨x7, rfl, hr, hb⟩
  obtain ⟨B7, d7, rfl⟩ := Kd.R_slice hr
  have rs := RS6.out.grow hb
  have HC7 := Aside0.mk (Kd.R_reads' hr).2.2
  have HZ7 := Aside0.mk rs.z
  have HP7 := Aside0.mk (show (textB vs).length ≤ 70000 from text_70 vs (by omega))
  have HL7 := Aside0.mk (row_le HQ6.out HP7.out (by decide))
  clear c0 c1 c2 c3 c4 c5 c6 c7 c8 c9 c10 c11 c12 hr hb
  obtain ⟨c0, c1, c2, c3, c4, c5, c6, c7, c8, c9, c10, c11, c12⟩ := blk12 rs.q
  have RT7 := Aside0.mk rs
  clear rs
  go_wp2_with (first | ((with_reducible refine gate_builtin (b := .append) (xs := #[.tmp 123, .tmp 127]) rfl ?_); at_builtin; go_loud (refine Kd.R_append_rows (Kd.int .u8) (w0 := w.alloc (.cells #[.int .i64 k, .int .i64 er, .int .i64 tx, .int .i64 id, .int .u64 ti, .int .i64 4, .slice A0 ns.length cp, .bool vb, .int .i64 tag, .int .i64 vv, .string vs, .string s] 44)) (w.heap.size + 1) rfl (.tmp 123) (.tmp 127) 27 5 (.int .u8 0) 1 rfl Try.underlying27 info5 rfl (by decide) (by omega) _ L6 (textB vs) _ _ _ (fun _ => True) (fun _ => False) rfl rfl RT7.out.r HC7.out (fun _ _ h => h) (fun _ h => h.elim) (fun _ _ => trivial) RT7.out.b HZ7.out HL7.out ?_); intro v7 w7 hr hb hg hat; have rs : Rs w #[.int .i64 k, .int .i64 er, .int .i64 tx, .int .i64 id, .int .u64 ti, .int .i64 4, .slice A0 ns.length cp, .bool vb, .int .i64 tag, .int .i64 vv, .string vs, .string s] 44 _ v7 w7 := ⟨hr, hb⟩; obtain ⟨L7, hL⟩ : ∃ L, L = L6 ++ textB vs := ⟨_, rfl⟩; rw [← hL] at rs; have HN7 := Aside0.mk hL; have HQ7 := Aside0.mk (show L7.length ≤ 760000 from Eq.mpr (by rw [hL, List.length_append]) (row_len HQ6.out HP7.out (by decide))); clear hL; obtain ⟨E7, f7, rfl⟩ := Kd.R_slice rs.r; clear c0 c1 c2 c3 c4 c5 c6 c7 c8 c9 c10 c11 c12; obtain ⟨c0, c1, c2, c3, c4, c5, c6, c7, c8, c9, c10, c11, c12⟩ := blk12 rs.q; have RS7 := Aside0.mk rs; clear rs hr hb hg hat))
  go_ret
  have ET : Rp.tail ⟨k, er, tx, id, ti, 4, ns, vb, tag, vv, vs, s⟩ = textB vs := by simp [Rp.tail, be1]
  rw [E.out, ET]
  have HF : ((((((([k] ++ be 2 er) ++ be 4 tx) ++ be 4 id) ++ be 8 ti) ++ textB s) ++ [4]) ++ (textB vs)) = L7 := by
    rw [HN7.out, HN6.out, HN5.out, HN4.out, HN3.out, HN2.out, HN1.out, HN0.out] <;> simp
  rw [HF]
  exact RS7.out.gives
theorem rep_ref (w : World) (r : Rp) (A0 : Option Addr) (cp : Nat) (hC : (Kd.int .i64).C w A0 r.nodes.length r.nodes) (hs : r.small) (hti : r.time ≤ 18446744073709551615) (hss : r.s.size ≤ 9000) (hvs : r.vs.size ≤ 9000) : Calls Try.prog 20 #[.agg (r.cells (.slice A0 r.nodes.length cp))] w (Gives w r.bytes) := by
  have hv := hs.vt
  by_cases h1 : r.vt = 1
  · exact rep_ref1 w r A0 cp hC hs hti hss hvs h1
  by_cases h2 : r.vt = 2
  · exact rep_ref2 w r A0 cp hC hs hti hss hvs h2
  by_cases h3 : r.vt = 3
  · exact rep_ref3 w r A0 cp hC hs hti hss hvs h3
  by_cases h4 : r.vt = 4
  · exact rep_ref4 w r A0 cp hC hs hti hss hvs h4
  exact rep_ref0 w r A0 cp hC hs hti hss hvs (by omega)
end Go.Proofs.Ythkdihpbdaehbaa.Pr
namespace Go.Proofs.Ythkdihpbdaehbaa.Pr
set_option linter.unusedVariables false
set_option linter.unusedSimpArgs false
open Go.RowKit Go.Proofs.YthkdihpbdaehbaaW.PrintWords Go.Proofs.YthkdihpbdaehbaaW.PrintLast Go.Proofs.YthkdihpbdaehbaaW.PrintMore Go.Proofs.Ythkdihpbdaehbaa.Bs
/-- The box of the parameter, there still. -/
structure At (w : World) (cs : Array Value) (t : Nat) (w1 : World) : Prop where
  q : w1.heap[w.heap.size]? = some (.cells cs t (0, 0))
  b : Below w.heap.size w w1
theorem At.start (w : World) (cs : Array Value) (t : Nat) : At w cs t (w.alloc (.cells cs t)) := ⟨heap_alloc_new w _, below_alloc (Below.refl _ _) _⟩
theorem At.next {w w1 w2 : World} {cs : Array Value} {t : Nat} (h : At w cs t w1) (hb : Below w1.heap.size w1 w2) : At w cs t w2 := ⟨(hb.block _ (blk_lt h.q)).trans h.q, below_step h.b hb⟩
def True_ (w : World) (e : Ending) (w' : World) : Prop := e = .returned (.bool true) ∧ Below w.heap.size w w'
set_option maxRecDepth 100000 in
set_option maxHeartbeats 600000 in
theorem reqs_l1 (w : World) (k : Int) (s : ByteArray) (o i p : Int) (nm os : ByteArray) (h1 : 9000 < s.size) : Calls Try.prog 3 #[.agg #[.int .i64 k, .string s, .int .i64 o, .int .i64 i, .int .i64 p, .string nm, .string os]] w (True_ w) := by
  have h1' : 9000 < (s.size : Int) := by omega
  clear h1
  go_enter Try.func3, Try.ntmps3
  go_wp2_with fail
  refine (works_calls _).mono ?_
  rintro e v0 ⟨rfl, hbv⟩
  have HV := Aside0.mk (below_step (below_alloc (Below.refl _ _) _) hbv)
  clear hbv
  go_wp2_with fail
  go_ret
  exact ⟨rfl, HV.out⟩
set_option maxRecDepth 100000 in
set_option maxHeartbeats 600000 in
theorem reqs_l2 (w : World) (k : Int) (s : ByteArray) (o i p : Int) (nm os : ByteArray) (h1 : ¬ 9000 < s.size) (h2 : 9000 < os.size) : Calls Try.prog 3 #[.agg #[.int .i64 k, .string s, .int .i64 o, .int .i64 i, .int .i64 p, .string nm, .string os]] w (True_ w) := by
  have h1' : ¬ 9000 < (s.size : Int) := by omega
  have h2' : 9000 < (os.size : Int) := by omega
  clear h1 h2
  go_enter Try.func3, Try.ntmps3
  go_wp2_with fail
  refine (works_calls _).mono ?_
  rintro e v0 ⟨rfl, hbv⟩
  have HV := Aside0.mk (below_step (below_alloc (Below.refl _ _) _) hbv)
  clear hbv
  go_wp2_with fail
  go_ret
  exact ⟨rfl, HV.out⟩
set_option maxRecDepth 100000 in
set_option maxHeartbeats 600000 in
theorem reqs_l3 (w : World) (k : Int) (s : ByteArray) (o i p : Int) (nm os : ByteArray) (h1 : ¬ 9000 < s.size) (h2 : ¬ 9000 < os.size) (h3 : 9000 < nm.size) : Calls Try.prog 3 #[.agg #[.int .i64 k, .string s, .int .i64 o, .int .i64 i, .int .i64 p, .string nm, .string os]] w (True_ w) := by
  have h1' : ¬ 9000 < (s.size : Int) := by omega
  have h2' : ¬ 9000 < (os.size : Int) := by omega
  have h3' : 9000 < (nm.size : Int) := by omega
  clear h1 h2 h3
  go_enter Try.func3, Try.ntmps3
  go_wp2_with fail
  refine (works_calls _).mono ?_
  rintro e v0 ⟨rfl, hbv⟩
  have HV := Aside0.mk (below_step (below_alloc (Below.refl _ _) _) hbv)
  clear hbv
  go_wp2_with fail
  go_ret
  exact ⟨rfl, HV.out⟩
set_option maxRecDepth 100000 in
set_option maxHeartbeats 600000 in
theorem reqs_f (w : World) (k : Int) (s : ByteArray) (o i p : Int) (nm os : ByteArray) (h1 : ¬ 9000 < s.size) (h2 : ¬ 9000 < os.size) (h3 : ¬ 9000 < nm.size) (hr : rightB ⟨k, s, o, i, p, nm, os⟩ = false) (hp : putReq ⟨k, s, o, i, p, nm, os⟩ = ([], 2)) : Calls Try.prog 3 #[.agg #[.int .i64 k, .string s, .int .i64 o, .int .i64 i, .int .i64 p, .string nm, .string os]] w (True_ w) := by
  have C1 := putReq_calls (w.alloc (.cells #[.int .i64 k, .string s, .int .i64 o, .int .i64 i, .int .i64 p, .string nm, .string os] 25)) ⟨k, s, o, i, p, nm, os⟩
  have C2 := Aside0.mk (fun w => rightRef_calls w ⟨k, s, o, i, p, nm, os⟩)
  have C3 := Aside0.mk (fun w => right_calls w ⟨k, s, o, i, p, nm, os⟩)
  rw [hp] at C1
  rw [hr] at C2 C3
  simp only [Rq.cells] at C1 C2 C3
  clear hp
  have h1' : ¬ 9000 < (s.size : Int) := by omega
  have h2' : ¬ 9000 < (os.size : Int) := by omega
  have h3' : ¬ 9000 < (nm.size : Int) := by omega
  clear h1 h2 h3
  go_enter Try.func3, Try.ntmps3
  go_wp2_with fail
  refine C1.mono ?_
  rintro e w1 ⟨⟨A, c, rfl, hR1⟩, hb⟩
  have at1 := (At.start w #[.int .i64 k, .string s, .int .i64 o, .int .i64 i, .int .i64 p, .string nm, .string os] 25).next hb
  obtain ⟨c0, c1, c2, c3, c4, c5, c6, c7⟩ := blk7 at1.q
  have AT1 := Aside0.mk at1
  have HR1 := Aside0.mk hR1
  clear hb at1 C1 hR1
  go_wp2_with fail
  refine (C2.out w1).mono ?_
  rintro e w2 ⟨rfl, hb⟩
  have at2 := AT1.out.next hb
  clear c0 c1 c2 c3 c4 c5 c6 c7
  obtain ⟨c0, c1, c2, c3, c4, c5, c6, c7⟩ := blk7 at2.q
  have AT2 := Aside0.mk at2
  have HR2 := Aside0.mk (Kd.R_below HR1.out hb)
  clear hb at2
  go_wp2_with fail
  refine (C3.out w2).mono ?_
  rintro e w3 ⟨rfl, hb⟩
  have at3 := AT2.out.next hb
  clear c0 c1 c2 c3 c4 c5 c6 c7
  obtain ⟨c0, c1, c2, c3, c4, c5, c6, c7⟩ := blk7 at3.q
  have AT3 := Aside0.mk at3
  have HR3 := Aside0.mk (Kd.R_below HR2.out hb)
  clear hb at3
  go_wp2_with fail
  refine (works_calls _).mono ?_
  rintro e v0 ⟨rfl, hbv⟩
  have HV := Aside0.mk (below_step AT3.out.b hbv)
  clear hbv
  go_wp2_with fail
  go_ret
  exact ⟨rfl, HV.out⟩
set_option maxRecDepth 100000 in
set_option maxHeartbeats 600000 in
theorem reqs_b (w : World) (k : Int) (s : ByteArray) (o i p : Int) (nm os : ByteArray) (h1 : ¬ 9000 < s.size) (h2 : ¬ 9000 < os.size) (h3 : ¬ 9000 < nm.size) (hr : rightB ⟨k, s, o, i, p, nm, os⟩ = true) (hp : putReq ⟨k, s, o, i, p, nm, os⟩ = ([], 3)) (hl : 4200 < (Rq.bytes ⟨k, s, o, i, p, nm, os⟩).length) : Calls Try.prog 3 #[.agg #[.int .i64 k, .string s, .int .i64 o, .int .i64 i, .int .i64 p, .string nm, .string os]] w (True_ w) := by
  have C4 := Aside0.mk (fun w => req_ref w ⟨k, s, o, i, p, nm, os⟩ (right_small _ hr))
  simp only [Rq.cells] at C4
  generalize Rq.bytes ⟨k, s, o, i, p, nm, os⟩ = bs at *
  have hl' : 4200 < (bs.length : Int) := by omega
  clear hl
  have C1 := putReq_calls (w.alloc (.cells #[.int .i64 k, .string s, .int .i64 o, .int .i64 i, .int .i64 p, .string nm, .string os] 25)) ⟨k, s, o, i, p, nm, os⟩
  have C2 := Aside0.mk (fun w => rightRef_calls w ⟨k, s, o, i, p, nm, os⟩)
  have C3 := Aside0.mk (fun w => right_calls w ⟨k, s, o, i, p, nm, os⟩)
  rw [hp] at C1
  rw [hr] at C2 C3
  simp only [Rq.cells] at C1 C2 C3
  clear hp
  have h1' : ¬ 9000 < (s.size : Int) := by omega
  have h2' : ¬ 9000 < (os.size : Int) := by omega
  have h3' : ¬ 9000 < (nm.size : Int) := by omega
  clear h1 h2 h3
  go_enter Try.func3, Try.ntmps3
  go_wp2_with fail
  refine C1.mono ?_
  rintro e w1 ⟨⟨A, c, rfl, hR1⟩, hb⟩
  have at1 := (At.start w #[.int .i64 k, .string s, .int .i64 o, .int .i64 i, .int .i64 p, .string nm, .string os] 25).next hb
  obtain ⟨c0, c1, c2, c3, c4, c5, c6, c7⟩ := blk7 at1.q
  have AT1 := Aside0.mk at1
  have HR1 := Aside0.mk hR1
  clear hb at1 C1 hR1
  go_wp2_with fail
  refine (C2.out w1).mono ?_
  rintro e w2 ⟨rfl, hb⟩
  have at2 := AT1.out.next hb
  clear c0 c1 c2 c3 c4 c5 c6 c7
  obtain ⟨c0, c1, c2, c3, c4, c5, c6, c7⟩ := blk7 at2.q
  have AT2 := Aside0.mk at2
  have HR2 := Aside0.mk (Kd.R_below HR1.out hb)
  clear hb at2
  go_wp2_with fail
  refine (C3.out w2).mono ?_
  rintro e w3 ⟨rfl, hb⟩
  have at3 := AT2.out.next hb
  clear c0 c1 c2 c3 c4 c5 c6 c7
  obtain ⟨c0, c1, c2, c3, c4, c5, c6, c7⟩ := blk7 at3.q
  have AT3 := Aside0.mk at3
  have HR3 := Aside0.mk (Kd.R_below HR2.out hb)
  clear hb at3
  go_wp2_with fail
  refine (C4.out _).mono ?_
  rintro e w4 ⟨v, rfl, hR4, hb⟩
  obtain ⟨A4, d4, rfl⟩ := Kd.R_slice hR4
  have at4 := AT3.out.next hb
  clear c0 c1 c2 c3 c4 c5 c6 c7
  obtain ⟨c0, c1, c2, c3, c4, c5, c6, c7⟩ := blk7 at4.q
  have AT4 := Aside0.mk at4
  have HR4 := Aside0.mk (Kd.R_below HR3.out hb)
  have HS4 := Aside0.mk hR4
  clear hb at4 hR4
  go_wp2_with fail
  refine (works_calls _).mono ?_
  rintro e v0 ⟨rfl, hbv⟩
  have HV := Aside0.mk (below_step AT4.out.b hbv)
  clear hbv
  go_wp2_with fail
  go_ret
  exact ⟨rfl, HV.out⟩
set_option maxRecDepth 100000 in
set_option maxHeartbeats 600000 in
theorem reqs_t (w : World) (k : Int) (s : ByteArray) (o i p : Int) (nm os : ByteArray) (h1 : ¬ 9000 < s.size) (h2 : ¬ 9000 < os.size) (h3 : ¬ 9000 < nm.size) (hr : rightB ⟨k, s, o, i, p, nm, os⟩ = true) (hp : putReq ⟨k, s, o, i, p, nm, os⟩ = (Rq.bytes ⟨k, s, o, i, p, nm, os⟩, 0)) (hl : ¬ 4200 < (Rq.bytes ⟨k, s, o, i, p, nm, os⟩).length) : Calls Try.prog 3 #[.agg #[.int .i64 k, .string s, .int .i64 o, .int .i64 i, .int .i64 p, .string nm, .string os]] w (True_ w) := by
  have C4 := Aside0.mk (fun w => req_ref w ⟨k, s, o, i, p, nm, os⟩ (right_small _ hr))
  simp only [Rq.cells] at C4
  have hg := get_bytes ⟨k, s, o, i, p, nm, os⟩ hr (by omega)
  have hby := bys_bytes ⟨k, s, o, i, p, nm, os⟩
  have hE : ∀ w, (binOp .eql 25 (.agg #[.int .i64 k, .string s, .int .i64 o, .int .i64 i, .int .i64 p, .string nm, .string os]) (.agg #[.int .i64 k, .string s, .int .i64 o, .int .i64 i, .int .i64 p, .string nm, .string os])).run Try.prog w = .ok (.bool true) w := fun w => by
    have h := eqReq w ⟨k, s, o, i, p, nm, os⟩ ⟨k, s, o, i, p, nm, os⟩
    simp only [Rq.cells] at h
    rw [h]; simp
  generalize Rq.bytes ⟨k, s, o, i, p, nm, os⟩ = bs at *
  have hl' : ¬ 4200 < (bs.length : Int) := by omega
  have HG := Aside0.mk hg
  have HBY := Aside0.mk hby
  clear hl hg hby
  have C1 := putReq_calls (w.alloc (.cells #[.int .i64 k, .string s, .int .i64 o, .int .i64 i, .int .i64 p, .string nm, .string os] 25)) ⟨k, s, o, i, p, nm, os⟩
  have C2 := Aside0.mk (fun w => rightRef_calls w ⟨k, s, o, i, p, nm, os⟩)
  have C3 := Aside0.mk (fun w => right_calls w ⟨k, s, o, i, p, nm, os⟩)
  rw [hp] at C1
  rw [hr] at C2 C3
  simp only [Rq.cells] at C1 C2 C3
  clear hp
  have h1' : ¬ 9000 < (s.size : Int) := by omega
  have h2' : ¬ 9000 < (os.size : Int) := by omega
  have h3' : ¬ 9000 < (nm.size : Int) := by omega
  clear h1 h2 h3
  go_enter Try.func3, Try.ntmps3
  go_wp2_with fail
  refine C1.mono ?_
  rintro e w1 ⟨⟨A, c, rfl, hR1⟩, hb⟩
  have at1 := (At.start w #[.int .i64 k, .string s, .int .i64 o, .int .i64 i, .int .i64 p, .string nm, .string os] 25).next hb
  obtain ⟨c0, c1, c2, c3, c4, c5, c6, c7⟩ := blk7 at1.q
  have AT1 := Aside0.mk at1
  have HR1 := Aside0.mk hR1
  clear hb at1 C1 hR1
  go_wp2_with fail
  refine (C2.out w1).mono ?_
  rintro e w2 ⟨rfl, hb⟩
  have at2 := AT1.out.next hb
  clear c0 c1 c2 c3 c4 c5 c6 c7
  obtain ⟨c0, c1, c2, c3, c4, c5, c6, c7⟩ := blk7 at2.q
  have AT2 := Aside0.mk at2
  have HR2 := Aside0.mk (Kd.R_below HR1.out hb)
  clear hb at2
  go_wp2_with fail
  refine (C3.out w2).mono ?_
  rintro e w3 ⟨rfl, hb⟩
  have at3 := AT2.out.next hb
  clear c0 c1 c2 c3 c4 c5 c6 c7
  obtain ⟨c0, c1, c2, c3, c4, c5, c6, c7⟩ := blk7 at3.q
  have AT3 := Aside0.mk at3
  have HR3 := Aside0.mk (Kd.R_below HR2.out hb)
  clear hb at3
  go_wp2_with fail
  refine (C4.out _).mono ?_
  rintro e w4 ⟨v, rfl, hR4, hb⟩
  obtain ⟨A4, d4, rfl⟩ := Kd.R_slice hR4
  have at4 := AT3.out.next hb
  clear c0 c1 c2 c3 c4 c5 c6 c7
  obtain ⟨c0, c1, c2, c3, c4, c5, c6, c7⟩ := blk7 at4.q
  have AT4 := Aside0.mk at4
  have HR4 := Aside0.mk (Kd.R_below HR3.out hb)
  have HS4 := Aside0.mk hR4
  clear hb at4 hR4
  have hRd := Kd.R_reads' HR4.out
  have C5 := getReq_calls w4 A c bs hRd.2.2 hRd.2.1 HBY.out
  rw [HG.out] at C5
  unfold GetPost at C5
  simp only [Rq.cells] at C5
  clear hRd
  go_wp2_with fail
  refine C5.mono ?_
  rintro e w5 ⟨rfl, hb⟩
  have at5 := AT4.out.next hb
  clear c0 c1 c2 c3 c4 c5 c6 c7
  have AT5 := Aside0.mk at5
  have hR5 := Kd.R_below HR4.out hb
  have hS5 := Kd.R_below HS4.out hb
  have q1 : ∀ z, (convert 27 9 (.slice A bs.length c)).run Try.prog (w5.alloc z) = .ok (.string (strOfNums bs)) (w5.alloc z) := fun z => Kd.C_string Try.underlying27 Try.underlying5 Try.underlying9 (Kd.C_alloc (Kd.R_reads' hR5).2.2 z)
  have q2 : ∀ z, (convert 27 9 (.slice A4 bs.length d4)).run Try.prog (w5.alloc z) = .ok (.string (strOfNums bs)) (w5.alloc z) := fun z => Kd.C_string Try.underlying27 Try.underlying5 Try.underlying9 (Kd.C_alloc (Kd.R_reads' hS5).2.2 z)
  have hq5 : ∀ z, (w5.alloc z).heap[w.heap.size]? = some (.cells #[.int .i64 k, .string s, .int .i64 o, .int .i64 i, .int .i64 p, .string nm, .string os] 25 (0, 0)) := fun z => (Below.heap_alloc w5 z _ (blk_lt at5.q)).trans at5.q
  have x0 := fun z => (blk7 (hq5 z)).1
  have x1 := fun z => (blk7 (hq5 z)).2.1
  have x2 := fun z => (blk7 (hq5 z)).2.2.1
  have x3 := fun z => (blk7 (hq5 z)).2.2.2.1
  have x4 := fun z => (blk7 (hq5 z)).2.2.2.2.1
  have x5 := fun z => (blk7 (hq5 z)).2.2.2.2.2.1
  have x6 := fun z => (blk7 (hq5 z)).2.2.2.2.2.2.1
  clear hb at5 hR5 hS5 C5 hq5
  go_wp2_with fail
  refine (works_calls _).mono ?_
  rintro e v0 ⟨rfl, hbv⟩
  have HV := Aside0.mk (below_step (below_alloc AT5.out.b _) hbv)
  clear hbv
  go_wp2_with fail
  go_ret
  exact ⟨rfl, HV.out⟩
theorem reqs_calls (w : World) (q : Rq) : Calls Try.prog 3 #[.agg q.cells] w (True_ w) := by
  obtain ⟨k, s, o, i, p, nm, os⟩ := q
  by_cases h1 : 9000 < s.size
  · exact reqs_l1 w k s o i p nm os h1
  by_cases h2 : 9000 < os.size
  · exact reqs_l2 w k s o i p nm os h1 h2
  by_cases h3 : 9000 < nm.size
  · exact reqs_l3 w k s o i p nm os h1 h2 h3
  cases hr : rightB ⟨k, s, o, i, p, nm, os⟩ with
  | false => exact reqs_f w k s o i p nm os h1 h2 h3 hr (if_pos hr)
  | true =>
    have hn : ¬ rightB ⟨k, s, o, i, p, nm, os⟩ = false := by rw [hr]; decide
    by_cases hl : 4200 < (Rq.bytes ⟨k, s, o, i, p, nm, os⟩).length
    · exact reqs_b w k s o i p nm os h1 h2 h3 hr ((if_neg hn).trans (if_pos hl)) hl
    · exact reqs_t w k s o i p nm os h1 h2 h3 hr ((if_neg hn).trans (if_neg hl)) hl
end Go.Proofs.Ythkdihpbdaehbaa.Pr
namespace Go.Proofs.Ythkdihpbdaehbaa.Pr
set_option linter.unusedVariables false
set_option linter.unusedSimpArgs false
open Go.RowKit Go.Proofs.YthkdihpbdaehbaaW.PrintWords Go.Proofs.YthkdihpbdaehbaaW.PrintLast Go.Proofs.YthkdihpbdaehbaaW.PrintMore Go.Proofs.Ythkdihpbdaehbaa.Bs
theorem rep_same (w : World) (q : Rp) (A A' : Option Addr) (c c' : Nat) (hC : (Kd.int .i64).C w A q.nodes.length q.nodes) (hc : q.nodes.length ≤ c) (hC' : (Kd.int .i64).C w A' q.nodes.length q.nodes) (hc' : q.nodes.length ≤ c') (hl : q.nodes.length ≤ 9000000) : Calls Try.prog 16 #[.agg (q.cells (.slice A q.nodes.length c)), .agg (q.cells (.slice A' q.nodes.length c'))] w fun e w' => e = .returned (.bool true) ∧ Below w.heap.size w w' :=
  PS.breviaryref26_SameRep.calls _ _ _ _ _ _ _ A c q.nodes _ _ _ _ _ _ _ _ _ _ _ A' c' q.nodes _ _ _ _ _ _ w hC hc hC' hc' (same_refl q hl)
set_option maxRecDepth 100000 in
set_option maxHeartbeats 1000000 in
theorem reps_l1 (w : World) (k er tx id ti vt : Int) (A0 : Option Addr) (cp : Nat) (ns : List Int) (vb : Bool) (tag vv : Int) (vs s : ByteArray) (hC : (Kd.int .i64).C w A0 ns.length ns) (hcp : ns.length ≤ cp) (h1 : 9000 < s.size) : Calls Try.prog 5 #[.agg #[.int .i64 k, .int .i64 er, .int .i64 tx, .int .i64 id, .int .u64 ti, .int .i64 vt, .slice A0 ns.length cp, .bool vb, .int .i64 tag, .int .i64 vv, .string vs, .string s]] w (True_ w) := by
  have h1' : 9000 < (s.size : Int) := by omega
  clear h1
  clear hC hcp
  go_enter Try.func5, Try.ntmps5
  go_wp2_with fail
  refine (works_calls _).mono ?_
  rintro e v0 ⟨rfl, hbv⟩
  have HV := Aside0.mk (below_step (below_alloc (Below.refl _ _) _) hbv)
  clear hbv
  go_wp2_with fail
  go_ret
  exact ⟨rfl, HV.out⟩
set_option maxRecDepth 100000 in
set_option maxHeartbeats 1000000 in
theorem reps_l2 (w : World) (k er tx id ti vt : Int) (A0 : Option Addr) (cp : Nat) (ns : List Int) (vb : Bool) (tag vv : Int) (vs s : ByteArray) (hC : (Kd.int .i64).C w A0 ns.length ns) (hcp : ns.length ≤ cp) (h1 : ¬ 9000 < s.size) (h2 : 9000 < vs.size) : Calls Try.prog 5 #[.agg #[.int .i64 k, .int .i64 er, .int .i64 tx, .int .i64 id, .int .u64 ti, .int .i64 vt, .slice A0 ns.length cp, .bool vb, .int .i64 tag, .int .i64 vv, .string vs, .string s]] w (True_ w) := by
  have h1' : ¬ 9000 < (s.size : Int) := by omega
  have h2' : 9000 < (vs.size : Int) := by omega
  clear h1 h2
  clear hC hcp
  go_enter Try.func5, Try.ntmps5
  go_wp2_with fail
  refine (works_calls _).mono ?_
  rintro e v0 ⟨rfl, hbv⟩
  have HV := Aside0.mk (below_step (below_alloc (Below.refl _ _) _) hbv)
  clear hbv
  go_wp2_with fail
  go_ret
  exact ⟨rfl, HV.out⟩
set_option maxRecDepth 100000 in
set_option maxHeartbeats 1000000 in
theorem reps_l3 (w : World) (k er tx id ti vt : Int) (A0 : Option Addr) (cp : Nat) (ns : List Int) (vb : Bool) (tag vv : Int) (vs s : ByteArray) (hC : (Kd.int .i64).C w A0 ns.length ns) (hcp : ns.length ≤ cp) (h1 : ¬ 9000 < s.size) (h2 : ¬ 9000 < vs.size) (h3 : 2000 < ns.length) : Calls Try.prog 5 #[.agg #[.int .i64 k, .int .i64 er, .int .i64 tx, .int .i64 id, .int .u64 ti, .int .i64 vt, .slice A0 ns.length cp, .bool vb, .int .i64 tag, .int .i64 vv, .string vs, .string s]] w (True_ w) := by
  have h1' : ¬ 9000 < (s.size : Int) := by omega
  have h2' : ¬ 9000 < (vs.size : Int) := by omega
  have h3' : 2000 < (ns.length : Int) := by omega
  clear h1 h2 h3
  clear hC hcp
  go_enter Try.func5, Try.ntmps5
  go_wp2_with fail
  refine (works_calls _).mono ?_
  rintro e v0 ⟨rfl, hbv⟩
  have HV := Aside0.mk (below_step (below_alloc (Below.refl _ _) _) hbv)
  clear hbv
  go_wp2_with fail
  go_ret
  exact ⟨rfl, HV.out⟩
set_option maxRecDepth 100000 in
set_option maxHeartbeats 1000000 in
theorem reps_f (w : World) (k er tx id ti vt : Int) (A0 : Option Addr) (cp : Nat) (ns : List Int) (vb : Bool) (tag vv : Int) (vs s : ByteArray) (hC : (Kd.int .i64).C w A0 ns.length ns) (hcp : ns.length ≤ cp) (h1 : ¬ 9000 < s.size) (h2 : ¬ 9000 < vs.size) (h3 : ¬ 2000 < ns.length) (hk : Rp.kinds ⟨k, er, tx, id, ti, vt, ns, vb, tag, vv, vs, s⟩) (hr : rightRepB ⟨k, er, tx, id, ti, vt, ns, vb, tag, vv, vs, s⟩ = false) (hp : putRep ⟨k, er, tx, id, ti, vt, ns, vb, tag, vv, vs, s⟩ = ([], 2)) : Calls Try.prog 5 #[.agg #[.int .i64 k, .int .i64 er, .int .i64 tx, .int .i64 id, .int .u64 ti, .int .i64 vt, .slice A0 ns.length cp, .bool vb, .int .i64 tag, .int .i64 vv, .string vs, .string s]] w (True_ w) := by
  have hln : ns.length ≤ 9000000 := by omega
  have C1 := putRep_calls (w.alloc (.cells #[.int .i64 k, .int .i64 er, .int .i64 tx, .int .i64 id, .int .u64 ti, .int .i64 vt, .slice A0 ns.length cp, .bool vb, .int .i64 tag, .int .i64 vv, .string vs, .string s] 44)) ⟨k, er, tx, id, ti, vt, ns, vb, tag, vv, vs, s⟩ A0 cp (Kd.C_alloc hC _) hln hk
  have C2 := Aside0.mk (fun w hC => rep_refR w ⟨k, er, tx, id, ti, vt, ns, vb, tag, vv, vs, s⟩ A0 cp hC hln)
  have C3 := Aside0.mk (fun w hC => rightRep_calls w ⟨k, er, tx, id, ti, vt, ns, vb, tag, vv, vs, s⟩ A0 cp hC hln)
  rw [hp] at C1
  rw [hr] at C2 C3
  simp only [Rp.cells] at C1 C2 C3
  have HC := Aside0.mk hC
  have HL := Aside0.mk hln
  clear hp hk hr hln hC hcp
  have h1' : ¬ 9000 < (s.size : Int) := by omega
  have h2' : ¬ 9000 < (vs.size : Int) := by omega
  have h3' : ¬ 2000 < (ns.length : Int) := by omega
  clear h1 h2 h3
  go_enter Try.func5, Try.ntmps5
  go_wp2_with fail
  refine C1.mono ?_
  rintro e w1 ⟨⟨A, c, rfl, hR1⟩, hb⟩
  have at1 := (At.start w #[.int .i64 k, .int .i64 er, .int .i64 tx, .int .i64 id, .int .u64 ti, .int .i64 vt, .slice A0 ns.length cp, .bool vb, .int .i64 tag, .int .i64 vv, .string vs, .string s] 44).next hb
  obtain ⟨c0, c1, c2, c3, c4, c5, c6, c7, c8, c9, c10, c11, c12⟩ := blk12 at1.q
  have AT1 := Aside0.mk at1
  have HR1 := Aside0.mk hR1
  clear hb at1 C1 hR1
  go_wp2_with fail
  refine (C2.out w1 (Kd.C_below HC.out AT1.out.b)).mono ?_
  rintro e w2 ⟨rfl, hb⟩
  have at2 := AT1.out.next hb
  clear c0 c1 c2 c3 c4 c5 c6 c7 c8 c9 c10 c11 c12
  obtain ⟨c0, c1, c2, c3, c4, c5, c6, c7, c8, c9, c10, c11, c12⟩ := blk12 at2.q
  have AT2 := Aside0.mk at2
  have HR2 := Aside0.mk (Kd.R_below HR1.out hb)
  clear hb at2
  go_wp2_with fail
  refine (C3.out w2 (Kd.C_below HC.out AT2.out.b)).mono ?_
  rintro e w3 ⟨rfl, hb⟩
  have at3 := AT2.out.next hb
  clear c0 c1 c2 c3 c4 c5 c6 c7 c8 c9 c10 c11 c12
  obtain ⟨c0, c1, c2, c3, c4, c5, c6, c7, c8, c9, c10, c11, c12⟩ := blk12 at3.q
  have AT3 := Aside0.mk at3
  have HR3 := Aside0.mk (Kd.R_below HR2.out hb)
  clear hb at3
  go_wp2_with fail
  refine (works_calls _).mono ?_
  rintro e v0 ⟨rfl, hbv⟩
  have HV := Aside0.mk (below_step AT3.out.b hbv)
  clear hbv
  go_wp2_with fail
  go_ret
  exact ⟨rfl, HV.out⟩
set_option maxRecDepth 100000 in
set_option maxHeartbeats 1000000 in
theorem reps_b (w : World) (k er tx id ti vt : Int) (A0 : Option Addr) (cp : Nat) (ns : List Int) (vb : Bool) (tag vv : Int) (vs s : ByteArray) (hC : (Kd.int .i64).C w A0 ns.length ns) (hcp : ns.length ≤ cp) (h1 : ¬ 9000 < s.size) (h2 : ¬ 9000 < vs.size) (h3 : ¬ 2000 < ns.length) (hk : Rp.kinds ⟨k, er, tx, id, ti, vt, ns, vb, tag, vv, vs, s⟩) (hr : rightRepB ⟨k, er, tx, id, ti, vt, ns, vb, tag, vv, vs, s⟩ = true) (hp : putRep ⟨k, er, tx, id, ti, vt, ns, vb, tag, vv, vs, s⟩ = ([], 3)) (hl : 4200 < (Rp.bytes ⟨k, er, tx, id, ti, vt, ns, vb, tag, vv, vs, s⟩).length) : Calls Try.prog 5 #[.agg #[.int .i64 k, .int .i64 er, .int .i64 tx, .int .i64 id, .int .u64 ti, .int .i64 vt, .slice A0 ns.length cp, .bool vb, .int .i64 tag, .int .i64 vv, .string vs, .string s]] w (True_ w) := by
  have C4 := Aside0.mk (fun w hC => rep_ref w ⟨k, er, tx, id, ti, vt, ns, vb, tag, vv, vs, s⟩ A0 cp hC (rightRep_small _ hr hk) hk.t.2 (Nat.not_lt.mp h1) (Nat.not_lt.mp h2))
  simp only [Rp.cells] at C4
  generalize Rp.bytes ⟨k, er, tx, id, ti, vt, ns, vb, tag, vv, vs, s⟩ = bs at *
  have hl' : 4200 < (bs.length : Int) := by omega
  clear hl
  have hln : ns.length ≤ 9000000 := by omega
  have C1 := putRep_calls (w.alloc (.cells #[.int .i64 k, .int .i64 er, .int .i64 tx, .int .i64 id, .int .u64 ti, .int .i64 vt, .slice A0 ns.length cp, .bool vb, .int .i64 tag, .int .i64 vv, .string vs, .string s] 44)) ⟨k, er, tx, id, ti, vt, ns, vb, tag, vv, vs, s⟩ A0 cp (Kd.C_alloc hC _) hln hk
  have C2 := Aside0.mk (fun w hC => rep_refR w ⟨k, er, tx, id, ti, vt, ns, vb, tag, vv, vs, s⟩ A0 cp hC hln)
  have C3 := Aside0.mk (fun w hC => rightRep_calls w ⟨k, er, tx, id, ti, vt, ns, vb, tag, vv, vs, s⟩ A0 cp hC hln)
  rw [hp] at C1
  rw [hr] at C2 C3
  simp only [Rp.cells] at C1 C2 C3
  have HC := Aside0.mk hC
  have HL := Aside0.mk hln
  clear hp hk hr hln hC hcp
  have h1' : ¬ 9000 < (s.size : Int) := by omega
  have h2' : ¬ 9000 < (vs.size : Int) := by omega
  have h3' : ¬ 2000 < (ns.length : Int) := by omega
  clear h1 h2 h3
  go_enter Try.func5, Try.ntmps5
  go_wp2_with fail
  refine C1.mono ?_
  rintro e w1 ⟨⟨A, c, rfl, hR1⟩, hb⟩
  have at1 := (At.start w #[.int .i64 k, .int .i64 er, .int .i64 tx, .int .i64 id, .int .u64 ti, .int .i64 vt, .slice A0 ns.length cp, .bool vb, .int .i64 tag, .int .i64 vv, .string vs, .string s] 44).next hb
  obtain ⟨c0, c1, c2, c3, c4, c5, c6, c7, c8, c9, c10, c11, c12⟩ := blk12 at1.q
  have AT1 := Aside0.mk at1
  have HR1 := Aside0.mk hR1
  clear hb at1 C1 hR1
  go_wp2_with fail
  refine (C2.out w1 (Kd.C_below HC.out AT1.out.b)).mono ?_
  rintro e w2 ⟨rfl, hb⟩
  have at2 := AT1.out.next hb
  clear c0 c1 c2 c3 c4 c5 c6 c7 c8 c9 c10 c11 c12
  obtain ⟨c0, c1, c2, c3, c4, c5, c6, c7, c8, c9, c10, c11, c12⟩ := blk12 at2.q
  have AT2 := Aside0.mk at2
  have HR2 := Aside0.mk (Kd.R_below HR1.out hb)
  clear hb at2
  go_wp2_with fail
  refine (C3.out w2 (Kd.C_below HC.out AT2.out.b)).mono ?_
  rintro e w3 ⟨rfl, hb⟩
  have at3 := AT2.out.next hb
  clear c0 c1 c2 c3 c4 c5 c6 c7 c8 c9 c10 c11 c12
  obtain ⟨c0, c1, c2, c3, c4, c5, c6, c7, c8, c9, c10, c11, c12⟩ := blk12 at3.q
  have AT3 := Aside0.mk at3
  have HR3 := Aside0.mk (Kd.R_below HR2.out hb)
  clear hb at3
  go_wp2_with fail
  refine (C4.out w3 (Kd.C_below HC.out AT3.out.b)).mono ?_
  rintro e w4 ⟨v, rfl, hR4, hb⟩
  obtain ⟨A4, d4, rfl⟩ := Kd.R_slice hR4
  have at4 := AT3.out.next hb
  clear c0 c1 c2 c3 c4 c5 c6 c7 c8 c9 c10 c11 c12
  obtain ⟨c0, c1, c2, c3, c4, c5, c6, c7, c8, c9, c10, c11, c12⟩ := blk12 at4.q
  have AT4 := Aside0.mk at4
  have HR4 := Aside0.mk (Kd.R_below HR3.out hb)
  have HS4 := Aside0.mk hR4
  clear hb at4 hR4
  go_wp2_with fail
  refine (works_calls _).mono ?_
  rintro e v0 ⟨rfl, hbv⟩
  have HV := Aside0.mk (below_step AT4.out.b hbv)
  clear hbv
  go_wp2_with fail
  go_ret
  exact ⟨rfl, HV.out⟩
set_option maxRecDepth 100000 in
set_option maxHeartbeats 1000000 in
theorem reps_t (w : World) (k er tx id ti vt : Int) (A0 : Option Addr) (cp : Nat) (ns : List Int) (vb : Bool) (tag vv : Int) (vs s : ByteArray) (hC : (Kd.int .i64).C w A0 ns.length ns) (hcp : ns.length ≤ cp) (h1 : ¬ 9000 < s.size) (h2 : ¬ 9000 < vs.size) (h3 : ¬ 2000 < ns.length) (hk : Rp.kinds ⟨k, er, tx, id, ti, vt, ns, vb, tag, vv, vs, s⟩) (hr : rightRepB ⟨k, er, tx, id, ti, vt, ns, vb, tag, vv, vs, s⟩ = true) (hp : putRep ⟨k, er, tx, id, ti, vt, ns, vb, tag, vv, vs, s⟩ = (Rp.bytes ⟨k, er, tx, id, ti, vt, ns, vb, tag, vv, vs, s⟩, 0)) (hl : ¬ 4200 < (Rp.bytes ⟨k, er, tx, id, ti, vt, ns, vb, tag, vv, vs, s⟩).length) : Calls Try.prog 5 #[.agg #[.int .i64 k, .int .i64 er, .int .i64 tx, .int .i64 id, .int .u64 ti, .int .i64 vt, .slice A0 ns.length cp, .bool vb, .int .i64 tag, .int .i64 vv, .string vs, .string s]] w (True_ w) := by
  have C4 := Aside0.mk (fun w hC => rep_ref w ⟨k, er, tx, id, ti, vt, ns, vb, tag, vv, vs, s⟩ A0 cp hC (rightRep_small _ hr hk) hk.t.2 (Nat.not_lt.mp h1) (Nat.not_lt.mp h2))
  simp only [Rp.cells] at C4
  have hg := get_rep_bytes ⟨k, er, tx, id, ti, vt, ns, vb, tag, vv, vs, s⟩ hr hk (by omega)
  have hby := bys_rep ⟨k, er, tx, id, ti, vt, ns, vb, tag, vv, vs, s⟩
  generalize Rp.bytes ⟨k, er, tx, id, ti, vt, ns, vb, tag, vv, vs, s⟩ = bs at *
  have hl' : ¬ 4200 < (bs.length : Int) := by omega
  have HG := Aside0.mk hg
  have HBY := Aside0.mk hby
  clear hg hby
  clear hl
  have hln : ns.length ≤ 9000000 := by omega
  have C1 := putRep_calls (w.alloc (.cells #[.int .i64 k, .int .i64 er, .int .i64 tx, .int .i64 id, .int .u64 ti, .int .i64 vt, .slice A0 ns.length cp, .bool vb, .int .i64 tag, .int .i64 vv, .string vs, .string s] 44)) ⟨k, er, tx, id, ti, vt, ns, vb, tag, vv, vs, s⟩ A0 cp (Kd.C_alloc hC _) hln hk
  have C2 := Aside0.mk (fun w hC => rep_refR w ⟨k, er, tx, id, ti, vt, ns, vb, tag, vv, vs, s⟩ A0 cp hC hln)
  have C3 := Aside0.mk (fun w hC => rightRep_calls w ⟨k, er, tx, id, ti, vt, ns, vb, tag, vv, vs, s⟩ A0 cp hC hln)
  have C6 := Aside0.mk (fun w A c h1 h2 h3 => rep_same w ⟨k, er, tx, id, ti, vt, ns, vb, tag, vv, vs, s⟩ A A0 c cp h1 h2 h3 hcp hln)
  rw [hp] at C1
  rw [hr] at C2 C3
  simp only [Rp.cells] at C1 C2 C3 C6
  have HC := Aside0.mk hC
  have HL := Aside0.mk hln
  clear hp hk hr hln hC hcp
  have h1' : ¬ 9000 < (s.size : Int) := by omega
  have h2' : ¬ 9000 < (vs.size : Int) := by omega
  have h3' : ¬ 2000 < (ns.length : Int) := by omega
  clear h1 h2 h3
  go_enter Try.func5, Try.ntmps5
  go_wp2_with fail
  refine C1.mono ?_
  rintro e w1 ⟨⟨A, c, rfl, hR1⟩, hb⟩
  have at1 := (At.start w #[.int .i64 k, .int .i64 er, .int .i64 tx, .int .i64 id, .int .u64 ti, .int .i64 vt, .slice A0 ns.length cp, .bool vb, .int .i64 tag, .int .i64 vv, .string vs, .string s] 44).next hb
  obtain ⟨c0, c1, c2, c3, c4, c5, c6, c7, c8, c9, c10, c11, c12⟩ := blk12 at1.q
  have AT1 := Aside0.mk at1
  have HR1 := Aside0.mk hR1
  clear hb at1 C1 hR1
  go_wp2_with fail
  refine (C2.out w1 (Kd.C_below HC.out AT1.out.b)).mono ?_
  rintro e w2 ⟨rfl, hb⟩
  have at2 := AT1.out.next hb
  clear c0 c1 c2 c3 c4 c5 c6 c7 c8 c9 c10 c11 c12
  obtain ⟨c0, c1, c2, c3, c4, c5, c6, c7, c8, c9, c10, c11, c12⟩ := blk12 at2.q
  have AT2 := Aside0.mk at2
  have HR2 := Aside0.mk (Kd.R_below HR1.out hb)
  clear hb at2
  go_wp2_with fail
  refine (C3.out w2 (Kd.C_below HC.out AT2.out.b)).mono ?_
  rintro e w3 ⟨rfl, hb⟩
  have at3 := AT2.out.next hb
  clear c0 c1 c2 c3 c4 c5 c6 c7 c8 c9 c10 c11 c12
  obtain ⟨c0, c1, c2, c3, c4, c5, c6, c7, c8, c9, c10, c11, c12⟩ := blk12 at3.q
  have AT3 := Aside0.mk at3
  have HR3 := Aside0.mk (Kd.R_below HR2.out hb)
  clear hb at3
  go_wp2_with fail
  refine (C4.out w3 (Kd.C_below HC.out AT3.out.b)).mono ?_
  rintro e w4 ⟨v, rfl, hR4, hb⟩
  obtain ⟨A4, d4, rfl⟩ := Kd.R_slice hR4
  have at4 := AT3.out.next hb
  clear c0 c1 c2 c3 c4 c5 c6 c7 c8 c9 c10 c11 c12
  obtain ⟨c0, c1, c2, c3, c4, c5, c6, c7, c8, c9, c10, c11, c12⟩ := blk12 at4.q
  have AT4 := Aside0.mk at4
  have HR4 := Aside0.mk (Kd.R_below HR3.out hb)
  have HS4 := Aside0.mk hR4
  clear hb at4 hR4
  have hRd := Kd.R_reads' HR4.out
  have C5 := getRep_calls w4 A c bs hRd.2.2 hRd.2.1 HBY.out (fun q' h' => Nat.le_trans (readRep_back HBY.out h').2.2.2 (by decide))
  rw [HG.out] at C5
  unfold RepPost at C5
  simp only [Rp.cells] at C5
  clear hRd
  go_wp2_with fail
  refine C5.mono ?_
  rintro e w5 ⟨A5, c5', rfl, hR5n, hb⟩
  have at5 := AT4.out.next hb
  clear c0 c1 c2 c3 c4 c5 c6 c7 c8 c9 c10 c11 c12
  have AT5 := Aside0.mk at5
  have hR5 := Kd.R_below HR4.out hb
  have hS5 := Kd.R_below HS4.out hb
  have HN5 := Aside0.mk hR5n
  have q1 : ∀ z, (convert 27 9 (.slice A bs.length c)).run Try.prog (w5.alloc z) = .ok (.string (strOfNums bs)) (w5.alloc z) := fun z => Kd.C_string Try.underlying27 Try.underlying5 Try.underlying9 (Kd.C_alloc (Kd.R_reads' hR5).2.2 z)
  have q2 : ∀ z, (convert 27 9 (.slice A4 bs.length d4)).run Try.prog (w5.alloc z) = .ok (.string (strOfNums bs)) (w5.alloc z) := fun z => Kd.C_string Try.underlying27 Try.underlying5 Try.underlying9 (Kd.C_alloc (Kd.R_reads' hS5).2.2 z)
  have hq5 : ∀ z, (w5.alloc z).heap[w.heap.size]? = some (.cells #[.int .i64 k, .int .i64 er, .int .i64 tx, .int .i64 id, .int .u64 ti, .int .i64 vt, .slice A0 ns.length cp, .bool vb, .int .i64 tag, .int .i64 vv, .string vs, .string s] 44 (0, 0)) := fun z => (Below.heap_alloc w5 z _ (blk_lt at5.q)).trans at5.q
  have x0 := fun z => (blk12 (hq5 z)).1
  have x1 := fun z => (blk12 (hq5 z)).2.1
  have x2 := fun z => (blk12 (hq5 z)).2.2.1
  have x3 := fun z => (blk12 (hq5 z)).2.2.2.1
  have x4 := fun z => (blk12 (hq5 z)).2.2.2.2.1
  have x5 := fun z => (blk12 (hq5 z)).2.2.2.2.2.1
  have x6 := fun z => (blk12 (hq5 z)).2.2.2.2.2.2.1
  have x7 := fun z => (blk12 (hq5 z)).2.2.2.2.2.2.2.1
  have x8 := fun z => (blk12 (hq5 z)).2.2.2.2.2.2.2.2.1
  have x9 := fun z => (blk12 (hq5 z)).2.2.2.2.2.2.2.2.2.1
  have x10 := fun z => (blk12 (hq5 z)).2.2.2.2.2.2.2.2.2.2.1
  have x11 := fun z => (blk12 (hq5 z)).2.2.2.2.2.2.2.2.2.2.2.1
  clear hb at5 hR5 hS5 C5 hq5 hR5n
  go_wp2_with fail
  refine (C6.out _ A5 c5' (Kd.C_alloc (Kd.R_reads' HN5.out).2.2 _) (Kd.R_reads' HN5.out).2.1 (Kd.C_alloc (Kd.C_below HC.out AT5.out.b) _)).mono ?_
  rintro e w6 ⟨rfl, hb⟩
  have HB6 := Aside0.mk (below_step (below_alloc AT5.out.b _) hb)
  clear hb q1 q2 x0 x1 x2 x3 x4 x5 x6 x7 x8 x9 x10 x11
  go_wp2_with fail
  refine (works_calls _).mono ?_
  rintro e v0 ⟨rfl, hbv⟩
  have HV := Aside0.mk (below_step HB6.out hbv)
  clear hbv
  go_wp2_with fail
  go_ret
  exact ⟨rfl, HV.out⟩
theorem reps_calls (w : World) (r : Rp) (A0 : Option Addr) (cp : Nat) (hC : (Kd.int .i64).C w A0 r.nodes.length r.nodes) (hcp : r.nodes.length ≤ cp) (hk : r.kinds) : Calls Try.prog 5 #[.agg (r.cells (.slice A0 r.nodes.length cp))] w (True_ w) := by
  obtain ⟨k, er, tx, id, ti, vt, ns, vb, tag, vv, vs, s⟩ := r
  simp only [] at *
  by_cases h1 : 9000 < s.size
  · exact reps_l1 w k er tx id ti vt A0 cp ns vb tag vv vs s hC hcp h1
  by_cases h2 : 9000 < vs.size
  · exact reps_l2 w k er tx id ti vt A0 cp ns vb tag vv vs s hC hcp h1 h2
  by_cases h3 : 2000 < ns.length
  · exact reps_l3 w k er tx id ti vt A0 cp ns vb tag vv vs s hC hcp h1 h2 h3
  cases hr : rightRepB ⟨k, er, tx, id, ti, vt, ns, vb, tag, vv, vs, s⟩ with
  | false => exact reps_f w k er tx id ti vt A0 cp ns vb tag vv vs s hC hcp h1 h2 h3 hk hr (if_pos hr)
  | true =>
    have hn : ¬ rightRepB ⟨k, er, tx, id, ti, vt, ns, vb, tag, vv, vs, s⟩ = false := by rw [hr]; decide
    by_cases hl : 4200 < (Rp.bytes ⟨k, er, tx, id, ti, vt, ns, vb, tag, vv, vs, s⟩).length
    · exact reps_b w k er tx id ti vt A0 cp ns vb tag vv vs s hC hcp h1 h2 h3 hk hr ((if_neg hn).trans (if_pos hl)) hl
    · exact reps_t w k er tx id ti vt A0 cp ns vb tag vv vs s hC hcp h1 h2 h3 hk hr ((if_neg hn).trans (if_neg hl)) hl
end Go.Proofs.Ythkdihpbdaehbaa.Pr
