import Derived.Test.YthkdihpbdaehbaaPrG
namespace Go.Proofs.Ythkdihpbdaehbaa.Pr
set_option linter.unusedVariables false
set_option linter.unusedSimpArgs false
open Go.RowKit Go.Proofs.YthkdihpbdaehbaaW.PrintWords Go.Proofs.YthkdihpbdaehbaaW.PrintLast Go.Proofs.YthkdihpbdaehbaaW.PrintMore Go.Proofs.Ythkdihpbdaehbaa.Bs
theorem right_small (q : Rq) (h : rightB q = true) : q.small := by
  obtain ⟨k, s, o, i, p, nm, os⟩ := q
  simp only [rightB, opB, fitsB, Rq.op, Bool.and_eq_true, Bool.or_eq_true, decide_eq_true_eq] at h
  obtain ⟨⟨⟨⟨h1, h2⟩, h3⟩, h4⟩, h5⟩ := h
  split at h5
  · simp only [Bool.and_eq_true, Bool.or_eq_true, decide_eq_true_eq] at h5
    obtain ⟨⟨⟨⟨⟨a1, a2⟩, a3, a4⟩, a5, a6⟩, a7⟩, a8⟩ := h5
    exact ⟨⟨h1, h2⟩, ⟨of_decide_eq_true a1, of_decide_eq_true a2⟩, ⟨of_decide_eq_true a3, of_decide_eq_true a4⟩, ⟨of_decide_eq_true a5, of_decide_eq_true a6⟩, h3, of_decide_eq_true a7, of_decide_eq_true a8⟩
  · simp only [Bool.and_eq_true, Bool.or_eq_true, decide_eq_true_eq] at h5
    exact ⟨⟨h1, h2⟩, ⟨by show 0 ≤ o; omega, by show o ≤ 255; omega⟩, ⟨by show 0 ≤ i; omega, by show i ≤ _; omega⟩, ⟨by show 0 ≤ p; omega, by show p ≤ _; omega⟩, h3, by show nm.size ≤ 200; omega, by show os.size ≤ 4000; omega⟩
theorem be1 (n : Int) : be 1 n = [n % 256] := by simp [be]
/-- The bytes so far, in a row of their own, and the request's box. -/
structure Rs (w : World) (cs : Array Value) (t : Nat) (l : List Int) (v : Value) (w1 : World) : Prop where
  r : (Kd.int .u8).R 5 w1 (w.heap.size + 1) (fun _ => True) v l
  b : Below (w.heap.size + 1) (w.alloc (.cells cs t)) w1
theorem Rs.q {w w1 : World} {cs : Array Value} {t : Nat} {l : List Int} {v : Value} (h : Rs w cs t l v w1) : w1.heap[w.heap.size]? = some (.cells cs t (0, 0)) :=
  (h.b.block _ (Nat.lt_succ_self _)).trans (heap_alloc_new w (.cells cs t))
theorem Rs.z {w w1 : World} {cs : Array Value} {t : Nat} {l : List Int} {v : Value} (h : Rs w cs t l v w1) : w.heap.size + 1 ≤ w1.heap.size := by
  have := h.b.size
  simpa using this
theorem Rs.lit {w w1 : World} {cs : Array Value} {t : Nat} {l : List Int} {v : Value} (h : (Kd.int .u8).R 5 w1 (w.alloc (.cells cs t)).heap.size (fun _ => True) v l) (hb : Below (w.alloc (.cells cs t)).heap.size (w.alloc (.cells cs t)) w1) : Rs w cs t l v w1 := by
  have e : (w.alloc (.cells cs t)).heap.size = w.heap.size + 1 := by simp
  rw [e] at h hb
  exact ⟨h, hb⟩
theorem Rs.grow {w w1 w2 : World} {cs : Array Value} {t : Nat} {l : List Int} {v : Value} (h : Rs w cs t l v w1) (hb : Below w1.heap.size w1 w2) : Rs w cs t l v w2 :=
  ⟨Kd.R_below h.r hb, h.b.trans (Below.mono hb h.z)⟩
theorem Rs.gives {w w1 : World} {cs : Array Value} {t : Nat} {l : List Int} {v : Value} (h : Rs w cs t l v w1) : Gives w l (.returned v) w1 :=
  ⟨v, rfl, Kd.R_lower h.r (Nat.le_succ _), below_step (below_alloc (Below.refl _ _) _) (Below.mono h.b (by simp))⟩
theorem Rs.app {w w0 w1 : World} {cs : Array Value} {t : Nat} {l l1 : List Int} {v v1 : Value} {ok : Nat → Prop} (h : Rs w cs t l v w0) (hr : (Kd.int .u8).R 5 w1 (w.heap.size + 1) ok v1 l1) (hch : Ch (fun k => some k = v.ownBlock) w0 w1) : Rs w cs t l1 v1 w1 :=
  ⟨Kd.R_mono hr (fun _ _ => trivial), h.b.trans (Ch.to_below hch (fun k hk => own_base (Kd.own_of_R h.r) k hk.symm) h.z)⟩
set_option maxRecDepth 100000 in
set_option maxHeartbeats 1000000 in
theorem req_ref2 (w : World) (q : Rq) (hs : q.small) (h2 : q.kind = 2) : Calls Try.prog 11 #[.agg q.cells] w (Gives w q.bytes) := by
  obtain ⟨⟨ka, kb⟩, ⟨oa, ob⟩, ⟨ia, ib⟩, ⟨pa, pb⟩, sa, na, osa⟩ := hs
  obtain ⟨k, s, o, i, p, nm, os⟩ := q
  simp only [Rq.cells] at *
  have hwi : IntKind.u64.wrap i = i := by rw [IntKind.wrap_u64]; omega
  have hwp : IntKind.u64.wrap p = p := by rw [IntKind.wrap_u64]; omega
  have b2 : (k == 2) = true := by simp; omega
  have b3 : (k == 3) = false := by simp; omega
  have b6 : (k == 6) = false := by simp; omega
  have E := Aside0.mk (show Rq.bytes ⟨k, s, o, i, p, nm, os⟩ = [k] ++ textB s by simp [Rq.bytes, be1, *])
  clear h2
  go_enter Try.func11, Try.ntmps11
  go_wp2_with (first | ((with_reducible refine gate_dst (N := 7) rfl ?_); refine Kd.R_lit (Kd.int .u8) _ 5 ?hg (N := 7) ?hd (xs := ([k] : List Int)) (inner := [.int .u8 k]) (ok := fun _ => True) (okp := fun _ => True) ?hr ?hp (fun _ hk => hk) trivial (Below.refl _ _) (Nat.le_refl _) (by simp) ?_; (case hd => rfl); (case hg => rfl); (case hr => first | (go_simp; done) | (go_simp; rfl)); (case hp => exact (Reps.one (show Kd.M (Kd.int .u8) _ _ _ k [.int .u8 k] from rfl) (Reps.none _ _))); intro v0 w0 ho hb hg hnew; have rs := Rs.lit ho hb; obtain ⟨A0, d0, rfl⟩ := Kd.R_slice rs.r; obtain ⟨c0, c1, c2, c3, c4, c5, c6, c7⟩ := blk7 rs.q; have RS0 := Aside0.mk rs; clear ho hb hg hnew rs))
  refine (text_ref w0 s (by omega)).mono ?_
  rintro e u1 ⟨x1, rfl, hr, hb⟩
  obtain ⟨B1, d1, rfl⟩ := Kd.R_slice hr
  have rs := RS0.out.grow hb
  have HC1 := Aside0.mk (Kd.R_reads' hr).2.2
  have HZ1 := Aside0.mk rs.z
  have HL1 : (([k]).length + (textB s).length) * 1 ≤ 140737488355328 := by simp [be_length, textB_len]; try omega
  have HL1 := Aside0.mk HL1
  clear c0 c1 c2 c3 c4 c5 c6 c7 hr hb
  obtain ⟨c0, c1, c2, c3, c4, c5, c6, c7⟩ := blk7 rs.q
  have RS1 := Aside0.mk rs
  clear rs
  go_wp2_with (first | ((with_reducible refine gate_builtin (b := .append) (xs := #[.tmp 11, .tmp 14]) rfl ?_); at_builtin; go_loud (refine Kd.R_append_rows (Kd.int .u8) (w0 := w.alloc (.cells #[.int .i64 k, .string s, .int .i64 o, .int .i64 i, .int .i64 p, .string nm, .string os] 25)) (w.heap.size + 1) rfl (.tmp 11) (.tmp 14) 27 5 (.int .u8 0) 1 rfl Try.underlying27 info5 rfl (by decide) (by omega) _ ([k]) (textB s) _ _ _ (fun _ => True) (fun _ => False) rfl rfl RS1.out.r HC1.out (fun _ _ h => h) (fun _ h => h.elim) (fun _ _ => trivial) RS1.out.b HZ1.out HL1.out ?_); intro v1 w1 hr hb hg hat; have rs : Rs w #[.int .i64 k, .string s, .int .i64 o, .int .i64 i, .int .i64 p, .string nm, .string os] 25 _ v1 w1 := ⟨hr, hb⟩; obtain ⟨L1, hL⟩ : ∃ L, L = [k] ++ textB s := ⟨_, rfl⟩; rw [← hL] at rs; have HN1 := Aside0.mk hL; clear hL; obtain ⟨E1, f1, rfl⟩ := Kd.R_slice rs.r; clear c0 c1 c2 c3 c4 c5 c6 c7; obtain ⟨c0, c1, c2, c3, c4, c5, c6, c7⟩ := blk7 rs.q; have RS1 := Aside0.mk rs; clear rs hr hb hg hat))
  go_ret
  rw [E.out, ← HN1.out]
  exact RS1.out.gives
set_option maxRecDepth 100000 in
set_option maxHeartbeats 1000000 in
theorem req_ref6 (w : World) (q : Rq) (hs : q.small) (h2 : q.kind = 6) : Calls Try.prog 11 #[.agg q.cells] w (Gives w q.bytes) := by
  obtain ⟨⟨ka, kb⟩, ⟨oa, ob⟩, ⟨ia, ib⟩, ⟨pa, pb⟩, sa, na, osa⟩ := hs
  obtain ⟨k, s, o, i, p, nm, os⟩ := q
  simp only [Rq.cells] at *
  have hwi : IntKind.u64.wrap i = i := by rw [IntKind.wrap_u64]; omega
  have hwp : IntKind.u64.wrap p = p := by rw [IntKind.wrap_u64]; omega
  have b2 : (k == 2) = false := by simp; omega
  have b3 : (k == 3) = false := by simp; omega
  have b6 : (k == 6) = true := by simp; omega
  have E := Aside0.mk (show Rq.bytes ⟨k, s, o, i, p, nm, os⟩ = [k] ++ be 4 i by simp [Rq.bytes, be1, *])
  clear h2
  go_enter Try.func11, Try.ntmps11
  go_wp2_with (first | ((with_reducible refine gate_dst (N := 7) rfl ?_); refine Kd.R_lit (Kd.int .u8) _ 5 ?hg (N := 7) ?hd (xs := ([k] : List Int)) (inner := [.int .u8 k]) (ok := fun _ => True) (okp := fun _ => True) ?hr ?hp (fun _ hk => hk) trivial (Below.refl _ _) (Nat.le_refl _) (by simp) ?_; (case hd => rfl); (case hg => rfl); (case hr => first | (go_simp; done) | (go_simp; rfl)); (case hp => exact (Reps.one (show Kd.M (Kd.int .u8) _ _ _ k [.int .u8 k] from rfl) (Reps.none _ _))); intro v0 w0 ho hb hg hnew; have rs := Rs.lit ho hb; obtain ⟨A0, d0, rfl⟩ := Kd.R_slice rs.r; obtain ⟨c0, c1, c2, c3, c4, c5, c6, c7⟩ := blk7 rs.q; have RS0 := Aside0.mk rs; clear ho hb hg hnew rs))
  refine (refnum_calls w0 i 4 (by omega) (by omega) (by decide)).mono ?_
  rintro e u1 ⟨x1, rfl, hr, hb⟩
  obtain ⟨B1, d1, rfl⟩ := Kd.R_slice hr
  have rs := RS0.out.grow hb
  have HC1 := Aside0.mk (Kd.R_reads' hr).2.2
  have HZ1 := Aside0.mk rs.z
  have HL1 : (([k]).length + (be 4 i).length) * 1 ≤ 140737488355328 := by simp [be_length, textB_len]; try omega
  have HL1 := Aside0.mk HL1
  clear c0 c1 c2 c3 c4 c5 c6 c7 hr hb
  obtain ⟨c0, c1, c2, c3, c4, c5, c6, c7⟩ := blk7 rs.q
  have RS1 := Aside0.mk rs
  clear rs
  go_wp2_with (first | ((with_reducible refine gate_builtin (b := .append) (xs := #[.tmp 55, .tmp 60]) rfl ?_); at_builtin; go_loud (refine Kd.R_append_rows (Kd.int .u8) (w0 := w.alloc (.cells #[.int .i64 k, .string s, .int .i64 o, .int .i64 i, .int .i64 p, .string nm, .string os] 25)) (w.heap.size + 1) rfl (.tmp 55) (.tmp 60) 27 5 (.int .u8 0) 1 rfl Try.underlying27 info5 rfl (by decide) (by omega) _ ([k]) (be 4 i) _ _ _ (fun _ => True) (fun _ => False) rfl rfl RS1.out.r HC1.out (fun _ _ h => h) (fun _ h => h.elim) (fun _ _ => trivial) RS1.out.b HZ1.out HL1.out ?_); intro v1 w1 hr hb hg hat; have rs : Rs w #[.int .i64 k, .string s, .int .i64 o, .int .i64 i, .int .i64 p, .string nm, .string os] 25 _ v1 w1 := ⟨hr, hb⟩; obtain ⟨L1, hL⟩ : ∃ L, L = [k] ++ be 4 i := ⟨_, rfl⟩; rw [← hL] at rs; have HN1 := Aside0.mk hL; clear hL; obtain ⟨E1, f1, rfl⟩ := Kd.R_slice rs.r; clear c0 c1 c2 c3 c4 c5 c6 c7; obtain ⟨c0, c1, c2, c3, c4, c5, c6, c7⟩ := blk7 rs.q; have RS1 := Aside0.mk rs; clear rs hr hb hg hat))
  go_ret
  rw [E.out, ← HN1.out]
  exact RS1.out.gives
set_option maxRecDepth 100000 in
set_option maxHeartbeats 1000000 in
theorem req_ref0 (w : World) (q : Rq) (hs : q.small) (h2 : ¬ q.kind = 2) (h3 : ¬ q.kind = 3) (h6 : ¬ q.kind = 6) : Calls Try.prog 11 #[.agg q.cells] w (Gives w q.bytes) := by
  obtain ⟨⟨ka, kb⟩, ⟨oa, ob⟩, ⟨ia, ib⟩, ⟨pa, pb⟩, sa, na, osa⟩ := hs
  obtain ⟨k, s, o, i, p, nm, os⟩ := q
  simp only [Rq.cells] at *
  have hwi : IntKind.u64.wrap i = i := by rw [IntKind.wrap_u64]; omega
  have hwp : IntKind.u64.wrap p = p := by rw [IntKind.wrap_u64]; omega
  have b2 : (k == 2) = false := by simp; omega
  have b3 : (k == 3) = false := by simp; omega
  have b6 : (k == 6) = false := by simp; omega
  have E := Aside0.mk (show Rq.bytes ⟨k, s, o, i, p, nm, os⟩ = [k] by simp [Rq.bytes, be1, *]; omega)
  clear h2 h3 h6
  go_enter Try.func11, Try.ntmps11
  go_wp2_with (first | ((with_reducible refine gate_dst (N := 7) rfl ?_); refine Kd.R_lit (Kd.int .u8) _ 5 ?hg (N := 7) ?hd (xs := ([k] : List Int)) (inner := [.int .u8 k]) (ok := fun _ => True) (okp := fun _ => True) ?hr ?hp (fun _ hk => hk) trivial (Below.refl _ _) (Nat.le_refl _) (by simp) ?_; (case hd => rfl); (case hg => rfl); (case hr => first | (go_simp; done) | (go_simp; rfl)); (case hp => exact (Reps.one (show Kd.M (Kd.int .u8) _ _ _ k [.int .u8 k] from rfl) (Reps.none _ _))); intro v0 w0 ho hb hg hnew; have rs := Rs.lit ho hb; obtain ⟨A0, d0, rfl⟩ := Kd.R_slice rs.r; obtain ⟨c0, c1, c2, c3, c4, c5, c6, c7⟩ := blk7 rs.q; have RS0 := Aside0.mk rs; clear ho hb hg hnew rs))
  go_ret
  rw [E.out]
  exact RS0.out.gives
set_option maxRecDepth 100000 in
set_option maxHeartbeats 1000000 in
theorem req_ref3 (w : World) (q : Rq) (hs : q.small) (h2 : q.kind = 3) : Calls Try.prog 11 #[.agg q.cells] w (Gives w q.bytes) := by
  obtain ⟨⟨ka, kb⟩, ⟨oa, ob⟩, ⟨ia, ib⟩, ⟨pa, pb⟩, sa, na, osa⟩ := hs
  obtain ⟨k, s, o, i, p, nm, os⟩ := q
  simp only [Rq.cells] at *
  have hwi : IntKind.u64.wrap i = i := by rw [IntKind.wrap_u64]; omega
  have hwp : IntKind.u64.wrap p = p := by rw [IntKind.wrap_u64]; omega
  have b2 : (k == 2) = false := by simp; omega
  have b3 : (k == 3) = true := by simp; omega
  have b6 : (k == 6) = false := by simp; omega
  have E := Aside0.mk (show Rq.bytes ⟨k, s, o, i, p, nm, os⟩ = [k] ++ [o] ++ be 4 i ++ be 4 p ++ textB nm ++ textB os by simp [Rq.bytes, be1, *]; omega)
  clear h2
  go_enter Try.func11, Try.ntmps11
  go_wp2_with (first | ((with_reducible refine gate_dst (N := 7) rfl ?_); refine Kd.R_lit (Kd.int .u8) _ 5 ?hg (N := 7) ?hd (xs := ([k] : List Int)) (inner := [.int .u8 k]) (ok := fun _ => True) (okp := fun _ => True) ?hr ?hp (fun _ hk => hk) trivial (Below.refl _ _) (Nat.le_refl _) (by simp) ?_; (case hd => rfl); (case hg => rfl); (case hr => first | (go_simp; done) | (go_simp; rfl)); (case hp => exact (Reps.one (show Kd.M (Kd.int .u8) _ _ _ k [.int .u8 k] from rfl) (Reps.none _ _))); intro v0 w0 ho hb hg hnew; have rs := Rs.lit ho hb; obtain ⟨A0, d0, rfl⟩ := Kd.R_slice rs.r; obtain ⟨c0, c1, c2, c3, c4, c5, c6, c7⟩ := blk7 rs.q; have RS0 := Aside0.mk rs; clear ho hb hg hnew rs) | ((with_reducible refine gate_builtin (b := .append) (xs := #[.tmp 19, .tmp 24]) rfl ?_); at_builtin; go_loud (refine app_list (Kd.int .u8) (W := w0) (w.heap.size + 1) rfl (.tmp 19) (.tmp 24) 27 5 (.int .u8 0) 1 rfl Try.underlying27 info5 z5ok _ [k] o [.int .u8 o] (fun _ => True) (fun _ => False) rfl rfl rfl (fun _ h => h.elim) RS0.out.r RS0.out.z (by show (1 + 1) * 1 ≤ 140737488355328; decide) ?_); intro A1 d1 w1 hr hch hat; have rs := RS0.out.app hr hch; clear c0 c1 c2 c3 c4 c5 c6 c7; obtain ⟨c0, c1, c2, c3, c4, c5, c6, c7⟩ := blk7 rs.q; have RS1 := Aside0.mk rs; clear rs hr hch hat))
  refine (refnum_calls w1 i 4 (by omega) (by omega) (by decide)).mono ?_
  rintro e u2 ⟨x2, rfl, hr, hb⟩
  obtain ⟨B2, d2, rfl⟩ := Kd.R_slice hr
  have rs := RS1.out.grow hb
  have HC2 := Aside0.mk (Kd.R_reads' hr).2.2
  have HZ2 := Aside0.mk rs.z
  have HL2 : (([k] ++ [o]).length + (be 4 i).length) * 1 ≤ 140737488355328 := by simp [be_length, textB_len]; try omega
  have HL2 := Aside0.mk HL2
  clear c0 c1 c2 c3 c4 c5 c6 c7 hr hb
  obtain ⟨c0, c1, c2, c3, c4, c5, c6, c7⟩ := blk7 rs.q
  have RS2 := Aside0.mk rs
  clear rs
  go_wp2_with (first | ((with_reducible refine gate_builtin (b := .append) (xs := #[.tmp 26, .tmp 31]) rfl ?_); at_builtin; go_loud (refine Kd.R_append_rows (Kd.int .u8) (w0 := w.alloc (.cells #[.int .i64 k, .string s, .int .i64 o, .int .i64 i, .int .i64 p, .string nm, .string os] 25)) (w.heap.size + 1) rfl (.tmp 26) (.tmp 31) 27 5 (.int .u8 0) 1 rfl Try.underlying27 info5 rfl (by decide) (by omega) _ ([k] ++ [o]) (be 4 i) _ _ _ (fun _ => True) (fun _ => False) rfl rfl RS2.out.r HC2.out (fun _ _ h => h) (fun _ h => h.elim) (fun _ _ => trivial) RS2.out.b HZ2.out HL2.out ?_); intro v2 w2 hr hb hg hat; have rs : Rs w #[.int .i64 k, .string s, .int .i64 o, .int .i64 i, .int .i64 p, .string nm, .string os] 25 _ v2 w2 := ⟨hr, hb⟩; obtain ⟨L2, hL⟩ : ∃ L, L = [k] ++ [o] ++ be 4 i := ⟨_, rfl⟩; rw [← hL] at rs; have HN2 := Aside0.mk hL; clear hL; obtain ⟨E2, f2, rfl⟩ := Kd.R_slice rs.r; clear c0 c1 c2 c3 c4 c5 c6 c7; obtain ⟨c0, c1, c2, c3, c4, c5, c6, c7⟩ := blk7 rs.q; have RS2 := Aside0.mk rs; clear rs hr hb hg hat))
  refine (refnum_calls w2 p 4 (by omega) (by omega) (by decide)).mono ?_
  rintro e u3 ⟨x3, rfl, hr, hb⟩
  obtain ⟨B3, d3, rfl⟩ := Kd.R_slice hr
  have rs := RS2.out.grow hb
  have HC3 := Aside0.mk (Kd.R_reads' hr).2.2
  have HZ3 := Aside0.mk rs.z
  have HL3 : ((L2).length + (be 4 p).length) * 1 ≤ 140737488355328 := by rw [HN2.out]; simp [be_length, textB_len]; try omega
  have HL3 := Aside0.mk HL3
  clear c0 c1 c2 c3 c4 c5 c6 c7 hr hb
  obtain ⟨c0, c1, c2, c3, c4, c5, c6, c7⟩ := blk7 rs.q
  have RS3 := Aside0.mk rs
  clear rs
  go_wp2_with (first | ((with_reducible refine gate_builtin (b := .append) (xs := #[.tmp 33, .tmp 38]) rfl ?_); at_builtin; go_loud (refine Kd.R_append_rows (Kd.int .u8) (w0 := w.alloc (.cells #[.int .i64 k, .string s, .int .i64 o, .int .i64 i, .int .i64 p, .string nm, .string os] 25)) (w.heap.size + 1) rfl (.tmp 33) (.tmp 38) 27 5 (.int .u8 0) 1 rfl Try.underlying27 info5 rfl (by decide) (by omega) _ (L2) (be 4 p) _ _ _ (fun _ => True) (fun _ => False) rfl rfl RS3.out.r HC3.out (fun _ _ h => h) (fun _ h => h.elim) (fun _ _ => trivial) RS3.out.b HZ3.out HL3.out ?_); intro v3 w3 hr hb hg hat; have rs : Rs w #[.int .i64 k, .string s, .int .i64 o, .int .i64 i, .int .i64 p, .string nm, .string os] 25 _ v3 w3 := ⟨hr, hb⟩; obtain ⟨L3, hL⟩ : ∃ L, L = L2 ++ be 4 p := ⟨_, rfl⟩; rw [← hL] at rs; have HN3 := Aside0.mk hL; clear hL; obtain ⟨E3, f3, rfl⟩ := Kd.R_slice rs.r; clear c0 c1 c2 c3 c4 c5 c6 c7; obtain ⟨c0, c1, c2, c3, c4, c5, c6, c7⟩ := blk7 rs.q; have RS3 := Aside0.mk rs; clear rs hr hb hg hat))
  refine (text_ref w3 nm (by omega)).mono ?_
  rintro e u4 ⟨x4, rfl, hr, hb⟩
  obtain ⟨B4, d4, rfl⟩ := Kd.R_slice hr
  have rs := RS3.out.grow hb
  have HC4 := Aside0.mk (Kd.R_reads' hr).2.2
  have HZ4 := Aside0.mk rs.z
  have HL4 : ((L3).length + (textB nm).length) * 1 ≤ 140737488355328 := by rw [HN3.out, HN2.out]; simp [be_length, textB_len]; try omega
  have HL4 := Aside0.mk HL4
  clear c0 c1 c2 c3 c4 c5 c6 c7 hr hb
  obtain ⟨c0, c1, c2, c3, c4, c5, c6, c7⟩ := blk7 rs.q
  have RS4 := Aside0.mk rs
  clear rs
  go_wp2_with (first | ((with_reducible refine gate_builtin (b := .append) (xs := #[.tmp 40, .tmp 44]) rfl ?_); at_builtin; go_loud (refine Kd.R_append_rows (Kd.int .u8) (w0 := w.alloc (.cells #[.int .i64 k, .string s, .int .i64 o, .int .i64 i, .int .i64 p, .string nm, .string os] 25)) (w.heap.size + 1) rfl (.tmp 40) (.tmp 44) 27 5 (.int .u8 0) 1 rfl Try.underlying27 info5 rfl (by decide) (by omega) _ (L3) (textB nm) _ _ _ (fun _ => True) (fun _ => False) rfl rfl RS4.out.r HC4.out (fun _ _ h => h) (fun _ h => h.elim) (fun _ _ => trivial) RS4.out.b HZ4.out HL4.out ?_); intro v4 w4 hr hb hg hat; have rs : Rs w #[.int .i64 k, .string s, .int .i64 o, .int .i64 i, .int .i64 p, .string nm, .string os] 25 _ v4 w4 := ⟨hr, hb⟩; obtain ⟨L4, hL⟩ : ∃ L, L = L3 ++ textB nm := ⟨_, rfl⟩; rw [← hL] at rs; have HN4 := Aside0.mk hL; clear hL; obtain ⟨E4, f4, rfl⟩ := Kd.R_slice rs.r; clear c0 c1 c2 c3 c4 c5 c6 c7; obtain ⟨c0, c1, c2, c3, c4, c5, c6, c7⟩ := blk7 rs.q; have RS4 := Aside0.mk rs; clear rs hr hb hg hat))
  refine (text_ref w4 os (by omega)).mono ?_
  rintro e u5 ⟨x5, rfl, hr, hb⟩
  obtain ⟨B5, d5, rfl⟩ := Kd.R_slice hr
  have rs := RS4.out.grow hb
  have HC5 := Aside0.mk (Kd.R_reads' hr).2.2
  have HZ5 := Aside0.mk rs.z
  have HL5 : ((L4).length + (textB os).length) * 1 ≤ 140737488355328 := by rw [HN4.out, HN3.out, HN2.out]; simp [be_length, textB_len]; try omega
  have HL5 := Aside0.mk HL5
  clear c0 c1 c2 c3 c4 c5 c6 c7 hr hb
  obtain ⟨c0, c1, c2, c3, c4, c5, c6, c7⟩ := blk7 rs.q
  have RS5 := Aside0.mk rs
  clear rs
  go_wp2_with (first | ((with_reducible refine gate_builtin (b := .append) (xs := #[.tmp 46, .tmp 50]) rfl ?_); at_builtin; go_loud (refine Kd.R_append_rows (Kd.int .u8) (w0 := w.alloc (.cells #[.int .i64 k, .string s, .int .i64 o, .int .i64 i, .int .i64 p, .string nm, .string os] 25)) (w.heap.size + 1) rfl (.tmp 46) (.tmp 50) 27 5 (.int .u8 0) 1 rfl Try.underlying27 info5 rfl (by decide) (by omega) _ (L4) (textB os) _ _ _ (fun _ => True) (fun _ => False) rfl rfl RS5.out.r HC5.out (fun _ _ h => h) (fun _ h => h.elim) (fun _ _ => trivial) RS5.out.b HZ5.out HL5.out ?_); intro v5 w5 hr hb hg hat; have rs : Rs w #[.int .i64 k, .string s, .int .i64 o, .int .i64 i, .int .i64 p, .string nm, .string os] 25 _ v5 w5 := ⟨hr, hb⟩; obtain ⟨L5, hL⟩ : ∃ L, L = L4 ++ textB os := ⟨_, rfl⟩; rw [← hL] at rs; have HN5 := Aside0.mk hL; clear hL; obtain ⟨E5, f5, rfl⟩ := Kd.R_slice rs.r; clear c0 c1 c2 c3 c4 c5 c6 c7; obtain ⟨c0, c1, c2, c3, c4, c5, c6, c7⟩ := blk7 rs.q; have RS5 := Aside0.mk rs; clear rs hr hb hg hat))
  go_ret
  rw [E.out, ← HN2.out, ← HN3.out, ← HN4.out, ← HN5.out]
  exact RS5.out.gives
theorem req_ref (w : World) (q : Rq) (hs : q.small) : Calls Try.prog 11 #[.agg q.cells] w (Gives w q.bytes) := by
  by_cases h2 : q.kind = 2
  · exact req_ref2 w q hs h2
  by_cases h3 : q.kind = 3
  · exact req_ref3 w q hs h3
  by_cases h6 : q.kind = 6
  · exact req_ref6 w q hs h6
  exact req_ref0 w q hs h2 h3 h6
end Go.Proofs.Ythkdihpbdaehbaa.Pr
