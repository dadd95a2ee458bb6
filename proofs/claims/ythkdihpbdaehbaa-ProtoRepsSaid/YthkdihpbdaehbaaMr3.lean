import Derived.Test.YthkdihpbdaehbaaMr2
import Derived.Laws.Bits64b
import Derived.Defers
import Derived.Recover
namespace Go.Proofs.Ythkdihpbdaehbaa.Pr
set_option linter.unusedVariables false
set_option linter.unusedSimpArgs false
open Go.RowKit Go.Proofs.YthkdihpbdaehbaaW.PrintWords Go.Proofs.YthkdihpbdaehbaaW.PrintLast Go.Proofs.YthkdihpbdaehbaaW.PrintMore Go.Proofs.Ythkdihpbdaehbaa.Bs
theorem right_small (q : Rq) (h : rightB q = true) : q.small := by
  obtain ⟨k, s, o, i, p, nm, os⟩ := q
  simp only [rightB, opB, fitsB, Rq.op, Bool.and_eq_true, Bool.or_eq_true, decide_eq_true_eq] at h
  obtain ⟨⟨⟨⟨h1, h2⟩, h3⟩, h4⟩, h5⟩ := h
  split at h5
  · simp only [Bool.and_eq_true, Bool.or_eq_true, decide_eq_true_eq] at h5
    obtain ⟨⟨⟨⟨⟨a1, a2⟩, a3, a4⟩, a5, a6⟩, a7⟩, a8⟩ := h5
    exact ⟨⟨h1, h2⟩, ⟨of_decide_eq_true a1, of_decide_eq_true a2⟩, ⟨of_decide_eq_true a3, of_decide_eq_true a4⟩, ⟨of_decide_eq_true a5, of_decide_eq_true a6⟩, h3, of_decide_eq_true a7, of_decide_eq_true a8⟩
  · simp only [Bool.and_eq_true, Bool.or_eq_true, decide_eq_true_eq] at h5
    exact ⟨⟨h1, h2⟩, ⟨by show 0 ≤ o; omega, by show o ≤ 255; omega⟩, ⟨by show 0 ≤ i; omega, by show i ≤ _; omega⟩, ⟨by show 0 ≤ p; omega, by show p ≤ _; omega⟩, h3, by show nm.size ≤ 200; omega, by show os.size ≤ 4000; omega⟩
theorem be1 (n : Int) : be 1 n = [n % 256] := by simp [be]
/-- The bytes so far, in a row of their own, and the request's box. -/
structure Rs (w : World) (cs : Array Value) (t : Nat) (l : List Int) (v : Value) (w1 : World) : Prop where
  r : (Kd.int .u8).R 5 w1 (w.heap.size + 1) (fun _ => True) v l
  b : Below (w.heap.size + 1) (w.alloc (.cells cs t)) w1
theorem Rs.q {w w1 : World} {cs : Array Value} {t : Nat} {l : List Int} {v : Value} (h : Rs w cs t l v w1) : w1.heap[w.heap.size]? = some (.cells cs t (0, 0)) :=
  (h.b.block _ (Nat.lt_succ_self _)).trans (heap_alloc_new w (.cells cs t))
theorem Rs.z {w w1 : World} {cs : Array Value} {t : Nat} {l : List Int} {v : Value} (h : Rs w cs t l v w1) : w.heap.size + 1 ≤ w1.heap.size := by
  have := h.b.size
  simpa using this
theorem Rs.lit {w w1 : World} {cs : Array Value} {t : Nat} {l : List Int} {v : Value} (h : (Kd.int .u8).R 5 w1 (w.alloc (.cells cs t)).heap.size (fun _ => True) v l) (hb : Below (w.alloc (.cells cs t)).heap.size (w.alloc (.cells cs t)) w1) : Rs w cs t l v w1 := by
  have e : (w.alloc (.cells cs t)).heap.size = w.heap.size + 1 := by simp
  rw [e] at h hb
  exact ⟨h, hb⟩
theorem Rs.grow {w w1 w2 : World} {cs : Array Value} {t : Nat} {l : List Int} {v : Value} (h : Rs w cs t l v w1) (hb : Below w1.heap.size w1 w2) : Rs w cs t l v w2 :=
  ⟨Kd.R_below h.r hb, h.b.trans (Below.mono hb h.z)⟩
theorem Rs.gives {w w1 : World} {cs : Array Value} {t : Nat} {l : List Int} {v : Value} (h : Rs w cs t l v w1) : Gives w l (.returned v) w1 :=
  ⟨v, rfl, Kd.R_lower h.r (Nat.le_succ _), below_step (below_alloc (Below.refl _ _) _) (Below.mono h.b (by simp))⟩
theorem Rs.app {w w0 w1 : World} {cs : Array Value} {t : Nat} {l l1 : List Int} {v v1 : Value} {ok : Nat → Prop} (h : Rs w cs t l v w0) (hr : (Kd.int .u8).R 5 w1 (w.heap.size + 1) ok v1 l1) (hch : Ch (fun k => some k = v.ownBlock) w0 w1) : Rs w cs t l1 v1 w1 :=
  ⟨Kd.R_mono hr (fun _ _ => trivial), h.b.trans (Ch.to_below hch (fun k hk => own_base (Kd.own_of_R h.r) k hk.symm) h.z)⟩
set_option maxRecDepth 100000 in
set_option maxHeartbeats 1000000 in
theorem req_ref2 (w : World) (q : Rq) (hs : q.small) (h2 : q.kind = 2) : Calls Try.prog 11 #[.agg q.cells] w (Gives w q.bytes) := by
  obtain ⟨⟨ka, kb⟩, ⟨oa, ob⟩, ⟨ia, ib⟩, ⟨pa, pb⟩, sa, na, osa⟩ := hs
  obtain ⟨k, s, o, i, p, nm, os⟩ := q
  simp only [Rq.cells] at *
  have hwi : IntKind.u64.wrap i = i := by rw [IntKind.wrap_u64]; omega
  have hwp : IntKind.u64.wrap p = p := by rw [IntKind.wrap_u64]; omega
  have b2 : (k == 2) = true := by simp; omega
  have b3 : (k == 3) = false := by simp; omega
  have b6 : (k == 6) = false := by simp; omega
  have E := Aside0.mk (show Rq.bytes ⟨k, s, o, i, p, nm, os⟩ = [k] ++ textB s by simp [Rq.bytes, be1, *])
  clear h2
  go_enter Try.func11, Try.ntmps11
  go_wp2_with (first | ((with_reducible refine gate_dst (N := 7) rfl ?_); refine Kd.R_lit (Kd.int .u8) _ 5 ?hg (N := 7) ?hd (xs := ([k] : List Int)) (inner := [.int .u8 k]) (ok := fun _ => True) (okp := fun _ => True) ?hr ?hp (fun _ hk => hk) trivial (Below.refl _ _) (Nat.le_refl _) (by simp) ?_; (case hd => rfl); (case hg => rfl); (case hr => first | (go_simp; done) | (go_simp; rfl)); (case hp => exact (Reps.one (show Kd.M (Kd.int .u8) _ _ _ k [.int .u8 k] from rfl) (Reps.none _ _))); intro v0 w0 ho hb hg hnew; have rs := Rs.lit ho hb; obtain ⟨A0, d0, rfl⟩ := Kd.R_slice rs.r; obtain ⟨c0, c1, c2, c3, c4, c5, c6, c7⟩ := blk7 rs.q; have RS0 := Aside0.mk rs; clear ho hb hg hnew rs))
  refine (text_ref w0 s (by omega)).mono ?_
  rintro e u1 ⟨x1, rfl, hr, hb⟩
  obtain ⟨B1, d1, rfl⟩ := Kd.R_slice hr
  have rs := RS0.out.grow hb
  have HC1 := Aside0.mk (Kd.R_reads' hr).2.2
  have HZ1 := Aside0.mk rs.z
  have HL1 : (([k]).length + (textB s).length) * 1 ≤ 140737488355328 := by simp [be_length, textB_len]; try omega
  have HL1 := Aside0.mk HL1
  clear c0 c1 c2 c3 c4 c5 c6 c7 hr hb
  obtain ⟨c0, c1, c2, c3, c4, c5, c6, c7⟩ := blk7 rs.q
  have RS1 := Aside0.mk rs
  clear rs
  go_wp2_with (first | ((with_reducible refine gate_builtin (b := .append) (xs := #[.tmp 11, .tmp 14]) rfl ?_); at_builtin; go_loud (refine Kd.R_append_rows (Kd.int .u8) (w0 := w.alloc (.cells #[.int .i64 k, .string s, .int .i64 o, .int .i64 i, .int .i64 p, .string nm, .string os] 25)) (w.heap.size + 1) rfl (.tmp 11) (.tmp 14) 27 5 (.int .u8 0) 1 rfl Try.underlying27 info5 rfl (by decide) (by omega) _ ([k]) (textB s) _ _ _ (fun _ => True) (fun _ => False) rfl rfl RS1.out.r HC1.out (fun _ _ h => h) (fun _ h => h.elim) (fun _ _ => trivial) RS1.out.b HZ1.out HL1.out ?_); intro v1 w1 hr hb hg hat; have rs : Rs w #[.int .i64 k, .string s, .int .i64 o, .int .i64 i, .int .i64 p, .string nm, .string os] 25 _ v1 w1 := ⟨hr, hb⟩; obtain ⟨L1, hL⟩ : ∃ L, L = [k] ++ textB s := ⟨_, rfl⟩; rw [← hL] at rs; have HN1 := Aside0.mk hL; clear hL; obtain ⟨E1, f1, rfl⟩ := Kd.R_slice rs.r; clear c0 c1 c2 c3 c4 c5 c6 c7; obtain ⟨c0, c1, c2, c3, c4, c5, c6, c7⟩ := blk7 rs.q; have RS1 := Aside0.mk rs; clear rs hr hb hg hat))
  go_ret
  rw [E.out, ← HN1.out]
  exact RS1.out.gives
set_option maxRecDepth 100000 in
set_option maxHeartbeats 1000000 in
theorem req_ref6 (w : World) (q : Rq) (hs : q.small) (h2 : q.kind = 6) : Calls Try.prog 11 #[.agg q.cells] w (Gives w q.bytes) := by
  obtain ⟨⟨ka, kb⟩, ⟨oa, ob⟩, ⟨ia, ib⟩, ⟨pa, pb⟩, sa, na, osa⟩ := hs
  obtain ⟨k, s, o, i, p, nm, os⟩ := q
  simp only [Rq.cells] at *
  have hwi : IntKind.u64.wrap i = i := by rw [IntKind.wrap_u64]; omega
  have hwp : IntKind.u64.wrap p = p := by rw [IntKind.wrap_u64]; omega
  have b2 : (k == 2) = false := by simp; omega
  have b3 : (k == 3) = false := by simp; omega
  have b6 : (k == 6) = true := by simp; omega
  have E := Aside0.mk (show Rq.bytes ⟨k, s, o, i, p, nm, os⟩ = [k] ++ be 4 i by simp [Rq.bytes, be1, *])
  clear h2
  go_enter Try.func11, Try.ntmps11
  go_wp2_with (first | ((with_reducible refine gate_dst (N := 7) rfl ?_); refine Kd.R_lit (Kd.int .u8) _ 5 ?hg (N := 7) ?hd (xs := ([k] : List Int)) (inner := [.int .u8 k]) (ok := fun _ => True) (okp := fun _ => True) ?hr ?hp (fun _ hk => hk) trivial (Below.refl _ _) (Nat.le_refl _) (by simp) ?_; (case hd => rfl); (case hg => rfl); (case hr => first | (go_simp; done) | (go_simp; rfl)); (case hp => exact (Reps.one (show Kd.M (Kd.int .u8) _ _ _ k [.int .u8 k] from rfl) (Reps.none _ _))); intro v0 w0 ho hb hg hnew; have rs := Rs.lit ho hb; obtain ⟨A0, d0, rfl⟩ := Kd.R_slice rs.r; obtain ⟨c0, c1, c2, c3, c4, c5, c6, c7⟩ := blk7 rs.q; have RS0 := Aside0.mk rs; clear ho hb hg hnew rs))
  refine (refnum_calls w0 i 4 (by omega) (by omega) (by decide)).mono ?_
  rintro e u1 ⟨x1, rfl, hr, hb⟩
  obtain ⟨B1, d1, rfl⟩ := Kd.R_slice hr
  have rs := RS0.out.grow hb
  have HC1 := Aside0.mk (Kd.R_reads' hr).2.2
  have HZ1 := Aside0.mk rs.z
  have HL1 : (([k]).length + (be 4 i).length) * 1 ≤ 140737488355328 := by simp [be_length, textB_len]; try omega
  have HL1 := Aside0.mk HL1
  clear c0 c1 c2 c3 c4 c5 c6 c7 hr hb
  obtain ⟨c0, c1, c2, c3, c4, c5, c6, c7⟩ := blk7 rs.q
  have RS1 := Aside0.mk rs
  clear rs
  go_wp2_with (first | ((with_reducible refine gate_builtin (b := .append) (xs := #[.tmp 55, .tmp 60]) rfl ?_); at_builtin; go_loud (refine Kd.R_append_rows (Kd.int .u8) (w0 := w.alloc (.cells #[.int .i64 k, .string s, .int .i64 o, .int .i64 i, .int .i64 p, .string nm, .string os] 25)) (w.heap.size + 1) rfl (.tmp 55) (.tmp 60) 27 5 (.int .u8 0) 1 rfl Try.underlying27 info5 rfl (by decide) (by omega) _ ([k]) (be 4 i) _ _ _ (fun _ => True) (fun _ => False) rfl rfl RS1.out.r HC1.out (fun _ _ h => h) (fun _ h => h.elim) (fun _ _ => trivial) RS1.out.b HZ1.out HL1.out ?_); intro v1 w1 hr hb hg hat; have rs : Rs w #[.int .i64 k, .string s, .int .i64 o, .int .i64 i, .int .i64 p, .string nm, .string os] 25 _ v1 w1 := ⟨hr, hb⟩; obtain ⟨L1, hL⟩ : ∃ L, L = [k] ++ be 4 i := ⟨_, rfl⟩; rw [← hL] at rs; have HN1 := Aside0.mk hL; clear hL; obtain ⟨E1, f1, rfl⟩ := Kd.R_slice rs.r; clear c0 c1 c2 c3 c4 c5 c6 c7; obtain ⟨c0, c1, c2, c3, c4, c5, c6, c7⟩ := blk7 rs.q; have RS1 := Aside0.mk rs; clear rs hr hb hg hat))
  go_ret
  rw [E.out, ← HN1.out]
  exact RS1.out.gives
set_option maxRecDepth 100000 in
set_option maxHeartbeats 1000000 in
theorem req_ref0 (w : World) (q : Rq) (hs : q.small) (h2 : ¬ q.kind = 2) (h3 : ¬ q.kind = 3) (h6 : ¬ q.kind = 6) : Calls Try.prog 11 #[.agg q.cells] w (Gives w q.bytes) := by
  obtain ⟨⟨ka, kb⟩, ⟨oa, ob⟩, ⟨ia, ib⟩, ⟨pa, pb⟩, sa, na, osa⟩ := hs
  obtain ⟨k, s, o, i, p, nm, os⟩ := q
  simp only [Rq.cells] at *
  have hwi : IntKind.u64.wrap i = i := by rw [IntKind.wrap_u64]; omega
  have hwp : IntKind.u64.wrap p = p := by rw [IntKind.wrap_u64]; omega
  have b2 : (k == 2) = false := by simp; omega
  have b3 : (k == 3) = false := by simp; omega
  have b6 : (k == 6) = false := by simp; omega
  have E := Aside0.mk (show Rq.bytes ⟨k, s, o, i, p, nm, os⟩ = [k] by simp [Rq.bytes, be1, *]; omega)
  clear h2 h3 h6
  go_enter Try.func11, Try.ntmps11
  go_wp2_with (first | ((with_reducible refine gate_dst (N := 7) rfl ?_); refine Kd.R_lit (Kd.int .u8) _ 5 ?hg (N := 7) ?hd (xs := ([k] : List Int)) (inner := [.int .u8 k]) (ok := fun _ => True) (okp := fun _ => True) ?hr ?hp (fun _ hk => hk) trivial (Below.refl _ _) (Nat.le_refl _) (by simp) ?_; (case hd => rfl); (case hg => rfl); (case hr => first | (go_simp; done) | (go_simp; rfl)); (case hp => exact (Reps.one (show Kd.M (Kd.int .u8) _ _ _ k [.int .u8 k] from rfl) (Reps.none _ _))); intro v0 w0 ho hb hg hnew; have rs := Rs.lit ho hb; obtain ⟨A0, d0, rfl⟩ := Kd.R_slice rs.r; obtain ⟨c0, c1, c2, c3, c4, c5, c6, c7⟩ := blk7 rs.q; have RS0 := Aside0.mk rs; clear ho hb hg hnew rs))
  go_ret
  rw [E.out]
  exact RS0.out.gives
set_option maxRecDepth 100000 in
set_option maxHeartbeats 1000000 in
theorem req_ref3 (w : World) (q : Rq) (hs : q.small) (h2 : q.kind = 3) : Calls Try.prog 11 #[.agg q.cells] w (Gives w q.bytes) := by
  obtain ⟨⟨ka, kb⟩, ⟨oa, ob⟩, ⟨ia, ib⟩, ⟨pa, pb⟩, sa, na, osa⟩ := hs
  obtain ⟨k, s, o, i, p, nm, os⟩ := q
  simp only [Rq.cells] at *
  have hwi : IntKind.u64.wrap i = i := by rw [IntKind.wrap_u64]; omega
  have hwp : IntKind.u64.wrap p = p := by rw [IntKind.wrap_u64]; omega
  have b2 : (k == 2) = false := by simp; omega
  have b3 : (k == 3) = true := by simp; omega
  have b6 : (k == 6) = false := by simp; omega
  have E := Aside0.mk (show Rq.bytes ⟨k, s, o, i, p, nm, os⟩ = [k] ++ [o] ++ be 4 i ++ be 4 p ++ textB nm ++ textB os by simp [Rq.bytes, be1, *]; omega)
  clear h2
  go_enter Try.func11, Try.ntmps11
  go_wp2_with (first | ((with_reducible refine gate_dst (N := 7) rfl ?_); refine Kd.R_lit (Kd.int .u8) _ 5 ?hg (N := 7) ?hd (xs := ([k] : List Int)) (inner := [.int .u8 k]) (ok := fun _ => True) (okp := fun _ => True) ?hr ?hp (fun _ hk => hk) trivial (Below.refl _ _) (Nat.le_refl _) (by simp) ?_; (case hd => rfl); (case hg => rfl); (case hr => first | (go_simp; done) | (go_simp; rfl)); (case hp => exact (Reps.one (show Kd.M (Kd.int .u8) _ _ _ k [.int .u8 k] from rfl) (Reps.none _ _))); intro v0 w0 ho hb hg hnew; have rs := Rs.lit ho hb; obtain ⟨A0, d0, rfl⟩ := Kd.R_slice rs.r; obtain ⟨c0, c1, c2, c3, c4, c5, c6, c7⟩ := blk7 rs.q; have RS0 := Aside0.mk rs; clear ho hb hg hnew rs) | ((with_reducible refine gate_builtin (b := .append) (xs := #[.tmp 19, .tmp 24]) rfl ?_); at_builtin; go_loud (refine app_list (Kd.int .u8) (W := w0) (w.heap.size + 1) rfl (.tmp 19) (.tmp 24) 27 5 (.int .u8 0) 1 rfl Try.underlying27 info5 z5ok _ [k] o [.int .u8 o] (fun _ => True) (fun _ => False) rfl rfl rfl (fun _ h => h.elim) RS0.out.r RS0.out.z (by show (1 + 1) * 1 ≤ 140737488355328; decide) ?_); intro A1 d1 w1 hr hch hat; have rs := RS0.out.app hr hch; clear c0 c1 c2 c3 c4 c5 c6 c7; obtain ⟨c0, c1, c2, c3, c4, c5, c6, c7⟩ := blk7 rs.q; have RS1 := Aside0.mk rs; clear rs hr hch hat))
  refine (refnum_calls w1 i 4 (by omega) (by omega) (by decide)).mono ?_
  rintro e u2 ⟨x2, rfl, hr, hb⟩
  obtain ⟨B2, d2, rfl⟩ := Kd.R_slice hr
  have rs := RS1.out.grow hb
  have HC2 := Aside0.mk (Kd.R_reads' hr).2.2
  have HZ2 := Aside0.mk rs.z
  have HL2 : (([k] ++ [o]).length + (be 4 i).length) * 1 ≤ 140737488355328 := by simp [be_length, textB_len]; try omega
  have HL2 := Aside0.mk HL2
  clear c0 c1 c2 c3 c4 c5 c6 c7 hr hb
  obtain ⟨c0, c1, c2, c3, c4, c5, c6, c7⟩ := blk7 rs.q
  have RS2 := Aside0.mk rs
  clear rs
  go_wp2_with (first | ((with_reducible refine gate_builtin (b := .append) (xs := #[.tmp 26, .tmp 31]) rfl ?_); at_builtin; go_loud (refine Kd.R_append_rows (Kd.int .u8) (w0 := w.alloc (.cells #[.int .i64 k, .string s, .int .i64 o, .int .i64 i, .int .i64 p, .string nm, .string os] 25)) (w.heap.size + 1) rfl (.tmp 26) (.tmp 31) 27 5 (.int .u8 0) 1 rfl Try.underlying27 info5 rfl (by decide) (by omega) _ ([k] ++ [o]) (be 4 i) _ _ _ (fun _ => True) (fun _ => False) rfl rfl RS2.out.r HC2.out (fun _ _ h => h) (fun _ h => h.elim) (fun _ _ => trivial) RS2.out.b HZ2.out HL2.out ?_); intro v2 w2 hr hb hg hat; have rs : Rs w #[.int .i64 k, .string s, .int .i64 o, .int .i64 i, .int .i64 p, .string nm, .string os] 25 _ v2 w2 := ⟨hr, hb⟩; obtain ⟨L2, hL⟩ : ∃ L, L = [k] ++ [o] ++ be 4 i := ⟨_, rfl⟩; rw [← hL] at rs; have HN2 := Aside0.mk hL; clear hL; obtain ⟨E2, f2, rfl⟩ := Kd.R_slice rs.r; clear c0 c1 c2 c3 c4 c5 c6 c7; obtain ⟨c0, c1, c2, c3, c4, c5, c6, c7⟩ := blk7 rs.q; have RS2 := Aside0.mk rs; clear rs hr hb hg hat))
  refine (refnum_calls w2 p 4 (by omega) (by omega) (by decide)).mono ?_
  rintro e u3 ⟨x3, rfl, hr, hb⟩
  obtain ⟨B3, d3, rfl⟩ := Kd.R_slice hr
  have rs := RS2.out.grow hb
  have HC3 := Aside0.mk (Kd.R_reads' hr).2.2
  have HZ3 := Aside0.mk rs.z
  have HL3 : ((L2).length + (be 4 p).length) * 1 ≤ 140737488355328 := by rw [HN2.out]; simp [be_length, textB_len]; try omega
  have HL3 := Aside0.mk HL3
  clear c0 c1 c2 c3 c4 c5 c6 c7 hr hb
  obtain ⟨c0, c1, c2, c3, c4, c5, c6, c7⟩ := blk7 rs.q
  have RS3 := Aside0.mk rs
  clear rs
  go_wp2_with (first | ((with_reducible refine gate_builtin (b := .append) (xs := #[.tmp 33, .tmp 38]) rfl ?_); at_builtin; go_loud (refine Kd.R_append_rows (Kd.int .u8) (w0 := w.alloc (.cells #[.int .i64 k, .string s, .int .i64 o, .int .i64 i, .int .i64 p, .string nm, .string os] 25)) (w.heap.size + 1) rfl (.tmp 33) (.tmp 38) 27 5 (.int .u8 0) 1 rfl Try.underlying27 info5 rfl (by decide) (by omega) _ (L2) (be 4 p) _ _ _ (fun _ => True) (fun _ => False) rfl rfl RS3.out.r HC3.out (fun _ _ h => h) (fun _ h => h.elim) (fun _ _ => trivial) RS3.out.b HZ3.out HL3.out ?_); intro v3 w3 hr hb hg hat; have rs : Rs w #[.int .i64 k, .string s, .int .i64 o, .int .i64 i, .int .i64 p, .string nm, .string os] 25 _ v3 w3 := ⟨hr, hb⟩; obtain ⟨L3, hL⟩ : ∃ L, L = L2 ++ be 4 p := ⟨_, rfl⟩; rw [← hL] at rs; have HN3 := Aside0.mk hL; clear hL; obtain ⟨E3, f3, rfl⟩ := Kd.R_slice rs.r; clear c0 c1 c2 c3 c4 c5 c6 c7; obtain ⟨c0, c1, c2, c3, c4, c5, c6, c7⟩ := blk7 rs.q; have RS3 := Aside0.mk rs; clear rs hr hb hg hat))
  refine (text_ref w3 nm (by omega)).mono ?_
  rintro e u4 ⟨x4, rfl, hr, hb⟩
  obtain ⟨B4, d4, rfl⟩ := Kd.R_slice hr
  have rs := RS3.out.grow hb
  have HC4 := Aside0.mk (Kd.R_reads' hr).2.2
  have HZ4 := Aside0.mk rs.z
  have HL4 : ((L3).length + (textB nm).length) * 1 ≤ 140737488355328 := by rw [HN3.out, HN2.out]; simp [be_length, textB_len]; try omega
  have HL4 := Aside0.mk HL4
  clear c0 c1 c2 c3 c4 c5 c6 c7 hr hb
  obtain ⟨c0, c1, c2, c3, c4, c5, c6, c7⟩ := blk7 rs.q
  have RS4 := Aside0.mk rs
  clear rs
  go_wp2_with (first | ((with_reducible refine gate_builtin (b := .append) (xs := #[.tmp 40, .tmp 44]) rfl ?_); at_builtin; go_loud (refine Kd.R_append_rows (Kd.int .u8) (w0 := w.alloc (.cells #[.int .i64 k, .string s, .int .i64 o, .int .i64 i, .int .i64 p, .string nm, .string os] 25)) (w.heap.size + 1) rfl (.tmp 40) (.tmp 44) 27 5 (.int .u8 0) 1 rfl Try.underlying27 info5 rfl (by decide) (by omega) _ (L3) (textB nm) _ _ _ (fun _ => True) (fun _ => False) rfl rfl RS4.out.r HC4.out (fun _ _ h => h) (fun _ h => h.elim) (fun _ _ => trivial) RS4.out.b HZ4.out HL4.out ?_); intro v4 w4 hr hb hg hat; have rs : Rs w #[.int .i64 k, .string s, .int .i64 o, .int .i64 i, .int .i64 p, .string nm, .string os] 25 _ v4 w4 := ⟨hr, hb⟩; obtain ⟨L4, hL⟩ : ∃ L, L = L3 ++ textB nm := ⟨_, rfl⟩; rw [← hL] at rs; have HN4 := Aside0.mk hL; clear hL; obtain ⟨E4, f4, rfl⟩ := Kd.R_slice rs.r; clear c0 c1 c2 c3 c4 c5 c6 c7; obtain ⟨c0, c1, c2, c3, c4, c5, c6, c7⟩ := blk7 rs.q; have RS4 := Aside0.mk rs; clear rs hr hb hg hat))
  refine (text_ref w4 os (by omega)).mono ?_
  rintro e u5 ⟨x5, rfl, hr, hb⟩
  obtain ⟨B5, d5, rfl⟩ := Kd.R_slice hr
  have rs := RS4.out.grow hb
  have HC5 := Aside0.mk (Kd.R_reads' hr).2.2
  have HZ5 := Aside0.mk rs.z
  have HL5 : ((L4).length + (textB os).length) * 1 ≤ 140737488355328 := by rw [HN4.out, HN3.out, HN2.out]; simp [be_length, textB_len]; try omega
  have HL5 := Aside0.mk HL5
  clear c0 c1 c2 c3 c4 c5 c6 c7 hr hb
  obtain ⟨c0, c1, c2, c3, c4, c5, c6, c7⟩ := blk7 rs.q
  have RS5 := Aside0.mk rs
  clear rs
  go_wp2_with (first | ((with_reducible refine gate_builtin (b := .append) (xs := #[.tmp 46, .tmp 50]) rfl ?_); at_builtin; go_loud (refine Kd.R_append_rows (Kd.int .u8) (w0 := w.alloc (.cells #[.int .i64 k, .string s, .int .i64 o, .int .i64 i, .int .i64 p, .string nm, .string os] 25)) (w.heap.size + 1) rfl (.tmp 46) (.tmp 50) 27 5 (.int .u8 0) 1 rfl Try.underlying27 info5 rfl (by decide) (by omega) _ (L4) (textB os) _ _ _ (fun _ => True) (fun _ => False) rfl rfl RS5.out.r HC5.out (fun _ _ h => h) (fun _ h => h.elim) (fun _ _ => trivial) RS5.out.b HZ5.out HL5.out ?_); intro v5 w5 hr hb hg hat; have rs : Rs w #[.int .i64 k, .string s, .int .i64 o, .int .i64 i, .int .i64 p, .string nm, .string os] 25 _ v5 w5 := ⟨hr, hb⟩; obtain ⟨L5, hL⟩ : ∃ L, L = L4 ++ textB os := ⟨_, rfl⟩; rw [← hL] at rs; have HN5 := Aside0.mk hL; clear hL; obtain ⟨E5, f5, rfl⟩ := Kd.R_slice rs.r; clear c0 c1 c2 c3 c4 c5 c6 c7; obtain ⟨c0, c1, c2, c3, c4, c5, c6, c7⟩ := blk7 rs.q; have RS5 := Aside0.mk rs; clear rs hr hb hg hat))
  go_ret
  rw [E.out, ← HN2.out, ← HN3.out, ← HN4.out, ← HN5.out]
  exact RS5.out.gives
theorem req_ref (w : World) (q : Rq) (hs : q.small) : Calls Try.prog 11 #[.agg q.cells] w (Gives w q.bytes) := by
  by_cases h2 : q.kind = 2
  · exact req_ref2 w q hs h2
  by_cases h3 : q.kind = 3
  · exact req_ref3 w q hs h3
  by_cases h6 : q.kind = 6
  · exact req_ref6 w q hs h6
  exact req_ref0 w q hs h2 h3 h6
end Go.Proofs.Ythkdihpbdaehbaa.Pr
namespace Go.Proofs.Ythkdihpbdaehbaa.Pr
set_option linter.unusedVariables false
set_option linter.unusedSimpArgs false
open Go.RowKit Go.Proofs.YthkdihpbdaehbaaW.PrintWords Go.Proofs.YthkdihpbdaehbaaW.PrintLast Go.Proofs.YthkdihpbdaehbaaW.PrintMore Go.Proofs.Ythkdihpbdaehbaa.Bs
theorem laid_calls (w : World) (A : Option Addr) (n c : Nat) : Calls Try.prog 22 #[.slice A n c] w fun e w' => e = .returned (if 4200 < n then .tuple #[.slice none 0 0, .int .i64 3] else .tuple #[.slice A n c, .int .i64 0]) ∧ w' = w := by
  by_cases h : 4200 < n
  · have h' : 4200 < (n : Int) := by omega
    go_enter Try.func22, Try.ntmps22
    go_wp2
    go_ret2
    exact ⟨rfl, rfl⟩
  · have h' : ¬ 4200 < (n : Int) := by omega
    go_enter Try.func22, Try.ntmps22
    go_wp2
    go_ret2
    exact ⟨rfl, rfl⟩
/-- A request's bytes, and why there are none. -/
def putReq (q : Rq) : List Int × Int := if rightB q = false then ([], 2) else if 4200 < q.bytes.length then ([], 3) else (q.bytes, 0)
structure Puts (w : World) (l : List Int) (c : Int) (e : Ending) (w' : World) : Prop where
  r : ∃ A k, e = .returned (.tuple #[.slice A l.length k, .int .i64 c]) ∧ (Kd.int .u8).R 5 w' w.heap.size (fun _ => True) (.slice A l.length k) l
  b : Below w.heap.size w w'
set_option maxRecDepth 100000 in
set_option maxHeartbeats 400000 in
theorem putReq_calls (w : World) (q : Rq) : Calls Try.prog 8 #[.agg q.cells] w (Puts w (putReq q).1 (putReq q).2) := by
  have C1 := Aside0.mk (fun w => right_calls w q)
  cases hr : rightB q with
  | false =>
    rw [hr] at C1
    have E := Aside0.mk (show putReq q = ([], 2) by simp [putReq, hr])
    obtain ⟨k, s, o, i, p, nm, os⟩ := q
    simp only [Rq.cells] at *
    go_enter Try.func8, Try.ntmps8
    go_wp2_with (first | (go_at_call 10; (with_reducible refine (C1.out _).mono ?_); rintro e w1 ⟨rfl, hb⟩; have HB := Aside0.mk hb; clear hb))
    go_ret2
    rw [E.out]
    exact ⟨⟨none, 0, rfl, Kd.R_nil _ _ _ _ _⟩, below_step (below_alloc (Below.refl _ _) _) HB.out⟩
  | true =>
    have hs := Aside0.mk (right_small q hr)
    rw [hr] at C1
    have E := Aside0.mk (show putReq q = if 4200 < q.bytes.length then ([], 3) else (q.bytes, 0) by simp [putReq, hr])
    have C2 := Aside0.mk (fun B w p qb bv => request_put B w p qb bv q)
    generalize hbs : q.bytes = bs at *
    generalize hpq : putReq q = pq at *
    obtain ⟨k, s, o, i, p, nm, os⟩ := q
    simp only [Rq.cells] at *
    clear hr hbs hpq
    go_enter Try.func8, Try.ntmps8
    go_wp2_with (first | (go_at_call 10; (with_reducible refine (C1.out _).mono ?_); rintro e w1 ⟨rfl, hb⟩; have hq1 := (hb.block w.heap.size (by simp)).trans (heap_alloc_new w _); have HQ := Aside0.mk hq1; have HB := Aside0.mk (below_step (below_alloc (Below.refl _ _) _) hb); clear hb hq1) | fail)
    have hz1 : w.heap.size + 1 ≤ w1.heap.size := blk_lt HQ.out
    refine (C2.out (w.heap.size + 1) _ w1.heap.size w.heap.size (.slice none 0 0) ⟨hz1, heap_alloc_new w1 _, Kd.R_nil _ _ _ _ _⟩ ((below_alloc (Below.refl w1.heap.size w1) _).block _ hz1 |>.trans HQ.out) (by omega) (by simp; omega) hs.out).mono ?_
    rintro e w2 ⟨rfl, o2⟩
    obtain ⟨⟨⟨bv', ⟨hp, hat⟩⟩, hch⟩, hq⟩ := o2
    obtain ⟨A, c, rfl⟩ := Kd.R_slice hp.row
    obtain ⟨k0, k1, k2⟩ := blk2 hp.cells
    have HB2 : Below w1.heap.size w1 w2 := (below_alloc (Below.refl w1.heap.size w1) _).trans (Ch.to_below hch (fun k hk => by rcases hk with hk | hk; omega; simp [Value.ownBlock] at hk) (by simp))
    have HB3 := Aside0.mk (below_step HB.out HB2)
    have HR := Aside0.mk (Kd.R_mono (Kd.R_lower hp.row (Nat.le_succ w.heap.size)) (fun _ _ => trivial))
    have C3 := laid_calls w2 A bs.length c
    clear HB HB2 hch hq hp hat HQ C2 C1 hs
    by_cases hlen : 4200 < bs.length
    · rw [if_pos hlen] at C3
      have E2 := E.out
      rw [if_pos hlen] at E2
      have E3 := Aside0.mk E2
      clear hlen E2 E
      go_wp2_with fail
      refine C3.mono ?_
      rintro e w3 ⟨rfl, rfl⟩
      go_wp2
      go_ret2
      rw [E3.out]
      exact ⟨⟨none, 0, rfl, Kd.R_nil _ _ _ _ _⟩, HB3.out⟩
    · rw [if_neg hlen] at C3
      have E2 := E.out
      rw [if_neg hlen] at E2
      have E3 := Aside0.mk E2
      clear hlen E2 E
      go_wp2_with fail
      refine C3.mono ?_
      rintro e w3 ⟨rfl, rfl⟩
      go_wp2
      go_ret2
      rw [E3.out]
      exact ⟨⟨A, c, rfl, HR.out⟩, HB3.out⟩
end Go.Proofs.Ythkdihpbdaehbaa.Pr
namespace Go.Proofs.Ythkdihpbdaehbaa.Pr
set_option linter.unusedVariables false
set_option linter.unusedSimpArgs false
open Go.RowKit Go.Proofs.YthkdihpbdaehbaaW.PrintWords Go.Proofs.YthkdihpbdaehbaaW.PrintLast Go.Proofs.YthkdihpbdaehbaaW.PrintMore Go.Proofs.Ythkdihpbdaehbaa.Bs
theorem size_nil (s : ByteArray) (h : s.size = 0) : s.toList = [] := by
  have := toList_nil s
  rw [decide_eq_true h] at this
  exact eq_of_beq this
theorem size_ne (s : ByteArray) (h : ¬ s.size = 0) : ¬ s.toList = [] := fun e => by
  have := toList_nil s
  rw [decide_eq_false h, e] at this
  exact absurd this (by simp)
theorem size_empty (s : ByteArray) : s.toList.isEmpty = decide (s.size = 0) := by
  rw [← toList_nil]
  cases s.toList <;> rfl
/-- Which way the reference goes. -/
def refN (k : Int) (ss : Nat) (yo f : Bool) (o i p : Int) (ns os : Nat) : Bool :=
  if k < 1 then false else if 6 < k then false else if 4000 < ss then false else if ¬ k = 2 ∧ ¬ ss = 0 then false else
  if k = 3 then yo else if ¬ k = 6 ∧ ¬ i = 0 then false else if f = false then false else
  if ¬ o = 0 then false else if ¬ p = 0 then false else if ¬ ns = 0 then false else decide (os = 0)
theorem refN_eq (k : Int) (s1 : Nat) (yo f : Bool) (o i p : Int) (s2 s3 : Nat) : (decide (1 ≤ k) && decide (k ≤ 6) && decide (s1 ≤ 4000) && (decide (k = 2) || decide (s1 = 0)) && (if k = 3 then yo else (decide (k = 6) || decide (i = 0)) && f && decide (o = 0) && decide (p = 0) && decide (s2 = 0) && decide (s3 = 0))) = refN k s1 yo f o i p s2 s3 := by
  simp only [refN]
  by_cases h1 : k < 1
  · rw [if_pos h1, decide_eq_false (by omega : ¬ 1 ≤ k)]; rfl
  by_cases h2 : 6 < k
  · rw [if_neg h1, if_pos h2, decide_eq_false (by omega : ¬ k ≤ 6), Bool.and_false]; rfl
  by_cases h3 : 4000 < s1
  · rw [if_neg h1, if_neg h2, if_pos h3, decide_eq_false (by omega : ¬ s1 ≤ 4000), Bool.and_false]; rfl
  by_cases h4 : ¬ k = 2 ∧ ¬ s1 = 0
  · rw [if_neg h1, if_neg h2, if_neg h3, if_pos h4, decide_eq_false h4.1, decide_eq_false h4.2, Bool.or_false, Bool.and_false]; rfl
  have e1 : decide (1 ≤ k) = true := by simp; omega
  have e2 : decide (k ≤ 6) = true := by simp; omega
  have e3 : decide (s1 ≤ 4000) = true := by simp; omega
  have e4 : (decide (k = 2) || decide (s1 = 0)) = true := by simp; omega
  rw [if_neg h1, if_neg h2, if_neg h3, if_neg h4, e1, e2, e3, e4]
  by_cases h5 : k = 3
  · rw [if_pos h5, if_pos h5]; rfl
  rw [if_neg h5, if_neg h5]
  by_cases h6 : ¬ k = 6 ∧ ¬ i = 0
  · rw [if_pos h6, decide_eq_false h6.1, decide_eq_false h6.2]; rfl
  have e6 : (decide (k = 6) || decide (i = 0)) = true := by simp; omega
  rw [if_neg h6, e6]
  cases f
  · rfl
  by_cases h7 : o = 0
  · by_cases h8 : p = 0
    · by_cases h9 : s2 = 0 <;> simp [h7, h8, h9]
    · simp [h7, h8]
  · simp [h7]
theorem right_ref (q : Rq) : rightB q = refN q.kind q.s.size (opB q.op) (fitsB q.id) q.ok q.id q.pos q.name.size q.os.size := refN_eq _ _ _ _ _ _ _ _ _
set_option maxRecDepth 100000 in
set_option maxHeartbeats 600000 in
theorem rref_1 (w : World) (k : Int) (s : ByteArray) (o i p : Int) (nm os : ByteArray) (r : Bool) (HE : r = false) (h1 : k < 1) : Calls Try.prog 9 #[.agg #[.int .i64 k, .string s, .int .i64 o, .int .i64 i, .int .i64 p, .string nm, .string os]] w fun e w' => e = .returned (.bool r) ∧ Below w.heap.size w w' := by
  have E := Aside0.mk HE
  clear HE
  go_enter Try.func9, Try.ntmps9
  go_wp2_with (first | fail)
  go_ret
  exact ⟨congrArg (fun b => Ending.returned (.bool b)) E.out.symm, by repeat (first | exact Below.refl _ _ | apply below_alloc | apply pw_below_drewN | apply below_drew1)⟩
set_option maxRecDepth 100000 in
set_option maxHeartbeats 600000 in
theorem rref_2 (w : World) (k : Int) (s : ByteArray) (o i p : Int) (nm os : ByteArray) (r : Bool) (HE : r = false) (h1 : ¬ k < 1) (h2 : 6 < k) : Calls Try.prog 9 #[.agg #[.int .i64 k, .string s, .int .i64 o, .int .i64 i, .int .i64 p, .string nm, .string os]] w fun e w' => e = .returned (.bool r) ∧ Below w.heap.size w w' := by
  have E := Aside0.mk HE
  clear HE
  go_enter Try.func9, Try.ntmps9
  go_wp2_with (first | fail)
  go_ret
  exact ⟨congrArg (fun b => Ending.returned (.bool b)) E.out.symm, by repeat (first | exact Below.refl _ _ | apply below_alloc | apply pw_below_drewN | apply below_drew1)⟩
set_option maxRecDepth 100000 in
set_option maxHeartbeats 600000 in
theorem rref_3 (w : World) (k : Int) (s : ByteArray) (o i p : Int) (nm os : ByteArray) (r : Bool) (HE : r = false) (h1 : ¬ k < 1) (h2 : ¬ 6 < k) (h3 : 4000 < s.size) : Calls Try.prog 9 #[.agg #[.int .i64 k, .string s, .int .i64 o, .int .i64 i, .int .i64 p, .string nm, .string os]] w fun e w' => e = .returned (.bool r) ∧ Below w.heap.size w w' := by
  have h3' : 4000 < (s.size : Int) := by omega
  clear h3
  have E := Aside0.mk HE
  clear HE
  go_enter Try.func9, Try.ntmps9
  go_wp2_with (first | fail)
  go_ret
  exact ⟨congrArg (fun b => Ending.returned (.bool b)) E.out.symm, by repeat (first | exact Below.refl _ _ | apply below_alloc | apply pw_below_drewN | apply below_drew1)⟩
set_option maxRecDepth 100000 in
set_option maxHeartbeats 600000 in
theorem rref_4 (w : World) (k : Int) (s : ByteArray) (o i p : Int) (nm os : ByteArray) (r : Bool) (HE : r = false) (h1 : ¬ k < 1) (h2 : ¬ 6 < k) (h3 : ¬ 4000 < s.size) (k2 : ¬ k = 2) (hs : ¬ s.toList = []) : Calls Try.prog 9 #[.agg #[.int .i64 k, .string s, .int .i64 o, .int .i64 i, .int .i64 p, .string nm, .string os]] w fun e w' => e = .returned (.bool r) ∧ Below w.heap.size w w' := by
  have h3' : ¬ 4000 < (s.size : Int) := by omega
  have b2 : (k == 2) = false := by simpa using k2
  have d2 : (k != 2) = true := by simp [k2]
  have hs2 : (!s.toList.isEmpty) = true := by simpa using hs
  have E := Aside0.mk HE
  clear HE
  go_enter Try.func9, Try.ntmps9
  go_wp2_with (first | fail)
  go_ret
  exact ⟨congrArg (fun b => Ending.returned (.bool b)) E.out.symm, by repeat (first | exact Below.refl _ _ | apply below_alloc | apply pw_below_drewN | apply below_drew1)⟩
set_option maxRecDepth 100000 in
set_option maxHeartbeats 600000 in
theorem rref_5 (w : World) (k : Int) (s : ByteArray) (o i p : Int) (nm os : ByteArray) (r : Bool) (HE : r = false) (h1 : ¬ k < 1) (h2 : ¬ 6 < k) (h3 : ¬ 4000 < s.size) (hs : s.toList = []) (k3 : k = 3) (o1 : ¬ 0 ≤ o) : Calls Try.prog 9 #[.agg #[.int .i64 k, .string s, .int .i64 o, .int .i64 i, .int .i64 p, .string nm, .string os]] w fun e w' => e = .returned (.bool r) ∧ Below w.heap.size w w' := by
  have h3' : ¬ 4000 < (s.size : Int) := by omega
  have b2 : (k == 2) = false := by simp [k3]
  have d2 : (k != 2) = true := by simp [k3]
  have b3 : (k == 3) = true := by simpa using k3
  have d3 : (k != 3) = false := by simp [k3]
  have K3 := Aside0.mk k3
  clear k3
  have E := Aside0.mk HE
  clear HE
  go_enter Try.func9, Try.ntmps9
  go_wp2_with (first | fail)
  go_ret
  exact ⟨congrArg (fun b => Ending.returned (.bool b)) E.out.symm, by repeat (first | exact Below.refl _ _ | apply below_alloc | apply pw_below_drewN | apply below_drew1)⟩
set_option maxRecDepth 100000 in
set_option maxHeartbeats 600000 in
theorem rref_6 (w : World) (k : Int) (s : ByteArray) (o i p : Int) (nm os : ByteArray) (r : Bool) (HE : r = false) (h1 : ¬ k < 1) (h2 : ¬ 6 < k) (h3 : ¬ 4000 < s.size) (hs : s.toList = []) (k3 : k = 3) (o1 : 0 ≤ o) (o2 : ¬ o ≤ 255) : Calls Try.prog 9 #[.agg #[.int .i64 k, .string s, .int .i64 o, .int .i64 i, .int .i64 p, .string nm, .string os]] w fun e w' => e = .returned (.bool r) ∧ Below w.heap.size w w' := by
  have h3' : ¬ 4000 < (s.size : Int) := by omega
  have b2 : (k == 2) = false := by simp [k3]
  have d2 : (k != 2) = true := by simp [k3]
  have b3 : (k == 3) = true := by simpa using k3
  have d3 : (k != 3) = false := by simp [k3]
  have K3 := Aside0.mk k3
  clear k3
  have E := Aside0.mk HE
  clear HE
  go_enter Try.func9, Try.ntmps9
  go_wp2_with (first | fail)
  go_ret
  exact ⟨congrArg (fun b => Ending.returned (.bool b)) E.out.symm, by repeat (first | exact Below.refl _ _ | apply below_alloc | apply pw_below_drewN | apply below_drew1)⟩
set_option maxRecDepth 100000 in
set_option maxHeartbeats 600000 in
theorem rref_7 (w : World) (k : Int) (s : ByteArray) (o i p : Int) (nm os : ByteArray) (r : Bool) (HE : r = false) (h1 : ¬ k < 1) (h2 : ¬ 6 < k) (h3 : ¬ 4000 < s.size) (hs : s.toList = []) (k3 : k = 3) (o1 : 0 ≤ o) (o2 : o ≤ 255) (f1 : fitsB i = false) : Calls Try.prog 9 #[.agg #[.int .i64 k, .string s, .int .i64 o, .int .i64 i, .int .i64 p, .string nm, .string os]] w fun e w' => e = .returned (.bool r) ∧ Below w.heap.size w w' := by
  have C1 := Aside0.mk (fun w => fits2_calls w i)
  have C2 := Aside0.mk (fun w => fits2_calls w p)
  have h3' : ¬ 4000 < (s.size : Int) := by omega
  have b2 : (k == 2) = false := by simp [k3]
  have d2 : (k != 2) = true := by simp [k3]
  have b3 : (k == 3) = true := by simpa using k3
  have d3 : (k != 3) = false := by simp [k3]
  have K3 := Aside0.mk k3
  clear k3
  rw [f1] at C1
  have E := Aside0.mk HE
  clear HE
  go_enter Try.func9, Try.ntmps9
  go_wp2_with (first | (go_at_call 23; (with_reducible refine (C1.out _).mono ?_); rintro e w' ⟨rfl, ⟨nd, rfl⟩⟩))
  go_ret
  exact ⟨congrArg (fun b => Ending.returned (.bool b)) E.out.symm, by repeat (first | exact Below.refl _ _ | apply below_alloc | apply pw_below_drewN | apply below_drew1)⟩
set_option maxRecDepth 100000 in
set_option maxHeartbeats 600000 in
theorem rref_8 (w : World) (k : Int) (s : ByteArray) (o i p : Int) (nm os : ByteArray) (r : Bool) (HE : r = false) (h1 : ¬ k < 1) (h2 : ¬ 6 < k) (h3 : ¬ 4000 < s.size) (hs : s.toList = []) (k3 : k = 3) (o1 : 0 ≤ o) (o2 : o ≤ 255) (f1 : fitsB i = true) (f2 : fitsB p = false) : Calls Try.prog 9 #[.agg #[.int .i64 k, .string s, .int .i64 o, .int .i64 i, .int .i64 p, .string nm, .string os]] w fun e w' => e = .returned (.bool r) ∧ Below w.heap.size w w' := by
  have C1 := Aside0.mk (fun w => fits2_calls w i)
  have C2 := Aside0.mk (fun w => fits2_calls w p)
  have h3' : ¬ 4000 < (s.size : Int) := by omega
  have b2 : (k == 2) = false := by simp [k3]
  have d2 : (k != 2) = true := by simp [k3]
  have b3 : (k == 3) = true := by simpa using k3
  have d3 : (k != 3) = false := by simp [k3]
  have K3 := Aside0.mk k3
  clear k3
  rw [f1] at C1
  rw [f2] at C2
  have E := Aside0.mk HE
  clear HE
  go_enter Try.func9, Try.ntmps9
  go_wp2_with (first | (go_at_call 23; (with_reducible refine (C1.out _).mono ?_); rintro e w' ⟨rfl, ⟨nd, rfl⟩⟩) | (go_at_call 23; (with_reducible refine (C2.out _).mono ?_); rintro e w' ⟨rfl, ⟨nd, rfl⟩⟩))
  go_ret
  exact ⟨congrArg (fun b => Ending.returned (.bool b)) E.out.symm, by repeat (first | exact Below.refl _ _ | apply below_alloc | apply pw_below_drewN | apply below_drew1)⟩
set_option maxRecDepth 100000 in
set_option maxHeartbeats 600000 in
theorem rref_9 (w : World) (k : Int) (s : ByteArray) (o i p : Int) (nm os : ByteArray) (r : Bool) (HE : r = false) (h1 : ¬ k < 1) (h2 : ¬ 6 < k) (h3 : ¬ 4000 < s.size) (hs : s.toList = []) (k3 : k = 3) (o1 : 0 ≤ o) (o2 : o ≤ 255) (f1 : fitsB i = true) (f2 : fitsB p = true) (n1 : ¬ nm.size ≤ 200) : Calls Try.prog 9 #[.agg #[.int .i64 k, .string s, .int .i64 o, .int .i64 i, .int .i64 p, .string nm, .string os]] w fun e w' => e = .returned (.bool r) ∧ Below w.heap.size w w' := by
  have C1 := Aside0.mk (fun w => fits2_calls w i)
  have C2 := Aside0.mk (fun w => fits2_calls w p)
  have h3' : ¬ 4000 < (s.size : Int) := by omega
  have b2 : (k == 2) = false := by simp [k3]
  have d2 : (k != 2) = true := by simp [k3]
  have b3 : (k == 3) = true := by simpa using k3
  have d3 : (k != 3) = false := by simp [k3]
  have K3 := Aside0.mk k3
  clear k3
  rw [f1] at C1
  rw [f2] at C2
  have n1' : ¬ (nm.size : Int) ≤ 200 := by omega
  have E := Aside0.mk HE
  clear HE
  go_enter Try.func9, Try.ntmps9
  go_wp2_with (first | (go_at_call 23; (with_reducible refine (C1.out _).mono ?_); rintro e w' ⟨rfl, ⟨nd, rfl⟩⟩) | (go_at_call 23; (with_reducible refine (C2.out _).mono ?_); rintro e w' ⟨rfl, ⟨nd, rfl⟩⟩))
  go_ret
  exact ⟨congrArg (fun b => Ending.returned (.bool b)) E.out.symm, by repeat (first | exact Below.refl _ _ | apply below_alloc | apply pw_below_drewN | apply below_drew1)⟩
set_option maxRecDepth 100000 in
set_option maxHeartbeats 600000 in
theorem rref_10 (w : World) (k : Int) (s : ByteArray) (o i p : Int) (nm os : ByteArray) (r : Bool) (HE : r = decide (os.size ≤ 4000)) (h1 : ¬ k < 1) (h2 : ¬ 6 < k) (h3 : ¬ 4000 < s.size) (hs : s.toList = []) (k3 : k = 3) (o1 : 0 ≤ o) (o2 : o ≤ 255) (f1 : fitsB i = true) (f2 : fitsB p = true) (n1 : nm.size ≤ 200) : Calls Try.prog 9 #[.agg #[.int .i64 k, .string s, .int .i64 o, .int .i64 i, .int .i64 p, .string nm, .string os]] w fun e w' => e = .returned (.bool r) ∧ Below w.heap.size w w' := by
  have C1 := Aside0.mk (fun w => fits2_calls w i)
  have C2 := Aside0.mk (fun w => fits2_calls w p)
  have h3' : ¬ 4000 < (s.size : Int) := by omega
  have b2 : (k == 2) = false := by simp [k3]
  have d2 : (k != 2) = true := by simp [k3]
  have b3 : (k == 3) = true := by simpa using k3
  have d3 : (k != 3) = false := by simp [k3]
  have K3 := Aside0.mk k3
  clear k3
  rw [f1] at C1
  rw [f2] at C2
  have n1' : (nm.size : Int) ≤ 200 := by omega
  have HE : r = decide ((os.size : Int) ≤ 4000) := by rw [HE]; simp; omega
  have E := Aside0.mk HE
  clear HE
  go_enter Try.func9, Try.ntmps9
  go_wp2_with (first | (go_at_call 23; (with_reducible refine (C1.out _).mono ?_); rintro e w' ⟨rfl, ⟨nd, rfl⟩⟩) | (go_at_call 23; (with_reducible refine (C2.out _).mono ?_); rintro e w' ⟨rfl, ⟨nd, rfl⟩⟩))
  go_ret
  exact ⟨congrArg (fun b => Ending.returned (.bool b)) E.out.symm, by repeat (first | exact Below.refl _ _ | apply below_alloc | apply pw_below_drewN | apply below_drew1)⟩
set_option maxRecDepth 100000 in
set_option maxHeartbeats 600000 in
theorem rref_11 (w : World) (k : Int) (s : ByteArray) (o i p : Int) (nm os : ByteArray) (r : Bool) (HE : r = false) (h1 : ¬ k < 1) (h2 : ¬ 6 < k) (h3 : ¬ 4000 < s.size) (k2 : k = 2) (k3 : ¬ k = 3) (k6 : ¬ k = 6) (i0 : ¬ i = 0) : Calls Try.prog 9 #[.agg #[.int .i64 k, .string s, .int .i64 o, .int .i64 i, .int .i64 p, .string nm, .string os]] w fun e w' => e = .returned (.bool r) ∧ Below w.heap.size w w' := by
  have h3' : ¬ 4000 < (s.size : Int) := by omega
  have b2 : (k == 2) = true := by simpa using k2
  have d2 : (k != 2) = false := by simp [k2]
  have K2 := Aside0.mk k2
  clear k2
  have b3 : (k == 3) = false := by simpa using k3
  have d3 : (k != 3) = true := by simp [k3]
  have b6 : (k == 6) = false := by simpa using k6
  have d6 : (k != 6) = true := by simp [k6]
  have i1 : (i == 0) = false := by simpa using i0
  have i2 : (i != 0) = true := by simp [i0]
  have E := Aside0.mk HE
  clear HE
  go_enter Try.func9, Try.ntmps9
  go_wp2_with (first | fail)
  go_ret
  exact ⟨congrArg (fun b => Ending.returned (.bool b)) E.out.symm, by repeat (first | exact Below.refl _ _ | apply below_alloc | apply pw_below_drewN | apply below_drew1)⟩
set_option maxRecDepth 100000 in
set_option maxHeartbeats 600000 in
theorem rref_12 (w : World) (k : Int) (s : ByteArray) (o i p : Int) (nm os : ByteArray) (r : Bool) (HE : r = false) (h1 : ¬ k < 1) (h2 : ¬ 6 < k) (h3 : ¬ 4000 < s.size) (k2 : k = 2) (k3 : ¬ k = 3) (k6 : ¬ k = 6) (i0 : i = 0) (f1 : fitsB i = true) (o0 : ¬ o = 0) : Calls Try.prog 9 #[.agg #[.int .i64 k, .string s, .int .i64 o, .int .i64 i, .int .i64 p, .string nm, .string os]] w fun e w' => e = .returned (.bool r) ∧ Below w.heap.size w w' := by
  have C1 := Aside0.mk (fun w => fits2_calls w i)
  have C2 := Aside0.mk (fun w => fits2_calls w p)
  have h3' : ¬ 4000 < (s.size : Int) := by omega
  have b2 : (k == 2) = true := by simpa using k2
  have d2 : (k != 2) = false := by simp [k2]
  have K2 := Aside0.mk k2
  clear k2
  have b3 : (k == 3) = false := by simpa using k3
  have d3 : (k != 3) = true := by simp [k3]
  have b6 : (k == 6) = false := by simpa using k6
  have d6 : (k != 6) = true := by simp [k6]
  have i1 : (i == 0) = true := by simpa using i0
  have i2 : (i != 0) = false := by simp [i0]
  have I0 := Aside0.mk i0
  clear i0
  rw [f1] at C1
  have o1 : (o == 0) = false := by simpa using o0
  have E := Aside0.mk HE
  clear HE
  go_enter Try.func9, Try.ntmps9
  go_wp2_with (first | (go_at_call 23; (with_reducible refine (C1.out _).mono ?_); rintro e w' ⟨rfl, ⟨nd, rfl⟩⟩))
  go_ret
  exact ⟨congrArg (fun b => Ending.returned (.bool b)) E.out.symm, by repeat (first | exact Below.refl _ _ | apply below_alloc | apply pw_below_drewN | apply below_drew1)⟩
set_option maxRecDepth 100000 in
set_option maxHeartbeats 600000 in
theorem rref_13 (w : World) (k : Int) (s : ByteArray) (o i p : Int) (nm os : ByteArray) (r : Bool) (HE : r = false) (h1 : ¬ k < 1) (h2 : ¬ 6 < k) (h3 : ¬ 4000 < s.size) (k2 : k = 2) (k3 : ¬ k = 3) (k6 : ¬ k = 6) (i0 : i = 0) (f1 : fitsB i = true) (o0 : o = 0) (p0 : ¬ p = 0) : Calls Try.prog 9 #[.agg #[.int .i64 k, .string s, .int .i64 o, .int .i64 i, .int .i64 p, .string nm, .string os]] w fun e w' => e = .returned (.bool r) ∧ Below w.heap.size w w' := by
  have C1 := Aside0.mk (fun w => fits2_calls w i)
  have C2 := Aside0.mk (fun w => fits2_calls w p)
  have h3' : ¬ 4000 < (s.size : Int) := by omega
  have b2 : (k == 2) = true := by simpa using k2
  have d2 : (k != 2) = false := by simp [k2]
  have K2 := Aside0.mk k2
  clear k2
  have b3 : (k == 3) = false := by simpa using k3
  have d3 : (k != 3) = true := by simp [k3]
  have b6 : (k == 6) = false := by simpa using k6
  have d6 : (k != 6) = true := by simp [k6]
  have i1 : (i == 0) = true := by simpa using i0
  have i2 : (i != 0) = false := by simp [i0]
  have I0 := Aside0.mk i0
  clear i0
  rw [f1] at C1
  have o1 : (o == 0) = true := by simpa using o0
  have O0 := Aside0.mk o0
  clear o0
  have p1 : (p == 0) = false := by simpa using p0
  have E := Aside0.mk HE
  clear HE
  go_enter Try.func9, Try.ntmps9
  go_wp2_with (first | (go_at_call 23; (with_reducible refine (C1.out _).mono ?_); rintro e w' ⟨rfl, ⟨nd, rfl⟩⟩))
  go_ret
  exact ⟨congrArg (fun b => Ending.returned (.bool b)) E.out.symm, by repeat (first | exact Below.refl _ _ | apply below_alloc | apply pw_below_drewN | apply below_drew1)⟩
set_option maxRecDepth 100000 in
set_option maxHeartbeats 600000 in
theorem rref_14 (w : World) (k : Int) (s : ByteArray) (o i p : Int) (nm os : ByteArray) (r : Bool) (HE : r = false) (h1 : ¬ k < 1) (h2 : ¬ 6 < k) (h3 : ¬ 4000 < s.size) (k2 : k = 2) (k3 : ¬ k = 3) (k6 : ¬ k = 6) (i0 : i = 0) (f1 : fitsB i = true) (o0 : o = 0) (p0 : p = 0) (n0 : ¬ nm.toList = []) : Calls Try.prog 9 #[.agg #[.int .i64 k, .string s, .int .i64 o, .int .i64 i, .int .i64 p, .string nm, .string os]] w fun e w' => e = .returned (.bool r) ∧ Below w.heap.size w w' := by
  have C1 := Aside0.mk (fun w => fits2_calls w i)
  have C2 := Aside0.mk (fun w => fits2_calls w p)
  have h3' : ¬ 4000 < (s.size : Int) := by omega
  have b2 : (k == 2) = true := by simpa using k2
  have d2 : (k != 2) = false := by simp [k2]
  have K2 := Aside0.mk k2
  clear k2
  have b3 : (k == 3) = false := by simpa using k3
  have d3 : (k != 3) = true := by simp [k3]
  have b6 : (k == 6) = false := by simpa using k6
  have d6 : (k != 6) = true := by simp [k6]
  have i1 : (i == 0) = true := by simpa using i0
  have i2 : (i != 0) = false := by simp [i0]
  have I0 := Aside0.mk i0
  clear i0
  rw [f1] at C1
  have o1 : (o == 0) = true := by simpa using o0
  have O0 := Aside0.mk o0
  clear o0
  have p1 : (p == 0) = true := by simpa using p0
  have P0 := Aside0.mk p0
  clear p0
  have E := Aside0.mk HE
  clear HE
  go_enter Try.func9, Try.ntmps9
  go_wp2_with (first | (go_at_call 23; (with_reducible refine (C1.out _).mono ?_); rintro e w' ⟨rfl, ⟨nd, rfl⟩⟩))
  go_ret
  exact ⟨congrArg (fun b => Ending.returned (.bool b)) E.out.symm, by repeat (first | exact Below.refl _ _ | apply below_alloc | apply pw_below_drewN | apply below_drew1)⟩
set_option maxRecDepth 100000 in
set_option maxHeartbeats 600000 in
theorem rref_15 (w : World) (k : Int) (s : ByteArray) (o i p : Int) (nm os : ByteArray) (r : Bool) (HE : r = os.toList.isEmpty) (h1 : ¬ k < 1) (h2 : ¬ 6 < k) (h3 : ¬ 4000 < s.size) (k2 : k = 2) (k3 : ¬ k = 3) (k6 : ¬ k = 6) (i0 : i = 0) (f1 : fitsB i = true) (o0 : o = 0) (p0 : p = 0) (n0 : nm.toList = []) : Calls Try.prog 9 #[.agg #[.int .i64 k, .string s, .int .i64 o, .int .i64 i, .int .i64 p, .string nm, .string os]] w fun e w' => e = .returned (.bool r) ∧ Below w.heap.size w w' := by
  have C1 := Aside0.mk (fun w => fits2_calls w i)
  have C2 := Aside0.mk (fun w => fits2_calls w p)
  have h3' : ¬ 4000 < (s.size : Int) := by omega
  have b2 : (k == 2) = true := by simpa using k2
  have d2 : (k != 2) = false := by simp [k2]
  have K2 := Aside0.mk k2
  clear k2
  have b3 : (k == 3) = false := by simpa using k3
  have d3 : (k != 3) = true := by simp [k3]
  have b6 : (k == 6) = false := by simpa using k6
  have d6 : (k != 6) = true := by simp [k6]
  have i1 : (i == 0) = true := by simpa using i0
  have i2 : (i != 0) = false := by simp [i0]
  have I0 := Aside0.mk i0
  clear i0
  rw [f1] at C1
  have o1 : (o == 0) = true := by simpa using o0
  have O0 := Aside0.mk o0
  clear o0
  have p1 : (p == 0) = true := by simpa using p0
  have P0 := Aside0.mk p0
  clear p0
  have E := Aside0.mk HE
  clear HE
  go_enter Try.func9, Try.ntmps9
  go_wp2_with (first | (go_at_call 23; (with_reducible refine (C1.out _).mono ?_); rintro e w' ⟨rfl, ⟨nd, rfl⟩⟩))
  go_ret
  exact ⟨congrArg (fun b => Ending.returned (.bool b)) E.out.symm, by repeat (first | exact Below.refl _ _ | apply below_alloc | apply pw_below_drewN | apply below_drew1)⟩
set_option maxRecDepth 100000 in
set_option maxHeartbeats 600000 in
theorem rref_16 (w : World) (k : Int) (s : ByteArray) (o i p : Int) (nm os : ByteArray) (r : Bool) (HE : r = false) (h1 : ¬ k < 1) (h2 : ¬ 6 < k) (h3 : ¬ 4000 < s.size) (k2 : ¬ k = 2) (hs : s.toList = []) (k3 : ¬ k = 3) (k6 : k = 6) (f1 : fitsB i = false) : Calls Try.prog 9 #[.agg #[.int .i64 k, .string s, .int .i64 o, .int .i64 i, .int .i64 p, .string nm, .string os]] w fun e w' => e = .returned (.bool r) ∧ Below w.heap.size w w' := by
  have C1 := Aside0.mk (fun w => fits2_calls w i)
  have C2 := Aside0.mk (fun w => fits2_calls w p)
  have h3' : ¬ 4000 < (s.size : Int) := by omega
  have b2 : (k == 2) = false := by simpa using k2
  have d2 : (k != 2) = true := by simp [k2]
  have b3 : (k == 3) = false := by simpa using k3
  have d3 : (k != 3) = true := by simp [k3]
  have b6 : (k == 6) = true := by simpa using k6
  have d6 : (k != 6) = false := by simp [k6]
  have K6 := Aside0.mk k6
  clear k6
  rw [f1] at C1
  have E := Aside0.mk HE
  clear HE
  go_enter Try.func9, Try.ntmps9
  go_wp2_with (first | (go_at_call 23; (with_reducible refine (C1.out _).mono ?_); rintro e w' ⟨rfl, ⟨nd, rfl⟩⟩))
  go_ret
  exact ⟨congrArg (fun b => Ending.returned (.bool b)) E.out.symm, by repeat (first | exact Below.refl _ _ | apply below_alloc | apply pw_below_drewN | apply below_drew1)⟩
set_option maxRecDepth 100000 in
set_option maxHeartbeats 600000 in
theorem rref_17 (w : World) (k : Int) (s : ByteArray) (o i p : Int) (nm os : ByteArray) (r : Bool) (HE : r = false) (h1 : ¬ k < 1) (h2 : ¬ 6 < k) (h3 : ¬ 4000 < s.size) (k2 : ¬ k = 2) (hs : s.toList = []) (k3 : ¬ k = 3) (k6 : k = 6) (f1 : fitsB i = true) (o0 : ¬ o = 0) : Calls Try.prog 9 #[.agg #[.int .i64 k, .string s, .int .i64 o, .int .i64 i, .int .i64 p, .string nm, .string os]] w fun e w' => e = .returned (.bool r) ∧ Below w.heap.size w w' := by
  have C1 := Aside0.mk (fun w => fits2_calls w i)
  have C2 := Aside0.mk (fun w => fits2_calls w p)
  have h3' : ¬ 4000 < (s.size : Int) := by omega
  have b2 : (k == 2) = false := by simpa using k2
  have d2 : (k != 2) = true := by simp [k2]
  have b3 : (k == 3) = false := by simpa using k3
  have d3 : (k != 3) = true := by simp [k3]
  have b6 : (k == 6) = true := by simpa using k6
  have d6 : (k != 6) = false := by simp [k6]
  have K6 := Aside0.mk k6
  clear k6
  rw [f1] at C1
  have o1 : (o == 0) = false := by simpa using o0
  have E := Aside0.mk HE
  clear HE
  go_enter Try.func9, Try.ntmps9
  go_wp2_with (first | (go_at_call 23; (with_reducible refine (C1.out _).mono ?_); rintro e w' ⟨rfl, ⟨nd, rfl⟩⟩))
  go_ret
  exact ⟨congrArg (fun b => Ending.returned (.bool b)) E.out.symm, by repeat (first | exact Below.refl _ _ | apply below_alloc | apply pw_below_drewN | apply below_drew1)⟩
set_option maxRecDepth 100000 in
set_option maxHeartbeats 600000 in
theorem rref_18 (w : World) (k : Int) (s : ByteArray) (o i p : Int) (nm os : ByteArray) (r : Bool) (HE : r = false) (h1 : ¬ k < 1) (h2 : ¬ 6 < k) (h3 : ¬ 4000 < s.size) (k2 : ¬ k = 2) (hs : s.toList = []) (k3 : ¬ k = 3) (k6 : k = 6) (f1 : fitsB i = true) (o0 : o = 0) (p0 : ¬ p = 0) : Calls Try.prog 9 #[.agg #[.int .i64 k, .string s, .int .i64 o, .int .i64 i, .int .i64 p, .string nm, .string os]] w fun e w' => e = .returned (.bool r) ∧ Below w.heap.size w w' := by
  have C1 := Aside0.mk (fun w => fits2_calls w i)
  have C2 := Aside0.mk (fun w => fits2_calls w p)
  have h3' : ¬ 4000 < (s.size : Int) := by omega
  have b2 : (k == 2) = false := by simpa using k2
  have d2 : (k != 2) = true := by simp [k2]
  have b3 : (k == 3) = false := by simpa using k3
  have d3 : (k != 3) = true := by simp [k3]
  have b6 : (k == 6) = true := by simpa using k6
  have d6 : (k != 6) = false := by simp [k6]
  have K6 := Aside0.mk k6
  clear k6
  rw [f1] at C1
  have o1 : (o == 0) = true := by simpa using o0
  have O0 := Aside0.mk o0
  clear o0
  have p1 : (p == 0) = false := by simpa using p0
  have E := Aside0.mk HE
  clear HE
  go_enter Try.func9, Try.ntmps9
  go_wp2_with (first | (go_at_call 23; (with_reducible refine (C1.out _).mono ?_); rintro e w' ⟨rfl, ⟨nd, rfl⟩⟩))
  go_ret
  exact ⟨congrArg (fun b => Ending.returned (.bool b)) E.out.symm, by repeat (first | exact Below.refl _ _ | apply below_alloc | apply pw_below_drewN | apply below_drew1)⟩
set_option maxRecDepth 100000 in
set_option maxHeartbeats 600000 in
theorem rref_19 (w : World) (k : Int) (s : ByteArray) (o i p : Int) (nm os : ByteArray) (r : Bool) (HE : r = false) (h1 : ¬ k < 1) (h2 : ¬ 6 < k) (h3 : ¬ 4000 < s.size) (k2 : ¬ k = 2) (hs : s.toList = []) (k3 : ¬ k = 3) (k6 : k = 6) (f1 : fitsB i = true) (o0 : o = 0) (p0 : p = 0) (n0 : ¬ nm.toList = []) : Calls Try.prog 9 #[.agg #[.int .i64 k, .string s, .int .i64 o, .int .i64 i, .int .i64 p, .string nm, .string os]] w fun e w' => e = .returned (.bool r) ∧ Below w.heap.size w w' := by
  have C1 := Aside0.mk (fun w => fits2_calls w i)
  have C2 := Aside0.mk (fun w => fits2_calls w p)
  have h3' : ¬ 4000 < (s.size : Int) := by omega
  have b2 : (k == 2) = false := by simpa using k2
  have d2 : (k != 2) = true := by simp [k2]
  have b3 : (k == 3) = false := by simpa using k3
  have d3 : (k != 3) = true := by simp [k3]
  have b6 : (k == 6) = true := by simpa using k6
  have d6 : (k != 6) = false := by simp [k6]
  have K6 := Aside0.mk k6
  clear k6
  rw [f1] at C1
  have o1 : (o == 0) = true := by simpa using o0
  have O0 := Aside0.mk o0
  clear o0
  have p1 : (p == 0) = true := by simpa using p0
  have P0 := Aside0.mk p0
  clear p0
  have E := Aside0.mk HE
  clear HE
  go_enter Try.func9, Try.ntmps9
  go_wp2_with (first | (go_at_call 23; (with_reducible refine (C1.out _).mono ?_); rintro e w' ⟨rfl, ⟨nd, rfl⟩⟩))
  go_ret
  exact ⟨congrArg (fun b => Ending.returned (.bool b)) E.out.symm, by repeat (first | exact Below.refl _ _ | apply below_alloc | apply pw_below_drewN | apply below_drew1)⟩
set_option maxRecDepth 100000 in
set_option maxHeartbeats 600000 in
theorem rref_20 (w : World) (k : Int) (s : ByteArray) (o i p : Int) (nm os : ByteArray) (r : Bool) (HE : r = os.toList.isEmpty) (h1 : ¬ k < 1) (h2 : ¬ 6 < k) (h3 : ¬ 4000 < s.size) (k2 : ¬ k = 2) (hs : s.toList = []) (k3 : ¬ k = 3) (k6 : k = 6) (f1 : fitsB i = true) (o0 : o = 0) (p0 : p = 0) (n0 : nm.toList = []) : Calls Try.prog 9 #[.agg #[.int .i64 k, .string s, .int .i64 o, .int .i64 i, .int .i64 p, .string nm, .string os]] w fun e w' => e = .returned (.bool r) ∧ Below w.heap.size w w' := by
  have C1 := Aside0.mk (fun w => fits2_calls w i)
  have C2 := Aside0.mk (fun w => fits2_calls w p)
  have h3' : ¬ 4000 < (s.size : Int) := by omega
  have b2 : (k == 2) = false := by simpa using k2
  have d2 : (k != 2) = true := by simp [k2]
  have b3 : (k == 3) = false := by simpa using k3
  have d3 : (k != 3) = true := by simp [k3]
  have b6 : (k == 6) = true := by simpa using k6
  have d6 : (k != 6) = false := by simp [k6]
  have K6 := Aside0.mk k6
  clear k6
  rw [f1] at C1
  have o1 : (o == 0) = true := by simpa using o0
  have O0 := Aside0.mk o0
  clear o0
  have p1 : (p == 0) = true := by simpa using p0
  have P0 := Aside0.mk p0
  clear p0
  have E := Aside0.mk HE
  clear HE
  go_enter Try.func9, Try.ntmps9
  go_wp2_with (first | (go_at_call 23; (with_reducible refine (C1.out _).mono ?_); rintro e w' ⟨rfl, ⟨nd, rfl⟩⟩))
  go_ret
  exact ⟨congrArg (fun b => Ending.returned (.bool b)) E.out.symm, by repeat (first | exact Below.refl _ _ | apply below_alloc | apply pw_below_drewN | apply below_drew1)⟩
set_option maxRecDepth 100000 in
set_option maxHeartbeats 600000 in
theorem rref_21 (w : World) (k : Int) (s : ByteArray) (o i p : Int) (nm os : ByteArray) (r : Bool) (HE : r = false) (h1 : ¬ k < 1) (h2 : ¬ 6 < k) (h3 : ¬ 4000 < s.size) (k2 : ¬ k = 2) (hs : s.toList = []) (k3 : ¬ k = 3) (k6 : ¬ k = 6) (i0 : ¬ i = 0) : Calls Try.prog 9 #[.agg #[.int .i64 k, .string s, .int .i64 o, .int .i64 i, .int .i64 p, .string nm, .string os]] w fun e w' => e = .returned (.bool r) ∧ Below w.heap.size w w' := by
  have h3' : ¬ 4000 < (s.size : Int) := by omega
  have b2 : (k == 2) = false := by simpa using k2
  have d2 : (k != 2) = true := by simp [k2]
  have b3 : (k == 3) = false := by simpa using k3
  have d3 : (k != 3) = true := by simp [k3]
  have b6 : (k == 6) = false := by simpa using k6
  have d6 : (k != 6) = true := by simp [k6]
  have i1 : (i == 0) = false := by simpa using i0
  have i2 : (i != 0) = true := by simp [i0]
  have E := Aside0.mk HE
  clear HE
  go_enter Try.func9, Try.ntmps9
  go_wp2_with (first | fail)
  go_ret
  exact ⟨congrArg (fun b => Ending.returned (.bool b)) E.out.symm, by repeat (first | exact Below.refl _ _ | apply below_alloc | apply pw_below_drewN | apply below_drew1)⟩
set_option maxRecDepth 100000 in
set_option maxHeartbeats 600000 in
theorem rref_22 (w : World) (k : Int) (s : ByteArray) (o i p : Int) (nm os : ByteArray) (r : Bool) (HE : r = false) (h1 : ¬ k < 1) (h2 : ¬ 6 < k) (h3 : ¬ 4000 < s.size) (k2 : ¬ k = 2) (hs : s.toList = []) (k3 : ¬ k = 3) (k6 : ¬ k = 6) (i0 : i = 0) (f1 : fitsB i = true) (o0 : ¬ o = 0) : Calls Try.prog 9 #[.agg #[.int .i64 k, .string s, .int .i64 o, .int .i64 i, .int .i64 p, .string nm, .string os]] w fun e w' => e = .returned (.bool r) ∧ Below w.heap.size w w' := by
  have C1 := Aside0.mk (fun w => fits2_calls w i)
  have C2 := Aside0.mk (fun w => fits2_calls w p)
  have h3' : ¬ 4000 < (s.size : Int) := by omega
  have b2 : (k == 2) = false := by simpa using k2
  have d2 : (k != 2) = true := by simp [k2]
  have b3 : (k == 3) = false := by simpa using k3
  have d3 : (k != 3) = true := by simp [k3]
  have b6 : (k == 6) = false := by simpa using k6
  have d6 : (k != 6) = true := by simp [k6]
  have i1 : (i == 0) = true := by simpa using i0
  have i2 : (i != 0) = false := by simp [i0]
  have I0 := Aside0.mk i0
  clear i0
  rw [f1] at C1
  have o1 : (o == 0) = false := by simpa using o0
  have E := Aside0.mk HE
  clear HE
  go_enter Try.func9, Try.ntmps9
  go_wp2_with (first | (go_at_call 23; (with_reducible refine (C1.out _).mono ?_); rintro e w' ⟨rfl, ⟨nd, rfl⟩⟩))
  go_ret
  exact ⟨congrArg (fun b => Ending.returned (.bool b)) E.out.symm, by repeat (first | exact Below.refl _ _ | apply below_alloc | apply pw_below_drewN | apply below_drew1)⟩
set_option maxRecDepth 100000 in
set_option maxHeartbeats 600000 in
theorem rref_23 (w : World) (k : Int) (s : ByteArray) (o i p : Int) (nm os : ByteArray) (r : Bool) (HE : r = false) (h1 : ¬ k < 1) (h2 : ¬ 6 < k) (h3 : ¬ 4000 < s.size) (k2 : ¬ k = 2) (hs : s.toList = []) (k3 : ¬ k = 3) (k6 : ¬ k = 6) (i0 : i = 0) (f1 : fitsB i = true) (o0 : o = 0) (p0 : ¬ p = 0) : Calls Try.prog 9 #[.agg #[.int .i64 k, .string s, .int .i64 o, .int .i64 i, .int .i64 p, .string nm, .string os]] w fun e w' => e = .returned (.bool r) ∧ Below w.heap.size w w' := by
  have C1 := Aside0.mk (fun w => fits2_calls w i)
  have C2 := Aside0.mk (fun w => fits2_calls w p)
  have h3' : ¬ 4000 < (s.size : Int) := by omega
  have b2 : (k == 2) = false := by simpa using k2
  have d2 : (k != 2) = true := by simp [k2]
  have b3 : (k == 3) = false := by simpa using k3
  have d3 : (k != 3) = true := by simp [k3]
  have b6 : (k == 6) = false := by simpa using k6
  have d6 : (k != 6) = true := by simp [k6]
  have i1 : (i == 0) = true := by simpa using i0
  have i2 : (i != 0) = false := by simp [i0]
  have I0 := Aside0.mk i0
  clear i0
  rw [f1] at C1
  have o1 : (o == 0) = true := by simpa using o0
  have O0 := Aside0.mk o0
  clear o0
  have p1 : (p == 0) = false := by simpa using p0
  have E := Aside0.mk HE
  clear HE
  go_enter Try.func9, Try.ntmps9
  go_wp2_with (first | (go_at_call 23; (with_reducible refine (C1.out _).mono ?_); rintro e w' ⟨rfl, ⟨nd, rfl⟩⟩))
  go_ret
  exact ⟨congrArg (fun b => Ending.returned (.bool b)) E.out.symm, by repeat (first | exact Below.refl _ _ | apply below_alloc | apply pw_below_drewN | apply below_drew1)⟩
set_option maxRecDepth 100000 in
set_option maxHeartbeats 600000 in
theorem rref_24 (w : World) (k : Int) (s : ByteArray) (o i p : Int) (nm os : ByteArray) (r : Bool) (HE : r = false) (h1 : ¬ k < 1) (h2 : ¬ 6 < k) (h3 : ¬ 4000 < s.size) (k2 : ¬ k = 2) (hs : s.toList = []) (k3 : ¬ k = 3) (k6 : ¬ k = 6) (i0 : i = 0) (f1 : fitsB i = true) (o0 : o = 0) (p0 : p = 0) (n0 : ¬ nm.toList = []) : Calls Try.prog 9 #[.agg #[.int .i64 k, .string s, .int .i64 o, .int .i64 i, .int .i64 p, .string nm, .string os]] w fun e w' => e = .returned (.bool r) ∧ Below w.heap.size w w' := by
  have C1 := Aside0.mk (fun w => fits2_calls w i)
  have C2 := Aside0.mk (fun w => fits2_calls w p)
  have h3' : ¬ 4000 < (s.size : Int) := by omega
  have b2 : (k == 2) = false := by simpa using k2
  have d2 : (k != 2) = true := by simp [k2]
  have b3 : (k == 3) = false := by simpa using k3
  have d3 : (k != 3) = true := by simp [k3]
  have b6 : (k == 6) = false := by simpa using k6
  have d6 : (k != 6) = true := by simp [k6]
  have i1 : (i == 0) = true := by simpa using i0
  have i2 : (i != 0) = false := by simp [i0]
  have I0 := Aside0.mk i0
  clear i0
  rw [f1] at C1
  have o1 : (o == 0) = true := by simpa using o0
  have O0 := Aside0.mk o0
  clear o0
  have p1 : (p == 0) = true := by simpa using p0
  have P0 := Aside0.mk p0
  clear p0
  have E := Aside0.mk HE
  clear HE
  go_enter Try.func9, Try.ntmps9
  go_wp2_with (first | (go_at_call 23; (with_reducible refine (C1.out _).mono ?_); rintro e w' ⟨rfl, ⟨nd, rfl⟩⟩))
  go_ret
  exact ⟨congrArg (fun b => Ending.returned (.bool b)) E.out.symm, by repeat (first | exact Below.refl _ _ | apply below_alloc | apply pw_below_drewN | apply below_drew1)⟩
set_option maxRecDepth 100000 in
set_option maxHeartbeats 600000 in
theorem rref_25 (w : World) (k : Int) (s : ByteArray) (o i p : Int) (nm os : ByteArray) (r : Bool) (HE : r = os.toList.isEmpty) (h1 : ¬ k < 1) (h2 : ¬ 6 < k) (h3 : ¬ 4000 < s.size) (k2 : ¬ k = 2) (hs : s.toList = []) (k3 : ¬ k = 3) (k6 : ¬ k = 6) (i0 : i = 0) (f1 : fitsB i = true) (o0 : o = 0) (p0 : p = 0) (n0 : nm.toList = []) : Calls Try.prog 9 #[.agg #[.int .i64 k, .string s, .int .i64 o, .int .i64 i, .int .i64 p, .string nm, .string os]] w fun e w' => e = .returned (.bool r) ∧ Below w.heap.size w w' := by
  have C1 := Aside0.mk (fun w => fits2_calls w i)
  have C2 := Aside0.mk (fun w => fits2_calls w p)
  have h3' : ¬ 4000 < (s.size : Int) := by omega
  have b2 : (k == 2) = false := by simpa using k2
  have d2 : (k != 2) = true := by simp [k2]
  have b3 : (k == 3) = false := by simpa using k3
  have d3 : (k != 3) = true := by simp [k3]
  have b6 : (k == 6) = false := by simpa using k6
  have d6 : (k != 6) = true := by simp [k6]
  have i1 : (i == 0) = true := by simpa using i0
  have i2 : (i != 0) = false := by simp [i0]
  have I0 := Aside0.mk i0
  clear i0
  rw [f1] at C1
  have o1 : (o == 0) = true := by simpa using o0
  have O0 := Aside0.mk o0
  clear o0
  have p1 : (p == 0) = true := by simpa using p0
  have P0 := Aside0.mk p0
  clear p0
  have E := Aside0.mk HE
  clear HE
  go_enter Try.func9, Try.ntmps9
  go_wp2_with (first | (go_at_call 23; (with_reducible refine (C1.out _).mono ?_); rintro e w' ⟨rfl, ⟨nd, rfl⟩⟩))
  go_ret
  exact ⟨congrArg (fun b => Ending.returned (.bool b)) E.out.symm, by repeat (first | exact Below.refl _ _ | apply below_alloc | apply pw_below_drewN | apply below_drew1)⟩
theorem rref_all (w : World) (k : Int) (s : ByteArray) (o i p : Int) (nm os : ByteArray) (r : Bool) (HE : r = refN k s.size (opB ⟨o, i, p, nm, os⟩) (fitsB i) o i p nm.size os.size) : Calls Try.prog 9 #[.agg #[.int .i64 k, .string s, .int .i64 o, .int .i64 i, .int .i64 p, .string nm, .string os]] w fun e w' => e = .returned (.bool r) ∧ Below w.heap.size w w' := by
  simp only [refN] at HE
  by_cases h1 : k < 1
  · rw [if_pos h1] at HE; exact rref_1 w k s o i p nm os r HE h1
  rw [if_neg h1] at HE
  by_cases h2 : 6 < k
  · rw [if_pos h2] at HE; exact rref_2 w k s o i p nm os r HE h1 h2
  rw [if_neg h2] at HE
  by_cases h3 : 4000 < s.size
  · rw [if_pos h3] at HE; exact rref_3 w k s o i p nm os r HE h1 h2 h3
  rw [if_neg h3] at HE
  by_cases h4 : ¬ k = 2 ∧ ¬ s.size = 0
  · rw [if_pos h4] at HE; exact rref_4 w k s o i p nm os r HE h1 h2 h3 h4.1 (size_ne s h4.2)
  rw [if_neg h4] at HE
  by_cases k3 : k = 3
  · rw [if_pos k3] at HE
    have hs : s.toList = [] := size_nil s (by omega)
    simp only [opB] at HE
    by_cases o1 : 0 ≤ o
    · by_cases o2 : o ≤ 255
      · rw [decide_eq_true o1, decide_eq_true o2] at HE
        cases f1 : fitsB i with
        | false => rw [f1] at HE; exact rref_7 w k s o i p nm os r HE h1 h2 h3 hs k3 o1 o2 f1
        | true =>
          rw [f1] at HE
          cases f2 : fitsB p with
          | false => rw [f2] at HE; exact rref_8 w k s o i p nm os r HE h1 h2 h3 hs k3 o1 o2 f1 f2
          | true =>
            rw [f2] at HE
            by_cases n1 : nm.size ≤ 200
            · rw [decide_eq_true n1] at HE; exact rref_10 w k s o i p nm os r HE h1 h2 h3 hs k3 o1 o2 f1 f2 n1
            · rw [decide_eq_false n1] at HE; exact rref_9 w k s o i p nm os r HE h1 h2 h3 hs k3 o1 o2 f1 f2 n1
      · rw [decide_eq_false o2, Bool.and_false] at HE; exact rref_6 w k s o i p nm os r HE h1 h2 h3 hs k3 o1 o2
    · rw [decide_eq_false o1] at HE; exact rref_5 w k s o i p nm os r HE h1 h2 h3 hs k3 o1
  rw [if_neg k3] at HE
  by_cases h6 : ¬ k = 6 ∧ ¬ i = 0
  · rw [if_pos h6] at HE
    by_cases k2 : k = 2
    · exact rref_11 w k s o i p nm os r HE h1 h2 h3 k2 k3 h6.1 h6.2
    · exact rref_21 w k s o i p nm os r HE h1 h2 h3 k2 (size_nil s (by omega)) k3 h6.1 h6.2
  rw [if_neg h6] at HE
  by_cases k2 : k = 2
  · have k6 : ¬ k = 6 := by omega
    have i0 : i = 0 := by omega
    cases f1 : fitsB i with
    | false => rw [i0] at f1; exact absurd f1 (by decide)
    | true =>
      rw [f1, if_neg (by decide : ¬ true = false)] at HE
      by_cases o0 : o = 0
      · rw [if_neg (fun h => h o0)] at HE
        by_cases p0 : p = 0
        · rw [if_neg (fun h => h p0)] at HE
          by_cases n0 : nm.size = 0
          · rw [if_neg (fun h => h n0), ← size_empty] at HE; exact rref_15 w k s o i p nm os r HE h1 h2 h3 k2 k3 k6 i0 f1 o0 p0 (size_nil nm n0)
          · rw [if_pos n0] at HE; exact rref_14 w k s o i p nm os r HE h1 h2 h3 k2 k3 k6 i0 f1 o0 p0 (size_ne nm n0)
        · rw [if_pos p0] at HE; exact rref_13 w k s o i p nm os r HE h1 h2 h3 k2 k3 k6 i0 f1 o0 p0
      · rw [if_pos o0] at HE; exact rref_12 w k s o i p nm os r HE h1 h2 h3 k2 k3 k6 i0 f1 o0
  · have hs : s.toList = [] := size_nil s (by omega)
    by_cases k6 : k = 6
    · skip
      cases f1 : fitsB i with
      | false => rw [f1, if_pos rfl] at HE; exact rref_16 w k s o i p nm os r HE h1 h2 h3 k2 hs k3 k6 f1
      | true =>
        rw [f1, if_neg (by decide : ¬ true = false)] at HE
        by_cases o0 : o = 0
        · rw [if_neg (fun h => h o0)] at HE
          by_cases p0 : p = 0
          · rw [if_neg (fun h => h p0)] at HE
            by_cases n0 : nm.size = 0
            · rw [if_neg (fun h => h n0), ← size_empty] at HE; exact rref_20 w k s o i p nm os r HE h1 h2 h3 k2 hs k3 k6 f1 o0 p0 (size_nil nm n0)
            · rw [if_pos n0] at HE; exact rref_19 w k s o i p nm os r HE h1 h2 h3 k2 hs k3 k6 f1 o0 p0 (size_ne nm n0)
          · rw [if_pos p0] at HE; exact rref_18 w k s o i p nm os r HE h1 h2 h3 k2 hs k3 k6 f1 o0 p0
        · rw [if_pos o0] at HE; exact rref_17 w k s o i p nm os r HE h1 h2 h3 k2 hs k3 k6 f1 o0
    · have i0 : i = 0 := by omega
      cases f1 : fitsB i with
      | false => rw [i0] at f1; exact absurd f1 (by decide)
      | true =>
        rw [f1, if_neg (by decide : ¬ true = false)] at HE
        by_cases o0 : o = 0
        · rw [if_neg (fun h => h o0)] at HE
          by_cases p0 : p = 0
          · rw [if_neg (fun h => h p0)] at HE
            by_cases n0 : nm.size = 0
            · rw [if_neg (fun h => h n0), ← size_empty] at HE; exact rref_25 w k s o i p nm os r HE h1 h2 h3 k2 hs k3 k6 i0 f1 o0 p0 (size_nil nm n0)
            · rw [if_pos n0] at HE; exact rref_24 w k s o i p nm os r HE h1 h2 h3 k2 hs k3 k6 i0 f1 o0 p0 (size_ne nm n0)
          · rw [if_pos p0] at HE; exact rref_23 w k s o i p nm os r HE h1 h2 h3 k2 hs k3 k6 i0 f1 o0 p0
        · rw [if_pos o0] at HE; exact rref_22 w k s o i p nm os r HE h1 h2 h3 k2 hs k3 k6 i0 f1 o0
theorem rightRef_calls (w : World) (q : Rq) : Calls Try.prog 9 #[.agg q.cells] w fun e w' => e = .returned (.bool (rightB q)) ∧ Below w.heap.size w w' :=
  rref_all w q.kind q.s q.ok q.id q.pos q.name q.os (rightB q) (right_ref q)
end Go.Proofs.Ythkdihpbdaehbaa.Pr
namespace Go.Proofs.Ythkdihpbdaehbaa.Pr
set_option linter.unusedVariables false
set_option linter.unusedSimpArgs false
open Go.RowKit Go.Proofs.YthkdihpbdaehbaaW.PrintWords Go.Proofs.YthkdihpbdaehbaaW.PrintLast Go.Proofs.YthkdihpbdaehbaaW.PrintMore Go.Proofs.Ythkdihpbdaehbaa.Bs
/-- A walk that reads: what is left to read lies in what was there at w0. -/
structure Src (w0 w : World) (p : Nat) (xs : List Int) : Prop where
  r : ∃ A c, w.heap[p]? = some (.cells #[.slice A xs.length c, .bool true] 56 (0, 0)) ∧ xs.length ≤ c ∧ (Kd.int .u8).C w0 A xs.length xs
  old : Below w0.heap.size w0 w
  hp : w0.heap.size ≤ p
/-- The reader gives up. -/
def Gone (e : Ending) : Prop := e = .panicked [{ v := .iface 79 (.agg #[]), recovered := false }]
def Lost (w : World) (e : Ending) (w' : World) : Prop := Gone e ∧ w' = w
structure Took (w0 w : World) (p : Nat) (xs : List Int) (n : Nat) (e : Ending) (w' : World) : Prop where
  r : ∃ A c, e = .returned (.slice A n c) ∧ (Kd.int .u8).C w0 A n (xs.take n)
  s : Src w0 w' p (xs.drop n)
  ch : Ch (fun k => k = p) w w'
theorem Took.mk_ {w0 w : World} {p n : Nat} {xs : List Int} {A : Option Addr} {c : Nat} (ho : Below w0.heap.size w0 w) (hp : w0.heap.size ≤ p) (hc : w.heap[p]? = some (.cells #[.slice A xs.length c, .bool true] 56 (0, 0))) (hl : xs.length ≤ c) (hC : (Kd.int .u8).C w0 A xs.length xs) (hn : n ≤ xs.length) (A' : Option Addr) (m d : Nat) (hm : m = xs.length - n) (hA : A' = if c = n then A else A.map (fun x => x.add n)) (hd : d = c - n) : Took w0 w p xs n (.returned (.slice A n c)) (w.setCell ⟨p, 0, none⟩ (.slice A' m d)) := by
  subst hm
  have hlt : (xs.take n).length = n := by rw [List.length_take]; omega
  have hld : (xs.drop n).length = xs.length - n := List.length_drop
  have h1 := Kd.C_take (m := n) hC hn
  have h2 := Kd.C_drop (m := n) (c := c) hC hn hl
  rw [hlt] at h1
  refine ⟨⟨A, c, rfl, h1⟩, ⟨⟨A', d, ?_, by omega, ?_⟩, Below.setCell ho hp _, hp⟩, (Ch.refl (fun k => k = p) w).setCell (p := ⟨p, 0, none⟩) (.inl rfl) _⟩
  · rw [hld]; exact blk_upd 0 _ hc rfl
  · have e : (if c = n then A else A.map (·.add (n * (Kd.int .u8).sz))) = A' := by
      rw [hA]; split
      · rfl
      · rw [show n * (Kd.int .u8).sz = n from Nat.mul_one n]
    rw [← e]; exact h2
set_option maxRecDepth 100000 in
set_option maxHeartbeats 400000 in
theorem take_short (w0 w : World) (p n : Nat) (xs : List Int) (h : Src w0 w p xs) (hn : xs.length < n) : Calls Try.prog 48 #[.pointer (some ⟨p, 0, none⟩), .int .i64 n] w (Lost w) := by
  obtain ⟨⟨A, c, hc, hl, hC⟩, ho, hp⟩ := h
  obtain ⟨k0, k1, k2⟩ := blk2 hc
  have hn' : (xs.length : Int) < n := by omega
  clear hC hc ho hp
  go_enter Try.func48, Try.ntmps48
  go_wp2_with fail
  exact ⟨rfl, ⟨rfl, rfl⟩⟩
theorem take_ok (w0 w : World) (p n : Nat) (xs : List Int) (h : Src w0 w p xs) (hn : n ≤ xs.length) : Calls Try.prog 48 #[.pointer (some ⟨p, 0, none⟩), .int .i64 n] w (Took w0 w p xs n) := by
  obtain ⟨⟨A, c, hc, hl, hC⟩, ho, hp⟩ := h
  obtain ⟨k0, k1, k2⟩ := blk2 hc
  have hn' : ¬ (xs.length : Int) < n := by omega
  have hn2 : n ≤ c := by omega
  have HC := Aside0.mk hC
  have HH := Aside0.mk hc
  have HO := Aside0.mk ho
  have HP := Aside0.mk hp
  clear hC hc ho hp
  by_cases hcn : c = n
  · subst hcn
    go_enter Try.func48, Try.ntmps48
    go_wp2_with fail
    go_ret
    exact Took.mk_ HO.out HP.out HH.out hl HC.out hn _ _ _ (by omega) (if_pos rfl).symm (Nat.sub_self _).symm
  · go_enter Try.func48, Try.ntmps48
    go_wp2_with fail
    go_ret
    exact Took.mk_ HO.out HP.out HH.out hl HC.out hn _ _ _ rfl (if_neg hcn).symm rfl
end Go.Proofs.Ythkdihpbdaehbaa.Pr
namespace Go.Proofs.Ythkdihpbdaehbaa.Pr
set_option linter.unusedVariables false
set_option linter.unusedSimpArgs false
open Go.RowKit Go.Proofs.YthkdihpbdaehbaaW.PrintWords Go.Proofs.YthkdihpbdaehbaaW.PrintLast Go.Proofs.YthkdihpbdaehbaaW.PrintMore Go.Proofs.Ythkdihpbdaehbaa.Bs
theorem Src.cells {w0 w : World} {p : Nat} {xs : List Int} (h : Src w0 w p xs) : w.cell? ⟨p, 1, none⟩ = some (.bool true) ∧ ∀ i, w.frozen? ⟨p, i, none⟩ = false := by
  obtain ⟨⟨A, c, hc, hl, hC⟩, ho, hp⟩ := h
  obtain ⟨k0, k1, k2⟩ := blk2 hc
  exact ⟨k1, k2⟩
theorem Src.step {w0 w w1 : World} {p : Nat} {xs : List Int} {S : Nat → Prop} (h : Src w0 w p xs) (hch : Ch S w w1) (hp : ¬ S p) (hS : ∀ k, S k → w0.heap.size ≤ k) : Src w0 w1 p xs := by
  obtain ⟨⟨A, c, hc, hl, hC⟩, ho, hpp⟩ := h
  exact ⟨⟨A, c, hch.heap hc hp, hl, hC⟩, ho.trans (Ch.to_below hch hS ho.size), hpp⟩
theorem or_byte (v y : Int) (h0 : 0 ≤ v) (h1 : v < 72057594037927936) (a : 0 ≤ y) (b : y ≤ 255) : bits BinOp.or IntKind.u64 (IntKind.u64.wrap (v * 256)) y = v * 256 + y := by
  rw [IntKind.wrap_u64]
  obtain ⟨m, rfl⟩ := Int.eq_ofNat_of_zero_le h0
  obtain ⟨n, rfl⟩ := Int.eq_ofNat_of_zero_le a
  have e1 : (m : Int) * 256 % 18446744073709551616 = ((m * 256 : Nat) : Int) := by omega
  rw [e1, bits_or_u64_nat _ _ (by omega) (by omega)]
  have e3 : m * 256 ||| n = m * 256 + n := by
    rw [show m * 256 = m <<< 8 from (Nat.shiftLeft_eq m 8).symm, ← Nat.shiftLeft_add_eq_or_of_lt (by omega : n < 2 ^ 8)]
  rw [e3]; omega
theorem val_snoc (l : List Int) (y : Int) : val (l ++ [y]) = val l * 256 + y := by simp [val]
theorem val_bound : ∀ (m : Nat) (l : List Int), l.length = m → (∀ x ∈ l, 0 ≤ x ∧ x ≤ 255) → 0 ≤ val l ∧ val l < ((256 ^ m : Nat) : Int) := by
  intro m
  induction m with
  | zero => intro l hl h; rw [List.eq_nil_of_length_eq_zero hl]; decide
  | succ m ih =>
    intro l hl h
    have hne : l ≠ [] := by intro e; rw [e] at hl; simp at hl
    have e := List.dropLast_concat_getLast hne
    have h1 := ih l.dropLast (by rw [List.length_dropLast, hl]; rfl) (fun x hx => h x (List.dropLast_subset l hx))
    have h2 := h (l.getLast hne) (List.getLast_mem hne)
    rw [← e, val_snoc, Nat.pow_succ]
    omega
theorem val_bound7 (l : List Int) (h : ∀ x ∈ l, 0 ≤ x ∧ x ≤ 255) (hl : l.length ≤ 7) : 0 ≤ val l ∧ val l < 72057594037927936 := by
  have h1 := val_bound _ l rfl h
  have h2 : (256 : Nat) ^ l.length ≤ 72057594037927936 := Nat.le_trans (Nat.pow_le_pow_right (by decide) hl) (by decide)
  omega
/-- A number has been read. -/
structure Read (w0 w : World) (p g : Nat) (cs : Array Value) (t : Nat) (xs : List Int) (size : Nat) (w' : World) : Prop where
  q : w'.heap[g]? = some (.cells cs t (0, 0))
  s : Src w0 w' p (xs.drop size)
  ch : Ch (fun k => k = p ∨ k = g) w w'
theorem set_at {cs : Array Value} {i : Nat} {u : Value} (h : cs[i]? = some u) (v : Value) : (cs.setIfInBounds i v)[i]? = some v := by
  have := (Array.getElem?_eq_some_iff.1 h).1
  simp [this]
structure RdRel (w0 w : World) (p g i t : Nat) (cs : Array Value) (T xs : List Int) (size j : Nat) (wr : World) : Prop where
  hj : j ≤ size
  q : wr.heap[g]? = some (.cells (cs.setIfInBounds i (.int .u64 (val (T.take j)))) t (0, 0))
  ch : Ch (fun k => k = p ∨ k = g) w wr
  s : Src w0 wr p (xs.drop size)
set_option maxRecDepth 100000 in
set_option maxHeartbeats 400000 in
theorem number_get (w0 w : World) (p g i t : Nat) (cs : Array Value) (n0 : Int) (xs : List Int) (size : Nat) (h : Src w0 w p xs) (hby : ∀ x ∈ xs, 0 ≤ x ∧ x ≤ 255) (hg : w.heap[g]? = some (.cells cs t (0, 0))) (hi : cs[i]? = some (.int .u64 n0)) (hgp : g ≠ p) (hg0 : w0.heap.size ≤ g) (hs : size ≤ xs.length) (hs8 : size ≤ 8) :
    Calls Try.prog 41 #[.pointer (some ⟨p, 0, none⟩), .pointer (some ⟨g, i, none⟩), .int .i64 size] w fun e w' => e = .returned (.tuple #[]) ∧ Read w0 w p g (cs.setIfInBounds i (.int .u64 (val (xs.take size)))) t xs size w' := by
  obtain ⟨s1, s2⟩ := h.cells
  have hgc := (blk_cell hg i).trans hi
  have hgf := blk_frozen hg i
  have hset : Ch (fun k => k = g) w (w.setCell ⟨g, i, none⟩ (.int .u64 0)) := (Ch.refl (fun k => k = g) w).setCell (p := ⟨g, i, none⟩) (.inl rfl) _
  have hS := h.step hset (fun e => hgp e.symm) (fun k hk => by rw [hk]; exact hg0)
  have hq := blk_upd i (.int .u64 0) hg rfl
  have C1 := take_ok w0 _ p size xs hS hs
  have HQ := Aside0.mk hq
  have HS := Aside0.mk hset
  clear h hq hset hS hg
  go_enter Try.func41, Try.ntmps41
  go_wp2_with fail
  refine C1.mono ?_
  rintro e w2 ⟨⟨A, c, rfl, hC⟩, hs2, hch⟩
  have HC := Aside0.mk hC
  have HS2 := Aside0.mk hs2
  have HCH := Aside0.mk hch
  clear hC hs2 hch C1
  go_wp2_with fail
  obtain ⟨T, hT⟩ : ∃ T, T = xs.take size := ⟨_, rfl⟩
  have HT := Aside0.mk hT
  have hTl : T.length = size := by rw [hT, List.length_take]; omega
  have hTb : ∀ x ∈ T, 0 ≤ x ∧ x ≤ 255 := fun x hx => hby x (by rw [hT] at hx; exact List.mem_of_mem_take hx)
  clear hT s1 s2 hgc hgf hby
  go_loopw [8, 42] (fun v8 v42 wr => ∃ j : Nat, v42 = .int .i64 j ∧ RdRel w0 w p g i t cs T xs size j wr) (fun v8 v42 _ => (size - intOf v42).toNat)
  case atStart =>
    refine ⟨0, rfl, ⟨Nat.zero_le _, ?_, (HS.out.mono (fun k hk _ => .inr hk)).trans (HCH.out.mono (fun k hk _ => .inl (.inl hk))), HS2.out⟩⟩
    exact HCH.out.heap HQ.out hgp
  case round =>
    obtain ⟨j, rfl, ⟨hj, hq, hch, hsr⟩⟩ := hrel
    have hcw : wr.cell? ⟨g, i, none⟩ = some (.int .u64 (val (T.take j))) := (blk_cell hq i).trans (set_at hi _)
    have hfw := blk_frozen hq i
    by_cases hjs : j < size
    · have hjs' : (j : Int) < size := by omega
      obtain ⟨ad, cc, rfl, hce, hK⟩ := Kd.C_get (Kd.C_below (HC.out) hsr.old) (0 : Int) j (by omega) (by omega)
      obtain ⟨hK1, hK2⟩ := hK
      have e1 : cc = [.int .u8 (rd T j)] := by rw [HT.out]; exact hK1
      have hcell : wr.cell? (ad.add j) = some (.int .u8 (rd T j)) := by
        have := hK2 0 (.int .u8 (rd T j)) (by rw [e1]; rfl)
        rw [show ((j : Int).toNat * (Kd.int .u8).sz + 0) = j from by show (j : Int).toNat * 1 + 0 = j; simp] at this
        exact this
      clear hK1 hK2 hce
      have hy : rd T j = T.getD j 0 := by simp [rd]
      have hyT : rd T j ∈ T := by
        rw [hy, List.getD_eq_getElem?_getD, List.getElem?_eq_getElem (by omega)]
        exact List.getElem_mem _
      obtain ⟨y0, y1⟩ := hTb _ hyT
      obtain ⟨v0, v1⟩ := val_bound7 (T.take j) (fun x hx => hTb x (List.mem_of_mem_take hx)) (by rw [List.length_take]; omega)
      have hnext : val (T.take (j + 1)) = val (T.take j) * 256 + rd T j := by
        rw [List.take_succ_eq_append_getElem (by omega), val_snoc]
        simp [rd, List.getD_eq_getElem?_getD, List.getElem?_eq_getElem (show j < T.length by omega)]
      have hor := or_byte _ _ v0 v1 y0 y1
      have HN := Aside0.mk hnext
      have hcs : (cs.setIfInBounds i (.int .u64 (val (T.take j)))).setIfInBounds i (.int .u64 (val (T.take j) * 256 + rd T j)) = cs.setIfInBounds i (.int .u64 (val (T.take (j + 1)))) := by rw [hnext, Array.setIfInBounds_setIfInBounds]
      have hset2 := hch.setCell (p := ⟨g, i, none⟩) (.inl (.inr rfl)) (.int .u64 (val (T.take j) * 256 + rd T j))
      have hs3 : Src w0 (wr.setCell ⟨g, i, none⟩ (.int .u64 (val (T.take j) * 256 + rd T j))) p (xs.drop size) := hsr.step ((Ch.refl (fun k => k = g) wr).setCell (p := ⟨g, i, none⟩) (.inl rfl) _) (fun e => hgp e.symm) (fun k hk => by rw [hk]; exact hg0)
      have HREL := Aside0.mk (show RdRel w0 w p g i t cs T xs size (j + 1) _ from ⟨hjs, blk_upd i (.int .u64 (val (T.take j) * 256 + rd T j)) hq hcs, hset2, hs3⟩)
      clear hq hch hsr hs3 hset2 hcs hnext hyT hy hTb hTl v0 v1
      generalize rd T j = y at *
      generalize val (List.take j T) = v at *
      go_wp2
      go_roundw
      case rel => exact ⟨j + 1, rfl, HREL.out⟩
      case measure => simp [intOf]; omega
    · have hjs' : ¬ (j : Int) < size := by omega
      have hj2 : j = size := by omega
      have HF := Aside0.mk (show Read w0 w p g (cs.setIfInBounds i (.int .u64 (val (xs.take size)))) t xs size wr from ⟨by rw [← HT.out, ← (show T.take j = T from List.take_of_length_le (by omega))]; exact hq, hsr, hch⟩)
      clear hq hch hsr hcw
      go_wp2
      refine bodyPost_end (results_none rfl _ _ _) rfl ?_
      exact ⟨rfl, HF.out⟩
set_option maxRecDepth 100000 in
set_option maxHeartbeats 400000 in
theorem number_lost (w0 w : World) (p g i t : Nat) (cs : Array Value) (n0 : Int) (xs : List Int) (size : Nat) (h : Src w0 w p xs) (hg : w.heap[g]? = some (.cells cs t (0, 0))) (hi : cs[i]? = some (.int .u64 n0)) (hgp : g ≠ p) (hg0 : w0.heap.size ≤ g) (hs : xs.length < size) :
    Calls Try.prog 41 #[.pointer (some ⟨p, 0, none⟩), .pointer (some ⟨g, i, none⟩), .int .i64 size] w fun e w' => Gone e ∧ Ch (fun k => k = p ∨ k = g) w w' := by
  obtain ⟨s1, s2⟩ := h.cells
  have hgc := (blk_cell hg i).trans hi
  have hgf := blk_frozen hg i
  have hset : Ch (fun k => k = g) w (w.setCell ⟨g, i, none⟩ (.int .u64 0)) := (Ch.refl (fun k => k = g) w).setCell (p := ⟨g, i, none⟩) (.inl rfl) _
  have hS := h.step hset (fun e => hgp e.symm) (fun k hk => by rw [hk]; exact hg0)
  have C1 := take_short w0 _ p size xs hS hs
  have HS := Aside0.mk (hset.mono (S' := fun k => k = p ∨ k = g) (fun k hk _ => .inr hk))
  clear h hset hS hg
  go_enter Try.func41, Try.ntmps41
  go_wp2_with fail
  refine C1.mono ?_
  rintro e w2 ⟨rfl, rfl⟩
  exact ⟨rfl, ⟨rfl, HS.out⟩⟩
end Go.Proofs.Ythkdihpbdaehbaa.Pr
namespace Go.Proofs.Ythkdihpbdaehbaa.Pr
set_option linter.unusedVariables false
set_option linter.unusedSimpArgs false
open Go.RowKit Go.Proofs.YthkdihpbdaehbaaW.PrintWords Go.Proofs.YthkdihpbdaehbaaW.PrintLast Go.Proofs.YthkdihpbdaehbaaW.PrintMore Go.Proofs.Ythkdihpbdaehbaa.Bs
def LostCh (w : World) (p g : Nat) (e : Ending) (w' : World) : Prop := Gone e ∧ Ch (fun k => k = p ∨ k = g) w w'
theorem Ch.new {w w2 : World} {p g q : Nat} (o : Obj) (hq : q = w.heap.size) (h : Ch (fun k => k = p ∨ k = q) (w.alloc o) w2) : Ch (fun k => k = p ∨ k = g) w w2 := by
  subst hq
  exact ((Ch.refl _ w).alloc o).trans (h.mono (fun k hk _ => hk.elim (fun e => .inl (.inl e)) (fun e => .inr (by omega))))
theorem Src.lt {w0 w : World} {p : Nat} {xs : List Int} (h : Src w0 w p xs) : p < w.heap.size := by
  obtain ⟨⟨A, c, hc, hl, hC⟩, ho, hpp⟩ := h
  exact blk_lt hc
theorem Src.alloc {w0 w : World} {p : Nat} {xs : List Int} (h : Src w0 w p xs) (o : Obj) : Src w0 (w.alloc o) p xs :=
  h.step (S := fun _ => False) ((Ch.refl _ w).alloc o) (fun h => h) (fun _ h => h.elim)
set_option maxRecDepth 100000 in
set_option maxHeartbeats 400000 in
theorem integer_lost (w0 w : World) (p g i t : Nat) (cs : Array Value) (n0 : Int) (xs : List Int) (size : Nat) (h : Src w0 w p xs) (hg : w.heap[g]? = some (.cells cs t (0, 0))) (hi : cs[i]? = some (.int .i64 n0)) (hgp : g ≠ p) (hg0 : w0.heap.size ≤ g) (hs : xs.length < size) :
    Calls Try.prog 37 #[.pointer (some ⟨p, 0, none⟩), .pointer (some ⟨g, i, none⟩), .int .i64 size] w (LostCh w p g) := by
  have hgc := (blk_cell hg i).trans hi
  have hgf := blk_frozen hg i
  have hlt := h.lt
  have hz := h.old.size
  have C1 := number_lost w0 (w.alloc (.cells #[.int .u64 (IntKind.u64.wrap n0)] 37)) p w.heap.size 0 37 _ (IntKind.u64.wrap n0) xs size (h.alloc _) (heap_alloc_new w _) rfl (by omega) hz hs
  clear h hg hlt hz
  go_enter Try.func37, Try.ntmps37
  go_wp2_with fail
  refine C1.mono ?_
  rintro e w2 ⟨rfl, hch⟩
  exact ⟨rfl, ⟨rfl, Ch.new _ rfl hch⟩⟩
set_option maxRecDepth 100000 in
set_option maxHeartbeats 400000 in
theorem integer_get (w0 w : World) (p g i t : Nat) (cs : Array Value) (n0 : Int) (xs : List Int) (size : Nat) (h : Src w0 w p xs) (hby : ∀ x ∈ xs, 0 ≤ x ∧ x ≤ 255) (hg : w.heap[g]? = some (.cells cs t (0, 0))) (hi : cs[i]? = some (.int .i64 n0)) (hgp : g ≠ p) (hg0 : w0.heap.size ≤ g) (hs : size ≤ xs.length) (hs7 : size ≤ 7) :
    Calls Try.prog 37 #[.pointer (some ⟨p, 0, none⟩), .pointer (some ⟨g, i, none⟩), .int .i64 size] w fun e w' => e = .returned (.tuple #[]) ∧ Read w0 w p g (cs.setIfInBounds i (.int .i64 (val (xs.take size)))) t xs size w' := by
  have hgc := (blk_cell hg i).trans hi
  have hgf := blk_frozen hg i
  have hlt := h.lt
  have hglt := blk_lt hg
  have hz := h.old.size
  have C1 := number_get w0 (w.alloc (.cells #[.int .u64 (IntKind.u64.wrap n0)] 37)) p w.heap.size 0 37 _ (IntKind.u64.wrap n0) xs size (h.alloc _) hby (heap_alloc_new w _) rfl (by omega) hz hs (by omega)
  obtain ⟨v0, v1⟩ := val_bound7 (xs.take size) (fun x hx => hby x (List.mem_of_mem_take hx)) (by rw [List.length_take]; omega)
  have hwr : IntKind.i64.wrap (val (xs.take size)) = val (xs.take size) := IntWalk.i64_in _ ⟨by omega, by omega⟩
  have HG := Aside0.mk hg
  clear h hg
  go_enter Try.func37, Try.ntmps37
  go_wp2_with fail
  refine C1.mono ?_
  rintro e w2 ⟨rfl, ⟨hq, hs2, hch⟩⟩
  have hch2 : Ch (fun k => k = p ∨ k = g) w w2 := Ch.new _ rfl hch
  have hc1 := (blk_cell hq 0).trans (show _ = some (.int .u64 (val (xs.take size))) from rfl)
  have hch3 : Ch (fun k => k = p) w w2 := ((Ch.refl _ w).alloc _).trans (hch.mono (fun k hk _ => hk.elim (fun e => .inl e) (fun e => .inr (by omega))))
  have hg2 := hch3.heap HG.out hgp
  have hgc2 := (blk_cell hg2 i).trans hi
  have hgf2 := blk_frozen hg2 i
  have HR := Aside0.mk (show Read w0 w p g (cs.setIfInBounds i (.int .i64 (val (xs.take size)))) t xs size (w2.setCell ⟨g, i, none⟩ (.int .i64 (val (xs.take size)))) from ⟨blk_upd i _ hg2 rfl, hs2.step ((Ch.refl (fun k => k = g) w2).setCell (p := ⟨g, i, none⟩) (.inl rfl) _) (fun e => hgp e.symm) (fun k hk => by rw [hk]; exact hg0), hch2.setCell (p := ⟨g, i, none⟩) (.inl (.inr rfl)) _⟩)
  clear hq hs2 hch hch2 hch3 hg2 C1
  generalize hv : val (xs.take size) = v at *
  have HV := Aside0.mk hv
  clear hv
  go_wp2_with fail
  refine bodyPost_end (results_none rfl _ _ _) rfl ?_
  exact ⟨rfl, by rw [HV.out]; exact HR.out⟩
set_option maxRecDepth 100000 in
set_option maxHeartbeats 400000 in
theorem text_lost (w0 w : World) (p g i t : Nat) (cs : Array Value) (y : ByteArray) (xs : List Int) (h : Src w0 w p xs) (hby : ∀ x ∈ xs, 0 ≤ x ∧ x ≤ 255) (hg : w.heap[g]? = some (.cells cs t (0, 0))) (hi : cs[i]? = some (.string y)) (hgp : g ≠ p) (hg0 : w0.heap.size ≤ g) (hs : xs.length < 2 ∨ xs.length < 2 + (val (xs.take 2)).toNat) :
    Calls Try.prog 38 #[.pointer (some ⟨p, 0, none⟩), .pointer (some ⟨g, i, none⟩)] w (LostCh w p g) := by
  have hgc := (blk_cell hg i).trans hi
  have hgf := blk_frozen hg i
  have hlt := h.lt
  have hz := h.old.size
  by_cases h2 : xs.length < 2
  · have C1 := number_lost w0 (w.alloc (.cells #[.int .u64 (IntKind.u64.wrap (y.size : Int))] 37)) p w.heap.size 0 37 _ (IntKind.u64.wrap (y.size : Int)) xs 2 (h.alloc _) (heap_alloc_new w _) rfl (by omega) hz h2
    clear h hg hlt hz
    go_enter Try.func38, Try.ntmps38
    go_wp2_with fail
    refine C1.mono ?_
    rintro e w2 ⟨rfl, hch⟩
    exact ⟨rfl, ⟨rfl, Ch.new _ rfl hch⟩⟩
  · have hs' : (xs.drop 2).length < (val (xs.take 2)).toNat := by rw [List.length_drop]; omega
    obtain ⟨v0, v1⟩ := val_bound7 (xs.take 2) (fun x hx => hby x (List.mem_of_mem_take hx)) (by rw [List.length_take]; omega)
    have hwr : IntKind.i64.wrap (val (xs.take 2)) = val (xs.take 2) := IntWalk.i64_in _ ⟨by omega, by omega⟩
    have C1 := number_get w0 (w.alloc (.cells #[.int .u64 (IntKind.u64.wrap (y.size : Int))] 37)) p w.heap.size 0 37 _ (IntKind.u64.wrap (y.size : Int)) xs 2 (h.alloc _) hby (heap_alloc_new w _) rfl (by omega) hz (by omega) (by decide)
    clear h hg hs h2
    go_enter Try.func38, Try.ntmps38
    go_wp2_with fail
    refine C1.mono ?_
    rintro e w2 ⟨rfl, ⟨hq, hs2, hch⟩⟩
    have hch2 : Ch (fun k => k = p ∨ k = g) w w2 := Ch.new _ rfl hch
    have hc1 := (blk_cell hq 0).trans (show _ = some (.int .u64 (val (xs.take 2))) from rfl)
    have hc2 := blk_frozen hq 0
    obtain ⟨s1, s2⟩ := hs2.cells
    have C2 := take_short w0 w2 p (val (xs.take 2)).toNat (xs.drop 2) hs2 hs'
    have HCH := Aside0.mk hch2
    rw [show (((val (xs.take 2)).toNat : Nat) : Int) = val (xs.take 2) from Int.toNat_of_nonneg v0] at C2
    clear hq hs2 hch hch2 C1 hs'
    generalize val (xs.take 2) = v at *
    go_wp2_with fail
    refine C2.mono ?_
    rintro e w3 ⟨rfl, rfl⟩
    exact ⟨rfl, ⟨rfl, HCH.out⟩⟩
theorem Read.more {w0 w w1 w2 : World} {p g t : Nat} {cs : Array Value} {xs ys : List Int} {n m : Nat} (h : Ch (fun k => k = p ∨ k = g) w w1) (hs : Src w0 w2 p (ys.drop m)) (he : ys = xs.drop n) (hq : w2.heap[g]? = some (.cells cs t (0, 0))) (hch : Ch (fun k => k = p ∨ k = g) w1 w2) : Read w0 w p g cs t xs (n + m) w2 := by
  refine ⟨hq, ?_, h.trans (hch.mono (fun k hk _ => .inl hk))⟩
  rw [he, List.drop_drop] at hs
  exact hs
set_option maxRecDepth 100000 in
set_option maxHeartbeats 400000 in
theorem text_get (w0 w : World) (p g i t : Nat) (cs : Array Value) (y : ByteArray) (xs : List Int) (h : Src w0 w p xs) (hby : ∀ x ∈ xs, 0 ≤ x ∧ x ≤ 255) (hg : w.heap[g]? = some (.cells cs t (0, 0))) (hi : cs[i]? = some (.string y)) (hgp : g ≠ p) (hg0 : w0.heap.size ≤ g) (hs : 2 + (val (xs.take 2)).toNat ≤ xs.length) :
    Calls Try.prog 38 #[.pointer (some ⟨p, 0, none⟩), .pointer (some ⟨g, i, none⟩)] w fun e w' => e = .returned (.tuple #[]) ∧ Read w0 w p g (cs.setIfInBounds i (.string (strOfNums ((xs.drop 2).take (val (xs.take 2)).toNat)))) t xs (2 + (val (xs.take 2)).toNat) w' := by
  have hgc := (blk_cell hg i).trans hi
  have hgf := blk_frozen hg i
  have hlt := h.lt
  have hglt := blk_lt hg
  have hz := h.old.size
  have hs' : (val (xs.take 2)).toNat ≤ (xs.drop 2).length := by rw [List.length_drop]; omega
  obtain ⟨v0, v1⟩ := val_bound7 (xs.take 2) (fun x hx => hby x (List.mem_of_mem_take hx)) (by rw [List.length_take]; omega)
  have hwr : IntKind.i64.wrap (val (xs.take 2)) = val (xs.take 2) := IntWalk.i64_in _ ⟨by omega, by omega⟩
  have C1 := number_get w0 (w.alloc (.cells #[.int .u64 (IntKind.u64.wrap (y.size : Int))] 37)) p w.heap.size 0 37 _ (IntKind.u64.wrap (y.size : Int)) xs 2 (h.alloc _) hby (heap_alloc_new w _) rfl (by omega) hz (by omega) (by decide)
  have HG := Aside0.mk hg
  have HI := Aside0.mk hi
  clear h hg hs
  go_enter Try.func38, Try.ntmps38
  go_wp2_with fail
  refine C1.mono ?_
  rintro e w2 ⟨rfl, ⟨hq, hs2, hch⟩⟩
  have hch2 : Ch (fun k => k = p ∨ k = g) w w2 := Ch.new _ rfl hch
  have hch3 : Ch (fun k => k = p) w w2 := ((Ch.refl _ w).alloc _).trans (hch.mono (fun k hk _ => hk.elim (fun e => .inl e) (fun e => .inr (by omega))))
  have hg2 := hch3.heap HG.out hgp
  have hc1 := (blk_cell hq 0).trans (show _ = some (.int .u64 (val (xs.take 2))) from rfl)
  have hc2 := blk_frozen hq 0
  obtain ⟨s1, s2⟩ := hs2.cells
  have C2 := take_ok w0 w2 p (val (xs.take 2)).toNat (xs.drop 2) hs2 hs'
  have HCH := Aside0.mk hch2
  have HG2 := Aside0.mk hg2
  rw [show (((val (xs.take 2)).toNat : Nat) : Int) = val (xs.take 2) from Int.toNat_of_nonneg v0] at C2
  clear hq hs2 hch hch2 C1 hs' hch3 hg2
  generalize hv : val (xs.take 2) = v at *
  have HV := Aside0.mk hv
  clear hv
  go_wp2_with fail
  refine C2.mono ?_
  rintro e w3 ⟨⟨A, c, rfl, hC⟩, hs3, hch3⟩
  have hC3 := Kd.C_below hC hs3.old
  have hst : (convert 27 9 (.slice A v.toNat c)).run Try.prog w3 = .ok (.string (strOfNums ((xs.drop 2).take v.toNat))) w3 := Kd.C_string Try.underlying27 Try.underlying5 Try.underlying9 hC3
  have hg3 := hch3.heap HG2.out hgp
  have hgc3 := (blk_cell hg3 i).trans HI.out
  have hgf3 := blk_frozen hg3 i
  have HR := Aside0.mk (show Read w0 w p g (cs.setIfInBounds i (.string (strOfNums ((xs.drop 2).take v.toNat)))) t xs (2 + v.toNat) (w3.setCell ⟨g, i, none⟩ (.string (strOfNums ((xs.drop 2).take v.toNat)))) from
    Read.more HCH.out (hs3.step ((Ch.refl (fun k => k = g) w3).setCell (p := ⟨g, i, none⟩) (.inl rfl) _) (fun e => hgp e.symm) (fun k hk => by rw [hk]; exact hg0)) rfl (blk_upd i _ hg3 rfl) ((hch3.mono (fun k hk _ => .inl hk)).setCell (p := ⟨g, i, none⟩) (.inl (.inr rfl)) _))
  clear hC hs3 hch3 hC3 hg3 C2
  generalize hs : strOfNums ((xs.drop 2).take v.toNat) = s at *
  have HSS := Aside0.mk hs
  clear hs
  go_wp2_with fail
  refine bodyPost_ret (results_none rfl _ _ _) rfl ?_
  exact ⟨rfl, by rw [HV.out, HSS.out]; exact HR.out⟩
end Go.Proofs.Ythkdihpbdaehbaa.Pr
namespace Go.Proofs.Ythkdihpbdaehbaa.Pr
set_option linter.unusedVariables false
set_option linter.unusedSimpArgs false
open Go.RowKit Go.Proofs.YthkdihpbdaehbaaW.PrintWords Go.Proofs.YthkdihpbdaehbaaW.PrintLast Go.Proofs.YthkdihpbdaehbaaW.PrintMore Go.Proofs.Ythkdihpbdaehbaa.Bs
/-- A number of so many bytes that is read, and what is behind it. -/
def numP (k : Nat) (xs : List Int) : Option (Int × List Int) := if xs.length < k then none else some (val (xs.take k), xs.drop k)
def textP (xs : List Int) : Option (ByteArray × List Int) := if xs.length < 2 ∨ xs.length < 2 + (val (xs.take 2)).toNat then none else some (strOfNums ((xs.drop 2).take (val (xs.take 2)).toNat), xs.drop (2 + (val (xs.take 2)).toNat))
def nil8 : ByteArray := ⟨#[]⟩
def parseReq (xs : List Int) : Option (Rq × List Int) :=
  match numP 1 xs with
  | none => none
  | some (k, x1) =>
    if k = 2 then (match textP x1 with | none => none | some (s, x2) => some (⟨k, s, 0, 0, 0, nil8, nil8⟩, x2))
    else if k = 3 then (match numP 1 x1 with | none => none | some (o, x2) => match numP 4 x2 with | none => none | some (i, x3) => match numP 4 x3 with | none => none | some (p, x4) => match textP x4 with | none => none | some (nm, x5) => match textP x5 with | none => none | some (os, x6) => some (⟨k, nil8, o, i, p, nm, os⟩, x6))
    else if k = 6 then (match numP 4 x1 with | none => none | some (i, x2) => some (⟨k, nil8, 0, i, 0, nil8, nil8⟩, x2))
    else some (⟨k, nil8, 0, 0, 0, nil8, nil8⟩, x1)
def Bys (xs : List Int) : Prop := ∀ x ∈ xs, 0 ≤ x ∧ x ≤ 255
theorem numP_bys {k : Nat} {xs ys : List Int} {v : Int} (h : Bys xs) (e : numP k xs = some (v, ys)) : Bys ys := by
  simp only [numP] at e
  split at e
  · cases e
  · cases e; exact fun x hx => h x (List.mem_of_mem_drop hx)
theorem textP_bys {xs ys : List Int} {s : ByteArray} (h : Bys xs) (e : textP xs = some (s, ys)) : Bys ys := by
  simp only [textP] at e
  split at e
  · cases e
  · cases e; exact fun x hx => h x (List.mem_of_mem_drop hx)
structure Stp (w0 w : World) (p g : Nat) (cs : Array Value) (t : Nat) (ys : List Int) (e : Ending) (w' : World) : Prop where
  e : e = .returned (.tuple #[])
  q : w'.heap[g]? = some (.cells cs t (0, 0))
  s : Src w0 w' p ys
  ch : Ch (fun k => k = p ∨ k = g) w w'
theorem int_get (w0 w : World) (p g i t : Nat) (cs : Array Value) (n0 v : Int) (xs ys : List Int) (size : Nat) (hn : numP size xs = some (v, ys)) (h : Src w0 w p xs) (hby : Bys xs) (hg : w.heap[g]? = some (.cells cs t (0, 0))) (hi : cs[i]? = some (.int .i64 n0)) (hgp : g ≠ p) (hg0 : w0.heap.size ≤ g) (hs7 : size ≤ 7) :
    Calls Try.prog 37 #[.pointer (some ⟨p, 0, none⟩), .pointer (some ⟨g, i, none⟩), .int .i64 size] w (Stp w0 w p g (cs.setIfInBounds i (.int .i64 v)) t ys) := by
  simp only [numP] at hn
  split at hn
  · cases hn
  · cases hn
    refine (integer_get w0 w p g i t cs n0 xs size h hby hg hi hgp hg0 (by omega) hs7).mono ?_
    rintro e w' ⟨rfl, hq, hs, hch⟩
    exact ⟨rfl, hq, hs, hch⟩
theorem int_lost (w0 w : World) (p g i t : Nat) (cs : Array Value) (n0 : Int) (xs : List Int) (size : Nat) (hn : numP size xs = none) (h : Src w0 w p xs) (hg : w.heap[g]? = some (.cells cs t (0, 0))) (hi : cs[i]? = some (.int .i64 n0)) (hgp : g ≠ p) (hg0 : w0.heap.size ≤ g) :
    Calls Try.prog 37 #[.pointer (some ⟨p, 0, none⟩), .pointer (some ⟨g, i, none⟩), .int .i64 size] w (LostCh w p g) := by
  simp only [numP] at hn
  split at hn
  · exact integer_lost w0 w p g i t cs n0 xs size h hg hi hgp hg0 (by omega)
  · cases hn
theorem str_get (w0 w : World) (p g i t : Nat) (cs : Array Value) (y s : ByteArray) (xs ys : List Int) (hn : textP xs = some (s, ys)) (h : Src w0 w p xs) (hby : Bys xs) (hg : w.heap[g]? = some (.cells cs t (0, 0))) (hi : cs[i]? = some (.string y)) (hgp : g ≠ p) (hg0 : w0.heap.size ≤ g) :
    Calls Try.prog 38 #[.pointer (some ⟨p, 0, none⟩), .pointer (some ⟨g, i, none⟩)] w (Stp w0 w p g (cs.setIfInBounds i (.string s)) t ys) := by
  simp only [textP] at hn
  split at hn
  · cases hn
  · cases hn
    refine (text_get w0 w p g i t cs y xs h hby hg hi hgp hg0 (by omega)).mono ?_
    rintro e w' ⟨rfl, hq, hs, hch⟩
    exact ⟨rfl, hq, hs, hch⟩
theorem str_lost (w0 w : World) (p g i t : Nat) (cs : Array Value) (y : ByteArray) (xs : List Int) (hn : textP xs = none) (h : Src w0 w p xs) (hby : Bys xs) (hg : w.heap[g]? = some (.cells cs t (0, 0))) (hi : cs[i]? = some (.string y)) (hgp : g ≠ p) (hg0 : w0.heap.size ≤ g) :
    Calls Try.prog 38 #[.pointer (some ⟨p, 0, none⟩), .pointer (some ⟨g, i, none⟩)] w (LostCh w p g) := by
  simp only [textP] at hn
  split at hn
  · exact text_lost w0 w p g i t cs y xs h hby hg hi hgp hg0 (by omega)
  · cases hn
def Res (w0 w : World) (p g : Nat) (r : Option (Rq × List Int)) (e : Ending) (w' : World) : Prop :=
  match r with
  | none => LostCh w p g e w'
  | some (q, ys) => Stp w0 w p g q.cells 25 ys e w'
theorem Ch.two {w w1 w2 : World} {p g : Nat} (h : Ch (fun k => k = p ∨ k = g) w w1) (h2 : Ch (fun k => k = p ∨ k = g) w1 w2) : Ch (fun k => k = p ∨ k = g) w w2 := h.trans (h2.mono (fun k hk _ => .inl hk))
set_option maxRecDepth 100000 in
set_option maxHeartbeats 1000000 in
theorem rget_0 (w0 w : World) (p g : Nat) (xs : List Int) (h : Src w0 w p xs) (hby : Bys xs) (hg : w.heap[g]? = some (.cells #[.int .i64 (0), .string nil8, .int .i64 (0), .int .i64 (0), .int .i64 (0), .string nil8, .string nil8] 25 (0, 0))) (hgp : g ≠ p) (hg0 : w0.heap.size ≤ g) {k : Int} {x1 : List Int} (n0 : numP 1 xs = some (k, x1)) (kk : k ≠ 2 ∧ k ≠ 3 ∧ k ≠ 6)   :
    Calls Try.prog 21 #[.pointer (some ⟨p, 0, none⟩), .pointer (some ⟨g, 0, none⟩)] w (Res w0 w p g (some (⟨k, nil8, 0, 0, 0, nil8, nil8⟩, x1))) := by
  have C0 := int_get w0 w p g 0 25 _ 0 k xs x1 1 n0 h hby hg rfl hgp hg0 (by decide)
  have B1 := Aside0.mk (numP_bys hby n0)
  have b2 : (k == 2) = false := by simp; omega
  have b3 : (k == 3) = false := by simp; omega
  have b6 : (k == 6) = false := by simp; omega
  have KK := Aside0.mk kk
  clear h hby hg kk n0
  go_enter Try.func21, Try.ntmps21
  go_wp2_with fail
  refine C0.mono ?_
  rintro e w1 ⟨rfl, hq, hs, hch⟩
  replace hq : w1.heap[g]? = some (.cells #[.int .i64 (k), .string nil8, .int .i64 (0), .int .i64 (0), .int .i64 (0), .string nil8, .string nil8] 25 (0, 0)) := hq
  obtain ⟨c0, c1, c2, c3, c4, c5, c6, c7⟩ := blk7 hq
  have HQ1 := Aside0.mk hq
  have HS1 := Aside0.mk hs
  have HC1 := Aside0.mk hch
  clear hq hs hch C0
  go_wp2_with fail
  refine bodyPost_end (results_none rfl _ _ _) rfl ?_
  exact ⟨rfl, HQ1.out, HS1.out, HC1.out⟩
set_option maxRecDepth 100000 in
set_option maxHeartbeats 1000000 in
theorem rget_2 (w0 w : World) (p g : Nat) (xs : List Int) (h : Src w0 w p xs) (hby : Bys xs) (hg : w.heap[g]? = some (.cells #[.int .i64 (0), .string nil8, .int .i64 (0), .int .i64 (0), .int .i64 (0), .string nil8, .string nil8] 25 (0, 0))) (hgp : g ≠ p) (hg0 : w0.heap.size ≤ g) {k : Int} {x1 : List Int} (n0 : numP 1 xs = some (k, x1)) (kk : k = 2) {s : ByteArray} {x2 : List Int} (n1 : textP x1 = some (s, x2)) :
    Calls Try.prog 21 #[.pointer (some ⟨p, 0, none⟩), .pointer (some ⟨g, 0, none⟩)] w (Res w0 w p g (some (⟨k, s, 0, 0, 0, nil8, nil8⟩, x2))) := by
  have C0 := int_get w0 w p g 0 25 _ 0 k xs x1 1 n0 h hby hg rfl hgp hg0 (by decide)
  have B1 := Aside0.mk (numP_bys hby n0)
  have b2 : (k == 2) = true := by simpa using kk
  have b3 : (k == 3) = false := by simp [kk]
  have b6 : (k == 6) = false := by simp [kk]
  have KK := Aside0.mk kk
  clear h hby hg kk n0
  go_enter Try.func21, Try.ntmps21
  go_wp2_with fail
  refine C0.mono ?_
  rintro e w1 ⟨rfl, hq, hs, hch⟩
  replace hq : w1.heap[g]? = some (.cells #[.int .i64 (k), .string nil8, .int .i64 (0), .int .i64 (0), .int .i64 (0), .string nil8, .string nil8] 25 (0, 0)) := hq
  obtain ⟨c0, c1, c2, c3, c4, c5, c6, c7⟩ := blk7 hq
  have HQ1 := Aside0.mk hq
  have HS1 := Aside0.mk hs
  have HC1 := Aside0.mk hch
  clear hq hs hch C0
  have C1 := str_get w0 w1 p g 1 25 _ nil8 s x1 x2 n1 HS1.out B1.out HQ1.out rfl hgp hg0
  have B2 := Aside0.mk (textP_bys B1.out n1)
  clear n1
  go_wp2_with fail
  refine C1.mono ?_
  rintro e w2 ⟨rfl, hq, hs, hch⟩
  replace hq : w2.heap[g]? = some (.cells #[.int .i64 (k), .string s, .int .i64 (0), .int .i64 (0), .int .i64 (0), .string nil8, .string nil8] 25 (0, 0)) := hq
  clear c0 c1 c2 c3 c4 c5 c6 c7
  obtain ⟨c0, c1, c2, c3, c4, c5, c6, c7⟩ := blk7 hq
  have HQ2 := Aside0.mk hq
  have HS2 := Aside0.mk hs
  have HC2 := Aside0.mk (Ch.two HC1.out hch)
  clear hq hs hch C1
  go_wp2_with fail
  refine bodyPost_end (results_none rfl _ _ _) rfl ?_
  exact ⟨rfl, HQ2.out, HS2.out, HC2.out⟩
set_option maxRecDepth 100000 in
set_option maxHeartbeats 1000000 in
theorem rget_2l (w0 w : World) (p g : Nat) (xs : List Int) (h : Src w0 w p xs) (hby : Bys xs) (hg : w.heap[g]? = some (.cells #[.int .i64 (0), .string nil8, .int .i64 (0), .int .i64 (0), .int .i64 (0), .string nil8, .string nil8] 25 (0, 0))) (hgp : g ≠ p) (hg0 : w0.heap.size ≤ g) {k : Int} {x1 : List Int} (n0 : numP 1 xs = some (k, x1)) (kk : k = 2)  (n1 : textP x1 = none) :
    Calls Try.prog 21 #[.pointer (some ⟨p, 0, none⟩), .pointer (some ⟨g, 0, none⟩)] w (Res w0 w p g (none)) := by
  have C0 := int_get w0 w p g 0 25 _ 0 k xs x1 1 n0 h hby hg rfl hgp hg0 (by decide)
  have B1 := Aside0.mk (numP_bys hby n0)
  have b2 : (k == 2) = true := by simpa using kk
  have b3 : (k == 3) = false := by simp [kk]
  have b6 : (k == 6) = false := by simp [kk]
  have KK := Aside0.mk kk
  clear h hby hg kk n0
  go_enter Try.func21, Try.ntmps21
  go_wp2_with fail
  refine C0.mono ?_
  rintro e w1 ⟨rfl, hq, hs, hch⟩
  replace hq : w1.heap[g]? = some (.cells #[.int .i64 (k), .string nil8, .int .i64 (0), .int .i64 (0), .int .i64 (0), .string nil8, .string nil8] 25 (0, 0)) := hq
  obtain ⟨c0, c1, c2, c3, c4, c5, c6, c7⟩ := blk7 hq
  have HQ1 := Aside0.mk hq
  have HS1 := Aside0.mk hs
  have HC1 := Aside0.mk hch
  clear hq hs hch C0
  have C1 := str_lost w0 w1 p g 1 25 _ nil8 x1 n1 HS1.out B1.out HQ1.out rfl hgp hg0
  clear n1
  go_wp2_with fail
  refine C1.mono ?_
  rintro e w2 ⟨rfl, hch⟩
  exact ⟨rfl, ⟨rfl, Ch.two HC1.out hch⟩⟩
set_option maxRecDepth 100000 in
set_option maxHeartbeats 1000000 in
theorem rget_6 (w0 w : World) (p g : Nat) (xs : List Int) (h : Src w0 w p xs) (hby : Bys xs) (hg : w.heap[g]? = some (.cells #[.int .i64 (0), .string nil8, .int .i64 (0), .int .i64 (0), .int .i64 (0), .string nil8, .string nil8] 25 (0, 0))) (hgp : g ≠ p) (hg0 : w0.heap.size ≤ g) {k : Int} {x1 : List Int} (n0 : numP 1 xs = some (k, x1)) (kk : k = 6) {i : Int} {x2 : List Int} (n1 : numP 4 x1 = some (i, x2)) :
    Calls Try.prog 21 #[.pointer (some ⟨p, 0, none⟩), .pointer (some ⟨g, 0, none⟩)] w (Res w0 w p g (some (⟨k, nil8, 0, i, 0, nil8, nil8⟩, x2))) := by
  have C0 := int_get w0 w p g 0 25 _ 0 k xs x1 1 n0 h hby hg rfl hgp hg0 (by decide)
  have B1 := Aside0.mk (numP_bys hby n0)
  have b2 : (k == 2) = false := by simp [kk]
  have b3 : (k == 3) = false := by simp [kk]
  have b6 : (k == 6) = true := by simpa using kk
  have KK := Aside0.mk kk
  clear h hby hg kk n0
  go_enter Try.func21, Try.ntmps21
  go_wp2_with fail
  refine C0.mono ?_
  rintro e w1 ⟨rfl, hq, hs, hch⟩
  replace hq : w1.heap[g]? = some (.cells #[.int .i64 (k), .string nil8, .int .i64 (0), .int .i64 (0), .int .i64 (0), .string nil8, .string nil8] 25 (0, 0)) := hq
  obtain ⟨c0, c1, c2, c3, c4, c5, c6, c7⟩ := blk7 hq
  have HQ1 := Aside0.mk hq
  have HS1 := Aside0.mk hs
  have HC1 := Aside0.mk hch
  clear hq hs hch C0
  have C1 := int_get w0 w1 p g 3 25 _ 0 i x1 x2 4 n1 HS1.out B1.out HQ1.out rfl hgp hg0 (by decide)
  have B2 := Aside0.mk (numP_bys B1.out n1)
  clear n1
  go_wp2_with fail
  refine C1.mono ?_
  rintro e w2 ⟨rfl, hq, hs, hch⟩
  replace hq : w2.heap[g]? = some (.cells #[.int .i64 (k), .string nil8, .int .i64 (0), .int .i64 (i), .int .i64 (0), .string nil8, .string nil8] 25 (0, 0)) := hq
  clear c0 c1 c2 c3 c4 c5 c6 c7
  obtain ⟨c0, c1, c2, c3, c4, c5, c6, c7⟩ := blk7 hq
  have HQ2 := Aside0.mk hq
  have HS2 := Aside0.mk hs
  have HC2 := Aside0.mk (Ch.two HC1.out hch)
  clear hq hs hch C1
  go_wp2_with fail
  refine bodyPost_end (results_none rfl _ _ _) rfl ?_
  exact ⟨rfl, HQ2.out, HS2.out, HC2.out⟩
set_option maxRecDepth 100000 in
set_option maxHeartbeats 1000000 in
theorem rget_6l (w0 w : World) (p g : Nat) (xs : List Int) (h : Src w0 w p xs) (hby : Bys xs) (hg : w.heap[g]? = some (.cells #[.int .i64 (0), .string nil8, .int .i64 (0), .int .i64 (0), .int .i64 (0), .string nil8, .string nil8] 25 (0, 0))) (hgp : g ≠ p) (hg0 : w0.heap.size ≤ g) {k : Int} {x1 : List Int} (n0 : numP 1 xs = some (k, x1)) (kk : k = 6)  (n1 : numP 4 x1 = none) :
    Calls Try.prog 21 #[.pointer (some ⟨p, 0, none⟩), .pointer (some ⟨g, 0, none⟩)] w (Res w0 w p g (none)) := by
  have C0 := int_get w0 w p g 0 25 _ 0 k xs x1 1 n0 h hby hg rfl hgp hg0 (by decide)
  have B1 := Aside0.mk (numP_bys hby n0)
  have b2 : (k == 2) = false := by simp [kk]
  have b3 : (k == 3) = false := by simp [kk]
  have b6 : (k == 6) = true := by simpa using kk
  have KK := Aside0.mk kk
  clear h hby hg kk n0
  go_enter Try.func21, Try.ntmps21
  go_wp2_with fail
  refine C0.mono ?_
  rintro e w1 ⟨rfl, hq, hs, hch⟩
  replace hq : w1.heap[g]? = some (.cells #[.int .i64 (k), .string nil8, .int .i64 (0), .int .i64 (0), .int .i64 (0), .string nil8, .string nil8] 25 (0, 0)) := hq
  obtain ⟨c0, c1, c2, c3, c4, c5, c6, c7⟩ := blk7 hq
  have HQ1 := Aside0.mk hq
  have HS1 := Aside0.mk hs
  have HC1 := Aside0.mk hch
  clear hq hs hch C0
  have C1 := int_lost w0 w1 p g 3 25 _ 0 x1 4 n1 HS1.out HQ1.out rfl hgp hg0
  clear n1
  go_wp2_with fail
  refine C1.mono ?_
  rintro e w2 ⟨rfl, hch⟩
  exact ⟨rfl, ⟨rfl, Ch.two HC1.out hch⟩⟩
set_option maxRecDepth 100000 in
set_option maxHeartbeats 1000000 in
theorem rget_3 (w0 w : World) (p g : Nat) (xs : List Int) (h : Src w0 w p xs) (hby : Bys xs) (hg : w.heap[g]? = some (.cells #[.int .i64 (0), .string nil8, .int .i64 (0), .int .i64 (0), .int .i64 (0), .string nil8, .string nil8] 25 (0, 0))) (hgp : g ≠ p) (hg0 : w0.heap.size ≤ g) {k : Int} {x1 : List Int} (n0 : numP 1 xs = some (k, x1)) (kk : k = 3) {o : Int} {x2 : List Int} {i : Int} {x3 : List Int} {q : Int} {x4 : List Int} {nm : ByteArray} {x5 : List Int} {os : ByteArray} {x6 : List Int} (n1 : numP 1 x1 = some (o, x2)) (n2 : numP 4 x2 = some (i, x3)) (n3 : numP 4 x3 = some (q, x4)) (n4 : textP x4 = some (nm, x5)) (n5 : textP x5 = some (os, x6)) :
    Calls Try.prog 21 #[.pointer (some ⟨p, 0, none⟩), .pointer (some ⟨g, 0, none⟩)] w (Res w0 w p g (some (⟨k, nil8, o, i, q, nm, os⟩, x6))) := by
  have C0 := int_get w0 w p g 0 25 _ 0 k xs x1 1 n0 h hby hg rfl hgp hg0 (by decide)
  have B1 := Aside0.mk (numP_bys hby n0)
  have b2 : (k == 2) = false := by simp [kk]
  have b3 : (k == 3) = true := by simpa using kk
  have b6 : (k == 6) = false := by simp [kk]
  have KK := Aside0.mk kk
  clear h hby hg kk n0
  go_enter Try.func21, Try.ntmps21
  go_wp2_with fail
  refine C0.mono ?_
  rintro e w1 ⟨rfl, hq, hs, hch⟩
  replace hq : w1.heap[g]? = some (.cells #[.int .i64 (k), .string nil8, .int .i64 (0), .int .i64 (0), .int .i64 (0), .string nil8, .string nil8] 25 (0, 0)) := hq
  obtain ⟨c0, c1, c2, c3, c4, c5, c6, c7⟩ := blk7 hq
  have HQ1 := Aside0.mk hq
  have HS1 := Aside0.mk hs
  have HC1 := Aside0.mk hch
  clear hq hs hch C0
  have C1 := int_get w0 w1 p g 2 25 _ 0 o x1 x2 1 n1 HS1.out B1.out HQ1.out rfl hgp hg0 (by decide)
  have B2 := Aside0.mk (numP_bys B1.out n1)
  clear n1
  go_wp2_with fail
  refine C1.mono ?_
  rintro e w2 ⟨rfl, hq, hs, hch⟩
  replace hq : w2.heap[g]? = some (.cells #[.int .i64 (k), .string nil8, .int .i64 (o), .int .i64 (0), .int .i64 (0), .string nil8, .string nil8] 25 (0, 0)) := hq
  clear c0 c1 c2 c3 c4 c5 c6 c7
  obtain ⟨c0, c1, c2, c3, c4, c5, c6, c7⟩ := blk7 hq
  have HQ2 := Aside0.mk hq
  have HS2 := Aside0.mk hs
  have HC2 := Aside0.mk (Ch.two HC1.out hch)
  clear hq hs hch C1
  have C2 := int_get w0 w2 p g 3 25 _ 0 i x2 x3 4 n2 HS2.out B2.out HQ2.out rfl hgp hg0 (by decide)
  have B3 := Aside0.mk (numP_bys B2.out n2)
  clear n2
  go_wp2_with fail
  refine C2.mono ?_
  rintro e w3 ⟨rfl, hq, hs, hch⟩
  replace hq : w3.heap[g]? = some (.cells #[.int .i64 (k), .string nil8, .int .i64 (o), .int .i64 (i), .int .i64 (0), .string nil8, .string nil8] 25 (0, 0)) := hq
  clear c0 c1 c2 c3 c4 c5 c6 c7
  obtain ⟨c0, c1, c2, c3, c4, c5, c6, c7⟩ := blk7 hq
  have HQ3 := Aside0.mk hq
  have HS3 := Aside0.mk hs
  have HC3 := Aside0.mk (Ch.two HC2.out hch)
  clear hq hs hch C2
  have C3 := int_get w0 w3 p g 4 25 _ 0 q x3 x4 4 n3 HS3.out B3.out HQ3.out rfl hgp hg0 (by decide)
  have B4 := Aside0.mk (numP_bys B3.out n3)
  clear n3
  go_wp2_with fail
  refine C3.mono ?_
  rintro e w4 ⟨rfl, hq, hs, hch⟩
  replace hq : w4.heap[g]? = some (.cells #[.int .i64 (k), .string nil8, .int .i64 (o), .int .i64 (i), .int .i64 (q), .string nil8, .string nil8] 25 (0, 0)) := hq
  clear c0 c1 c2 c3 c4 c5 c6 c7
  obtain ⟨c0, c1, c2, c3, c4, c5, c6, c7⟩ := blk7 hq
  have HQ4 := Aside0.mk hq
  have HS4 := Aside0.mk hs
  have HC4 := Aside0.mk (Ch.two HC3.out hch)
  clear hq hs hch C3
  have C4 := str_get w0 w4 p g 5 25 _ nil8 nm x4 x5 n4 HS4.out B4.out HQ4.out rfl hgp hg0
  have B5 := Aside0.mk (textP_bys B4.out n4)
  clear n4
  go_wp2_with fail
  refine C4.mono ?_
  rintro e w5 ⟨rfl, hq, hs, hch⟩
  replace hq : w5.heap[g]? = some (.cells #[.int .i64 (k), .string nil8, .int .i64 (o), .int .i64 (i), .int .i64 (q), .string nm, .string nil8] 25 (0, 0)) := hq
  clear c0 c1 c2 c3 c4 c5 c6 c7
  obtain ⟨c0, c1, c2, c3, c4, c5, c6, c7⟩ := blk7 hq
  have HQ5 := Aside0.mk hq
  have HS5 := Aside0.mk hs
  have HC5 := Aside0.mk (Ch.two HC4.out hch)
  clear hq hs hch C4
  have C5 := str_get w0 w5 p g 6 25 _ nil8 os x5 x6 n5 HS5.out B5.out HQ5.out rfl hgp hg0
  have B6 := Aside0.mk (textP_bys B5.out n5)
  clear n5
  go_wp2_with fail
  refine C5.mono ?_
  rintro e w6 ⟨rfl, hq, hs, hch⟩
  replace hq : w6.heap[g]? = some (.cells #[.int .i64 (k), .string nil8, .int .i64 (o), .int .i64 (i), .int .i64 (q), .string nm, .string os] 25 (0, 0)) := hq
  clear c0 c1 c2 c3 c4 c5 c6 c7
  obtain ⟨c0, c1, c2, c3, c4, c5, c6, c7⟩ := blk7 hq
  have HQ6 := Aside0.mk hq
  have HS6 := Aside0.mk hs
  have HC6 := Aside0.mk (Ch.two HC5.out hch)
  clear hq hs hch C5
  go_wp2_with fail
  refine bodyPost_end (results_none rfl _ _ _) rfl ?_
  exact ⟨rfl, HQ6.out, HS6.out, HC6.out⟩
set_option maxRecDepth 100000 in
set_option maxHeartbeats 1000000 in
theorem rget_3l0 (w0 w : World) (p g : Nat) (xs : List Int) (h : Src w0 w p xs) (hby : Bys xs) (hg : w.heap[g]? = some (.cells #[.int .i64 (0), .string nil8, .int .i64 (0), .int .i64 (0), .int .i64 (0), .string nil8, .string nil8] 25 (0, 0))) (hgp : g ≠ p) (hg0 : w0.heap.size ≤ g) {k : Int} {x1 : List Int} (n0 : numP 1 xs = some (k, x1)) (kk : k = 3)  (n1 : numP 1 x1 = none) :
    Calls Try.prog 21 #[.pointer (some ⟨p, 0, none⟩), .pointer (some ⟨g, 0, none⟩)] w (Res w0 w p g (none)) := by
  have C0 := int_get w0 w p g 0 25 _ 0 k xs x1 1 n0 h hby hg rfl hgp hg0 (by decide)
  have B1 := Aside0.mk (numP_bys hby n0)
  have b2 : (k == 2) = false := by simp [kk]
  have b3 : (k == 3) = true := by simpa using kk
  have b6 : (k == 6) = false := by simp [kk]
  have KK := Aside0.mk kk
  clear h hby hg kk n0
  go_enter Try.func21, Try.ntmps21
  go_wp2_with fail
  refine C0.mono ?_
  rintro e w1 ⟨rfl, hq, hs, hch⟩
  replace hq : w1.heap[g]? = some (.cells #[.int .i64 (k), .string nil8, .int .i64 (0), .int .i64 (0), .int .i64 (0), .string nil8, .string nil8] 25 (0, 0)) := hq
  obtain ⟨c0, c1, c2, c3, c4, c5, c6, c7⟩ := blk7 hq
  have HQ1 := Aside0.mk hq
  have HS1 := Aside0.mk hs
  have HC1 := Aside0.mk hch
  clear hq hs hch C0
  have C1 := int_lost w0 w1 p g 2 25 _ 0 x1 1 n1 HS1.out HQ1.out rfl hgp hg0
  clear n1
  go_wp2_with fail
  refine C1.mono ?_
  rintro e w2 ⟨rfl, hch⟩
  exact ⟨rfl, ⟨rfl, Ch.two HC1.out hch⟩⟩
set_option maxRecDepth 100000 in
set_option maxHeartbeats 1000000 in
theorem rget_3l1 (w0 w : World) (p g : Nat) (xs : List Int) (h : Src w0 w p xs) (hby : Bys xs) (hg : w.heap[g]? = some (.cells #[.int .i64 (0), .string nil8, .int .i64 (0), .int .i64 (0), .int .i64 (0), .string nil8, .string nil8] 25 (0, 0))) (hgp : g ≠ p) (hg0 : w0.heap.size ≤ g) {k : Int} {x1 : List Int} (n0 : numP 1 xs = some (k, x1)) (kk : k = 3) {o : Int} {x2 : List Int} (n1 : numP 1 x1 = some (o, x2)) (n2 : numP 4 x2 = none) :
    Calls Try.prog 21 #[.pointer (some ⟨p, 0, none⟩), .pointer (some ⟨g, 0, none⟩)] w (Res w0 w p g (none)) := by
  have C0 := int_get w0 w p g 0 25 _ 0 k xs x1 1 n0 h hby hg rfl hgp hg0 (by decide)
  have B1 := Aside0.mk (numP_bys hby n0)
  have b2 : (k == 2) = false := by simp [kk]
  have b3 : (k == 3) = true := by simpa using kk
  have b6 : (k == 6) = false := by simp [kk]
  have KK := Aside0.mk kk
  clear h hby hg kk n0
  go_enter Try.func21, Try.ntmps21
  go_wp2_with fail
  refine C0.mono ?_
  rintro e w1 ⟨rfl, hq, hs, hch⟩
  replace hq : w1.heap[g]? = some (.cells #[.int .i64 (k), .string nil8, .int .i64 (0), .int .i64 (0), .int .i64 (0), .string nil8, .string nil8] 25 (0, 0)) := hq
  obtain ⟨c0, c1, c2, c3, c4, c5, c6, c7⟩ := blk7 hq
  have HQ1 := Aside0.mk hq
  have HS1 := Aside0.mk hs
  have HC1 := Aside0.mk hch
  clear hq hs hch C0
  have C1 := int_get w0 w1 p g 2 25 _ 0 o x1 x2 1 n1 HS1.out B1.out HQ1.out rfl hgp hg0 (by decide)
  have B2 := Aside0.mk (numP_bys B1.out n1)
  clear n1
  go_wp2_with fail
  refine C1.mono ?_
  rintro e w2 ⟨rfl, hq, hs, hch⟩
  replace hq : w2.heap[g]? = some (.cells #[.int .i64 (k), .string nil8, .int .i64 (o), .int .i64 (0), .int .i64 (0), .string nil8, .string nil8] 25 (0, 0)) := hq
  clear c0 c1 c2 c3 c4 c5 c6 c7
  obtain ⟨c0, c1, c2, c3, c4, c5, c6, c7⟩ := blk7 hq
  have HQ2 := Aside0.mk hq
  have HS2 := Aside0.mk hs
  have HC2 := Aside0.mk (Ch.two HC1.out hch)
  clear hq hs hch C1
  have C2 := int_lost w0 w2 p g 3 25 _ 0 x2 4 n2 HS2.out HQ2.out rfl hgp hg0
  clear n2
  go_wp2_with fail
  refine C2.mono ?_
  rintro e w3 ⟨rfl, hch⟩
  exact ⟨rfl, ⟨rfl, Ch.two HC2.out hch⟩⟩
set_option maxRecDepth 100000 in
set_option maxHeartbeats 1000000 in
theorem rget_3l2 (w0 w : World) (p g : Nat) (xs : List Int) (h : Src w0 w p xs) (hby : Bys xs) (hg : w.heap[g]? = some (.cells #[.int .i64 (0), .string nil8, .int .i64 (0), .int .i64 (0), .int .i64 (0), .string nil8, .string nil8] 25 (0, 0))) (hgp : g ≠ p) (hg0 : w0.heap.size ≤ g) {k : Int} {x1 : List Int} (n0 : numP 1 xs = some (k, x1)) (kk : k = 3) {o : Int} {x2 : List Int} {i : Int} {x3 : List Int} (n1 : numP 1 x1 = some (o, x2)) (n2 : numP 4 x2 = some (i, x3)) (n3 : numP 4 x3 = none) :
    Calls Try.prog 21 #[.pointer (some ⟨p, 0, none⟩), .pointer (some ⟨g, 0, none⟩)] w (Res w0 w p g (none)) := by
  have C0 := int_get w0 w p g 0 25 _ 0 k xs x1 1 n0 h hby hg rfl hgp hg0 (by decide)
  have B1 := Aside0.mk (numP_bys hby n0)
  have b2 : (k == 2) = false := by simp [kk]
  have b3 : (k == 3) = true := by simpa using kk
  have b6 : (k == 6) = false := by simp [kk]
  have KK := Aside0.mk kk
  clear h hby hg kk n0
  go_enter Try.func21, Try.ntmps21
  go_wp2_with fail
  refine C0.mono ?_
  rintro e w1 ⟨rfl, hq, hs, hch⟩
  replace hq : w1.heap[g]? = some (.cells #[.int .i64 (k), .string nil8, .int .i64 (0), .int .i64 (0), .int .i64 (0), .string nil8, .string nil8] 25 (0, 0)) := hq
  obtain ⟨c0, c1, c2, c3, c4, c5, c6, c7⟩ := blk7 hq
  have HQ1 := Aside0.mk hq
  have HS1 := Aside0.mk hs
  have HC1 := Aside0.mk hch
  clear hq hs hch C0
  have C1 := int_get w0 w1 p g 2 25 _ 0 o x1 x2 1 n1 HS1.out B1.out HQ1.out rfl hgp hg0 (by decide)
  have B2 := Aside0.mk (numP_bys B1.out n1)
  clear n1
  go_wp2_with fail
  refine C1.mono ?_
  rintro e w2 ⟨rfl, hq, hs, hch⟩
  replace hq : w2.heap[g]? = some (.cells #[.int .i64 (k), .string nil8, .int .i64 (o), .int .i64 (0), .int .i64 (0), .string nil8, .string nil8] 25 (0, 0)) := hq
  clear c0 c1 c2 c3 c4 c5 c6 c7
  obtain ⟨c0, c1, c2, c3, c4, c5, c6, c7⟩ := blk7 hq
  have HQ2 := Aside0.mk hq
  have HS2 := Aside0.mk hs
  have HC2 := Aside0.mk (Ch.two HC1.out hch)
  clear hq hs hch C1
  have C2 := int_get w0 w2 p g 3 25 _ 0 i x2 x3 4 n2 HS2.out B2.out HQ2.out rfl hgp hg0 (by decide)
  have B3 := Aside0.mk (numP_bys B2.out n2)
  clear n2
  go_wp2_with fail
  refine C2.mono ?_
  rintro e w3 ⟨rfl, hq, hs, hch⟩
  replace hq : w3.heap[g]? = some (.cells #[.int .i64 (k), .string nil8, .int .i64 (o), .int .i64 (i), .int .i64 (0), .string nil8, .string nil8] 25 (0, 0)) := hq
  clear c0 c1 c2 c3 c4 c5 c6 c7
  obtain ⟨c0, c1, c2, c3, c4, c5, c6, c7⟩ := blk7 hq
  have HQ3 := Aside0.mk hq
  have HS3 := Aside0.mk hs
  have HC3 := Aside0.mk (Ch.two HC2.out hch)
  clear hq hs hch C2
  have C3 := int_lost w0 w3 p g 4 25 _ 0 x3 4 n3 HS3.out HQ3.out rfl hgp hg0
  clear n3
  go_wp2_with fail
  refine C3.mono ?_
  rintro e w4 ⟨rfl, hch⟩
  exact ⟨rfl, ⟨rfl, Ch.two HC3.out hch⟩⟩
set_option maxRecDepth 100000 in
set_option maxHeartbeats 1000000 in
theorem rget_3l3 (w0 w : World) (p g : Nat) (xs : List Int) (h : Src w0 w p xs) (hby : Bys xs) (hg : w.heap[g]? = some (.cells #[.int .i64 (0), .string nil8, .int .i64 (0), .int .i64 (0), .int .i64 (0), .string nil8, .string nil8] 25 (0, 0))) (hgp : g ≠ p) (hg0 : w0.heap.size ≤ g) {k : Int} {x1 : List Int} (n0 : numP 1 xs = some (k, x1)) (kk : k = 3) {o : Int} {x2 : List Int} {i : Int} {x3 : List Int} {q : Int} {x4 : List Int} (n1 : numP 1 x1 = some (o, x2)) (n2 : numP 4 x2 = some (i, x3)) (n3 : numP 4 x3 = some (q, x4)) (n4 : textP x4 = none) :
    Calls Try.prog 21 #[.pointer (some ⟨p, 0, none⟩), .pointer (some ⟨g, 0, none⟩)] w (Res w0 w p g (none)) := by
  have C0 := int_get w0 w p g 0 25 _ 0 k xs x1 1 n0 h hby hg rfl hgp hg0 (by decide)
  have B1 := Aside0.mk (numP_bys hby n0)
  have b2 : (k == 2) = false := by simp [kk]
  have b3 : (k == 3) = true := by simpa using kk
  have b6 : (k == 6) = false := by simp [kk]
  have KK := Aside0.mk kk
  clear h hby hg kk n0
  go_enter Try.func21, Try.ntmps21
  go_wp2_with fail
  refine C0.mono ?_
  rintro e w1 ⟨rfl, hq, hs, hch⟩
  replace hq : w1.heap[g]? = some (.cells #[.int .i64 (k), .string nil8, .int .i64 (0), .int .i64 (0), .int .i64 (0), .string nil8, .string nil8] 25 (0, 0)) := hq
  obtain ⟨c0, c1, c2, c3, c4, c5, c6, c7⟩ := blk7 hq
  have HQ1 := Aside0.mk hq
  have HS1 := Aside0.mk hs
  have HC1 := Aside0.mk hch
  clear hq hs hch C0
  have C1 := int_get w0 w1 p g 2 25 _ 0 o x1 x2 1 n1 HS1.out B1.out HQ1.out rfl hgp hg0 (by decide)
  have B2 := Aside0.mk (numP_bys B1.out n1)
  clear n1
  go_wp2_with fail
  refine C1.mono ?_
  rintro e w2 ⟨rfl, hq, hs, hch⟩
  replace hq : w2.heap[g]? = some (.cells #[.int .i64 (k), .string nil8, .int .i64 (o), .int .i64 (0), .int .i64 (0), .string nil8, .string nil8] 25 (0, 0)) := hq
  clear c0 c1 c2 c3 c4 c5 c6 c7
  obtain ⟨c0, c1, c2, c3, c4, c5, c6, c7⟩ := blk7 hq
  have HQ2 := Aside0.mk hq
  have HS2 := Aside0.mk hs
  have HC2 := Aside0.mk (Ch.two HC1.out hch)
  clear hq hs hch C1
  have C2 := int_get w0 w2 p g 3 25 _ 0 i x2 x3 4 n2 HS2.out B2.out HQ2.out rfl hgp hg0 (by decide)
  have B3 := Aside0.mk (numP_bys B2.out n2)
  clear n2
  go_wp2_with fail
  refine C2.mono ?_
  rintro e w3 ⟨rfl, hq, hs, hch⟩
  replace hq : w3.heap[g]? = some (.cells #[.int .i64 (k), .string nil8, .int .i64 (o), .int .i64 (i), .int .i64 (0), .string nil8, .string nil8] 25 (0, 0)) := hq
  clear c0 c1 c2 c3 c4 c5 c6 c7
  obtain ⟨c0, c1, c2, c3, c4, c5, c6, c7⟩ := blk7 hq
  have HQ3 := Aside0.mk hq
  have HS3 := Aside0.mk hs
  have HC3 := Aside0.mk (Ch.two HC2.out hch)
  clear hq hs hch C2
  have C3 := int_get w0 w3 p g 4 25 _ 0 q x3 x4 4 n3 HS3.out B3.out HQ3.out rfl hgp hg0 (by decide)
  have B4 := Aside0.mk (numP_bys B3.out n3)
  clear n3
  go_wp2_with fail
  refine C3.mono ?_
  rintro e w4 ⟨rfl, hq, hs, hch⟩
  replace hq : w4.heap[g]? = some (.cells #[.int .i64 (k), .string nil8, .int .i64 (o), .int .i64 (i), .int .i64 (q), .string nil8, .string nil8] 25 (0, 0)) := hq
  clear c0 c1 c2 c3 c4 c5 c6 c7
  obtain ⟨c0, c1, c2, c3, c4, c5, c6, c7⟩ := blk7 hq
  have HQ4 := Aside0.mk hq
  have HS4 := Aside0.mk hs
  have HC4 := Aside0.mk (Ch.two HC3.out hch)
  clear hq hs hch C3
  have C4 := str_lost w0 w4 p g 5 25 _ nil8 x4 n4 HS4.out B4.out HQ4.out rfl hgp hg0
  clear n4
  go_wp2_with fail
  refine C4.mono ?_
  rintro e w5 ⟨rfl, hch⟩
  exact ⟨rfl, ⟨rfl, Ch.two HC4.out hch⟩⟩
set_option maxRecDepth 100000 in
set_option maxHeartbeats 1000000 in
theorem rget_3l4 (w0 w : World) (p g : Nat) (xs : List Int) (h : Src w0 w p xs) (hby : Bys xs) (hg : w.heap[g]? = some (.cells #[.int .i64 (0), .string nil8, .int .i64 (0), .int .i64 (0), .int .i64 (0), .string nil8, .string nil8] 25 (0, 0))) (hgp : g ≠ p) (hg0 : w0.heap.size ≤ g) {k : Int} {x1 : List Int} (n0 : numP 1 xs = some (k, x1)) (kk : k = 3) {o : Int} {x2 : List Int} {i : Int} {x3 : List Int} {q : Int} {x4 : List Int} {nm : ByteArray} {x5 : List Int} (n1 : numP 1 x1 = some (o, x2)) (n2 : numP 4 x2 = some (i, x3)) (n3 : numP 4 x3 = some (q, x4)) (n4 : textP x4 = some (nm, x5)) (n5 : textP x5 = none) :
    Calls Try.prog 21 #[.pointer (some ⟨p, 0, none⟩), .pointer (some ⟨g, 0, none⟩)] w (Res w0 w p g (none)) := by
  have C0 := int_get w0 w p g 0 25 _ 0 k xs x1 1 n0 h hby hg rfl hgp hg0 (by decide)
  have B1 := Aside0.mk (numP_bys hby n0)
  have b2 : (k == 2) = false := by simp [kk]
  have b3 : (k == 3) = true := by simpa using kk
  have b6 : (k == 6) = false := by simp [kk]
  have KK := Aside0.mk kk
  clear h hby hg kk n0
  go_enter Try.func21, Try.ntmps21
  go_wp2_with fail
  refine C0.mono ?_
  rintro e w1 ⟨rfl, hq, hs, hch⟩
  replace hq : w1.heap[g]? = some (.cells #[.int .i64 (k), .string nil8, .int .i64 (0), .int .i64 (0), .int .i64 (0), .string nil8, .string nil8] 25 (0, 0)) := hq
  obtain ⟨c0, c1, c2, c3, c4, c5, c6, c7⟩ := blk7 hq
  have HQ1 := Aside0.mk hq
  have HS1 := Aside0.mk hs
  have HC1 := Aside0.mk hch
  clear hq hs hch C0
  have C1 := int_get w0 w1 p g 2 25 _ 0 o x1 x2 1 n1 HS1.out B1.out HQ1.out rfl hgp hg0 (by decide)
  have B2 := Aside0.mk (numP_bys B1.out n1)
  clear n1
  go_wp2_with fail
  refine C1.mono ?_
  rintro e w2 ⟨rfl, hq, hs, hch⟩
  replace hq : w2.heap[g]? = some (.cells #[.int .i64 (k), .string nil8, .int .i64 (o), .int .i64 (0), .int .i64 (0), .string nil8, .string nil8] 25 (0, 0)) := hq
  clear c0 c1 c2 c3 c4 c5 c6 c7
  obtain ⟨c0, c1, c2, c3, c4, c5, c6, c7⟩ := blk7 hq
  have HQ2 := Aside0.mk hq
  have HS2 := Aside0.mk hs
  have HC2 := Aside0.mk (Ch.two HC1.out hch)
  clear hq hs hch C1
  have C2 := int_get w0 w2 p g 3 25 _ 0 i x2 x3 4 n2 HS2.out B2.out HQ2.out rfl hgp hg0 (by decide)
  have B3 := Aside0.mk (numP_bys B2.out n2)
  clear n2
  go_wp2_with fail
  refine C2.mono ?_
  rintro e w3 ⟨rfl, hq, hs, hch⟩
  replace hq : w3.heap[g]? = some (.cells #[.int .i64 (k), .string nil8, .int .i64 (o), .int .i64 (i), .int .i64 (0), .string nil8, .string nil8] 25 (0, 0)) := hq
  clear c0 c1 c2 c3 c4 c5 c6 c7
  obtain ⟨c0, c1, c2, c3, c4, c5, c6, c7⟩ := blk7 hq
  have HQ3 := Aside0.mk hq
  have HS3 := Aside0.mk hs
  have HC3 := Aside0.mk (Ch.two HC2.out hch)
  clear hq hs hch C2
  have C3 := int_get w0 w3 p g 4 25 _ 0 q x3 x4 4 n3 HS3.out B3.out HQ3.out rfl hgp hg0 (by decide)
  have B4 := Aside0.mk (numP_bys B3.out n3)
  clear n3
  go_wp2_with fail
  refine C3.mono ?_
  rintro e w4 ⟨rfl, hq, hs, hch⟩
  replace hq : w4.heap[g]? = some (.cells #[.int .i64 (k), .string nil8, .int .i64 (o), .int .i64 (i), .int .i64 (q), .string nil8, .string nil8] 25 (0, 0)) := hq
  clear c0 c1 c2 c3 c4 c5 c6 c7
  obtain ⟨c0, c1, c2, c3, c4, c5, c6, c7⟩ := blk7 hq
  have HQ4 := Aside0.mk hq
  have HS4 := Aside0.mk hs
  have HC4 := Aside0.mk (Ch.two HC3.out hch)
  clear hq hs hch C3
  have C4 := str_get w0 w4 p g 5 25 _ nil8 nm x4 x5 n4 HS4.out B4.out HQ4.out rfl hgp hg0
  have B5 := Aside0.mk (textP_bys B4.out n4)
  clear n4
  go_wp2_with fail
  refine C4.mono ?_
  rintro e w5 ⟨rfl, hq, hs, hch⟩
  replace hq : w5.heap[g]? = some (.cells #[.int .i64 (k), .string nil8, .int .i64 (o), .int .i64 (i), .int .i64 (q), .string nm, .string nil8] 25 (0, 0)) := hq
  clear c0 c1 c2 c3 c4 c5 c6 c7
  obtain ⟨c0, c1, c2, c3, c4, c5, c6, c7⟩ := blk7 hq
  have HQ5 := Aside0.mk hq
  have HS5 := Aside0.mk hs
  have HC5 := Aside0.mk (Ch.two HC4.out hch)
  clear hq hs hch C4
  have C5 := str_lost w0 w5 p g 6 25 _ nil8 x5 n5 HS5.out B5.out HQ5.out rfl hgp hg0
  clear n5
  go_wp2_with fail
  refine C5.mono ?_
  rintro e w6 ⟨rfl, hch⟩
  exact ⟨rfl, ⟨rfl, Ch.two HC5.out hch⟩⟩
set_option maxRecDepth 100000 in
set_option maxHeartbeats 1000000 in
theorem rget_l (w0 w : World) (p g : Nat) (xs : List Int) (h : Src w0 w p xs) (hby : Bys xs) (hg : w.heap[g]? = some (.cells #[.int .i64 (0), .string nil8, .int .i64 (0), .int .i64 (0), .int .i64 (0), .string nil8, .string nil8] 25 (0, 0))) (hgp : g ≠ p) (hg0 : w0.heap.size ≤ g) (n0 : numP 1 xs = none) :
    Calls Try.prog 21 #[.pointer (some ⟨p, 0, none⟩), .pointer (some ⟨g, 0, none⟩)] w (Res w0 w p g none) := by
  have C0 := int_lost w0 w p g 0 25 _ 0 xs 1 n0 h hg rfl hgp hg0
  clear h hby hg n0
  go_enter Try.func21, Try.ntmps21
  go_wp2_with fail
  refine C0.mono ?_
  rintro e w1 ⟨rfl, hch⟩
  exact ⟨rfl, ⟨rfl, hch⟩⟩
theorem request_get (w0 w : World) (p g : Nat) (xs : List Int) (h : Src w0 w p xs) (hby : Bys xs) (hg : w.heap[g]? = some (.cells #[.int .i64 (0), .string nil8, .int .i64 (0), .int .i64 (0), .int .i64 (0), .string nil8, .string nil8] 25 (0, 0))) (hgp : g ≠ p) (hg0 : w0.heap.size ≤ g) :
    Calls Try.prog 21 #[.pointer (some ⟨p, 0, none⟩), .pointer (some ⟨g, 0, none⟩)] w (Res w0 w p g (parseReq xs)) := by
  rw [parseReq]
  split
  · next n0 => exact rget_l w0 w p g xs h hby hg hgp hg0 n0
  next k x1 n0 =>
  split
  · next k2 =>
    split
    · next n1 => exact rget_2l w0 w p g xs h hby hg hgp hg0 n0 k2 n1
    · next s x2 n1 => exact rget_2 w0 w p g xs h hby hg hgp hg0 n0 k2 n1
  next k2 =>
  split
  · next k3 =>
    split
    · next n1 => exact rget_3l0 w0 w p g xs h hby hg hgp hg0 n0 k3 n1
    next o x2 n1 =>
    split
    · next n2 => exact rget_3l1 w0 w p g xs h hby hg hgp hg0 n0 k3 n1 n2
    next i x3 n2 =>
    split
    · next n3 => exact rget_3l2 w0 w p g xs h hby hg hgp hg0 n0 k3 n1 n2 n3
    next q x4 n3 =>
    split
    · next n4 => exact rget_3l3 w0 w p g xs h hby hg hgp hg0 n0 k3 n1 n2 n3 n4
    next nm x5 n4 =>
    split
    · next n5 => exact rget_3l4 w0 w p g xs h hby hg hgp hg0 n0 k3 n1 n2 n3 n4 n5
    next os x6 n5 => exact rget_3 w0 w p g xs h hby hg hgp hg0 n0 k3 n1 n2 n3 n4 n5
  next k3 =>
  split
  · next k6 =>
    split
    · next n1 => exact rget_6l w0 w p g xs h hby hg hgp hg0 n0 k6 n1
    · next i x2 n1 => exact rget_6 w0 w p g xs h hby hg hgp hg0 n0 k6 n1
  next k6 => exact rget_0 w0 w p g xs h hby hg hgp hg0 n0 ⟨k2, k3, k6⟩
end Go.Proofs.Ythkdihpbdaehbaa.Pr
namespace Go.Proofs.Ythkdihpbdaehbaa.Pr
set_option linter.unusedVariables false
set_option linter.unusedSimpArgs false
open Go.RowKit Go.Proofs.YthkdihpbdaehbaaW.PrintWords Go.Proofs.YthkdihpbdaehbaaW.PrintLast Go.Proofs.YthkdihpbdaehbaaW.PrintMore Go.Proofs.Ythkdihpbdaehbaa.Bs
theorem ta (w : World) : (Instr.typeAssert (.iface 79 (.agg #[])) 20 79 true).run Try.prog w = .ok (.tuple #[.agg #[], .bool true]) w := by
  simp [Instr.typeAssert, run_underlying Try.underlying79]
set_option maxRecDepth 100000 in
set_option maxHeartbeats 400000 in
theorem catch_idle (b : Nat) (w : World) :
    CallsD Try.prog 39 #[.pointer (some ⟨b, 0, none⟩)] .returning w fun e u' w' => e = .returned (.tuple #[]) ∧ u' = .returning ∧ w' = w := by
  have q0 : ∀ (w : World), (binOp .neq 20 .nilIface .nilIface).run Try.prog w = .ok (.bool false) w := fun w => by kernel_rfl
  refine callsD_of_wpS Try.func39 rfl fun c₀ cs hu => ?_
  apply wpS_seq
  apply wpS_region
  simp [wpOpsS, go_sem, recoverD, hu, Try.ntmps39, Exit.thenS]
  refine wpS_of_wp ?_
  go_wp2
  cases c₀
  simp_all [bodyPostS, results, Try.results39]
set_option maxRecDepth 100000 in
set_option maxHeartbeats 400000 in
theorem catch_lost (b : Nat) (x : Bool) (w : World) (older : List PanicEntry) (hc : w.heap[b]? = some (.cells #[.bool x] 4 (0, 0))) :
    CallsD Try.prog 39 #[.pointer (some ⟨b, 0, none⟩)] (.panicking ({ v := .iface 79 (.agg #[]), recovered := false } :: older)) w fun e u' w' =>
      e = .returned (.tuple #[]) ∧ u' = .panicking ({ v := .iface 79 (.agg #[]), recovered := true } :: older) ∧ w'.heap[b]? = some (.cells #[.bool false] 4 (0, 0)) ∧ Ch (fun k => k = b) w w' := by
  have q0 : ∀ (w : World), (binOp .neq 20 (.iface 79 (.agg #[])) .nilIface).run Try.prog w = .ok (.bool true) w := fun w => by kernel_rfl
  have hta := ta
  obtain ⟨k0, k1⟩ := blk1 hc
  have hlt := blk_lt hc
  have HH := Aside0.mk hc
  clear hc
  refine callsD_of_wpS Try.func39 rfl fun c₀ cs hu => ?_
  apply wpS_seq
  apply wpS_region
  simp [wpOpsS, go_sem, recoverD, hu, Try.ntmps39, Exit.thenS]
  refine wpS_of_wp ?_
  change Code.wp _ _ _ { tmps := #[.pointer (some ⟨b, 0, none⟩), .iface 79 (.agg #[]), undef, undef, .iface 79 (.agg #[]), undef, undef, undef, undef, undef, undef, undef, undef, undef, undef], defers := [] } _
  go_wp2
  have h1 : ((w.setCell ⟨b, 0, none⟩ (.bool false)).alloc (.cells #[] 79)).heap[b]? = some (.cells #[.bool false] 4 (0, 0)) :=
    (Below.heap_alloc _ _ b (by simp [World.setCell]; exact hlt)).trans (blk_upd 0 _ HH.out rfl)
  have h2 : Ch (fun k => k = b) w ((w.setCell ⟨b, 0, none⟩ (.bool false)).alloc (.cells #[] 79)) := ((Ch.refl (fun k => k = b) w).setCell (p := ⟨b, 0, none⟩) (.inl rfl) _).alloc _
  generalize (w.setCell ⟨b, 0, none⟩ (.bool false)).alloc (.cells #[] 79) = w2 at *
  simp [bodyPostS, results, Try.results39, h1, h2]
end Go.Proofs.Ythkdihpbdaehbaa.Pr
