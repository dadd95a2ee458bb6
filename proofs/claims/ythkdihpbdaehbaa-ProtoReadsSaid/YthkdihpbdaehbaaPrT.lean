import Derived.Test.YthkdihpbdaehbaaPrS
namespace Go.Proofs.Ythkdihpbdaehbaa.Pr
set_option linter.unusedVariables false
set_option linter.unusedSimpArgs false
open Go.RowKit Go.Proofs.YthkdihpbdaehbaaW.PrintWords Go.Proofs.YthkdihpbdaehbaaW.PrintLast Go.Proofs.YthkdihpbdaehbaaW.PrintMore Go.Proofs.Ythkdihpbdaehbaa.Bs
/-- The box of the parameter, there still. -/
structure At (w : World) (cs : Array Value) (t : Nat) (w1 : World) : Prop where
  q : w1.heap[w.heap.size]? = some (.cells cs t (0, 0))
  b : Below w.heap.size w w1
theorem At.start (w : World) (cs : Array Value) (t : Nat) : At w cs t (w.alloc (.cells cs t)) := ⟨heap_alloc_new w _, below_alloc (Below.refl _ _) _⟩
theorem At.next {w w1 w2 : World} {cs : Array Value} {t : Nat} (h : At w cs t w1) (hb : Below w1.heap.size w1 w2) : At w cs t w2 := ⟨(hb.block _ (blk_lt h.q)).trans h.q, below_step h.b hb⟩
def True_ (w : World) (e : Ending) (w' : World) : Prop := e = .returned (.bool true) ∧ Below w.heap.size w w'
set_option maxRecDepth 100000 in
set_option maxHeartbeats 600000 in
theorem reqs_l1 (w : World) (k : Int) (s : ByteArray) (o i p : Int) (nm os : ByteArray) (h1 : 9000 < s.size) : Calls Try.prog 3 #[.agg #[.int .i64 k, .string s, .int .i64 o, .int .i64 i, .int .i64 p, .string nm, .string os]] w (True_ w) := by
  have h1' : 9000 < (s.size : Int) := by omega
  clear h1
  go_enter Try.func3, Try.ntmps3
  go_wp2_with fail
  refine (works_calls _).mono ?_
  rintro e v0 ⟨rfl, hbv⟩
  have HV := Aside0.mk (below_step (below_alloc (Below.refl _ _) _) hbv)
  clear hbv
  go_wp2_with fail
  go_ret
  exact ⟨rfl, HV.out⟩
set_option maxRecDepth 100000 in
set_option maxHeartbeats 600000 in
theorem reqs_l2 (w : World) (k : Int) (s : ByteArray) (o i p : Int) (nm os : ByteArray) (h1 : ¬ 9000 < s.size) (h2 : 9000 < os.size) : Calls Try.prog 3 #[.agg #[.int .i64 k, .string s, .int .i64 o, .int .i64 i, .int .i64 p, .string nm, .string os]] w (True_ w) := by
  have h1' : ¬ 9000 < (s.size : Int) := by omega
  have h2' : 9000 < (os.size : Int) := by omega
  clear h1 h2
  go_enter Try.func3, Try.ntmps3
  go_wp2_with fail
  refine (works_calls _).mono ?_
  rintro e v0 ⟨rfl, hbv⟩
  have HV := Aside0.mk (below_step (below_alloc (Below.refl _ _) _) hbv)
  clear hbv
  go_wp2_with fail
  go_ret
  exact ⟨rfl, HV.out⟩
set_option maxRecDepth 100000 in
set_option maxHeartbeats 600000 in
theorem reqs_l3 (w : World) (k : Int) (s : ByteArray) (o i p : Int) (nm os : ByteArray) (h1 : ¬ 9000 < s.size) (h2 : ¬ 9000 < os.size) (h3 : 9000 < nm.size) : Calls Try.prog 3 #[.agg #[.int .i64 k, .string s, .int .i64 o, .int .i64 i, .int .i64 p, .string nm, .string os]] w (True_ w) := by
  have h1' : ¬ 9000 < (s.size : Int) := by omega
  have h2' : ¬ 9000 < (os.size : Int) := by omega
  have h3' : 9000 < (nm.size : Int) := by omega
  clear h1 h2 h3
  go_enter Try.func3, Try.ntmps3
  go_wp2_with fail
  refine (works_calls _).mono ?_
  rintro e v0 ⟨rfl, hbv⟩
  have HV := Aside0.mk (below_step (below_alloc (Below.refl _ _) _) hbv)
  clear hbv
  go_wp2_with fail
  go_ret
  exact ⟨rfl, HV.out⟩
set_option maxRecDepth 100000 in
set_option maxHeartbeats 600000 in
theorem reqs_f (w : World) (k : Int) (s : ByteArray) (o i p : Int) (nm os : ByteArray) (h1 : ¬ 9000 < s.size) (h2 : ¬ 9000 < os.size) (h3 : ¬ 9000 < nm.size) (hr : rightB ⟨k, s, o, i, p, nm, os⟩ = false) (hp : putReq ⟨k, s, o, i, p, nm, os⟩ = ([], 2)) : Calls Try.prog 3 #[.agg #[.int .i64 k, .string s, .int .i64 o, .int .i64 i, .int .i64 p, .string nm, .string os]] w (True_ w) := by
  have C1 := putReq_calls (w.alloc (.cells #[.int .i64 k, .string s, .int .i64 o, .int .i64 i, .int .i64 p, .string nm, .string os] 25)) ⟨k, s, o, i, p, nm, os⟩
  have C2 := Aside0.mk (fun w => rightRef_calls w ⟨k, s, o, i, p, nm, os⟩)
  have C3 := Aside0.mk (fun w => right_calls w ⟨k, s, o, i, p, nm, os⟩)
  rw [hp] at C1
  rw [hr] at C2 C3
  simp only [Rq.cells] at C1 C2 C3
  clear hp
  have h1' : ¬ 9000 < (s.size : Int) := by omega
  have h2' : ¬ 9000 < (os.size : Int) := by omega
  have h3' : ¬ 9000 < (nm.size : Int) := by omega
  clear h1 h2 h3
  go_enter Try.func3, Try.ntmps3
  go_wp2_with fail
  refine C1.mono ?_
  rintro e w1 ⟨⟨A, c, rfl, hR1⟩, hb⟩
  have at1 := (At.start w #[.int .i64 k, .string s, .int .i64 o, .int .i64 i, .int .i64 p, .string nm, .string os] 25).next hb
  obtain ⟨c0, c1, c2, c3, c4, c5, c6, c7⟩ := blk7 at1.q
  have AT1 := Aside0.mk at1
  have HR1 := Aside0.mk hR1
  clear hb at1 C1 hR1
  go_wp2_with fail
  refine (C2.out w1).mono ?_
  rintro e w2 ⟨rfl, hb⟩
  have at2 := AT1.out.next hb
  clear c0 c1 c2 c3 c4 c5 c6 c7
  obtain ⟨c0, c1, c2, c3, c4, c5, c6, c7⟩ := blk7 at2.q
  have AT2 := Aside0.mk at2
  have HR2 := Aside0.mk (Kd.R_below HR1.out hb)
  clear hb at2
  go_wp2_with fail
  refine (C3.out w2).mono ?_
  rintro e w3 ⟨rfl, hb⟩
  have at3 := AT2.out.next hb
  clear c0 c1 c2 c3 c4 c5 c6 c7
  obtain ⟨c0, c1, c2, c3, c4, c5, c6, c7⟩ := blk7 at3.q
  have AT3 := Aside0.mk at3
  have HR3 := Aside0.mk (Kd.R_below HR2.out hb)
  clear hb at3
  go_wp2_with fail
  refine (works_calls _).mono ?_
  rintro e v0 ⟨rfl, hbv⟩
  have HV := Aside0.mk (below_step AT3.out.b hbv)
  clear hbv
  go_wp2_with fail
  go_ret
  exact ⟨rfl, HV.out⟩
set_option maxRecDepth 100000 in
set_option maxHeartbeats 600000 in
theorem reqs_b (w : World) (k : Int) (s : ByteArray) (o i p : Int) (nm os : ByteArray) (h1 : ¬ 9000 < s.size) (h2 : ¬ 9000 < os.size) (h3 : ¬ 9000 < nm.size) (hr : rightB ⟨k, s, o, i, p, nm, os⟩ = true) (hp : putReq ⟨k, s, o, i, p, nm, os⟩ = ([], 3)) (hl : 4200 < (Rq.bytes ⟨k, s, o, i, p, nm, os⟩).length) : Calls Try.prog 3 #[.agg #[.int .i64 k, .string s, .int .i64 o, .int .i64 i, .int .i64 p, .string nm, .string os]] w (True_ w) := by
  have C4 := Aside0.mk (fun w => req_ref w ⟨k, s, o, i, p, nm, os⟩ (right_small _ hr))
  simp only [Rq.cells] at C4
  generalize Rq.bytes ⟨k, s, o, i, p, nm, os⟩ = bs at *
  have hl' : 4200 < (bs.length : Int) := by omega
  clear hl
  have C1 := putReq_calls (w.alloc (.cells #[.int .i64 k, .string s, .int .i64 o, .int .i64 i, .int .i64 p, .string nm, .string os] 25)) ⟨k, s, o, i, p, nm, os⟩
  have C2 := Aside0.mk (fun w => rightRef_calls w ⟨k, s, o, i, p, nm, os⟩)
  have C3 := Aside0.mk (fun w => right_calls w ⟨k, s, o, i, p, nm, os⟩)
  rw [hp] at C1
  rw [hr] at C2 C3
  simp only [Rq.cells] at C1 C2 C3
  clear hp
  have h1' : ¬ 9000 < (s.size : Int) := by omega
  have h2' : ¬ 9000 < (os.size : Int) := by omega
  have h3' : ¬ 9000 < (nm.size : Int) := by omega
  clear h1 h2 h3
  go_enter Try.func3, Try.ntmps3
  go_wp2_with fail
  refine C1.mono ?_
  rintro e w1 ⟨⟨A, c, rfl, hR1⟩, hb⟩
  have at1 := (At.start w #[.int .i64 k, .string s, .int .i64 o, .int .i64 i, .int .i64 p, .string nm, .string os] 25).next hb
  obtain ⟨c0, c1, c2, c3, c4, c5, c6, c7⟩ := blk7 at1.q
  have AT1 := Aside0.mk at1
  have HR1 := Aside0.mk hR1
  clear hb at1 C1 hR1
  go_wp2_with fail
  refine (C2.out w1).mono ?_
  rintro e w2 ⟨rfl, hb⟩
  have at2 := AT1.out.next hb
  clear c0 c1 c2 c3 c4 c5 c6 c7
  obtain ⟨c0, c1, c2, c3, c4, c5, c6, c7⟩ := blk7 at2.q
  have AT2 := Aside0.mk at2
  have HR2 := Aside0.mk (Kd.R_below HR1.out hb)
  clear hb at2
  go_wp2_with fail
  refine (C3.out w2).mono ?_
  rintro e w3 ⟨rfl, hb⟩
  have at3 := AT2.out.next hb
  clear c0 c1 c2 c3 c4 c5 c6 c7
  obtain ⟨c0, c1, c2, c3, c4, c5, c6, c7⟩ := blk7 at3.q
  have AT3 := Aside0.mk at3
  have HR3 := Aside0.mk (Kd.R_below HR2.out hb)
  clear hb at3
  go_wp2_with fail
  refine (C4.out _).mono ?_
  rintro e w4 ⟨v, rfl, hR4, hb⟩
  obtain ⟨A4, d4, rfl⟩ := Kd.R_slice hR4
  have at4 := AT3.out.next hb
  clear c0 c1 c2 c3 c4 c5 c6 c7
  obtain ⟨c0, c1, c2, c3, c4, c5, c6, c7⟩ := blk7 at4.q
  have AT4 := Aside0.mk at4
  have HR4 := Aside0.mk (Kd.R_below HR3.out hb)
  have HS4 := Aside0.mk hR4
  clear hb at4 hR4
  go_wp2_with fail
  refine (works_calls _).mono ?_
  rintro e v0 ⟨rfl, hbv⟩
  have HV := Aside0.mk (below_step AT4.out.b hbv)
  clear hbv
  go_wp2_with fail
  go_ret
  exact ⟨rfl, HV.out⟩
set_option maxRecDepth 100000 in
set_option maxHeartbeats 600000 in
theorem reqs_t (w : World) (k : Int) (s : ByteArray) (o i p : Int) (nm os : ByteArray) (h1 : ¬ 9000 < s.size) (h2 : ¬ 9000 < os.size) (h3 : ¬ 9000 < nm.size) (hr : rightB ⟨k, s, o, i, p, nm, os⟩ = true) (hp : putReq ⟨k, s, o, i, p, nm, os⟩ = (Rq.bytes ⟨k, s, o, i, p, nm, os⟩, 0)) (hl : ¬ 4200 < (Rq.bytes ⟨k, s, o, i, p, nm, os⟩).length) : Calls Try.prog 3 #[.agg #[.int .i64 k, .string s, .int .i64 o, .int .i64 i, .int .i64 p, .string nm, .string os]] w (True_ w) := by
  have C4 := Aside0.mk (fun w => req_ref w ⟨k, s, o, i, p, nm, os⟩ (right_small _ hr))
  simp only [Rq.cells] at C4
  have hg := get_bytes ⟨k, s, o, i, p, nm, os⟩ hr (by omega)
  have hby := bys_bytes ⟨k, s, o, i, p, nm, os⟩
  have hE : ∀ w, (binOp .eql 25 (.agg #[.int .i64 k, .string s, .int .i64 o, .int .i64 i, .int .i64 p, .string nm, .string os]) (.agg #[.int .i64 k, .string s, .int .i64 o, .int .i64 i, .int .i64 p, .string nm, .string os])).run Try.prog w = .ok (.bool true) w := fun w => by
    have h := eqReq w ⟨k, s, o, i, p, nm, os⟩ ⟨k, s, o, i, p, nm, os⟩
    simp only [Rq.cells] at h
    rw [h]; simp
  generalize Rq.bytes ⟨k, s, o, i, p, nm, os⟩ = bs at *
  have hl' : ¬ 4200 < (bs.length : Int) := by omega
  have HG := Aside0.mk hg
  have HBY := Aside0.mk hby
  clear hl hg hby
  have C1 := putReq_calls (w.alloc (.cells #[.int .i64 k, .string s, .int .i64 o, .int .i64 i, .int .i64 p, .string nm, .string os] 25)) ⟨k, s, o, i, p, nm, os⟩
  have C2 := Aside0.mk (fun w => rightRef_calls w ⟨k, s, o, i, p, nm, os⟩)
  have C3 := Aside0.mk (fun w => right_calls w ⟨k, s, o, i, p, nm, os⟩)
  rw [hp] at C1
  rw [hr] at C2 C3
  simp only [Rq.cells] at C1 C2 C3
  clear hp
  have h1' : ¬ 9000 < (s.size : Int) := by omega
  have h2' : ¬ 9000 < (os.size : Int) := by omega
  have h3' : ¬ 9000 < (nm.size : Int) := by omega
  clear h1 h2 h3
  go_enter Try.func3, Try.ntmps3
  go_wp2_with fail
  refine C1.mono ?_
  rintro e w1 ⟨⟨A, c, rfl, hR1⟩, hb⟩
  have at1 := (At.start w #[.int .i64 k, .string s, .int .i64 o, .int .i64 i, .int .i64 p, .string nm, .string os] 25).next hb
  obtain ⟨c0, c1, c2, c3, c4, c5, c6, c7⟩ := blk7 at1.q
  have AT1 := Aside0.mk at1
  have HR1 := Aside0.mk hR1
  clear hb at1 C1 hR1
  go_wp2_with fail
  refine (C2.out w1).mono ?_
  rintro e w2 ⟨rfl, hb⟩
  have at2 := AT1.out.next hb
  clear c0 c1 c2 c3 c4 c5 c6 c7
  obtain ⟨c0, c1, c2, c3, c4, c5, c6, c7⟩ := blk7 at2.q
  have AT2 := Aside0.mk at2
  have HR2 := Aside0.mk (Kd.R_below HR1.out hb)
  clear hb at2
  go_wp2_with fail
  refine (C3.out w2).mono ?_
  rintro e w3 ⟨rfl, hb⟩
  have at3 := AT2.out.next hb
  clear c0 c1 c2 c3 c4 c5 c6 c7
  obtain ⟨c0, c1, c2, c3, c4, c5, c6, c7⟩ := blk7 at3.q
  have AT3 := Aside0.mk at3
  have HR3 := Aside0.mk (Kd.R_below HR2.out hb)
  clear hb at3
  go_wp2_with fail
  refine (C4.out _).mono ?_
  rintro e w4 ⟨v, rfl, hR4, hb⟩
  obtain ⟨A4, d4, rfl⟩ := Kd.R_slice hR4
  have at4 := AT3.out.next hb
  clear c0 c1 c2 c3 c4 c5 c6 c7
  obtain ⟨c0, c1, c2, c3, c4, c5, c6, c7⟩ := blk7 at4.q
  have AT4 := Aside0.mk at4
  have HR4 := Aside0.mk (Kd.R_below HR3.out hb)
  have HS4 := Aside0.mk hR4
  clear hb at4 hR4
  have hRd := Kd.R_reads' HR4.out
  have C5 := getReq_calls w4 A c bs hRd.2.2 hRd.2.1 HBY.out
  rw [HG.out] at C5
  unfold GetPost at C5
  simp only [Rq.cells] at C5
  clear hRd
  go_wp2_with fail
  refine C5.mono ?_
  rintro e w5 ⟨rfl, hb⟩
  have at5 := AT4.out.next hb
  clear c0 c1 c2 c3 c4 c5 c6 c7
  have AT5 := Aside0.mk at5
  have hR5 := Kd.R_below HR4.out hb
  have hS5 := Kd.R_below HS4.out hb
  have q1 : ∀ z, (convert 27 9 (.slice A bs.length c)).run Try.prog (w5.alloc z) = .ok (.string (strOfNums bs)) (w5.alloc z) := fun z => Kd.C_string Try.underlying27 Try.underlying5 Try.underlying9 (Kd.C_alloc (Kd.R_reads' hR5).2.2 z)
  have q2 : ∀ z, (convert 27 9 (.slice A4 bs.length d4)).run Try.prog (w5.alloc z) = .ok (.string (strOfNums bs)) (w5.alloc z) := fun z => Kd.C_string Try.underlying27 Try.underlying5 Try.underlying9 (Kd.C_alloc (Kd.R_reads' hS5).2.2 z)
  have hq5 : ∀ z, (w5.alloc z).heap[w.heap.size]? = some (.cells #[.int .i64 k, .string s, .int .i64 o, .int .i64 i, .int .i64 p, .string nm, .string os] 25 (0, 0)) := fun z => (Below.heap_alloc w5 z _ (blk_lt at5.q)).trans at5.q
  have x0 := fun z => (blk7 (hq5 z)).1
  have x1 := fun z => (blk7 (hq5 z)).2.1
  have x2 := fun z => (blk7 (hq5 z)).2.2.1
  have x3 := fun z => (blk7 (hq5 z)).2.2.2.1
  have x4 := fun z => (blk7 (hq5 z)).2.2.2.2.1
  have x5 := fun z => (blk7 (hq5 z)).2.2.2.2.2.1
  have x6 := fun z => (blk7 (hq5 z)).2.2.2.2.2.2.1
  clear hb at5 hR5 hS5 C5 hq5
  go_wp2_with fail
  refine (works_calls _).mono ?_
  rintro e v0 ⟨rfl, hbv⟩
  have HV := Aside0.mk (below_step (below_alloc AT5.out.b _) hbv)
  clear hbv
  go_wp2_with fail
  go_ret
  exact ⟨rfl, HV.out⟩
theorem reqs_calls (w : World) (q : Rq) : Calls Try.prog 3 #[.agg q.cells] w (True_ w) := by
  obtain ⟨k, s, o, i, p, nm, os⟩ := q
  by_cases h1 : 9000 < s.size
  · exact reqs_l1 w k s o i p nm os h1
  by_cases h2 : 9000 < os.size
  · exact reqs_l2 w k s o i p nm os h1 h2
  by_cases h3 : 9000 < nm.size
  · exact reqs_l3 w k s o i p nm os h1 h2 h3
  cases hr : rightB ⟨k, s, o, i, p, nm, os⟩ with
  | false => exact reqs_f w k s o i p nm os h1 h2 h3 hr (if_pos hr)
  | true =>
    have hn : ¬ rightB ⟨k, s, o, i, p, nm, os⟩ = false := by rw [hr]; decide
    by_cases hl : 4200 < (Rq.bytes ⟨k, s, o, i, p, nm, os⟩).length
    · exact reqs_b w k s o i p nm os h1 h2 h3 hr ((if_neg hn).trans (if_pos hl)) hl
    · exact reqs_t w k s o i p nm os h1 h2 h3 hr ((if_neg hn).trans (if_neg hl)) hl
end Go.Proofs.Ythkdihpbdaehbaa.Pr
