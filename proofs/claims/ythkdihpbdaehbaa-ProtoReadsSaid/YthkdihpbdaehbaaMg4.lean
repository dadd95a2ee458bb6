import Derived.Test.YthkdihpbdaehbaaMg3
import Derived.Test.YthkdihpbdaehbaaPrQ
import Derived.Test.YthkdihpbdaehbaaPrJ
import Derived.Test.YthkdihpbdaehbaaPrF
namespace Go.Proofs.Ythkdihpbdaehbaa.Pr
set_option linter.unusedVariables false
set_option linter.unusedSimpArgs false
open Go.RowKit Go.Proofs.YthkdihpbdaehbaaW.PrintWords Go.Proofs.YthkdihpbdaehbaaW.PrintLast Go.Proofs.YthkdihpbdaehbaaW.PrintMore Go.Proofs.Ythkdihpbdaehbaa.Bs
/-- What the reference's GetReq leaves. -/
def GotPost (w : World) (q : Rq) (b : Bool) (e : Ending) (w' : World) : Prop := e = .returned (.tuple #[.agg q.cells, .bool b]) ∧ Below w.heap.size w w'
theorem val_u32 (xs : List Int) (h : Bys xs) (a b : Nat) (hb : b ≤ xs.length) (e : b - a = 4) : 0 ≤ val (sub xs a b) ∧ val (sub xs a b) ≤ 4294967295 := by
  have h1 := val_lt (sub xs a b) (sub_bys h a b)
  rw [sub_length xs a b hb, e] at h1
  have h2 : val (sub xs a b) < 4294967296 := h1.2
  exact ⟨h1.1, by omega⟩
/-- The result's cell and the request's box, on the way. -/
structure GQ (w : World) (Q : Array Value) (w1 : World) : Prop where
  r : w1.heap[w.heap.size]? = some (.cells #[.int .i64 0, .string ⟨#[]⟩, .int .i64 0, .int .i64 0, .int .i64 0, .string ⟨#[]⟩, .string ⟨#[]⟩] 25 (0, 0))
  q : w1.heap[w.heap.size + 1]? = some (.cells Q 25 (0, 0))
  b : Below w.heap.size w w1
theorem GQ.start (w : World) (Q : Array Value) : GQ w Q ((w.alloc (.cells #[.int .i64 0, .string ⟨#[]⟩, .int .i64 0, .int .i64 0, .int .i64 0, .string ⟨#[]⟩, .string ⟨#[]⟩] 25)).alloc (.cells Q 25)) := by
  refine ⟨(Below.heap_alloc _ _ _ (by simp)).trans (heap_alloc_new w _), ?_, below_alloc (below_alloc (Below.refl _ _) _) _⟩
  have h := heap_alloc_new (w.alloc (.cells #[.int .i64 0, .string ⟨#[]⟩, .int .i64 0, .int .i64 0, .int .i64 0, .string ⟨#[]⟩, .string ⟨#[]⟩] 25)) (.cells Q 25)
  rw [show (w.alloc (.cells #[.int .i64 0, .string ⟨#[]⟩, .int .i64 0, .int .i64 0, .int .i64 0, .string ⟨#[]⟩, .string ⟨#[]⟩] 25)).heap.size = w.heap.size + 1 by simp] at h
  exact h
theorem drawn_heap {a b : World} (h : Drawn0 a b) : b.heap = a.heap := by obtain ⟨n, rfl⟩ := h; rfl
theorem GQ.drawn {w w1 w2 : World} {Q : Array Value} (h : GQ w Q w1) (k : Drawn0 w1 w2) : GQ w Q w2 := ⟨by rw [drawn_heap k]; exact h.r, by rw [drawn_heap k]; exact h.q, by obtain ⟨n, rfl⟩ := k; exact pw_below_drewN h.b n⟩
theorem GQ.set {w w1 : World} {Q Q' : Array Value} (h : GQ w Q w1) (i : Nat) (u : Value) (e : Q.setIfInBounds i u = Q') : GQ w Q' (w1.setCell ⟨w.heap.size + 1, i, none⟩ u) :=
  ⟨(Below.heap_setCell _ _ _ _ (by show w.heap.size ≠ w.heap.size + 1; omega)).trans h.r, blk_upd i u h.q e, h.b.setCell (p := ⟨w.heap.size + 1, i, none⟩) (Nat.le_succ _) u⟩
theorem GQ.below {w w1 w2 : World} {Q : Array Value} (h : GQ w Q w1) (k : Below w1.heap.size w1 w2) : GQ w Q w2 := ⟨(k.block _ (blk_lt h.r)).trans h.r, (k.block _ (blk_lt h.q)).trans h.q, below_step h.b k⟩
theorem below_step_drew {w W w5 : World} {n : Nat} (h : Below w.heap.size w W) (k : Below (W.drewN n).heap.size (W.drewN n) w5) : Below w.heap.size w w5 := below_step (pw_below_drewN h n) k
set_option maxRecDepth 100000 in
set_option maxHeartbeats 1000000 in
theorem gq_1 (w : World) (A : Option Addr) (c : Nat) (xs : List Int) (h : xs.length < 1) : Calls Try.prog 13 #[.slice A xs.length c] w (GotPost w zeroReq false) := by
  have h' : (xs.length : Int) < 1 := by omega
  clear h
  go_enter Try.func13, Try.ntmps13
  go_wp2_with fail
  exact bodyPost_ret (v := .tuple #[.agg zeroReq.cells, .bool false]) (by simp [results, Try.results13, go_sem, zeroReq, Rq.cells, nil8]) rfl ⟨rfl, by repeat (first | exact Below.refl _ _ | apply below_alloc | apply pw_below_drewN | apply below_drew1)⟩
set_option maxRecDepth 100000 in
set_option maxHeartbeats 1000000 in
theorem gq_2 (w : World) (A : Option Addr) (c : Nat) (xs : List Int) (h : 4200 < xs.length) : Calls Try.prog 13 #[.slice A xs.length c] w (GotPost w zeroReq false) := by
  have h' : ¬ (xs.length : Int) < 1 := by omega
  have h2' : 4200 < (xs.length : Int) := by omega
  clear h
  go_enter Try.func13, Try.ntmps13
  go_wp2_with fail
  exact bodyPost_ret (v := .tuple #[.agg zeroReq.cells, .bool false]) (by simp [results, Try.results13, go_sem, zeroReq, Rq.cells, nil8]) rfl ⟨rfl, by repeat (first | exact Below.refl _ _ | apply below_alloc | apply pw_below_drewN | apply below_drew1)⟩
set_option maxRecDepth 100000 in
set_option maxHeartbeats 1000000 in
theorem gq_3 (w : World) (A : Option Addr) (c : Nat) (xs : List Int) (k0 : Int) (s1 : ByteArray) (e1 : Int) (hC : (Kd.int .u8).C w A xs.length xs) (hc : xs.length ≤ c) (hby : Bys xs) (h1 : 1 ≤ xs.length) (h42 : ¬ 4200 < xs.length) (hk : rd xs 0 = k0) (k2 : k0 = 2) (hw : wordsAt xs 1 = (s1, e1)) (hne : ¬ e1 = (xs.length : Int)) : Calls Try.prog 13 #[.slice A xs.length c] w (GotPost w zeroReq false) := by
  obtain ⟨ad, rfl, hx0⟩ := Kd.at_int hC 0 (by omega) (by omega)
  rw [hk] at hx0
  have hx : ∀ z, (w.alloc z).cell? ad = some (.int .u8 k0) := fun z => by have h := pw_cell_below (below_alloc (Below.refl _ _) z) hx0; exact h
  have hp0 : (0 : Int) < xs.length := by omega
  have h' : ¬ (xs.length : Int) < 1 := by omega
  have h2' : ¬ 4200 < (xs.length : Int) := by omega
  have hk0 : 0 ≤ k0 ∧ k0 ≤ 255 := by rw [← hk]; exact hby _ (rd_mem xs 0 (by omega))
  obtain ⟨kk0, kk1⟩ := hk0
  have HC := Aside0.mk hC
  clear hx0 hk
  have C30 := Aside0.mk (show ∀ (w : World) (hC : (Kd.int .u8).C w (some ad) xs.length xs), Calls Try.prog 30 #[.slice (some ad) xs.length c, .int .i64 1] w fun e w' => e = .returned (.tuple #[.string (wordsAt xs 1).1, .int .i64 (wordsAt xs 1).2]) ∧ Drawn0 w w' from fun w hC => words_ref w (some ad) c xs 1 hC hc hby h1 (by omega))
  rw [hw] at C30
  subst k2
  clear hw hby
  have t1 : (e1 == (xs.length : Int)) = false := by simpa using hne
  have t2 : (e1 != (xs.length : Int)) = true := by simp [hne]
  clear hne hC
  go_enter Try.func13, Try.ntmps13
  go_wp2_with fail
  refine (C30.out _ (Kd.C_below HC.out (GQ.start w #[.int .i64 2, .string ⟨#[]⟩, .int .i64 0, .int .i64 0, .int .i64 0, .string ⟨#[]⟩, .string ⟨#[]⟩]).b)).mono ?_
  rintro e w1 ⟨rfl, hd⟩
  have g1 : GQ w #[.int .i64 2, .string ⟨#[]⟩, .int .i64 0, .int .i64 0, .int .i64 0, .string ⟨#[]⟩, .string ⟨#[]⟩] w1 := (GQ.start w #[.int .i64 2, .string ⟨#[]⟩, .int .i64 0, .int .i64 0, .int .i64 0, .string ⟨#[]⟩, .string ⟨#[]⟩]).drawn hd
  obtain ⟨a0, a1, a2, a3, a4, a5, a6, a7⟩ := blk7 g1.q
  have G1 := Aside0.mk g1
  clear g1 hd
  obtain ⟨m0, m1, m2, m3, m4, m5, m6, m7⟩ := blk7 G1.out.r
  have GE := (G1.out.set 1 (.string s1) rfl)
  have S := Aside0.mk (set7_q GE.r (.int .i64 0) (.string ⟨#[]⟩) (.int .i64 0) (.int .i64 0) (.int .i64 0) (.string ⟨#[]⟩) (.string ⟨#[]⟩))
  have SB := Aside0.mk (set7_b GE.b (Nat.le_refl _) (.int .i64 0) (.string ⟨#[]⟩) (.int .i64 0) (.int .i64 0) (.int .i64 0) (.string ⟨#[]⟩) (.string ⟨#[]⟩))
  clear GE
  go_wp2_with fail
  change bodyPost Try.prog Try.f13 _ Exit.ret _ (set7 (w1.setCell ⟨w.heap.size + 1, 1, none⟩ (.string s1)) w.heap.size (.int .i64 0) (.string ⟨#[]⟩) (.int .i64 0) (.int .i64 0) (.int .i64 0) (.string ⟨#[]⟩) (.string ⟨#[]⟩))
  clear m0 m1 m2 m3 m4 m5 m6 m7 a0 a1 a2 a3 a4 a5 a6 a7
  generalize set7 (w1.setCell ⟨w.heap.size + 1, 1, none⟩ (.string s1)) w.heap.size (.int .i64 0) (.string ⟨#[]⟩) (.int .i64 0) (.int .i64 0) (.int .i64 0) (.string ⟨#[]⟩) (.string ⟨#[]⟩) = w2_ at *
  obtain ⟨d0, d1, d2, d3, d4, d5, d6, d7⟩ := blk7 S.out
  exact bodyPost_ret (v := .tuple #[.agg #[.int .i64 0, .string ⟨#[]⟩, .int .i64 0, .int .i64 0, .int .i64 0, .string ⟨#[]⟩, .string ⟨#[]⟩], .bool false]) (by simp [results, Try.results13, go_sem, d0, d1, d2, d3, d4, d5, d6]) rfl ⟨rfl, SB.out⟩
set_option maxRecDepth 100000 in
set_option maxHeartbeats 1000000 in
theorem gq_4 (w : World) (A : Option Addr) (c : Nat) (xs : List Int) (k0 : Int) (s1 : ByteArray) (e1 : Int) (hC : (Kd.int .u8).C w A xs.length xs) (hc : xs.length ≤ c) (hby : Bys xs) (h1 : 1 ≤ xs.length) (h42 : ¬ 4200 < xs.length) (hk : rd xs 0 = k0) (k2 : k0 = 2) (hw : wordsAt xs 1 = (s1, e1)) (heq : e1 = (xs.length : Int)) (hr : rightB ⟨2, s1, 0, 0, 0, nil8, nil8⟩ = true) : Calls Try.prog 13 #[.slice A xs.length c] w (GotPost w ⟨2, s1, 0, 0, 0, nil8, nil8⟩ true) := by
  have C9 := Aside0.mk (fun w => rightRef_calls w ⟨2, s1, 0, 0, 0, nil8, nil8⟩)
  rw [hr] at C9
  simp only [Rq.cells] at C9
  clear hr
  obtain ⟨ad, rfl, hx0⟩ := Kd.at_int hC 0 (by omega) (by omega)
  rw [hk] at hx0
  have hx : ∀ z, (w.alloc z).cell? ad = some (.int .u8 k0) := fun z => by have h := pw_cell_below (below_alloc (Below.refl _ _) z) hx0; exact h
  have hp0 : (0 : Int) < xs.length := by omega
  have h' : ¬ (xs.length : Int) < 1 := by omega
  have h2' : ¬ 4200 < (xs.length : Int) := by omega
  have hk0 : 0 ≤ k0 ∧ k0 ≤ 255 := by rw [← hk]; exact hby _ (rd_mem xs 0 (by omega))
  obtain ⟨kk0, kk1⟩ := hk0
  have HC := Aside0.mk hC
  clear hx0 hk
  have C30 := Aside0.mk (show ∀ (w : World) (hC : (Kd.int .u8).C w (some ad) xs.length xs), Calls Try.prog 30 #[.slice (some ad) xs.length c, .int .i64 1] w fun e w' => e = .returned (.tuple #[.string (wordsAt xs 1).1, .int .i64 (wordsAt xs 1).2]) ∧ Drawn0 w w' from fun w hC => words_ref w (some ad) c xs 1 hC hc hby h1 (by omega))
  rw [hw] at C30
  subst k2
  clear hw hby
  have t1 : (e1 == (xs.length : Int)) = true := by simpa using heq
  have t2 : (e1 != (xs.length : Int)) = false := by simp [heq]
  clear heq hC
  go_enter Try.func13, Try.ntmps13
  go_wp2_with fail
  refine (C30.out _ (Kd.C_below HC.out (GQ.start w #[.int .i64 2, .string ⟨#[]⟩, .int .i64 0, .int .i64 0, .int .i64 0, .string ⟨#[]⟩, .string ⟨#[]⟩]).b)).mono ?_
  rintro e w1 ⟨rfl, hd⟩
  have g1 : GQ w #[.int .i64 2, .string ⟨#[]⟩, .int .i64 0, .int .i64 0, .int .i64 0, .string ⟨#[]⟩, .string ⟨#[]⟩] w1 := (GQ.start w #[.int .i64 2, .string ⟨#[]⟩, .int .i64 0, .int .i64 0, .int .i64 0, .string ⟨#[]⟩, .string ⟨#[]⟩]).drawn hd
  obtain ⟨a0, a1, a2, a3, a4, a5, a6, a7⟩ := blk7 g1.q
  have G1 := Aside0.mk g1
  clear g1 hd
  go_wp2_with fail
  refine (C9.out _).mono ?_
  rintro e w9 ⟨rfl, hb9⟩
  have g9 : GQ w #[.int .i64 2, .string s1, .int .i64 0, .int .i64 0, .int .i64 0, .string ⟨#[]⟩, .string ⟨#[]⟩] w9 := (G1.out.set 1 (.string s1) rfl).below hb9
  clear a0 a1 a2 a3 a4 a5 a6 a7
  obtain ⟨a0, a1, a2, a3, a4, a5, a6, a7⟩ := blk7 g9.q
  obtain ⟨m0, m1, m2, m3, m4, m5, m6, m7⟩ := blk7 g9.r
  have S := Aside0.mk (set7_q g9.r (.int .i64 2) (.string s1) (.int .i64 0) (.int .i64 0) (.int .i64 0) (.string ⟨#[]⟩) (.string ⟨#[]⟩))
  have SB := Aside0.mk (set7_b g9.b (Nat.le_refl _) (.int .i64 2) (.string s1) (.int .i64 0) (.int .i64 0) (.int .i64 0) (.string ⟨#[]⟩) (.string ⟨#[]⟩))
  clear g9 hb9
  go_wp2_with fail
  change bodyPost Try.prog Try.f13 _ Exit.ret _ (set7 w9 w.heap.size (.int .i64 2) (.string s1) (.int .i64 0) (.int .i64 0) (.int .i64 0) (.string ⟨#[]⟩) (.string ⟨#[]⟩))
  clear m0 m1 m2 m3 m4 m5 m6 m7 a0 a1 a2 a3 a4 a5 a6 a7
  generalize set7 w9 w.heap.size (.int .i64 2) (.string s1) (.int .i64 0) (.int .i64 0) (.int .i64 0) (.string ⟨#[]⟩) (.string ⟨#[]⟩) = w2_ at *
  obtain ⟨d0, d1, d2, d3, d4, d5, d6, d7⟩ := blk7 S.out
  exact bodyPost_ret (v := .tuple #[.agg #[.int .i64 2, .string s1, .int .i64 0, .int .i64 0, .int .i64 0, .string ⟨#[]⟩, .string ⟨#[]⟩], .bool true]) (by simp [results, Try.results13, go_sem, d0, d1, d2, d3, d4, d5, d6]) rfl ⟨rfl, SB.out⟩
set_option maxRecDepth 100000 in
set_option maxHeartbeats 1000000 in
theorem gq_5 (w : World) (A : Option Addr) (c : Nat) (xs : List Int) (k0 : Int) (s1 : ByteArray) (e1 : Int) (hC : (Kd.int .u8).C w A xs.length xs) (hc : xs.length ≤ c) (hby : Bys xs) (h1 : 1 ≤ xs.length) (h42 : ¬ 4200 < xs.length) (hk : rd xs 0 = k0) (k2 : k0 = 2) (hw : wordsAt xs 1 = (s1, e1)) (heq : e1 = (xs.length : Int)) (hr : rightB ⟨2, s1, 0, 0, 0, nil8, nil8⟩ = false) : Calls Try.prog 13 #[.slice A xs.length c] w (GotPost w zeroReq false) := by
  have C9 := Aside0.mk (fun w => rightRef_calls w ⟨2, s1, 0, 0, 0, nil8, nil8⟩)
  rw [hr] at C9
  simp only [Rq.cells] at C9
  clear hr
  obtain ⟨ad, rfl, hx0⟩ := Kd.at_int hC 0 (by omega) (by omega)
  rw [hk] at hx0
  have hx : ∀ z, (w.alloc z).cell? ad = some (.int .u8 k0) := fun z => by have h := pw_cell_below (below_alloc (Below.refl _ _) z) hx0; exact h
  have hp0 : (0 : Int) < xs.length := by omega
  have h' : ¬ (xs.length : Int) < 1 := by omega
  have h2' : ¬ 4200 < (xs.length : Int) := by omega
  have hk0 : 0 ≤ k0 ∧ k0 ≤ 255 := by rw [← hk]; exact hby _ (rd_mem xs 0 (by omega))
  obtain ⟨kk0, kk1⟩ := hk0
  have HC := Aside0.mk hC
  clear hx0 hk
  have C30 := Aside0.mk (show ∀ (w : World) (hC : (Kd.int .u8).C w (some ad) xs.length xs), Calls Try.prog 30 #[.slice (some ad) xs.length c, .int .i64 1] w fun e w' => e = .returned (.tuple #[.string (wordsAt xs 1).1, .int .i64 (wordsAt xs 1).2]) ∧ Drawn0 w w' from fun w hC => words_ref w (some ad) c xs 1 hC hc hby h1 (by omega))
  rw [hw] at C30
  subst k2
  clear hw hby
  have t1 : (e1 == (xs.length : Int)) = true := by simpa using heq
  have t2 : (e1 != (xs.length : Int)) = false := by simp [heq]
  clear heq hC
  go_enter Try.func13, Try.ntmps13
  go_wp2_with fail
  refine (C30.out _ (Kd.C_below HC.out (GQ.start w #[.int .i64 2, .string ⟨#[]⟩, .int .i64 0, .int .i64 0, .int .i64 0, .string ⟨#[]⟩, .string ⟨#[]⟩]).b)).mono ?_
  rintro e w1 ⟨rfl, hd⟩
  have g1 : GQ w #[.int .i64 2, .string ⟨#[]⟩, .int .i64 0, .int .i64 0, .int .i64 0, .string ⟨#[]⟩, .string ⟨#[]⟩] w1 := (GQ.start w #[.int .i64 2, .string ⟨#[]⟩, .int .i64 0, .int .i64 0, .int .i64 0, .string ⟨#[]⟩, .string ⟨#[]⟩]).drawn hd
  obtain ⟨a0, a1, a2, a3, a4, a5, a6, a7⟩ := blk7 g1.q
  have G1 := Aside0.mk g1
  clear g1 hd
  go_wp2_with fail
  refine (C9.out _).mono ?_
  rintro e w9 ⟨rfl, hb9⟩
  have g9 : GQ w #[.int .i64 2, .string s1, .int .i64 0, .int .i64 0, .int .i64 0, .string ⟨#[]⟩, .string ⟨#[]⟩] w9 := (G1.out.set 1 (.string s1) rfl).below hb9
  clear a0 a1 a2 a3 a4 a5 a6 a7
  obtain ⟨a0, a1, a2, a3, a4, a5, a6, a7⟩ := blk7 g9.q
  obtain ⟨m0, m1, m2, m3, m4, m5, m6, m7⟩ := blk7 g9.r
  have S := Aside0.mk (set7_q g9.r (.int .i64 0) (.string ⟨#[]⟩) (.int .i64 0) (.int .i64 0) (.int .i64 0) (.string ⟨#[]⟩) (.string ⟨#[]⟩))
  have SB := Aside0.mk (set7_b g9.b (Nat.le_refl _) (.int .i64 0) (.string ⟨#[]⟩) (.int .i64 0) (.int .i64 0) (.int .i64 0) (.string ⟨#[]⟩) (.string ⟨#[]⟩))
  clear g9 hb9
  go_wp2_with fail
  change bodyPost Try.prog Try.f13 _ Exit.ret _ (set7 w9 w.heap.size (.int .i64 0) (.string ⟨#[]⟩) (.int .i64 0) (.int .i64 0) (.int .i64 0) (.string ⟨#[]⟩) (.string ⟨#[]⟩))
  clear m0 m1 m2 m3 m4 m5 m6 m7 a0 a1 a2 a3 a4 a5 a6 a7
  generalize set7 w9 w.heap.size (.int .i64 0) (.string ⟨#[]⟩) (.int .i64 0) (.int .i64 0) (.int .i64 0) (.string ⟨#[]⟩) (.string ⟨#[]⟩) = w2_ at *
  obtain ⟨d0, d1, d2, d3, d4, d5, d6, d7⟩ := blk7 S.out
  exact bodyPost_ret (v := .tuple #[.agg #[.int .i64 0, .string ⟨#[]⟩, .int .i64 0, .int .i64 0, .int .i64 0, .string ⟨#[]⟩, .string ⟨#[]⟩], .bool false]) (by simp [results, Try.results13, go_sem, d0, d1, d2, d3, d4, d5, d6]) rfl ⟨rfl, SB.out⟩
set_option maxRecDepth 100000 in
set_option maxHeartbeats 1000000 in
theorem gq_6 (w : World) (A : Option Addr) (c : Nat) (xs : List Int) (k0 : Int) (hC : (Kd.int .u8).C w A xs.length xs) (hc : xs.length ≤ c) (hby : Bys xs) (h1 : 1 ≤ xs.length) (h42 : ¬ 4200 < xs.length) (hk : rd xs 0 = k0) (k3 : k0 = 3) (h10 : xs.length < 10) (hne : ¬ 1 = xs.length) : Calls Try.prog 13 #[.slice A xs.length c] w (GotPost w zeroReq false) := by
  obtain ⟨ad, rfl, hx0⟩ := Kd.at_int hC 0 (by omega) (by omega)
  rw [hk] at hx0
  have hx : ∀ z, (w.alloc z).cell? ad = some (.int .u8 k0) := fun z => by have h := pw_cell_below (below_alloc (Below.refl _ _) z) hx0; exact h
  have hp0 : (0 : Int) < xs.length := by omega
  have h' : ¬ (xs.length : Int) < 1 := by omega
  have h2' : ¬ 4200 < (xs.length : Int) := by omega
  have hk0 : 0 ≤ k0 ∧ k0 ≤ 255 := by rw [← hk]; exact hby _ (rd_mem xs 0 (by omega))
  obtain ⟨kk0, kk1⟩ := hk0
  have HC := Aside0.mk hC
  clear hx0 hk
  have h10' : ¬ (xs.length : Int) ≥ 10 := by omega
  have h10b : ¬ 10 ≤ (xs.length : Int) := by omega
  subst k3
  clear hby
  have t1 : ((1 : Int) == (xs.length : Int)) = false := by simp; omega
  have t2 : ((1 : Int) != (xs.length : Int)) = true := by simp; omega
  clear hne hC h10
  go_enter Try.func13, Try.ntmps13
  go_wp2_with fail
  exact bodyPost_ret (v := .tuple #[.agg zeroReq.cells, .bool false]) (by simp [results, Try.results13, go_sem, zeroReq, Rq.cells, nil8]) rfl ⟨rfl, by repeat (first | exact Below.refl _ _ | apply below_alloc | apply pw_below_drewN | apply below_drew1)⟩
set_option maxRecDepth 100000 in
set_option maxHeartbeats 1000000 in
theorem gq_7 (w : World) (A : Option Addr) (c : Nat) (xs : List Int) (k0 : Int) (hC : (Kd.int .u8).C w A xs.length xs) (hc : xs.length ≤ c) (hby : Bys xs) (h1 : 1 ≤ xs.length) (h42 : ¬ 4200 < xs.length) (hk : rd xs 0 = k0) (k3 : k0 = 3) (h10 : xs.length < 10) (heq : 1 = xs.length) : Calls Try.prog 13 #[.slice A xs.length c] w (GotPost w zeroReq false) := by
  obtain ⟨ad, rfl, hx0⟩ := Kd.at_int hC 0 (by omega) (by omega)
  rw [hk] at hx0
  have hx : ∀ z, (w.alloc z).cell? ad = some (.int .u8 k0) := fun z => by have h := pw_cell_below (below_alloc (Below.refl _ _) z) hx0; exact h
  have hp0 : (0 : Int) < xs.length := by omega
  have h' : ¬ (xs.length : Int) < 1 := by omega
  have h2' : ¬ 4200 < (xs.length : Int) := by omega
  have hk0 : 0 ≤ k0 ∧ k0 ≤ 255 := by rw [← hk]; exact hby _ (rd_mem xs 0 (by omega))
  obtain ⟨kk0, kk1⟩ := hk0
  have HC := Aside0.mk hC
  clear hx0 hk
  have h10' : ¬ (xs.length : Int) ≥ 10 := by omega
  have h10b : ¬ 10 ≤ (xs.length : Int) := by omega
  subst k3
  clear hby
  have t1 : ((1 : Int) == (xs.length : Int)) = true := by simp; omega
  have t2 : ((1 : Int) != (xs.length : Int)) = false := by simp; omega
  have h14' : (xs.length : Int) < 14 := by omega
  clear heq hC h10
  go_enter Try.func13, Try.ntmps13
  go_wp2_with fail
  exact bodyPost_ret (v := .tuple #[.agg zeroReq.cells, .bool false]) (by simp [results, Try.results13, go_sem, zeroReq, Rq.cells, nil8]) rfl ⟨rfl, by repeat (first | exact Below.refl _ _ | apply below_alloc | apply pw_below_drewN | apply below_drew1)⟩
set_option maxRecDepth 100000 in
set_option maxHeartbeats 1000000 in
theorem gq_8 (w : World) (A : Option Addr) (c : Nat) (xs : List Int) (k0 o i p : Int) (nm os : ByteArray) (m e1 : Int) (hC : (Kd.int .u8).C w A xs.length xs) (hc : xs.length ≤ c) (hby : Bys xs) (h1 : 1 ≤ xs.length) (h42 : ¬ 4200 < xs.length) (hk : rd xs 0 = k0) (k3 : k0 = 3) (h10 : 10 ≤ xs.length) (ho : rd xs 1 = o) (hi : val (sub xs 2 6) = i) (hp : val (sub xs 6 10) = p) (hw : wordsAt xs 10 = (nm, m)) (hm : m < 0) : Calls Try.prog 13 #[.slice A xs.length c] w (GotPost w zeroReq false) := by
  obtain ⟨ad, rfl, hx0⟩ := Kd.at_int hC 0 (by omega) (by omega)
  rw [hk] at hx0
  have hx : ∀ z, (w.alloc z).cell? ad = some (.int .u8 k0) := fun z => by have h := pw_cell_below (below_alloc (Below.refl _ _) z) hx0; exact h
  have hp0 : (0 : Int) < xs.length := by omega
  have h' : ¬ (xs.length : Int) < 1 := by omega
  have h2' : ¬ 4200 < (xs.length : Int) := by omega
  have hk0 : 0 ≤ k0 ∧ k0 ≤ 255 := by rw [← hk]; exact hby _ (rd_mem xs 0 (by omega))
  obtain ⟨kk0, kk1⟩ := hk0
  have HC := Aside0.mk hC
  clear hx0 hk
  obtain ⟨ad1, ead, hx1⟩ := Kd.at_int hC 1 (by omega) (by omega)
  cases ead
  rw [ho] at hx1
  have hy1 : ∀ z z', ((w.alloc z).alloc z').cell? ⟨ad.block, ad.off + 1, none⟩ = some (.int .u8 o) := fun x x' => pw_cell_below (below_alloc (below_alloc (Below.refl _ _) x) x') hx1
  have ho0 : 0 ≤ o ∧ o ≤ 255 := by rw [← ho]; exact hby _ (rd_mem xs 1 (by omega))
  obtain ⟨o0, o1⟩ := ho0
  have hp1 : (1 : Int) < xs.length := by omega
  obtain ⟨Ai, hcuti', hAi⟩ := mid (some ad) c xs 2 6 (by omega) (by omega) hc
  have hcuti : ∀ W : World, (Instr.slice 27 (.slice (some ad) xs.length c) (some (.int .i64 2)) (some (.int .i64 6)) none).run Try.prog W = .ok (.slice Ai 4 (c - 2)) W := hcuti'
  have HAi := Aside0.mk (show ∀ W, (Kd.int .u8).C W (some ad) xs.length xs → (Kd.int .u8).C W Ai 4 (sub xs 2 6) from hAi)
  have hsi := sub_length xs 2 6 (by omega)
  have C31i := Aside0.mk (show ∀ (w : World) (hC : (Kd.int .u8).C w Ai 4 (sub xs 2 6)), Calls Try.prog 31 #[.slice Ai 4 (c - 2)] w fun e w' => e = .returned (.int .u64 (val (sub xs 2 6))) ∧ Drawn0 w w' from fun w hC => by have h := value_ref w Ai (c - 2) (sub xs 2 6) (hsi.symm ▸ hC) (by rw [hsi]; omega) (sub_bys hby 2 6) (by rw [hsi]; omega); rw [hsi] at h; exact h)
  rw [hi] at C31i
  obtain ⟨Ap, hcutp', hAp⟩ := mid (some ad) c xs 6 10 (by omega) (by omega) hc
  have hcutp : ∀ W : World, (Instr.slice 27 (.slice (some ad) xs.length c) (some (.int .i64 6)) (some (.int .i64 10)) none).run Try.prog W = .ok (.slice Ap 4 (c - 6)) W := hcutp'
  have HAp := Aside0.mk (show ∀ W, (Kd.int .u8).C W (some ad) xs.length xs → (Kd.int .u8).C W Ap 4 (sub xs 6 10) from hAp)
  have hsp := sub_length xs 6 10 (by omega)
  have C31p := Aside0.mk (show ∀ (w : World) (hC : (Kd.int .u8).C w Ap 4 (sub xs 6 10)), Calls Try.prog 31 #[.slice Ap 4 (c - 6)] w fun e w' => e = .returned (.int .u64 (val (sub xs 6 10))) ∧ Drawn0 w w' from fun w hC => by have h := value_ref w Ap (c - 6) (sub xs 6 10) (hsp.symm ▸ hC) (by rw [hsp]; omega) (sub_bys hby 6 10) (by rw [hsp]; omega); rw [hsp] at h; exact h)
  rw [hp] at C31p
  have hib := val_u32 xs hby 2 6 (by omega) rfl
  rw [hi] at hib
  obtain ⟨i0, i1⟩ := hib
  have hpb := val_u32 xs hby 6 10 (by omega) rfl
  rw [hp] at hpb
  obtain ⟨pp0, pp1⟩ := hpb
  have hwi : IntKind.i64.wrap i = i := IntWalk.i64_in _ ⟨by omega, by omega⟩
  have hwp : IntKind.i64.wrap p = p := IntWalk.i64_in _ ⟨by omega, by omega⟩
  have C30 := Aside0.mk (show ∀ (w : World) (hC : (Kd.int .u8).C w (some ad) xs.length xs), Calls Try.prog 30 #[.slice (some ad) xs.length c, .int .i64 10] w fun e w' => e = .returned (.tuple #[.string (wordsAt xs 10).1, .int .i64 (wordsAt xs 10).2]) ∧ Drawn0 w w' from fun w hC => words_ref w (some ad) c xs 10 hC hc hby h10 (by omega))
  rw [hw] at C30
  have h10' : (xs.length : Int) ≥ 10 := by omega
  have h10b : 10 ≤ (xs.length : Int) := by omega
  subst k3
  clear hw hcuti' hcutp' hAi hAp hsi hsp ho hi hp hx1 h10
  clear hby hC
  go_enter Try.func13, Try.ntmps13
  go_wp2_with fail
  refine (C31i.out _ (HAi.out _ (Kd.C_below HC.out (GQ.start w #[.int .i64 3, .string ⟨#[]⟩, .int .i64 o, .int .i64 0, .int .i64 0, .string ⟨#[]⟩, .string ⟨#[]⟩]).b))).mono ?_
  rintro e w1 ⟨rfl, hd⟩
  clear hy1
  have g1 : GQ w #[.int .i64 3, .string ⟨#[]⟩, .int .i64 o, .int .i64 0, .int .i64 0, .string ⟨#[]⟩, .string ⟨#[]⟩] w1 := (GQ.start w #[.int .i64 3, .string ⟨#[]⟩, .int .i64 o, .int .i64 0, .int .i64 0, .string ⟨#[]⟩, .string ⟨#[]⟩]).drawn hd
  obtain ⟨a0, a1, a2, a3, a4, a5, a6, a7⟩ := blk7 g1.q
  have G1 := Aside0.mk g1
  clear g1 hd
  go_wp2_with fail
  refine (C31p.out _ (HAp.out _ (Kd.C_below HC.out (G1.out.set 3 (.int .i64 i) rfl).b))).mono ?_
  rintro e w2 ⟨rfl, hd⟩
  have g2 : GQ w #[.int .i64 3, .string ⟨#[]⟩, .int .i64 o, .int .i64 i, .int .i64 0, .string ⟨#[]⟩, .string ⟨#[]⟩] w2 := (G1.out.set 3 (.int .i64 i) rfl).drawn hd
  clear a0 a1 a2 a3 a4 a5 a6 a7
  obtain ⟨a0, a1, a2, a3, a4, a5, a6, a7⟩ := blk7 g2.q
  have G2 := Aside0.mk g2
  clear g2 hd
  go_wp2_with fail
  refine (C30.out _ (Kd.C_below HC.out (G2.out.set 4 (.int .i64 p) rfl).b)).mono ?_
  rintro e w3 ⟨rfl, hd⟩
  have g3 : GQ w #[.int .i64 3, .string ⟨#[]⟩, .int .i64 o, .int .i64 i, .int .i64 p, .string ⟨#[]⟩, .string ⟨#[]⟩] w3 := (G2.out.set 4 (.int .i64 p) rfl).drawn hd
  clear a0 a1 a2 a3 a4 a5 a6 a7
  obtain ⟨a0, a1, a2, a3, a4, a5, a6, a7⟩ := blk7 g3.q
  have G3 := Aside0.mk g3
  clear g3 hd
  obtain ⟨m0, m1, m2, m3, m4, m5, m6, m7⟩ := blk7 G3.out.r
  have GE := G3.out
  have S := Aside0.mk (set7_q GE.r (.int .i64 0) (.string ⟨#[]⟩) (.int .i64 0) (.int .i64 0) (.int .i64 0) (.string ⟨#[]⟩) (.string ⟨#[]⟩))
  have SB := Aside0.mk (set7_b GE.b (Nat.le_refl _) (.int .i64 0) (.string ⟨#[]⟩) (.int .i64 0) (.int .i64 0) (.int .i64 0) (.string ⟨#[]⟩) (.string ⟨#[]⟩))
  clear GE
  go_wp2_with fail
  change bodyPost Try.prog Try.f13 _ Exit.ret _ (set7 w3 w.heap.size (.int .i64 0) (.string ⟨#[]⟩) (.int .i64 0) (.int .i64 0) (.int .i64 0) (.string ⟨#[]⟩) (.string ⟨#[]⟩))
  clear m0 m1 m2 m3 m4 m5 m6 m7 a0 a1 a2 a3 a4 a5 a6 a7
  generalize set7 w3 w.heap.size (.int .i64 0) (.string ⟨#[]⟩) (.int .i64 0) (.int .i64 0) (.int .i64 0) (.string ⟨#[]⟩) (.string ⟨#[]⟩) = w2_ at *
  obtain ⟨d0, d1, d2, d3, d4, d5, d6, d7⟩ := blk7 S.out
  exact bodyPost_ret (v := .tuple #[.agg #[.int .i64 0, .string ⟨#[]⟩, .int .i64 0, .int .i64 0, .int .i64 0, .string ⟨#[]⟩, .string ⟨#[]⟩], .bool false]) (by simp [results, Try.results13, go_sem, d0, d1, d2, d3, d4, d5, d6]) rfl ⟨rfl, SB.out⟩
set_option maxRecDepth 100000 in
set_option maxHeartbeats 1000000 in
theorem gq_9 (w : World) (A : Option Addr) (c : Nat) (xs : List Int) (k0 o i p : Int) (nm os : ByteArray) (m e1 : Int) (hC : (Kd.int .u8).C w A xs.length xs) (hc : xs.length ≤ c) (hby : Bys xs) (h1 : 1 ≤ xs.length) (h42 : ¬ 4200 < xs.length) (hk : rd xs 0 = k0) (k3 : k0 = 3) (h10 : 10 ≤ xs.length) (ho : rd xs 1 = o) (hi : val (sub xs 2 6) = i) (hp : val (sub xs 6 10) = p) (hw : wordsAt xs 10 = (nm, m)) (hm : ¬ m < 0) (mm : Nat) (hmm : m = mm) (hml : mm ≤ xs.length) (hw2 : wordsAt xs mm = (os, e1)) (hne : ¬ e1 = (xs.length : Int)) : Calls Try.prog 13 #[.slice A xs.length c] w (GotPost w zeroReq false) := by
  subst hmm
  obtain ⟨ad, rfl, hx0⟩ := Kd.at_int hC 0 (by omega) (by omega)
  rw [hk] at hx0
  have hx : ∀ z, (w.alloc z).cell? ad = some (.int .u8 k0) := fun z => by have h := pw_cell_below (below_alloc (Below.refl _ _) z) hx0; exact h
  have hp0 : (0 : Int) < xs.length := by omega
  have h' : ¬ (xs.length : Int) < 1 := by omega
  have h2' : ¬ 4200 < (xs.length : Int) := by omega
  have hk0 : 0 ≤ k0 ∧ k0 ≤ 255 := by rw [← hk]; exact hby _ (rd_mem xs 0 (by omega))
  obtain ⟨kk0, kk1⟩ := hk0
  have HC := Aside0.mk hC
  clear hx0 hk
  obtain ⟨ad1, ead, hx1⟩ := Kd.at_int hC 1 (by omega) (by omega)
  cases ead
  rw [ho] at hx1
  have hy1 : ∀ z z', ((w.alloc z).alloc z').cell? ⟨ad.block, ad.off + 1, none⟩ = some (.int .u8 o) := fun x x' => pw_cell_below (below_alloc (below_alloc (Below.refl _ _) x) x') hx1
  have ho0 : 0 ≤ o ∧ o ≤ 255 := by rw [← ho]; exact hby _ (rd_mem xs 1 (by omega))
  obtain ⟨o0, o1⟩ := ho0
  have hp1 : (1 : Int) < xs.length := by omega
  obtain ⟨Ai, hcuti', hAi⟩ := mid (some ad) c xs 2 6 (by omega) (by omega) hc
  have hcuti : ∀ W : World, (Instr.slice 27 (.slice (some ad) xs.length c) (some (.int .i64 2)) (some (.int .i64 6)) none).run Try.prog W = .ok (.slice Ai 4 (c - 2)) W := hcuti'
  have HAi := Aside0.mk (show ∀ W, (Kd.int .u8).C W (some ad) xs.length xs → (Kd.int .u8).C W Ai 4 (sub xs 2 6) from hAi)
  have hsi := sub_length xs 2 6 (by omega)
  have C31i := Aside0.mk (show ∀ (w : World) (hC : (Kd.int .u8).C w Ai 4 (sub xs 2 6)), Calls Try.prog 31 #[.slice Ai 4 (c - 2)] w fun e w' => e = .returned (.int .u64 (val (sub xs 2 6))) ∧ Drawn0 w w' from fun w hC => by have h := value_ref w Ai (c - 2) (sub xs 2 6) (hsi.symm ▸ hC) (by rw [hsi]; omega) (sub_bys hby 2 6) (by rw [hsi]; omega); rw [hsi] at h; exact h)
  rw [hi] at C31i
  obtain ⟨Ap, hcutp', hAp⟩ := mid (some ad) c xs 6 10 (by omega) (by omega) hc
  have hcutp : ∀ W : World, (Instr.slice 27 (.slice (some ad) xs.length c) (some (.int .i64 6)) (some (.int .i64 10)) none).run Try.prog W = .ok (.slice Ap 4 (c - 6)) W := hcutp'
  have HAp := Aside0.mk (show ∀ W, (Kd.int .u8).C W (some ad) xs.length xs → (Kd.int .u8).C W Ap 4 (sub xs 6 10) from hAp)
  have hsp := sub_length xs 6 10 (by omega)
  have C31p := Aside0.mk (show ∀ (w : World) (hC : (Kd.int .u8).C w Ap 4 (sub xs 6 10)), Calls Try.prog 31 #[.slice Ap 4 (c - 6)] w fun e w' => e = .returned (.int .u64 (val (sub xs 6 10))) ∧ Drawn0 w w' from fun w hC => by have h := value_ref w Ap (c - 6) (sub xs 6 10) (hsp.symm ▸ hC) (by rw [hsp]; omega) (sub_bys hby 6 10) (by rw [hsp]; omega); rw [hsp] at h; exact h)
  rw [hp] at C31p
  have hib := val_u32 xs hby 2 6 (by omega) rfl
  rw [hi] at hib
  obtain ⟨i0, i1⟩ := hib
  have hpb := val_u32 xs hby 6 10 (by omega) rfl
  rw [hp] at hpb
  obtain ⟨pp0, pp1⟩ := hpb
  have hwi : IntKind.i64.wrap i = i := IntWalk.i64_in _ ⟨by omega, by omega⟩
  have hwp : IntKind.i64.wrap p = p := IntWalk.i64_in _ ⟨by omega, by omega⟩
  have C30 := Aside0.mk (show ∀ (w : World) (hC : (Kd.int .u8).C w (some ad) xs.length xs), Calls Try.prog 30 #[.slice (some ad) xs.length c, .int .i64 10] w fun e w' => e = .returned (.tuple #[.string (wordsAt xs 10).1, .int .i64 (wordsAt xs 10).2]) ∧ Drawn0 w w' from fun w hC => words_ref w (some ad) c xs 10 hC hc hby h10 (by omega))
  rw [hw] at C30
  have h10' : (xs.length : Int) ≥ 10 := by omega
  have h10b : 10 ≤ (xs.length : Int) := by omega
  subst k3
  clear hw hcuti' hcutp' hAi hAp hsi hsp ho hi hp hx1 h10
  have C32 := Aside0.mk (fun w hC => words_ref w (some ad) c xs mm hC hc hby hml (by omega))
  rw [hw2] at C32
  clear hw2 hby
  have t1 : (e1 == (xs.length : Int)) = false := by simpa using hne
  have t2 : (e1 != (xs.length : Int)) = true := by simp [hne]
  clear hne hC
  go_enter Try.func13, Try.ntmps13
  go_wp2_with fail
  refine (C31i.out _ (HAi.out _ (Kd.C_below HC.out (GQ.start w #[.int .i64 3, .string ⟨#[]⟩, .int .i64 o, .int .i64 0, .int .i64 0, .string ⟨#[]⟩, .string ⟨#[]⟩]).b))).mono ?_
  rintro e w1 ⟨rfl, hd⟩
  clear hy1
  have g1 : GQ w #[.int .i64 3, .string ⟨#[]⟩, .int .i64 o, .int .i64 0, .int .i64 0, .string ⟨#[]⟩, .string ⟨#[]⟩] w1 := (GQ.start w #[.int .i64 3, .string ⟨#[]⟩, .int .i64 o, .int .i64 0, .int .i64 0, .string ⟨#[]⟩, .string ⟨#[]⟩]).drawn hd
  obtain ⟨a0, a1, a2, a3, a4, a5, a6, a7⟩ := blk7 g1.q
  have G1 := Aside0.mk g1
  clear g1 hd
  go_wp2_with fail
  refine (C31p.out _ (HAp.out _ (Kd.C_below HC.out (G1.out.set 3 (.int .i64 i) rfl).b))).mono ?_
  rintro e w2 ⟨rfl, hd⟩
  have g2 : GQ w #[.int .i64 3, .string ⟨#[]⟩, .int .i64 o, .int .i64 i, .int .i64 0, .string ⟨#[]⟩, .string ⟨#[]⟩] w2 := (G1.out.set 3 (.int .i64 i) rfl).drawn hd
  clear a0 a1 a2 a3 a4 a5 a6 a7
  obtain ⟨a0, a1, a2, a3, a4, a5, a6, a7⟩ := blk7 g2.q
  have G2 := Aside0.mk g2
  clear g2 hd
  go_wp2_with fail
  refine (C30.out _ (Kd.C_below HC.out (G2.out.set 4 (.int .i64 p) rfl).b)).mono ?_
  rintro e w3 ⟨rfl, hd⟩
  have g3 : GQ w #[.int .i64 3, .string ⟨#[]⟩, .int .i64 o, .int .i64 i, .int .i64 p, .string ⟨#[]⟩, .string ⟨#[]⟩] w3 := (G2.out.set 4 (.int .i64 p) rfl).drawn hd
  clear a0 a1 a2 a3 a4 a5 a6 a7
  obtain ⟨a0, a1, a2, a3, a4, a5, a6, a7⟩ := blk7 g3.q
  have G3 := Aside0.mk g3
  clear g3 hd
  go_wp2_with fail
  refine (C32.out _ (Kd.C_below HC.out G3.out.b)).mono ?_
  rintro e w4 ⟨rfl, hd⟩
  have g4 : GQ w #[.int .i64 3, .string ⟨#[]⟩, .int .i64 o, .int .i64 i, .int .i64 p, .string ⟨#[]⟩, .string ⟨#[]⟩] w4 := G3.out.drawn hd
  clear a0 a1 a2 a3 a4 a5 a6 a7
  obtain ⟨a0, a1, a2, a3, a4, a5, a6, a7⟩ := blk7 g4.q
  have G4 := Aside0.mk g4
  clear g4 hd
  obtain ⟨m0, m1, m2, m3, m4, m5, m6, m7⟩ := blk7 G4.out.r
  have GE := ((G4.out.set 5 (.string nm) rfl).set 6 (.string os) rfl)
  have S := Aside0.mk (set7_q GE.r (.int .i64 0) (.string ⟨#[]⟩) (.int .i64 0) (.int .i64 0) (.int .i64 0) (.string ⟨#[]⟩) (.string ⟨#[]⟩))
  have SB := Aside0.mk (set7_b GE.b (Nat.le_refl _) (.int .i64 0) (.string ⟨#[]⟩) (.int .i64 0) (.int .i64 0) (.int .i64 0) (.string ⟨#[]⟩) (.string ⟨#[]⟩))
  clear GE
  go_wp2_with fail
  change bodyPost Try.prog Try.f13 _ Exit.ret _ (set7 ((w4.setCell ⟨w.heap.size + 1, 5, none⟩ (.string nm)).setCell ⟨w.heap.size + 1, 6, none⟩ (.string os)) w.heap.size (.int .i64 0) (.string ⟨#[]⟩) (.int .i64 0) (.int .i64 0) (.int .i64 0) (.string ⟨#[]⟩) (.string ⟨#[]⟩))
  clear m0 m1 m2 m3 m4 m5 m6 m7 a0 a1 a2 a3 a4 a5 a6 a7
  generalize set7 ((w4.setCell ⟨w.heap.size + 1, 5, none⟩ (.string nm)).setCell ⟨w.heap.size + 1, 6, none⟩ (.string os)) w.heap.size (.int .i64 0) (.string ⟨#[]⟩) (.int .i64 0) (.int .i64 0) (.int .i64 0) (.string ⟨#[]⟩) (.string ⟨#[]⟩) = w2_ at *
  obtain ⟨d0, d1, d2, d3, d4, d5, d6, d7⟩ := blk7 S.out
  exact bodyPost_ret (v := .tuple #[.agg #[.int .i64 0, .string ⟨#[]⟩, .int .i64 0, .int .i64 0, .int .i64 0, .string ⟨#[]⟩, .string ⟨#[]⟩], .bool false]) (by simp [results, Try.results13, go_sem, d0, d1, d2, d3, d4, d5, d6]) rfl ⟨rfl, SB.out⟩
set_option maxRecDepth 100000 in
set_option maxHeartbeats 1000000 in
theorem gq_10 (w : World) (A : Option Addr) (c : Nat) (xs : List Int) (k0 o i p : Int) (nm os : ByteArray) (m e1 : Int) (hC : (Kd.int .u8).C w A xs.length xs) (hc : xs.length ≤ c) (hby : Bys xs) (h1 : 1 ≤ xs.length) (h42 : ¬ 4200 < xs.length) (hk : rd xs 0 = k0) (k3 : k0 = 3) (h10 : 10 ≤ xs.length) (ho : rd xs 1 = o) (hi : val (sub xs 2 6) = i) (hp : val (sub xs 6 10) = p) (hw : wordsAt xs 10 = (nm, m)) (hm : ¬ m < 0) (mm : Nat) (hmm : m = mm) (hml : mm ≤ xs.length) (hw2 : wordsAt xs mm = (os, e1)) (heq : e1 = (xs.length : Int)) (h14 : xs.length < 14) : Calls Try.prog 13 #[.slice A xs.length c] w (GotPost w zeroReq false) := by
  subst hmm
  obtain ⟨ad, rfl, hx0⟩ := Kd.at_int hC 0 (by omega) (by omega)
  rw [hk] at hx0
  have hx : ∀ z, (w.alloc z).cell? ad = some (.int .u8 k0) := fun z => by have h := pw_cell_below (below_alloc (Below.refl _ _) z) hx0; exact h
  have hp0 : (0 : Int) < xs.length := by omega
  have h' : ¬ (xs.length : Int) < 1 := by omega
  have h2' : ¬ 4200 < (xs.length : Int) := by omega
  have hk0 : 0 ≤ k0 ∧ k0 ≤ 255 := by rw [← hk]; exact hby _ (rd_mem xs 0 (by omega))
  obtain ⟨kk0, kk1⟩ := hk0
  have HC := Aside0.mk hC
  clear hx0 hk
  obtain ⟨ad1, ead, hx1⟩ := Kd.at_int hC 1 (by omega) (by omega)
  cases ead
  rw [ho] at hx1
  have hy1 : ∀ z z', ((w.alloc z).alloc z').cell? ⟨ad.block, ad.off + 1, none⟩ = some (.int .u8 o) := fun x x' => pw_cell_below (below_alloc (below_alloc (Below.refl _ _) x) x') hx1
  have ho0 : 0 ≤ o ∧ o ≤ 255 := by rw [← ho]; exact hby _ (rd_mem xs 1 (by omega))
  obtain ⟨o0, o1⟩ := ho0
  have hp1 : (1 : Int) < xs.length := by omega
  obtain ⟨Ai, hcuti', hAi⟩ := mid (some ad) c xs 2 6 (by omega) (by omega) hc
  have hcuti : ∀ W : World, (Instr.slice 27 (.slice (some ad) xs.length c) (some (.int .i64 2)) (some (.int .i64 6)) none).run Try.prog W = .ok (.slice Ai 4 (c - 2)) W := hcuti'
  have HAi := Aside0.mk (show ∀ W, (Kd.int .u8).C W (some ad) xs.length xs → (Kd.int .u8).C W Ai 4 (sub xs 2 6) from hAi)
  have hsi := sub_length xs 2 6 (by omega)
  have C31i := Aside0.mk (show ∀ (w : World) (hC : (Kd.int .u8).C w Ai 4 (sub xs 2 6)), Calls Try.prog 31 #[.slice Ai 4 (c - 2)] w fun e w' => e = .returned (.int .u64 (val (sub xs 2 6))) ∧ Drawn0 w w' from fun w hC => by have h := value_ref w Ai (c - 2) (sub xs 2 6) (hsi.symm ▸ hC) (by rw [hsi]; omega) (sub_bys hby 2 6) (by rw [hsi]; omega); rw [hsi] at h; exact h)
  rw [hi] at C31i
  obtain ⟨Ap, hcutp', hAp⟩ := mid (some ad) c xs 6 10 (by omega) (by omega) hc
  have hcutp : ∀ W : World, (Instr.slice 27 (.slice (some ad) xs.length c) (some (.int .i64 6)) (some (.int .i64 10)) none).run Try.prog W = .ok (.slice Ap 4 (c - 6)) W := hcutp'
  have HAp := Aside0.mk (show ∀ W, (Kd.int .u8).C W (some ad) xs.length xs → (Kd.int .u8).C W Ap 4 (sub xs 6 10) from hAp)
  have hsp := sub_length xs 6 10 (by omega)
  have C31p := Aside0.mk (show ∀ (w : World) (hC : (Kd.int .u8).C w Ap 4 (sub xs 6 10)), Calls Try.prog 31 #[.slice Ap 4 (c - 6)] w fun e w' => e = .returned (.int .u64 (val (sub xs 6 10))) ∧ Drawn0 w w' from fun w hC => by have h := value_ref w Ap (c - 6) (sub xs 6 10) (hsp.symm ▸ hC) (by rw [hsp]; omega) (sub_bys hby 6 10) (by rw [hsp]; omega); rw [hsp] at h; exact h)
  rw [hp] at C31p
  have hib := val_u32 xs hby 2 6 (by omega) rfl
  rw [hi] at hib
  obtain ⟨i0, i1⟩ := hib
  have hpb := val_u32 xs hby 6 10 (by omega) rfl
  rw [hp] at hpb
  obtain ⟨pp0, pp1⟩ := hpb
  have hwi : IntKind.i64.wrap i = i := IntWalk.i64_in _ ⟨by omega, by omega⟩
  have hwp : IntKind.i64.wrap p = p := IntWalk.i64_in _ ⟨by omega, by omega⟩
  have C30 := Aside0.mk (show ∀ (w : World) (hC : (Kd.int .u8).C w (some ad) xs.length xs), Calls Try.prog 30 #[.slice (some ad) xs.length c, .int .i64 10] w fun e w' => e = .returned (.tuple #[.string (wordsAt xs 10).1, .int .i64 (wordsAt xs 10).2]) ∧ Drawn0 w w' from fun w hC => words_ref w (some ad) c xs 10 hC hc hby h10 (by omega))
  rw [hw] at C30
  have h10' : (xs.length : Int) ≥ 10 := by omega
  have h10b : 10 ≤ (xs.length : Int) := by omega
  subst k3
  clear hw hcuti' hcutp' hAi hAp hsi hsp ho hi hp hx1 h10
  have C32 := Aside0.mk (fun w hC => words_ref w (some ad) c xs mm hC hc hby hml (by omega))
  rw [hw2] at C32
  clear hw2 hby
  have t1 : (e1 == (xs.length : Int)) = true := by simpa using heq
  have t2 : (e1 != (xs.length : Int)) = false := by simp [heq]
  have h14' : (xs.length : Int) < 14 := by omega
  clear heq h14 hC
  go_enter Try.func13, Try.ntmps13
  go_wp2_with fail
  refine (C31i.out _ (HAi.out _ (Kd.C_below HC.out (GQ.start w #[.int .i64 3, .string ⟨#[]⟩, .int .i64 o, .int .i64 0, .int .i64 0, .string ⟨#[]⟩, .string ⟨#[]⟩]).b))).mono ?_
  rintro e w1 ⟨rfl, hd⟩
  clear hy1
  have g1 : GQ w #[.int .i64 3, .string ⟨#[]⟩, .int .i64 o, .int .i64 0, .int .i64 0, .string ⟨#[]⟩, .string ⟨#[]⟩] w1 := (GQ.start w #[.int .i64 3, .string ⟨#[]⟩, .int .i64 o, .int .i64 0, .int .i64 0, .string ⟨#[]⟩, .string ⟨#[]⟩]).drawn hd
  obtain ⟨a0, a1, a2, a3, a4, a5, a6, a7⟩ := blk7 g1.q
  have G1 := Aside0.mk g1
  clear g1 hd
  go_wp2_with fail
  refine (C31p.out _ (HAp.out _ (Kd.C_below HC.out (G1.out.set 3 (.int .i64 i) rfl).b))).mono ?_
  rintro e w2 ⟨rfl, hd⟩
  have g2 : GQ w #[.int .i64 3, .string ⟨#[]⟩, .int .i64 o, .int .i64 i, .int .i64 0, .string ⟨#[]⟩, .string ⟨#[]⟩] w2 := (G1.out.set 3 (.int .i64 i) rfl).drawn hd
  clear a0 a1 a2 a3 a4 a5 a6 a7
  obtain ⟨a0, a1, a2, a3, a4, a5, a6, a7⟩ := blk7 g2.q
  have G2 := Aside0.mk g2
  clear g2 hd
  go_wp2_with fail
  refine (C30.out _ (Kd.C_below HC.out (G2.out.set 4 (.int .i64 p) rfl).b)).mono ?_
  rintro e w3 ⟨rfl, hd⟩
  have g3 : GQ w #[.int .i64 3, .string ⟨#[]⟩, .int .i64 o, .int .i64 i, .int .i64 p, .string ⟨#[]⟩, .string ⟨#[]⟩] w3 := (G2.out.set 4 (.int .i64 p) rfl).drawn hd
  clear a0 a1 a2 a3 a4 a5 a6 a7
  obtain ⟨a0, a1, a2, a3, a4, a5, a6, a7⟩ := blk7 g3.q
  have G3 := Aside0.mk g3
  clear g3 hd
  go_wp2_with fail
  refine (C32.out _ (Kd.C_below HC.out G3.out.b)).mono ?_
  rintro e w4 ⟨rfl, hd⟩
  have g4 : GQ w #[.int .i64 3, .string ⟨#[]⟩, .int .i64 o, .int .i64 i, .int .i64 p, .string ⟨#[]⟩, .string ⟨#[]⟩] w4 := G3.out.drawn hd
  clear a0 a1 a2 a3 a4 a5 a6 a7
  obtain ⟨a0, a1, a2, a3, a4, a5, a6, a7⟩ := blk7 g4.q
  have G4 := Aside0.mk g4
  clear g4 hd
  obtain ⟨m0, m1, m2, m3, m4, m5, m6, m7⟩ := blk7 G4.out.r
  have GE := ((G4.out.set 5 (.string nm) rfl).set 6 (.string os) rfl)
  have S := Aside0.mk (set7_q GE.r (.int .i64 0) (.string ⟨#[]⟩) (.int .i64 0) (.int .i64 0) (.int .i64 0) (.string ⟨#[]⟩) (.string ⟨#[]⟩))
  have SB := Aside0.mk (set7_b GE.b (Nat.le_refl _) (.int .i64 0) (.string ⟨#[]⟩) (.int .i64 0) (.int .i64 0) (.int .i64 0) (.string ⟨#[]⟩) (.string ⟨#[]⟩))
  clear GE
  go_wp2_with fail
  change bodyPost Try.prog Try.f13 _ Exit.ret _ (set7 ((w4.setCell ⟨w.heap.size + 1, 5, none⟩ (.string nm)).setCell ⟨w.heap.size + 1, 6, none⟩ (.string os)) w.heap.size (.int .i64 0) (.string ⟨#[]⟩) (.int .i64 0) (.int .i64 0) (.int .i64 0) (.string ⟨#[]⟩) (.string ⟨#[]⟩))
  clear m0 m1 m2 m3 m4 m5 m6 m7 a0 a1 a2 a3 a4 a5 a6 a7
  generalize set7 ((w4.setCell ⟨w.heap.size + 1, 5, none⟩ (.string nm)).setCell ⟨w.heap.size + 1, 6, none⟩ (.string os)) w.heap.size (.int .i64 0) (.string ⟨#[]⟩) (.int .i64 0) (.int .i64 0) (.int .i64 0) (.string ⟨#[]⟩) (.string ⟨#[]⟩) = w2_ at *
  obtain ⟨d0, d1, d2, d3, d4, d5, d6, d7⟩ := blk7 S.out
  exact bodyPost_ret (v := .tuple #[.agg #[.int .i64 0, .string ⟨#[]⟩, .int .i64 0, .int .i64 0, .int .i64 0, .string ⟨#[]⟩, .string ⟨#[]⟩], .bool false]) (by simp [results, Try.results13, go_sem, d0, d1, d2, d3, d4, d5, d6]) rfl ⟨rfl, SB.out⟩
set_option maxRecDepth 100000 in
set_option maxHeartbeats 1000000 in
theorem gq_11 (w : World) (A : Option Addr) (c : Nat) (xs : List Int) (k0 o i p : Int) (nm os : ByteArray) (m e1 : Int) (hC : (Kd.int .u8).C w A xs.length xs) (hc : xs.length ≤ c) (hby : Bys xs) (h1 : 1 ≤ xs.length) (h42 : ¬ 4200 < xs.length) (hk : rd xs 0 = k0) (k3 : k0 = 3) (h10 : 10 ≤ xs.length) (ho : rd xs 1 = o) (hi : val (sub xs 2 6) = i) (hp : val (sub xs 6 10) = p) (hw : wordsAt xs 10 = (nm, m)) (hm : ¬ m < 0) (mm : Nat) (hmm : m = mm) (hml : mm ≤ xs.length) (hw2 : wordsAt xs mm = (os, e1)) (heq : e1 = (xs.length : Int)) (h14 : ¬ xs.length < 14) (hr : rightB ⟨3, nil8, o, i, p, nm, os⟩ = true) : Calls Try.prog 13 #[.slice A xs.length c] w (GotPost w ⟨3, nil8, o, i, p, nm, os⟩ true) := by
  have C9 := Aside0.mk (fun w => rightRef_calls w ⟨3, nil8, o, i, p, nm, os⟩)
  rw [hr] at C9
  simp only [Rq.cells] at C9
  clear hr
  subst hmm
  obtain ⟨ad, rfl, hx0⟩ := Kd.at_int hC 0 (by omega) (by omega)
  rw [hk] at hx0
  have hx : ∀ z, (w.alloc z).cell? ad = some (.int .u8 k0) := fun z => by have h := pw_cell_below (below_alloc (Below.refl _ _) z) hx0; exact h
  have hp0 : (0 : Int) < xs.length := by omega
  have h' : ¬ (xs.length : Int) < 1 := by omega
  have h2' : ¬ 4200 < (xs.length : Int) := by omega
  have hk0 : 0 ≤ k0 ∧ k0 ≤ 255 := by rw [← hk]; exact hby _ (rd_mem xs 0 (by omega))
  obtain ⟨kk0, kk1⟩ := hk0
  have HC := Aside0.mk hC
  clear hx0 hk
  obtain ⟨ad1, ead, hx1⟩ := Kd.at_int hC 1 (by omega) (by omega)
  cases ead
  rw [ho] at hx1
  have hy1 : ∀ z z', ((w.alloc z).alloc z').cell? ⟨ad.block, ad.off + 1, none⟩ = some (.int .u8 o) := fun x x' => pw_cell_below (below_alloc (below_alloc (Below.refl _ _) x) x') hx1
  have ho0 : 0 ≤ o ∧ o ≤ 255 := by rw [← ho]; exact hby _ (rd_mem xs 1 (by omega))
  obtain ⟨o0, o1⟩ := ho0
  have hp1 : (1 : Int) < xs.length := by omega
  obtain ⟨Ai, hcuti', hAi⟩ := mid (some ad) c xs 2 6 (by omega) (by omega) hc
  have hcuti : ∀ W : World, (Instr.slice 27 (.slice (some ad) xs.length c) (some (.int .i64 2)) (some (.int .i64 6)) none).run Try.prog W = .ok (.slice Ai 4 (c - 2)) W := hcuti'
  have HAi := Aside0.mk (show ∀ W, (Kd.int .u8).C W (some ad) xs.length xs → (Kd.int .u8).C W Ai 4 (sub xs 2 6) from hAi)
  have hsi := sub_length xs 2 6 (by omega)
  have C31i := Aside0.mk (show ∀ (w : World) (hC : (Kd.int .u8).C w Ai 4 (sub xs 2 6)), Calls Try.prog 31 #[.slice Ai 4 (c - 2)] w fun e w' => e = .returned (.int .u64 (val (sub xs 2 6))) ∧ Drawn0 w w' from fun w hC => by have h := value_ref w Ai (c - 2) (sub xs 2 6) (hsi.symm ▸ hC) (by rw [hsi]; omega) (sub_bys hby 2 6) (by rw [hsi]; omega); rw [hsi] at h; exact h)
  rw [hi] at C31i
  obtain ⟨Ap, hcutp', hAp⟩ := mid (some ad) c xs 6 10 (by omega) (by omega) hc
  have hcutp : ∀ W : World, (Instr.slice 27 (.slice (some ad) xs.length c) (some (.int .i64 6)) (some (.int .i64 10)) none).run Try.prog W = .ok (.slice Ap 4 (c - 6)) W := hcutp'
  have HAp := Aside0.mk (show ∀ W, (Kd.int .u8).C W (some ad) xs.length xs → (Kd.int .u8).C W Ap 4 (sub xs 6 10) from hAp)
  have hsp := sub_length xs 6 10 (by omega)
  have C31p := Aside0.mk (show ∀ (w : World) (hC : (Kd.int .u8).C w Ap 4 (sub xs 6 10)), Calls Try.prog 31 #[.slice Ap 4 (c - 6)] w fun e w' => e = .returned (.int .u64 (val (sub xs 6 10))) ∧ Drawn0 w w' from fun w hC => by have h := value_ref w Ap (c - 6) (sub xs 6 10) (hsp.symm ▸ hC) (by rw [hsp]; omega) (sub_bys hby 6 10) (by rw [hsp]; omega); rw [hsp] at h; exact h)
  rw [hp] at C31p
  have hib := val_u32 xs hby 2 6 (by omega) rfl
  rw [hi] at hib
  obtain ⟨i0, i1⟩ := hib
  have hpb := val_u32 xs hby 6 10 (by omega) rfl
  rw [hp] at hpb
  obtain ⟨pp0, pp1⟩ := hpb
  have hwi : IntKind.i64.wrap i = i := IntWalk.i64_in _ ⟨by omega, by omega⟩
  have hwp : IntKind.i64.wrap p = p := IntWalk.i64_in _ ⟨by omega, by omega⟩
  have C30 := Aside0.mk (show ∀ (w : World) (hC : (Kd.int .u8).C w (some ad) xs.length xs), Calls Try.prog 30 #[.slice (some ad) xs.length c, .int .i64 10] w fun e w' => e = .returned (.tuple #[.string (wordsAt xs 10).1, .int .i64 (wordsAt xs 10).2]) ∧ Drawn0 w w' from fun w hC => words_ref w (some ad) c xs 10 hC hc hby h10 (by omega))
  rw [hw] at C30
  have h10' : (xs.length : Int) ≥ 10 := by omega
  have h10b : 10 ≤ (xs.length : Int) := by omega
  subst k3
  clear hw hcuti' hcutp' hAi hAp hsi hsp ho hi hp hx1 h10
  have C32 := Aside0.mk (fun w hC => words_ref w (some ad) c xs mm hC hc hby hml (by omega))
  rw [hw2] at C32
  clear hw2 hby
  have t1 : (e1 == (xs.length : Int)) = true := by simpa using heq
  have t2 : (e1 != (xs.length : Int)) = false := by simp [heq]
  have h14' : ¬ (xs.length : Int) < 14 := by omega
  clear h14
  clear heq hC
  go_enter Try.func13, Try.ntmps13
  go_wp2_with fail
  refine (C31i.out _ (HAi.out _ (Kd.C_below HC.out (GQ.start w #[.int .i64 3, .string ⟨#[]⟩, .int .i64 o, .int .i64 0, .int .i64 0, .string ⟨#[]⟩, .string ⟨#[]⟩]).b))).mono ?_
  rintro e w1 ⟨rfl, hd⟩
  clear hy1
  have g1 : GQ w #[.int .i64 3, .string ⟨#[]⟩, .int .i64 o, .int .i64 0, .int .i64 0, .string ⟨#[]⟩, .string ⟨#[]⟩] w1 := (GQ.start w #[.int .i64 3, .string ⟨#[]⟩, .int .i64 o, .int .i64 0, .int .i64 0, .string ⟨#[]⟩, .string ⟨#[]⟩]).drawn hd
  obtain ⟨a0, a1, a2, a3, a4, a5, a6, a7⟩ := blk7 g1.q
  have G1 := Aside0.mk g1
  clear g1 hd
  go_wp2_with fail
  refine (C31p.out _ (HAp.out _ (Kd.C_below HC.out (G1.out.set 3 (.int .i64 i) rfl).b))).mono ?_
  rintro e w2 ⟨rfl, hd⟩
  have g2 : GQ w #[.int .i64 3, .string ⟨#[]⟩, .int .i64 o, .int .i64 i, .int .i64 0, .string ⟨#[]⟩, .string ⟨#[]⟩] w2 := (G1.out.set 3 (.int .i64 i) rfl).drawn hd
  clear a0 a1 a2 a3 a4 a5 a6 a7
  obtain ⟨a0, a1, a2, a3, a4, a5, a6, a7⟩ := blk7 g2.q
  have G2 := Aside0.mk g2
  clear g2 hd
  go_wp2_with fail
  refine (C30.out _ (Kd.C_below HC.out (G2.out.set 4 (.int .i64 p) rfl).b)).mono ?_
  rintro e w3 ⟨rfl, hd⟩
  have g3 : GQ w #[.int .i64 3, .string ⟨#[]⟩, .int .i64 o, .int .i64 i, .int .i64 p, .string ⟨#[]⟩, .string ⟨#[]⟩] w3 := (G2.out.set 4 (.int .i64 p) rfl).drawn hd
  clear a0 a1 a2 a3 a4 a5 a6 a7
  obtain ⟨a0, a1, a2, a3, a4, a5, a6, a7⟩ := blk7 g3.q
  have G3 := Aside0.mk g3
  clear g3 hd
  go_wp2_with fail
  refine (C32.out _ (Kd.C_below HC.out G3.out.b)).mono ?_
  rintro e w4 ⟨rfl, hd⟩
  have g4 : GQ w #[.int .i64 3, .string ⟨#[]⟩, .int .i64 o, .int .i64 i, .int .i64 p, .string ⟨#[]⟩, .string ⟨#[]⟩] w4 := G3.out.drawn hd
  clear a0 a1 a2 a3 a4 a5 a6 a7
  obtain ⟨a0, a1, a2, a3, a4, a5, a6, a7⟩ := blk7 g4.q
  have G4 := Aside0.mk g4
  clear g4 hd
  go_wp2_with fail
  refine (C9.out _).mono ?_
  rintro e w9 ⟨rfl, hb9⟩
  have g9 : GQ w #[.int .i64 3, .string ⟨#[]⟩, .int .i64 o, .int .i64 i, .int .i64 p, .string nm, .string os] w9 := ((G4.out.set 5 (.string nm) rfl).set 6 (.string os) rfl).below hb9
  clear a0 a1 a2 a3 a4 a5 a6 a7
  obtain ⟨a0, a1, a2, a3, a4, a5, a6, a7⟩ := blk7 g9.q
  obtain ⟨m0, m1, m2, m3, m4, m5, m6, m7⟩ := blk7 g9.r
  have S := Aside0.mk (set7_q g9.r (.int .i64 3) (.string ⟨#[]⟩) (.int .i64 o) (.int .i64 i) (.int .i64 p) (.string nm) (.string os))
  have SB := Aside0.mk (set7_b g9.b (Nat.le_refl _) (.int .i64 3) (.string ⟨#[]⟩) (.int .i64 o) (.int .i64 i) (.int .i64 p) (.string nm) (.string os))
  clear g9 hb9
  go_wp2_with fail
  change bodyPost Try.prog Try.f13 _ Exit.ret _ (set7 w9 w.heap.size (.int .i64 3) (.string ⟨#[]⟩) (.int .i64 o) (.int .i64 i) (.int .i64 p) (.string nm) (.string os))
  clear m0 m1 m2 m3 m4 m5 m6 m7 a0 a1 a2 a3 a4 a5 a6 a7
  generalize set7 w9 w.heap.size (.int .i64 3) (.string ⟨#[]⟩) (.int .i64 o) (.int .i64 i) (.int .i64 p) (.string nm) (.string os) = w2_ at *
  obtain ⟨d0, d1, d2, d3, d4, d5, d6, d7⟩ := blk7 S.out
  exact bodyPost_ret (v := .tuple #[.agg #[.int .i64 3, .string ⟨#[]⟩, .int .i64 o, .int .i64 i, .int .i64 p, .string nm, .string os], .bool true]) (by simp [results, Try.results13, go_sem, d0, d1, d2, d3, d4, d5, d6]) rfl ⟨rfl, SB.out⟩
set_option maxRecDepth 100000 in
set_option maxHeartbeats 1000000 in
theorem gq_12 (w : World) (A : Option Addr) (c : Nat) (xs : List Int) (k0 o i p : Int) (nm os : ByteArray) (m e1 : Int) (hC : (Kd.int .u8).C w A xs.length xs) (hc : xs.length ≤ c) (hby : Bys xs) (h1 : 1 ≤ xs.length) (h42 : ¬ 4200 < xs.length) (hk : rd xs 0 = k0) (k3 : k0 = 3) (h10 : 10 ≤ xs.length) (ho : rd xs 1 = o) (hi : val (sub xs 2 6) = i) (hp : val (sub xs 6 10) = p) (hw : wordsAt xs 10 = (nm, m)) (hm : ¬ m < 0) (mm : Nat) (hmm : m = mm) (hml : mm ≤ xs.length) (hw2 : wordsAt xs mm = (os, e1)) (heq : e1 = (xs.length : Int)) (h14 : ¬ xs.length < 14) (hr : rightB ⟨3, nil8, o, i, p, nm, os⟩ = false) : Calls Try.prog 13 #[.slice A xs.length c] w (GotPost w zeroReq false) := by
  have C9 := Aside0.mk (fun w => rightRef_calls w ⟨3, nil8, o, i, p, nm, os⟩)
  rw [hr] at C9
  simp only [Rq.cells] at C9
  clear hr
  subst hmm
  obtain ⟨ad, rfl, hx0⟩ := Kd.at_int hC 0 (by omega) (by omega)
  rw [hk] at hx0
  have hx : ∀ z, (w.alloc z).cell? ad = some (.int .u8 k0) := fun z => by have h := pw_cell_below (below_alloc (Below.refl _ _) z) hx0; exact h
  have hp0 : (0 : Int) < xs.length := by omega
  have h' : ¬ (xs.length : Int) < 1 := by omega
  have h2' : ¬ 4200 < (xs.length : Int) := by omega
  have hk0 : 0 ≤ k0 ∧ k0 ≤ 255 := by rw [← hk]; exact hby _ (rd_mem xs 0 (by omega))
  obtain ⟨kk0, kk1⟩ := hk0
  have HC := Aside0.mk hC
  clear hx0 hk
  obtain ⟨ad1, ead, hx1⟩ := Kd.at_int hC 1 (by omega) (by omega)
  cases ead
  rw [ho] at hx1
  have hy1 : ∀ z z', ((w.alloc z).alloc z').cell? ⟨ad.block, ad.off + 1, none⟩ = some (.int .u8 o) := fun x x' => pw_cell_below (below_alloc (below_alloc (Below.refl _ _) x) x') hx1
  have ho0 : 0 ≤ o ∧ o ≤ 255 := by rw [← ho]; exact hby _ (rd_mem xs 1 (by omega))
  obtain ⟨o0, o1⟩ := ho0
  have hp1 : (1 : Int) < xs.length := by omega
  obtain ⟨Ai, hcuti', hAi⟩ := mid (some ad) c xs 2 6 (by omega) (by omega) hc
  have hcuti : ∀ W : World, (Instr.slice 27 (.slice (some ad) xs.length c) (some (.int .i64 2)) (some (.int .i64 6)) none).run Try.prog W = .ok (.slice Ai 4 (c - 2)) W := hcuti'
  have HAi := Aside0.mk (show ∀ W, (Kd.int .u8).C W (some ad) xs.length xs → (Kd.int .u8).C W Ai 4 (sub xs 2 6) from hAi)
  have hsi := sub_length xs 2 6 (by omega)
  have C31i := Aside0.mk (show ∀ (w : World) (hC : (Kd.int .u8).C w Ai 4 (sub xs 2 6)), Calls Try.prog 31 #[.slice Ai 4 (c - 2)] w fun e w' => e = .returned (.int .u64 (val (sub xs 2 6))) ∧ Drawn0 w w' from fun w hC => by have h := value_ref w Ai (c - 2) (sub xs 2 6) (hsi.symm ▸ hC) (by rw [hsi]; omega) (sub_bys hby 2 6) (by rw [hsi]; omega); rw [hsi] at h; exact h)
  rw [hi] at C31i
  obtain ⟨Ap, hcutp', hAp⟩ := mid (some ad) c xs 6 10 (by omega) (by omega) hc
  have hcutp : ∀ W : World, (Instr.slice 27 (.slice (some ad) xs.length c) (some (.int .i64 6)) (some (.int .i64 10)) none).run Try.prog W = .ok (.slice Ap 4 (c - 6)) W := hcutp'
  have HAp := Aside0.mk (show ∀ W, (Kd.int .u8).C W (some ad) xs.length xs → (Kd.int .u8).C W Ap 4 (sub xs 6 10) from hAp)
  have hsp := sub_length xs 6 10 (by omega)
  have C31p := Aside0.mk (show ∀ (w : World) (hC : (Kd.int .u8).C w Ap 4 (sub xs 6 10)), Calls Try.prog 31 #[.slice Ap 4 (c - 6)] w fun e w' => e = .returned (.int .u64 (val (sub xs 6 10))) ∧ Drawn0 w w' from fun w hC => by have h := value_ref w Ap (c - 6) (sub xs 6 10) (hsp.symm ▸ hC) (by rw [hsp]; omega) (sub_bys hby 6 10) (by rw [hsp]; omega); rw [hsp] at h; exact h)
  rw [hp] at C31p
  have hib := val_u32 xs hby 2 6 (by omega) rfl
  rw [hi] at hib
  obtain ⟨i0, i1⟩ := hib
  have hpb := val_u32 xs hby 6 10 (by omega) rfl
  rw [hp] at hpb
  obtain ⟨pp0, pp1⟩ := hpb
  have hwi : IntKind.i64.wrap i = i := IntWalk.i64_in _ ⟨by omega, by omega⟩
  have hwp : IntKind.i64.wrap p = p := IntWalk.i64_in _ ⟨by omega, by omega⟩
  have C30 := Aside0.mk (show ∀ (w : World) (hC : (Kd.int .u8).C w (some ad) xs.length xs), Calls Try.prog 30 #[.slice (some ad) xs.length c, .int .i64 10] w fun e w' => e = .returned (.tuple #[.string (wordsAt xs 10).1, .int .i64 (wordsAt xs 10).2]) ∧ Drawn0 w w' from fun w hC => words_ref w (some ad) c xs 10 hC hc hby h10 (by omega))
  rw [hw] at C30
  have h10' : (xs.length : Int) ≥ 10 := by omega
  have h10b : 10 ≤ (xs.length : Int) := by omega
  subst k3
  clear hw hcuti' hcutp' hAi hAp hsi hsp ho hi hp hx1 h10
  have C32 := Aside0.mk (fun w hC => words_ref w (some ad) c xs mm hC hc hby hml (by omega))
  rw [hw2] at C32
  clear hw2 hby
  have t1 : (e1 == (xs.length : Int)) = true := by simpa using heq
  have t2 : (e1 != (xs.length : Int)) = false := by simp [heq]
  have h14' : ¬ (xs.length : Int) < 14 := by omega
  clear h14
  clear heq hC
  go_enter Try.func13, Try.ntmps13
  go_wp2_with fail
  refine (C31i.out _ (HAi.out _ (Kd.C_below HC.out (GQ.start w #[.int .i64 3, .string ⟨#[]⟩, .int .i64 o, .int .i64 0, .int .i64 0, .string ⟨#[]⟩, .string ⟨#[]⟩]).b))).mono ?_
  rintro e w1 ⟨rfl, hd⟩
  clear hy1
  have g1 : GQ w #[.int .i64 3, .string ⟨#[]⟩, .int .i64 o, .int .i64 0, .int .i64 0, .string ⟨#[]⟩, .string ⟨#[]⟩] w1 := (GQ.start w #[.int .i64 3, .string ⟨#[]⟩, .int .i64 o, .int .i64 0, .int .i64 0, .string ⟨#[]⟩, .string ⟨#[]⟩]).drawn hd
  obtain ⟨a0, a1, a2, a3, a4, a5, a6, a7⟩ := blk7 g1.q
  have G1 := Aside0.mk g1
  clear g1 hd
  go_wp2_with fail
  refine (C31p.out _ (HAp.out _ (Kd.C_below HC.out (G1.out.set 3 (.int .i64 i) rfl).b))).mono ?_
  rintro e w2 ⟨rfl, hd⟩
  have g2 : GQ w #[.int .i64 3, .string ⟨#[]⟩, .int .i64 o, .int .i64 i, .int .i64 0, .string ⟨#[]⟩, .string ⟨#[]⟩] w2 := (G1.out.set 3 (.int .i64 i) rfl).drawn hd
  clear a0 a1 a2 a3 a4 a5 a6 a7
  obtain ⟨a0, a1, a2, a3, a4, a5, a6, a7⟩ := blk7 g2.q
  have G2 := Aside0.mk g2
  clear g2 hd
  go_wp2_with fail
  refine (C30.out _ (Kd.C_below HC.out (G2.out.set 4 (.int .i64 p) rfl).b)).mono ?_
  rintro e w3 ⟨rfl, hd⟩
  have g3 : GQ w #[.int .i64 3, .string ⟨#[]⟩, .int .i64 o, .int .i64 i, .int .i64 p, .string ⟨#[]⟩, .string ⟨#[]⟩] w3 := (G2.out.set 4 (.int .i64 p) rfl).drawn hd
  clear a0 a1 a2 a3 a4 a5 a6 a7
  obtain ⟨a0, a1, a2, a3, a4, a5, a6, a7⟩ := blk7 g3.q
  have G3 := Aside0.mk g3
  clear g3 hd
  go_wp2_with fail
  refine (C32.out _ (Kd.C_below HC.out G3.out.b)).mono ?_
  rintro e w4 ⟨rfl, hd⟩
  have g4 : GQ w #[.int .i64 3, .string ⟨#[]⟩, .int .i64 o, .int .i64 i, .int .i64 p, .string ⟨#[]⟩, .string ⟨#[]⟩] w4 := G3.out.drawn hd
  clear a0 a1 a2 a3 a4 a5 a6 a7
  obtain ⟨a0, a1, a2, a3, a4, a5, a6, a7⟩ := blk7 g4.q
  have G4 := Aside0.mk g4
  clear g4 hd
  go_wp2_with fail
  refine (C9.out _).mono ?_
  rintro e w9 ⟨rfl, hb9⟩
  have g9 : GQ w #[.int .i64 3, .string ⟨#[]⟩, .int .i64 o, .int .i64 i, .int .i64 p, .string nm, .string os] w9 := ((G4.out.set 5 (.string nm) rfl).set 6 (.string os) rfl).below hb9
  clear a0 a1 a2 a3 a4 a5 a6 a7
  obtain ⟨a0, a1, a2, a3, a4, a5, a6, a7⟩ := blk7 g9.q
  obtain ⟨m0, m1, m2, m3, m4, m5, m6, m7⟩ := blk7 g9.r
  have S := Aside0.mk (set7_q g9.r (.int .i64 0) (.string ⟨#[]⟩) (.int .i64 0) (.int .i64 0) (.int .i64 0) (.string ⟨#[]⟩) (.string ⟨#[]⟩))
  have SB := Aside0.mk (set7_b g9.b (Nat.le_refl _) (.int .i64 0) (.string ⟨#[]⟩) (.int .i64 0) (.int .i64 0) (.int .i64 0) (.string ⟨#[]⟩) (.string ⟨#[]⟩))
  clear g9 hb9
  go_wp2_with fail
  change bodyPost Try.prog Try.f13 _ Exit.ret _ (set7 w9 w.heap.size (.int .i64 0) (.string ⟨#[]⟩) (.int .i64 0) (.int .i64 0) (.int .i64 0) (.string ⟨#[]⟩) (.string ⟨#[]⟩))
  clear m0 m1 m2 m3 m4 m5 m6 m7 a0 a1 a2 a3 a4 a5 a6 a7
  generalize set7 w9 w.heap.size (.int .i64 0) (.string ⟨#[]⟩) (.int .i64 0) (.int .i64 0) (.int .i64 0) (.string ⟨#[]⟩) (.string ⟨#[]⟩) = w2_ at *
  obtain ⟨d0, d1, d2, d3, d4, d5, d6, d7⟩ := blk7 S.out
  exact bodyPost_ret (v := .tuple #[.agg #[.int .i64 0, .string ⟨#[]⟩, .int .i64 0, .int .i64 0, .int .i64 0, .string ⟨#[]⟩, .string ⟨#[]⟩], .bool false]) (by simp [results, Try.results13, go_sem, d0, d1, d2, d3, d4, d5, d6]) rfl ⟨rfl, SB.out⟩
set_option maxRecDepth 100000 in
set_option maxHeartbeats 1000000 in
theorem gq_13 (w : World) (A : Option Addr) (c : Nat) (xs : List Int) (k0 i : Int) (hC : (Kd.int .u8).C w A xs.length xs) (hc : xs.length ≤ c) (hby : Bys xs) (h1 : 1 ≤ xs.length) (h42 : ¬ 4200 < xs.length) (hk : rd xs 0 = k0) (k6 : k0 = 6) (h5 : xs.length = 5) (hi : val (sub xs 1 5) = i) (hr : rightB ⟨6, nil8, 0, i, 0, nil8, nil8⟩ = true) : Calls Try.prog 13 #[.slice A xs.length c] w (GotPost w ⟨6, nil8, 0, i, 0, nil8, nil8⟩ true) := by
  have C9 := Aside0.mk (fun w => rightRef_calls w ⟨6, nil8, 0, i, 0, nil8, nil8⟩)
  rw [hr] at C9
  simp only [Rq.cells] at C9
  clear hr
  obtain ⟨ad, rfl, hx0⟩ := Kd.at_int hC 0 (by omega) (by omega)
  rw [hk] at hx0
  have hx : ∀ z, (w.alloc z).cell? ad = some (.int .u8 k0) := fun z => by have h := pw_cell_below (below_alloc (Below.refl _ _) z) hx0; exact h
  have hp0 : (0 : Int) < xs.length := by omega
  have h' : ¬ (xs.length : Int) < 1 := by omega
  have h2' : ¬ 4200 < (xs.length : Int) := by omega
  have hk0 : 0 ≤ k0 ∧ k0 ≤ 255 := by rw [← hk]; exact hby _ (rd_mem xs 0 (by omega))
  obtain ⟨kk0, kk1⟩ := hk0
  have HC := Aside0.mk hC
  clear hx0 hk
  obtain ⟨Ai, hcuti', hAi⟩ := mid (some ad) c xs 1 5 (by omega) (by omega) hc
  have hcuti : ∀ W : World, (Instr.slice 27 (.slice (some ad) xs.length c) (some (.int .i64 1)) (some (.int .i64 5)) none).run Try.prog W = .ok (.slice Ai 4 (c - 1)) W := hcuti'
  have HAi := Aside0.mk (show ∀ W, (Kd.int .u8).C W (some ad) xs.length xs → (Kd.int .u8).C W Ai 4 (sub xs 1 5) from hAi)
  have hsi := sub_length xs 1 5 (by omega)
  have C31i := Aside0.mk (show ∀ (w : World) (hC : (Kd.int .u8).C w Ai 4 (sub xs 1 5)), Calls Try.prog 31 #[.slice Ai 4 (c - 1)] w fun e w' => e = .returned (.int .u64 (val (sub xs 1 5))) ∧ Drawn0 w w' from fun w hC => by have h := value_ref w Ai (c - 1) (sub xs 1 5) (hsi.symm ▸ hC) (by rw [hsi]; omega) (sub_bys hby 1 5) (by rw [hsi]; omega); rw [hsi] at h; exact h)
  rw [hi] at C31i
  have hib := val_u32 xs hby 1 5 (by omega) rfl
  rw [hi] at hib
  obtain ⟨i0, i1⟩ := hib
  have hwi : IntKind.i64.wrap i = i := IntWalk.i64_in _ ⟨by omega, by omega⟩
  subst k6
  have t5 : ((xs.length : Int) == 5) = true := by simp; omega
  have t5b : ((xs.length : Int) != 5) = false := by simp; omega
  have t1 : ((5 : Int) == (xs.length : Int)) = true := by simp; omega
  have t2 : ((5 : Int) != (xs.length : Int)) = false := by simp; omega
  clear hcuti' hAi hsi hi hby hC
  have H5 := Aside0.mk h5
  clear h5
  go_enter Try.func13, Try.ntmps13
  go_wp2_with fail
  refine (C31i.out _ (HAi.out _ (Kd.C_below HC.out (GQ.start w #[.int .i64 6, .string ⟨#[]⟩, .int .i64 0, .int .i64 0, .int .i64 0, .string ⟨#[]⟩, .string ⟨#[]⟩]).b))).mono ?_
  rintro e w1 ⟨rfl, hd⟩
  have g1 : GQ w #[.int .i64 6, .string ⟨#[]⟩, .int .i64 0, .int .i64 0, .int .i64 0, .string ⟨#[]⟩, .string ⟨#[]⟩] w1 := (GQ.start w #[.int .i64 6, .string ⟨#[]⟩, .int .i64 0, .int .i64 0, .int .i64 0, .string ⟨#[]⟩, .string ⟨#[]⟩]).drawn hd
  obtain ⟨a0, a1, a2, a3, a4, a5, a6, a7⟩ := blk7 g1.q
  have G1 := Aside0.mk g1
  clear g1 hd
  go_wp2_with fail
  refine (C9.out _).mono ?_
  rintro e w9 ⟨rfl, hb9⟩
  have g9 : GQ w #[.int .i64 6, .string ⟨#[]⟩, .int .i64 0, .int .i64 i, .int .i64 0, .string ⟨#[]⟩, .string ⟨#[]⟩] w9 := (G1.out.set 3 (.int .i64 i) rfl).below hb9
  clear a0 a1 a2 a3 a4 a5 a6 a7
  obtain ⟨a0, a1, a2, a3, a4, a5, a6, a7⟩ := blk7 g9.q
  obtain ⟨m0, m1, m2, m3, m4, m5, m6, m7⟩ := blk7 g9.r
  have S := Aside0.mk (set7_q g9.r (.int .i64 6) (.string ⟨#[]⟩) (.int .i64 0) (.int .i64 i) (.int .i64 0) (.string ⟨#[]⟩) (.string ⟨#[]⟩))
  have SB := Aside0.mk (set7_b g9.b (Nat.le_refl _) (.int .i64 6) (.string ⟨#[]⟩) (.int .i64 0) (.int .i64 i) (.int .i64 0) (.string ⟨#[]⟩) (.string ⟨#[]⟩))
  clear g9 hb9
  go_wp2_with fail
  change bodyPost Try.prog Try.f13 _ Exit.ret _ (set7 w9 w.heap.size (.int .i64 6) (.string ⟨#[]⟩) (.int .i64 0) (.int .i64 i) (.int .i64 0) (.string ⟨#[]⟩) (.string ⟨#[]⟩))
  clear m0 m1 m2 m3 m4 m5 m6 m7 a0 a1 a2 a3 a4 a5 a6 a7
  generalize set7 w9 w.heap.size (.int .i64 6) (.string ⟨#[]⟩) (.int .i64 0) (.int .i64 i) (.int .i64 0) (.string ⟨#[]⟩) (.string ⟨#[]⟩) = w2_ at *
  obtain ⟨d0, d1, d2, d3, d4, d5, d6, d7⟩ := blk7 S.out
  exact bodyPost_ret (v := .tuple #[.agg #[.int .i64 6, .string ⟨#[]⟩, .int .i64 0, .int .i64 i, .int .i64 0, .string ⟨#[]⟩, .string ⟨#[]⟩], .bool true]) (by simp [results, Try.results13, go_sem, d0, d1, d2, d3, d4, d5, d6]) rfl ⟨rfl, SB.out⟩
set_option maxRecDepth 100000 in
set_option maxHeartbeats 1000000 in
theorem gq_14 (w : World) (A : Option Addr) (c : Nat) (xs : List Int) (k0 i : Int) (hC : (Kd.int .u8).C w A xs.length xs) (hc : xs.length ≤ c) (hby : Bys xs) (h1 : 1 ≤ xs.length) (h42 : ¬ 4200 < xs.length) (hk : rd xs 0 = k0) (k6 : k0 = 6) (h5 : xs.length = 5) (hi : val (sub xs 1 5) = i) (hr : rightB ⟨6, nil8, 0, i, 0, nil8, nil8⟩ = false) : Calls Try.prog 13 #[.slice A xs.length c] w (GotPost w zeroReq false) := by
  have C9 := Aside0.mk (fun w => rightRef_calls w ⟨6, nil8, 0, i, 0, nil8, nil8⟩)
  rw [hr] at C9
  simp only [Rq.cells] at C9
  clear hr
  obtain ⟨ad, rfl, hx0⟩ := Kd.at_int hC 0 (by omega) (by omega)
  rw [hk] at hx0
  have hx : ∀ z, (w.alloc z).cell? ad = some (.int .u8 k0) := fun z => by have h := pw_cell_below (below_alloc (Below.refl _ _) z) hx0; exact h
  have hp0 : (0 : Int) < xs.length := by omega
  have h' : ¬ (xs.length : Int) < 1 := by omega
  have h2' : ¬ 4200 < (xs.length : Int) := by omega
  have hk0 : 0 ≤ k0 ∧ k0 ≤ 255 := by rw [← hk]; exact hby _ (rd_mem xs 0 (by omega))
  obtain ⟨kk0, kk1⟩ := hk0
  have HC := Aside0.mk hC
  clear hx0 hk
  obtain ⟨Ai, hcuti', hAi⟩ := mid (some ad) c xs 1 5 (by omega) (by omega) hc
  have hcuti : ∀ W : World, (Instr.slice 27 (.slice (some ad) xs.length c) (some (.int .i64 1)) (some (.int .i64 5)) none).run Try.prog W = .ok (.slice Ai 4 (c - 1)) W := hcuti'
  have HAi := Aside0.mk (show ∀ W, (Kd.int .u8).C W (some ad) xs.length xs → (Kd.int .u8).C W Ai 4 (sub xs 1 5) from hAi)
  have hsi := sub_length xs 1 5 (by omega)
  have C31i := Aside0.mk (show ∀ (w : World) (hC : (Kd.int .u8).C w Ai 4 (sub xs 1 5)), Calls Try.prog 31 #[.slice Ai 4 (c - 1)] w fun e w' => e = .returned (.int .u64 (val (sub xs 1 5))) ∧ Drawn0 w w' from fun w hC => by have h := value_ref w Ai (c - 1) (sub xs 1 5) (hsi.symm ▸ hC) (by rw [hsi]; omega) (sub_bys hby 1 5) (by rw [hsi]; omega); rw [hsi] at h; exact h)
  rw [hi] at C31i
  have hib := val_u32 xs hby 1 5 (by omega) rfl
  rw [hi] at hib
  obtain ⟨i0, i1⟩ := hib
  have hwi : IntKind.i64.wrap i = i := IntWalk.i64_in _ ⟨by omega, by omega⟩
  subst k6
  have t5 : ((xs.length : Int) == 5) = true := by simp; omega
  have t5b : ((xs.length : Int) != 5) = false := by simp; omega
  have t1 : ((5 : Int) == (xs.length : Int)) = true := by simp; omega
  have t2 : ((5 : Int) != (xs.length : Int)) = false := by simp; omega
  clear hcuti' hAi hsi hi hby hC
  have H5 := Aside0.mk h5
  clear h5
  go_enter Try.func13, Try.ntmps13
  go_wp2_with fail
  refine (C31i.out _ (HAi.out _ (Kd.C_below HC.out (GQ.start w #[.int .i64 6, .string ⟨#[]⟩, .int .i64 0, .int .i64 0, .int .i64 0, .string ⟨#[]⟩, .string ⟨#[]⟩]).b))).mono ?_
  rintro e w1 ⟨rfl, hd⟩
  have g1 : GQ w #[.int .i64 6, .string ⟨#[]⟩, .int .i64 0, .int .i64 0, .int .i64 0, .string ⟨#[]⟩, .string ⟨#[]⟩] w1 := (GQ.start w #[.int .i64 6, .string ⟨#[]⟩, .int .i64 0, .int .i64 0, .int .i64 0, .string ⟨#[]⟩, .string ⟨#[]⟩]).drawn hd
  obtain ⟨a0, a1, a2, a3, a4, a5, a6, a7⟩ := blk7 g1.q
  have G1 := Aside0.mk g1
  clear g1 hd
  go_wp2_with fail
  refine (C9.out _).mono ?_
  rintro e w9 ⟨rfl, hb9⟩
  have g9 : GQ w #[.int .i64 6, .string ⟨#[]⟩, .int .i64 0, .int .i64 i, .int .i64 0, .string ⟨#[]⟩, .string ⟨#[]⟩] w9 := (G1.out.set 3 (.int .i64 i) rfl).below hb9
  clear a0 a1 a2 a3 a4 a5 a6 a7
  obtain ⟨a0, a1, a2, a3, a4, a5, a6, a7⟩ := blk7 g9.q
  obtain ⟨m0, m1, m2, m3, m4, m5, m6, m7⟩ := blk7 g9.r
  have S := Aside0.mk (set7_q g9.r (.int .i64 0) (.string ⟨#[]⟩) (.int .i64 0) (.int .i64 0) (.int .i64 0) (.string ⟨#[]⟩) (.string ⟨#[]⟩))
  have SB := Aside0.mk (set7_b g9.b (Nat.le_refl _) (.int .i64 0) (.string ⟨#[]⟩) (.int .i64 0) (.int .i64 0) (.int .i64 0) (.string ⟨#[]⟩) (.string ⟨#[]⟩))
  clear g9 hb9
  go_wp2_with fail
  change bodyPost Try.prog Try.f13 _ Exit.ret _ (set7 w9 w.heap.size (.int .i64 0) (.string ⟨#[]⟩) (.int .i64 0) (.int .i64 0) (.int .i64 0) (.string ⟨#[]⟩) (.string ⟨#[]⟩))
  clear m0 m1 m2 m3 m4 m5 m6 m7 a0 a1 a2 a3 a4 a5 a6 a7
  generalize set7 w9 w.heap.size (.int .i64 0) (.string ⟨#[]⟩) (.int .i64 0) (.int .i64 0) (.int .i64 0) (.string ⟨#[]⟩) (.string ⟨#[]⟩) = w2_ at *
  obtain ⟨d0, d1, d2, d3, d4, d5, d6, d7⟩ := blk7 S.out
  exact bodyPost_ret (v := .tuple #[.agg #[.int .i64 0, .string ⟨#[]⟩, .int .i64 0, .int .i64 0, .int .i64 0, .string ⟨#[]⟩, .string ⟨#[]⟩], .bool false]) (by simp [results, Try.results13, go_sem, d0, d1, d2, d3, d4, d5, d6]) rfl ⟨rfl, SB.out⟩
set_option maxRecDepth 100000 in
set_option maxHeartbeats 1000000 in
theorem gq_15 (w : World) (A : Option Addr) (c : Nat) (xs : List Int) (k0 : Int) (hC : (Kd.int .u8).C w A xs.length xs) (hc : xs.length ≤ c) (hby : Bys xs) (h1 : 1 ≤ xs.length) (h42 : ¬ 4200 < xs.length) (hk : rd xs 0 = k0) (k6 : k0 = 6) (h5 : ¬ xs.length = 5) (hne : ¬ 1 = xs.length) : Calls Try.prog 13 #[.slice A xs.length c] w (GotPost w zeroReq false) := by
  obtain ⟨ad, rfl, hx0⟩ := Kd.at_int hC 0 (by omega) (by omega)
  rw [hk] at hx0
  have hx : ∀ z, (w.alloc z).cell? ad = some (.int .u8 k0) := fun z => by have h := pw_cell_below (below_alloc (Below.refl _ _) z) hx0; exact h
  have hp0 : (0 : Int) < xs.length := by omega
  have h' : ¬ (xs.length : Int) < 1 := by omega
  have h2' : ¬ 4200 < (xs.length : Int) := by omega
  have hk0 : 0 ≤ k0 ∧ k0 ≤ 255 := by rw [← hk]; exact hby _ (rd_mem xs 0 (by omega))
  obtain ⟨kk0, kk1⟩ := hk0
  have HC := Aside0.mk hC
  clear hx0 hk
  subst k6
  have t5 : ((xs.length : Int) == 5) = false := by simp; omega
  have t5b : ((xs.length : Int) != 5) = true := by simp; omega
  clear h5 hby
  have t1 : ((1 : Int) == (xs.length : Int)) = false := by simp; omega
  have t2 : ((1 : Int) != (xs.length : Int)) = true := by simp; omega
  clear hne hC
  go_enter Try.func13, Try.ntmps13
  go_wp2_with fail
  exact bodyPost_ret (v := .tuple #[.agg zeroReq.cells, .bool false]) (by simp [results, Try.results13, go_sem, zeroReq, Rq.cells, nil8]) rfl ⟨rfl, by repeat (first | exact Below.refl _ _ | apply below_alloc | apply pw_below_drewN | apply below_drew1)⟩
set_option maxRecDepth 100000 in
set_option maxHeartbeats 1000000 in
theorem gq_16 (w : World) (A : Option Addr) (c : Nat) (xs : List Int) (k0 : Int) (hC : (Kd.int .u8).C w A xs.length xs) (hc : xs.length ≤ c) (hby : Bys xs) (h1 : 1 ≤ xs.length) (h42 : ¬ 4200 < xs.length) (hk : rd xs 0 = k0) (k6 : k0 = 6) (h5 : ¬ xs.length = 5) (heq : 1 = xs.length) : Calls Try.prog 13 #[.slice A xs.length c] w (GotPost w zeroReq false) := by
  obtain ⟨ad, rfl, hx0⟩ := Kd.at_int hC 0 (by omega) (by omega)
  rw [hk] at hx0
  have hx : ∀ z, (w.alloc z).cell? ad = some (.int .u8 k0) := fun z => by have h := pw_cell_below (below_alloc (Below.refl _ _) z) hx0; exact h
  have hp0 : (0 : Int) < xs.length := by omega
  have h' : ¬ (xs.length : Int) < 1 := by omega
  have h2' : ¬ 4200 < (xs.length : Int) := by omega
  have hk0 : 0 ≤ k0 ∧ k0 ≤ 255 := by rw [← hk]; exact hby _ (rd_mem xs 0 (by omega))
  obtain ⟨kk0, kk1⟩ := hk0
  have HC := Aside0.mk hC
  clear hx0 hk
  subst k6
  have t5 : ((xs.length : Int) == 5) = false := by simp; omega
  have t5b : ((xs.length : Int) != 5) = true := by simp; omega
  clear h5 hby
  have t1 : ((1 : Int) == (xs.length : Int)) = true := by simp; omega
  have t2 : ((1 : Int) != (xs.length : Int)) = false := by simp; omega
  clear heq hC
  go_enter Try.func13, Try.ntmps13
  go_wp2_with fail
  exact bodyPost_ret (v := .tuple #[.agg zeroReq.cells, .bool false]) (by simp [results, Try.results13, go_sem, zeroReq, Rq.cells, nil8]) rfl ⟨rfl, by repeat (first | exact Below.refl _ _ | apply below_alloc | apply pw_below_drewN | apply below_drew1)⟩
set_option maxRecDepth 100000 in
set_option maxHeartbeats 1000000 in
theorem gq_17 (w : World) (A : Option Addr) (c : Nat) (xs : List Int) (k0 : Int) (hC : (Kd.int .u8).C w A xs.length xs) (hc : xs.length ≤ c) (hby : Bys xs) (h1 : 1 ≤ xs.length) (h42 : ¬ 4200 < xs.length) (hk : rd xs 0 = k0) (k2 : ¬ k0 = 2) (k3 : ¬ k0 = 3) (k6 : ¬ k0 = 6) (hne : ¬ 1 = xs.length) : Calls Try.prog 13 #[.slice A xs.length c] w (GotPost w zeroReq false) := by
  obtain ⟨ad, rfl, hx0⟩ := Kd.at_int hC 0 (by omega) (by omega)
  rw [hk] at hx0
  have hx : ∀ z, (w.alloc z).cell? ad = some (.int .u8 k0) := fun z => by have h := pw_cell_below (below_alloc (Below.refl _ _) z) hx0; exact h
  have hp0 : (0 : Int) < xs.length := by omega
  have h' : ¬ (xs.length : Int) < 1 := by omega
  have h2' : ¬ 4200 < (xs.length : Int) := by omega
  have hk0 : 0 ≤ k0 ∧ k0 ≤ 255 := by rw [← hk]; exact hby _ (rd_mem xs 0 (by omega))
  obtain ⟨kk0, kk1⟩ := hk0
  have HC := Aside0.mk hC
  clear hx0 hk
  have b2 : (k0 == 2) = false := by simpa using k2
  have b3 : (k0 == 3) = false := by simpa using k3
  have b6 : (k0 == 6) = false := by simpa using k6
  clear hby
  have t1 : ((1 : Int) == (xs.length : Int)) = false := by simp; omega
  have t2 : ((1 : Int) != (xs.length : Int)) = true := by simp; omega
  clear hne hC
  go_enter Try.func13, Try.ntmps13
  go_wp2_with fail
  exact bodyPost_ret (v := .tuple #[.agg zeroReq.cells, .bool false]) (by simp [results, Try.results13, go_sem, zeroReq, Rq.cells, nil8]) rfl ⟨rfl, by repeat (first | exact Below.refl _ _ | apply below_alloc | apply pw_below_drewN | apply below_drew1)⟩
set_option maxRecDepth 100000 in
set_option maxHeartbeats 1000000 in
theorem gq_18 (w : World) (A : Option Addr) (c : Nat) (xs : List Int) (k0 : Int) (hC : (Kd.int .u8).C w A xs.length xs) (hc : xs.length ≤ c) (hby : Bys xs) (h1 : 1 ≤ xs.length) (h42 : ¬ 4200 < xs.length) (hk : rd xs 0 = k0) (k2 : ¬ k0 = 2) (k3 : ¬ k0 = 3) (k6 : ¬ k0 = 6) (heq : 1 = xs.length) (hr : rightB ⟨k0, nil8, 0, 0, 0, nil8, nil8⟩ = true) : Calls Try.prog 13 #[.slice A xs.length c] w (GotPost w ⟨k0, nil8, 0, 0, 0, nil8, nil8⟩ true) := by
  have C9 := Aside0.mk (fun w => rightRef_calls w ⟨k0, nil8, 0, 0, 0, nil8, nil8⟩)
  rw [hr] at C9
  simp only [Rq.cells] at C9
  clear hr
  obtain ⟨ad, rfl, hx0⟩ := Kd.at_int hC 0 (by omega) (by omega)
  rw [hk] at hx0
  have hx : ∀ z, (w.alloc z).cell? ad = some (.int .u8 k0) := fun z => by have h := pw_cell_below (below_alloc (Below.refl _ _) z) hx0; exact h
  have hp0 : (0 : Int) < xs.length := by omega
  have h' : ¬ (xs.length : Int) < 1 := by omega
  have h2' : ¬ 4200 < (xs.length : Int) := by omega
  have hk0 : 0 ≤ k0 ∧ k0 ≤ 255 := by rw [← hk]; exact hby _ (rd_mem xs 0 (by omega))
  obtain ⟨kk0, kk1⟩ := hk0
  have HC := Aside0.mk hC
  clear hx0 hk
  have b2 : (k0 == 2) = false := by simpa using k2
  have b3 : (k0 == 3) = false := by simpa using k3
  have b6 : (k0 == 6) = false := by simpa using k6
  clear hby
  have t1 : ((1 : Int) == (xs.length : Int)) = true := by simp; omega
  have t2 : ((1 : Int) != (xs.length : Int)) = false := by simp; omega
  clear heq hC
  go_enter Try.func13, Try.ntmps13
  go_wp2_with fail
  refine (C9.out _).mono ?_
  rintro e w9 ⟨rfl, hb9⟩
  have g9 : GQ w #[.int .i64 k0, .string ⟨#[]⟩, .int .i64 0, .int .i64 0, .int .i64 0, .string ⟨#[]⟩, .string ⟨#[]⟩] w9 := (GQ.start w #[.int .i64 k0, .string ⟨#[]⟩, .int .i64 0, .int .i64 0, .int .i64 0, .string ⟨#[]⟩, .string ⟨#[]⟩]).below hb9
  obtain ⟨a0, a1, a2, a3, a4, a5, a6, a7⟩ := blk7 g9.q
  obtain ⟨m0, m1, m2, m3, m4, m5, m6, m7⟩ := blk7 g9.r
  have S := Aside0.mk (set7_q g9.r (.int .i64 k0) (.string ⟨#[]⟩) (.int .i64 0) (.int .i64 0) (.int .i64 0) (.string ⟨#[]⟩) (.string ⟨#[]⟩))
  have SB := Aside0.mk (set7_b g9.b (Nat.le_refl _) (.int .i64 k0) (.string ⟨#[]⟩) (.int .i64 0) (.int .i64 0) (.int .i64 0) (.string ⟨#[]⟩) (.string ⟨#[]⟩))
  clear g9 hb9
  go_wp2_with fail
  change bodyPost Try.prog Try.f13 _ Exit.ret _ (set7 w9 w.heap.size (.int .i64 k0) (.string ⟨#[]⟩) (.int .i64 0) (.int .i64 0) (.int .i64 0) (.string ⟨#[]⟩) (.string ⟨#[]⟩))
  clear m0 m1 m2 m3 m4 m5 m6 m7 a0 a1 a2 a3 a4 a5 a6 a7
  generalize set7 w9 w.heap.size (.int .i64 k0) (.string ⟨#[]⟩) (.int .i64 0) (.int .i64 0) (.int .i64 0) (.string ⟨#[]⟩) (.string ⟨#[]⟩) = w2_ at *
  obtain ⟨d0, d1, d2, d3, d4, d5, d6, d7⟩ := blk7 S.out
  exact bodyPost_ret (v := .tuple #[.agg #[.int .i64 k0, .string ⟨#[]⟩, .int .i64 0, .int .i64 0, .int .i64 0, .string ⟨#[]⟩, .string ⟨#[]⟩], .bool true]) (by simp [results, Try.results13, go_sem, d0, d1, d2, d3, d4, d5, d6]) rfl ⟨rfl, SB.out⟩
set_option maxRecDepth 100000 in
set_option maxHeartbeats 1000000 in
theorem gq_19 (w : World) (A : Option Addr) (c : Nat) (xs : List Int) (k0 : Int) (hC : (Kd.int .u8).C w A xs.length xs) (hc : xs.length ≤ c) (hby : Bys xs) (h1 : 1 ≤ xs.length) (h42 : ¬ 4200 < xs.length) (hk : rd xs 0 = k0) (k2 : ¬ k0 = 2) (k3 : ¬ k0 = 3) (k6 : ¬ k0 = 6) (heq : 1 = xs.length) (hr : rightB ⟨k0, nil8, 0, 0, 0, nil8, nil8⟩ = false) : Calls Try.prog 13 #[.slice A xs.length c] w (GotPost w zeroReq false) := by
  have C9 := Aside0.mk (fun w => rightRef_calls w ⟨k0, nil8, 0, 0, 0, nil8, nil8⟩)
  rw [hr] at C9
  simp only [Rq.cells] at C9
  clear hr
  obtain ⟨ad, rfl, hx0⟩ := Kd.at_int hC 0 (by omega) (by omega)
  rw [hk] at hx0
  have hx : ∀ z, (w.alloc z).cell? ad = some (.int .u8 k0) := fun z => by have h := pw_cell_below (below_alloc (Below.refl _ _) z) hx0; exact h
  have hp0 : (0 : Int) < xs.length := by omega
  have h' : ¬ (xs.length : Int) < 1 := by omega
  have h2' : ¬ 4200 < (xs.length : Int) := by omega
  have hk0 : 0 ≤ k0 ∧ k0 ≤ 255 := by rw [← hk]; exact hby _ (rd_mem xs 0 (by omega))
  obtain ⟨kk0, kk1⟩ := hk0
  have HC := Aside0.mk hC
  clear hx0 hk
  have b2 : (k0 == 2) = false := by simpa using k2
  have b3 : (k0 == 3) = false := by simpa using k3
  have b6 : (k0 == 6) = false := by simpa using k6
  clear hby
  have t1 : ((1 : Int) == (xs.length : Int)) = true := by simp; omega
  have t2 : ((1 : Int) != (xs.length : Int)) = false := by simp; omega
  clear heq hC
  go_enter Try.func13, Try.ntmps13
  go_wp2_with fail
  refine (C9.out _).mono ?_
  rintro e w9 ⟨rfl, hb9⟩
  have g9 : GQ w #[.int .i64 k0, .string ⟨#[]⟩, .int .i64 0, .int .i64 0, .int .i64 0, .string ⟨#[]⟩, .string ⟨#[]⟩] w9 := (GQ.start w #[.int .i64 k0, .string ⟨#[]⟩, .int .i64 0, .int .i64 0, .int .i64 0, .string ⟨#[]⟩, .string ⟨#[]⟩]).below hb9
  obtain ⟨a0, a1, a2, a3, a4, a5, a6, a7⟩ := blk7 g9.q
  obtain ⟨m0, m1, m2, m3, m4, m5, m6, m7⟩ := blk7 g9.r
  have S := Aside0.mk (set7_q g9.r (.int .i64 0) (.string ⟨#[]⟩) (.int .i64 0) (.int .i64 0) (.int .i64 0) (.string ⟨#[]⟩) (.string ⟨#[]⟩))
  have SB := Aside0.mk (set7_b g9.b (Nat.le_refl _) (.int .i64 0) (.string ⟨#[]⟩) (.int .i64 0) (.int .i64 0) (.int .i64 0) (.string ⟨#[]⟩) (.string ⟨#[]⟩))
  clear g9 hb9
  go_wp2_with fail
  change bodyPost Try.prog Try.f13 _ Exit.ret _ (set7 w9 w.heap.size (.int .i64 0) (.string ⟨#[]⟩) (.int .i64 0) (.int .i64 0) (.int .i64 0) (.string ⟨#[]⟩) (.string ⟨#[]⟩))
  clear m0 m1 m2 m3 m4 m5 m6 m7 a0 a1 a2 a3 a4 a5 a6 a7
  generalize set7 w9 w.heap.size (.int .i64 0) (.string ⟨#[]⟩) (.int .i64 0) (.int .i64 0) (.int .i64 0) (.string ⟨#[]⟩) (.string ⟨#[]⟩) = w2_ at *
  obtain ⟨d0, d1, d2, d3, d4, d5, d6, d7⟩ := blk7 S.out
  exact bodyPost_ret (v := .tuple #[.agg #[.int .i64 0, .string ⟨#[]⟩, .int .i64 0, .int .i64 0, .int .i64 0, .string ⟨#[]⟩, .string ⟨#[]⟩], .bool false]) (by simp [results, Try.results13, go_sem, d0, d1, d2, d3, d4, d5, d6]) rfl ⟨rfl, SB.out⟩
theorem sub_take (xs : List Int) (a b n : Nat) (h : a + n = b) : sub xs a b = (xs.drop a).take n := by
  rw [sub_eq xs a b (by omega)]; congr 1; omega
theorem numP_at (xs : List Int) (a n b : Nat) (h : a + n = b) (hb : b ≤ xs.length) : numP n (xs.drop a) = some (val (sub xs a b), xs.drop b) := by
  rw [numP, if_neg (by rw [List.length_drop]; omega), sub_take xs a b n h, List.drop_drop, h]
theorem numP_short (xs : List Int) (a n : Nat) (hb : xs.length < a + n) (ha : a ≤ xs.length) : numP n (xs.drop a) = none := by
  rw [numP, if_pos (by rw [List.length_drop]; omega)]
theorem val_one (xs : List Int) (a : Nat) (h : a < xs.length) : val (sub xs a (a + 1)) = rd xs (a : Int) := by
  have e : rd xs (a : Int) = xs[a] := by simp [rd, List.getD_eq_getElem?_getD, h]
  rw [sub_take xs a (a + 1) 1 rfl, List.drop_eq_getElem_cons h, List.take_succ_cons, List.take_zero, e]
  simp [val]
theorem textP_rest {l r : List Int} {s : ByteArray} (h : textP l = some (s, r)) : r = l.drop (l.length - r.length) ∧ r.length + 2 ≤ l.length := by
  simp only [textP] at h
  split at h
  · cases h
  · rename_i hn
    cases h
    refine ⟨?_, by rw [List.length_drop]; omega⟩
    rw [List.length_drop]
    congr 1
    omega
theorem got_hi (xs : List Int) (h : 4200 < xs.length) : getReq xs = (zeroReq, 61) := by
  rw [getReq, readReq, if_pos h]; rfl
theorem got_none (xs : List Int) (h : parseReq xs = none) : getReq xs = (zeroReq, 61) := by
  rw [getReq, readReq, h]; split <;> rfl
theorem got_more (xs r : List Int) (q : Rq) (h : parseReq xs = some (q, r)) (hr : ¬ r = []) : getReq xs = (zeroReq, 61) := by
  rw [getReq, readReq, h]
  cases r with
  | nil => exact absurd rfl hr
  | cons a r => split <;> rfl
theorem got_all (xs : List Int) (q : Rq) (hl : ¬ 4200 < xs.length) (h : parseReq xs = some (q, [])) : getReq xs = if rightB q = true then (q, 0) else (zeroReq, 61) := by
  rw [getReq, readReq, h, if_neg hl]; rfl
theorem gotReq_calls (w : World) (A : Option Addr) (c : Nat) (xs : List Int) (hC : (Kd.int .u8).C w A xs.length xs) (hc : xs.length ≤ c) (hby : Bys xs) :
    Calls Try.prog 13 #[.slice A xs.length c] w (GotPost w (getReq xs).1 ((getReq xs).2 == 0)) := by
  by_cases h0 : xs.length < 1
  · rw [got_none xs (by rw [parseReq, show xs = [] from List.length_eq_zero_iff.mp (by omega)]; rfl)]
    exact gq_1 w A c xs h0
  by_cases h42 : 4200 < xs.length
  · rw [got_hi xs h42]; exact gq_2 w A c xs h42
  have h1 : 1 ≤ xs.length := by omega
  have P0 : numP 1 xs = some (rd xs 0, xs.drop 1) := by
    have h := numP_at xs 0 1 1 rfl h1
    rw [List.drop_zero, val_one xs 0 (by omega)] at h
    exact h
  have hZ : ∀ {x : Rq × Int}, x = (zeroReq, 61) → Calls Try.prog 13 #[.slice A xs.length c] w (GotPost w zeroReq false) → Calls Try.prog 13 #[.slice A xs.length c] w (GotPost w x.1 (x.2 == 0)) := by
    rintro _ rfl h; exact h
  have hQ : ∀ (q : Rq), getReq xs = (if rightB q = true then (q, 0) else (zeroReq, 61)) → (rightB q = true → Calls Try.prog 13 #[.slice A xs.length c] w (GotPost w q true)) → (rightB q = false → Calls Try.prog 13 #[.slice A xs.length c] w (GotPost w zeroReq false)) → Calls Try.prog 13 #[.slice A xs.length c] w (GotPost w (getReq xs).1 ((getReq xs).2 == 0)) := by
    intro q e h1 h2
    rw [e]
    cases hr : rightB q with
    | true => exact h1 hr
    | false => exact h2 hr
  by_cases k2 : rd xs 0 = 2
  · have e : parseReq xs = match textP (xs.drop 1) with | none => none | some (s, x2) => some (⟨2, s, 0, 0, 0, nil8, nil8⟩, x2) := by
      rw [parseReq, P0]; simp only [k2, if_true]; rfl
    cases ht : textP (xs.drop 1) with
    | none =>
      rw [ht] at e
      exact hZ (got_none xs e) (gq_3 w A c xs _ nil8 (-1) hC hc hby h1 h42 rfl k2 (by rw [wordsAt, ht]) (by omega))
    | some sr =>
      obtain ⟨s, r⟩ := sr
      rw [ht] at e
      have hw : wordsAt xs 1 = (s, (xs.length : Int) - r.length) := by rw [wordsAt, ht]
      by_cases hr : r = []
      · subst hr
        have he : (xs.length : Int) - ([] : List Int).length = xs.length := by simp
        exact hQ _ (got_all xs _ h42 e) (fun hb => gq_4 w A c xs _ s _ hC hc hby h1 h42 rfl k2 hw he hb) (fun hb => gq_5 w A c xs _ s _ hC hc hby h1 h42 rfl k2 hw he hb)
      · have : 0 < r.length := List.length_pos_iff.mpr hr
        exact hZ (got_more xs r _ e hr) (gq_3 w A c xs _ s _ hC hc hby h1 h42 rfl k2 hw (by omega))
  by_cases k3 : rd xs 0 = 3
  · have e : parseReq xs = match numP 1 (xs.drop 1) with | none => none | some (o, x2) => match numP 4 x2 with | none => none | some (i, x3) => match numP 4 x3 with | none => none | some (p, x4) => match textP x4 with | none => none | some (nm, x5) => match textP x5 with | none => none | some (os, x6) => some (⟨3, nil8, o, i, p, nm, os⟩, x6) := by
      rw [parseReq, P0]; simp only [k3, show ¬ (3 : Int) = 2 by decide, if_false, if_true]; rfl
    by_cases h10 : xs.length < 10
    · have en : parseReq xs = none := by
        rw [e]
        by_cases a2 : xs.length < 2
        · rw [numP_short xs 1 1 a2 h1]
        rw [numP_at xs 1 1 2 rfl (by omega)]
        simp only []
        by_cases a6 : xs.length < 6
        · rw [numP_short xs 2 4 a6 (by omega)]
        rw [numP_at xs 2 4 6 rfl (by omega)]
        simp only []
        rw [numP_short xs 6 4 h10 (by omega)]
      by_cases l1 : 1 = xs.length
      · exact hZ (got_none xs en) (gq_7 w A c xs _ hC hc hby h1 h42 rfl k3 h10 l1)
      · exact hZ (got_none xs en) (gq_6 w A c xs _ hC hc hby h1 h42 rfl k3 h10 l1)
    have h10' : 10 ≤ xs.length := by omega
    rw [numP_at xs 1 1 2 rfl (by omega)] at e
    simp only [] at e
    rw [numP_at xs 2 4 6 rfl (by omega)] at e
    simp only [] at e
    rw [numP_at xs 6 4 10 rfl (by omega)] at e
    simp only [] at e
    have ho : rd xs 1 = val (sub xs 1 2) := (val_one xs 1 (by omega)).symm
    cases ht : textP (xs.drop 10) with
    | none =>
      rw [ht] at e
      exact hZ (got_none xs e) (gq_8 w A c xs _ _ _ _ nil8 nil8 (-1) 0 hC hc hby h1 h42 rfl k3 h10' ho rfl rfl (by rw [wordsAt, ht]) (by omega))
    | some sr =>
      obtain ⟨nm, r⟩ := sr
      rw [ht] at e
      simp only [] at e
      obtain ⟨hrr, hrl⟩ := textP_rest ht
      rw [List.length_drop] at hrl hrr
      rw [List.drop_drop, show 10 + (xs.length - 10 - r.length) = xs.length - r.length by omega] at hrr
      have hw : wordsAt xs 10 = (nm, (xs.length : Int) - r.length) := by rw [wordsAt, ht]
      have hmm : (xs.length : Int) - r.length = ((xs.length - r.length : Nat) : Int) := by omega
      cases ht2 : textP r with
      | none =>
        rw [ht2] at e
        have hw2 : wordsAt xs (xs.length - r.length) = (nil8, -1) := by rw [wordsAt, ← hrr, ht2]
        exact hZ (got_none xs e) (gq_9 w A c xs _ _ _ _ nm nil8 _ (-1) hC hc hby h1 h42 rfl k3 h10' ho rfl rfl hw (by omega) (xs.length - r.length) hmm (by omega) hw2 (by omega))
      | some sr2 =>
        obtain ⟨os, r2⟩ := sr2
        rw [ht2] at e
        simp only [] at e
        obtain ⟨_, hrl2⟩ := textP_rest ht2
        have hw2 : wordsAt xs (xs.length - r.length) = (os, (xs.length : Int) - r2.length) := by rw [wordsAt, ← hrr, ht2]
        by_cases hr : r2 = []
        · subst hr
          have he : (xs.length : Int) - ([] : List Int).length = xs.length := by simp
          have h14 : ¬ xs.length < 14 := by simp at hrl2; omega
          exact hQ _ (got_all xs _ h42 e) (fun hb => gq_11 w A c xs _ _ _ _ nm os _ _ hC hc hby h1 h42 rfl k3 h10' ho rfl rfl hw (by omega) (xs.length - r.length) hmm (by omega) hw2 he h14 hb) (fun hb => gq_12 w A c xs _ _ _ _ nm os _ _ hC hc hby h1 h42 rfl k3 h10' ho rfl rfl hw (by omega) (xs.length - r.length) hmm (by omega) hw2 he h14 hb)
        · have : 0 < r2.length := List.length_pos_iff.mpr hr
          exact hZ (got_more xs r2 _ e hr) (gq_9 w A c xs _ _ _ _ nm os _ _ hC hc hby h1 h42 rfl k3 h10' ho rfl rfl hw (by omega) (xs.length - r.length) hmm (by omega) hw2 (by omega))
  by_cases k6 : rd xs 0 = 6
  · have e : parseReq xs = match numP 4 (xs.drop 1) with | none => none | some (i, x2) => some (⟨6, nil8, 0, i, 0, nil8, nil8⟩, x2) := by
      rw [parseReq, P0]; simp only [k6, show ¬ (6 : Int) = 2 by decide, show ¬ (6 : Int) = 3 by decide, if_false, if_true]; rfl
    by_cases h5 : xs.length = 5
    · rw [numP_at xs 1 4 5 rfl (by omega), show xs.drop 5 = [] from List.drop_eq_nil_of_le (by omega)] at e
      simp only [] at e
      exact hQ _ (got_all xs _ h42 e) (fun hb => gq_13 w A c xs _ _ hC hc hby h1 h42 rfl k6 h5 rfl hb) (fun hb => gq_14 w A c xs _ _ hC hc hby h1 h42 rfl k6 h5 rfl hb)
    have en : getReq xs = (zeroReq, 61) := by
      by_cases l5 : xs.length < 5
      · rw [numP_short xs 1 4 l5 h1] at e
        exact got_none xs e
      · rw [numP_at xs 1 4 5 rfl (by omega)] at e
        simp only [] at e
        exact got_more xs _ _ e (fun h => by have := congrArg List.length h; rw [List.length_drop] at this; simp at this; omega)
    by_cases l1 : 1 = xs.length
    · exact hZ en (gq_16 w A c xs _ hC hc hby h1 h42 rfl k6 h5 l1)
    · exact hZ en (gq_15 w A c xs _ hC hc hby h1 h42 rfl k6 h5 l1)
  have e : parseReq xs = some (⟨rd xs 0, nil8, 0, 0, 0, nil8, nil8⟩, xs.drop 1) := by
    rw [parseReq, P0]; simp only [k2, k3, k6, if_false]
  by_cases l1 : 1 = xs.length
  · rw [show xs.drop 1 = [] from List.drop_eq_nil_of_le (by omega)] at e
    exact hQ _ (got_all xs _ h42 e) (fun hb => gq_18 w A c xs _ hC hc hby h1 h42 rfl k2 k3 k6 l1 hb) (fun hb => gq_19 w A c xs _ hC hc hby h1 h42 rfl k2 k3 k6 l1 hb)
  · exact hZ (got_more xs _ _ e (fun h => by have := congrArg List.length h; rw [List.length_drop] at this; simp at this; omega)) (gq_17 w A c xs _ hC hc hby h1 h42 rfl k2 k3 k6 l1)
end Go.Proofs.Ythkdihpbdaehbaa.Pr
namespace Go.Proofs.Ythkdihpbdaehbaa.PS
open Go.RowKit Go.Proofs.YthkdihpbdaehbaaW.PrintWords Go.Proofs.YthkdihpbdaehbaaW.PrintLast Go.Proofs.YthkdihpbdaehbaaW.PrintMore
attribute [local go_sem] max2_int min2_int max_two min_two max_three min_three max_four min_four
set_option linter.unusedVariables false
set_option linter.unusedSimpArgs false
theorem eqA40 (d : Nat) (w : World) (x0 y0 : Int) (x1 y1 : Int) :
    (Op.equalIn (d + 2) 40 (.agg #[.int .i64 x0, .int .i64 x1]) (.agg #[.int .i64 y0, .int .i64 y1])).run Try.prog w = .ok (x0 == y0 && (x1 == y1)) w := by
  refine eqA_of Try.underlying40 (by kernel_rfl) ?_
  refine eqf_cons (by rfl) (by go_simp; rfl) (by go_simp; rfl) (by go_simp) ?_
  exact eqf_last (by rfl) (by go_simp; rfl) (by go_simp; rfl) (by go_simp)
attribute [local go_sem high] eqA40
def breviaryref09_Ints.l0 : Nat → List Int → List Int → Int → Option (Bool)
  | 0, _, _, _ => none
  | k + 1, x0, x1, x5 => if x5 < (x0.length : Int) then (if 0 ≤ x5 then (if x5 < (x1.length : Int) then (if (rd x0 x5) = (rd x1 x5) then (breviaryref09_Ints.l0 k x0 x1 (wrap64 (x5 + 1))) else (some false)) else (none)) else (none)) else (some true)
def breviaryref09_Ints.f (k : Nat) (l0 : List Int) (l1 : List Int) : Option (Bool) := if (l0.length : Int) = (l1.length : Int) then (breviaryref09_Ints.l0 k l0 l1 0) else (some false)
theorem breviaryref09_Ints.mono_l : ∀ k, (∀ y0 y1 y2, LeO (breviaryref09_Ints.l0 k y0 y1 y2) (breviaryref09_Ints.l0 (k + 1) y0 y1 y2))
  | 0 => fun _ _ _ r h => by simp [breviaryref09_Ints.l0] at h
  | k + 1 => by
    have ih0 := breviaryref09_Ints.mono_l k
    · intro y0 y1 y2
      unfold breviaryref09_Ints.l0
      repeat' first
      | (with_reducible exact ih0 _ _ _)
      | (with_reducible exact LeO.refl _)
      | (with_reducible exact LeO.none _)
      | (with_reducible refine LeO.ite ?_ ?_)
      | (with_reducible refine LeO.bind ?_ (fun _ => ?_))
      | exact ih0 _ _ _
      | exact LeO.none _
      | refine LeO.ite ?_ ?_
      | refine LeO.bind ?_ (fun _ => ?_)
theorem breviaryref09_Ints.mono : ∀ a0 a1 k, LeO (breviaryref09_Ints.f k a0 a1) (breviaryref09_Ints.f (k + 1) a0 a1) := by
  intro a0 a1 k
  have ih0 := breviaryref09_Ints.mono_l k
  unfold breviaryref09_Ints.f
  repeat' first
      | (with_reducible exact ih0 _ _ _)
      | (with_reducible exact LeO.refl _)
      | (with_reducible exact LeO.none _)
      | (with_reducible refine LeO.ite ?_ ?_)
      | (with_reducible refine LeO.bind ?_ (fun _ => ?_))
      | exact ih0 _ _ _
      | exact LeO.none _
      | refine LeO.ite ?_ ?_
      | refine LeO.bind ?_ (fun _ => ?_)
set_option maxHeartbeats 8000000 in
set_option maxRecDepth 100000 in
theorem breviaryref09_Ints.calls (k : Nat) (A0 : Option Addr) (c0 : Nat) (l0 : List Int) (A1 : Option Addr) (c1 : Nat) (l1 : List Int) (r : Bool) (w : World) (hr0 : Kd.C (Kd.int .i64) w A0 l0.length l0) (hc0 : l0.length ≤ c0) (hr1 : Kd.C (Kd.int .i64) w A1 l1.length l1) (hc1 : l1.length ≤ c1) (h : breviaryref09_Ints.f k l0 l1 = some r) :
    Calls Try.prog 44 #[.slice A0 l0.length c0, .slice A1 l1.length c1] w fun e w' => e = .returned (.bool r) ∧ Drawn0 w w' := by
  have HR0 := Aside0.mk hr0
  have HC0 := Aside0.mk hc0
  clear hr0 hc0
  have HR1 := Aside0.mk hr1
  have HC1 := Aside0.mk hc1
  clear hr1 hc1
  have H : (if (l0.length : Int) = (l1.length : Int) then (breviaryref09_Ints.l0 k l0 l1 0) else (some false)) = some r := h
  clear h
  by_cases c3 : (l0.length : Int) = (l1.length : Int)
  · rw [if_pos c3] at H
    have c3b0 : ((l0.length : Int) == (l1.length : Int)) = true := beq_iff_eq.mpr c3
    have c3b1 : ((l0.length : Int) != (l1.length : Int)) = false := bne_eq_false_iff_eq.mpr c3
    have c3b2 : (l0.length == l1.length) = true := by first | simpa using c3 | (simp at c3 ⊢; omega)
    clear c3
    have H' := Aside0.mk H
    clear H
    go_enter Try.func44, Try.ntmps44
    go_wp2
    repeat (go_quiet (fail); try go_wp2)
    go_loopg [5] k (fun kq v5 w' => ∃ (x5_1 : Int), v5 = .int .i64 x5_1 ∧ Aside0 (breviaryref09_Ints.l0 kq l0 l1 x5_1 = some r) ∧ Aside0 (kq ≤ k) ∧ Drawn0 w w')
    case atStart => exact ⟨(0), (by first | rfl | (simp; done) | (simp [*]; done)), H', ⟨Nat.le_refl _⟩, by repeat (first | exact Drawn0.refl _ | apply Drawn0.step)⟩
    case round =>
      clear H'
      try clear c1
      try clear p2
      try clear c3
      try clear c3b0
      try clear c3b1
      try clear c3b2
      obtain ⟨x5_1, rfl, HA, HK1, ⟨m1, rfl⟩⟩ := hrel
      cases gk with
      | zero => exact absurd HA.out (by simp [breviaryref09_Ints.l0])
      | succ k1 =>
        have H := HA.out
        clear HA
        simp only [breviaryref09_Ints.l0] at H
        by_cases c4 : x5_1 < (l0.length : Int)
        · rw [if_pos c4] at H
          have c4b0 : decide (x5_1 < (l0.length : Int)) = true := decide_eq_true c4
          clear c4
          by_cases c5 : 0 ≤ x5_1
          · rw [if_pos c5] at H
            have c5b0 : decide (0 ≤ x5_1) = true := decide_eq_true c5
            clear c5
            by_cases c6 : x5_1 < (l1.length : Int)
            · rw [if_pos c6] at H
              have c6b0 : decide (x5_1 < (l1.length : Int)) = true := decide_eq_true c6
              clear c6
              by_cases c7 : (rd l0 x5_1) = (rd l1 x5_1)
              · rw [if_pos c7] at H
                have c7b0 : ((rd l0 x5_1) == (rd l1 x5_1)) = true := beq_iff_eq.mpr c7
                have c7b1 : ((rd l0 x5_1) != (rd l1 x5_1)) = false := bne_eq_false_iff_eq.mpr c7
                clear c7
                have H' := Aside0.mk H
                clear H
                have p119 : 0 ≤ (x5_1 : Int) := of_decide_eq_true (by first | (with_reducible assumption) | assumption)
                have q119 : x5_1 < (l0.length : Int) := of_decide_eq_true (by first | (with_reducible assumption) | assumption)
                obtain ⟨ad119, e119, hx119_0⟩ := Kd.at_int HR0.out x5_1 p119 q119
                cases e119
                replace p119 := eq_true p119
                replace q119 := eq_true q119
                have p120 : 0 ≤ (x5_1 : Int) := of_decide_eq_true (by first | (with_reducible assumption) | assumption)
                have q120 : x5_1 < (l1.length : Int) := of_decide_eq_true (by first | (with_reducible assumption) | assumption)
                obtain ⟨ad120, e120, hx120_0⟩ := Kd.at_int HR1.out x5_1 p120 q120
                cases e120
                replace p120 := eq_true p120
                replace q120 := eq_true q120
                go_wp2
                repeat (go_quiet (fail); try go_wp2)
                go_roundg k1
                case measure => have := HK1.out; omega
                case rel => exact ⟨(wrap64 (x5_1 + 1)), (by first | rfl | (simp; done) | (simp [*]; done)), H', ⟨by have := HK1.out; omega⟩, by repeat (first | exact Drawn0.refl _ | apply Drawn0.step)⟩
              · rw [if_neg c7] at H
                have c7b0 : ((rd l0 x5_1) == (rd l1 x5_1)) = false := beq_eq_false_iff_ne.mpr c7
                have c7b1 : ((rd l0 x5_1) != (rd l1 x5_1)) = true := bne_iff_ne.mpr c7
                obtain rfl := Option.some.inj H
                have p119 : 0 ≤ (x5_1 : Int) := of_decide_eq_true (by first | (with_reducible assumption) | assumption)
                have q119 : x5_1 < (l0.length : Int) := of_decide_eq_true (by first | (with_reducible assumption) | assumption)
                obtain ⟨ad119, e119, hx119_0⟩ := Kd.at_int HR0.out x5_1 p119 q119
                cases e119
                replace p119 := eq_true p119
                replace q119 := eq_true q119
                have p120 : 0 ≤ (x5_1 : Int) := of_decide_eq_true (by first | (with_reducible assumption) | assumption)
                have q120 : x5_1 < (l1.length : Int) := of_decide_eq_true (by first | (with_reducible assumption) | assumption)
                obtain ⟨ad120, e120, hx120_0⟩ := Kd.at_int HR1.out x5_1 p120 q120
                cases e120
                replace p120 := eq_true p120
                replace q120 := eq_true q120
                go_wp2
                repeat (go_quiet (fail); try go_wp2)
                go_ret
                exact ⟨by first | rfl | (simp; done) | (simp [*]; done), by repeat (first | exact Drawn0.refl _ | apply Drawn0.step)⟩
            · rw [if_neg c6] at H
              exact absurd H (by simp)
          · rw [if_neg c5] at H
            exact absurd H (by simp)
        · rw [if_neg c4] at H
          have c4b0 : decide (x5_1 < (l0.length : Int)) = false := decide_eq_false c4
          clear c4
          obtain rfl := Option.some.inj H
          go_wp2
          repeat (go_quiet (fail); try go_wp2)
          go_ret
          exact ⟨by first | rfl | (simp; done) | (simp [*]; done), by repeat (first | exact Drawn0.refl _ | apply Drawn0.step)⟩
  · rw [if_neg c3] at H
    have c3b0 : ((l0.length : Int) == (l1.length : Int)) = false := beq_eq_false_iff_ne.mpr c3
    have c3b1 : ((l0.length : Int) != (l1.length : Int)) = true := bne_iff_ne.mpr c3
    have c3b2 : (l0.length == l1.length) = false := by first | simpa using c3 | (simp at c3 ⊢; omega)
    obtain rfl := Option.some.inj H
    go_enter Try.func44, Try.ntmps44
    go_wp2
    repeat (go_quiet (fail); try go_wp2)
    go_ret
    exact ⟨by first | rfl | (simp; done) | (simp [*]; done), by repeat (first | exact Drawn0.refl _ | apply Drawn0.step)⟩
theorem wrap_succ (j : Nat) (h : j < 9223372036854775807) : wrap64 ((j : Int) + 1) = ((j + 1 : Nat) : Int) := by
  unfold wrap64; omega
theorem ints_loop (ns : List Int) (hl : ns.length ≤ 9000000) : ∀ (d j k : Nat), ns.length - j = d → j ≤ ns.length → d < k → breviaryref09_Ints.l0 k ns ns j = some true
  | d, j, 0, _, _, hk => by omega
  | 0, j, k + 1, hd, hj, _ => by
    have : j = ns.length := by omega
    subst this
    rw [breviaryref09_Ints.l0, if_neg (by omega)]
  | d + 1, j, k + 1, hd, hj, hk => by
    have hjs : j < ns.length := by omega
    rw [breviaryref09_Ints.l0, if_pos (by omega), if_pos (by omega), if_pos (by omega), if_pos rfl, wrap_succ j (by omega)]
    exact ints_loop ns hl d (j + 1) k (by omega) (by omega) (by omega)
theorem ints_same (w : World) (A A' : Option Addr) (c c' : Nat) (ns : List Int) (hC : Kd.C (Kd.int .i64) w A ns.length ns) (hc : ns.length ≤ c) (hC' : Kd.C (Kd.int .i64) w A' ns.length ns) (hc' : ns.length ≤ c') (hl : ns.length ≤ 9000000) :
    Calls Try.prog 44 #[.slice A ns.length c, .slice A' ns.length c'] w fun e w' => e = .returned (.bool true) ∧ Drawn0 w w' :=
  breviaryref09_Ints.calls (ns.length + 1) A c ns A' c' ns true w hC hc hC' hc' (by unfold breviaryref09_Ints.f; rw [if_pos rfl]; exact ints_loop ns hl ns.length 0 _ (by omega) (by omega) (by omega))
set_option maxHeartbeats 1000000 in
set_option maxRecDepth 100000 in
theorem same_same (w : World) (vt : Int) (A A' : Option Addr) (c c' : Nat) (ns : List Int) (vb : Bool) (tag vv : Int) (vs : ByteArray) (hC : Kd.C (Kd.int .i64) w A ns.length ns) (hc : ns.length ≤ c) (hC' : Kd.C (Kd.int .i64) w A' ns.length ns) (hc' : ns.length ≤ c') (hl : ns.length ≤ 9000000) :
    Calls Try.prog 34 #[.agg #[.int .i64 vt, .slice A ns.length c, .bool vb, .int .i64 tag, .int .i64 vv, .string vs], .agg #[.int .i64 vt, .slice A' ns.length c', .bool vb, .int .i64 tag, .int .i64 vv, .string vs]] w fun e w' => e = .returned (.bool true) ∧ Below w.heap.size w w' := by
  have C1 := Aside0.mk (fun W (hb : Below w.heap.size w W) => ints_same W A A' c c' ns (Kd.C_below hC hb) hc (Kd.C_below hC' hb) hc' hl)
  have hE : ∀ w, (binOp .eql 40 (.agg #[.int .i64 tag, .int .i64 vv]) (.agg #[.int .i64 tag, .int .i64 vv])).run Try.prog w = .ok (.bool true) w := fun w => by go_simp
  clear hC hc hC' hc' hl
  go_enter Try.func34, Try.ntmps34
  go_wp2_with (first | (go_at_call 44; (with_reducible refine (C1.out _ (by repeat (first | exact Below.refl _ _ | apply below_alloc | apply pw_below_drewN | apply below_drew1))).mono ?_); rintro e w1 ⟨rfl, ⟨nd, rfl⟩⟩))
  go_ret
  exact ⟨rfl, by repeat (first | exact Below.refl _ _ | apply below_alloc | apply pw_below_drewN | apply below_drew1)⟩
set_option maxHeartbeats 1000000 in
set_option maxRecDepth 100000 in
theorem reps_same (w : World) (k er tx id ti vt : Int) (A A' : Option Addr) (c c' : Nat) (ns : List Int) (vb : Bool) (tag vv : Int) (vs s : ByteArray) (hC : Kd.C (Kd.int .i64) w A ns.length ns) (hc : ns.length ≤ c) (hC' : Kd.C (Kd.int .i64) w A' ns.length ns) (hc' : ns.length ≤ c') (hl : ns.length ≤ 9000000) :
    Calls Try.prog 16 #[.agg #[.int .i64 k, .int .i64 er, .int .i64 tx, .int .i64 id, .int .u64 ti, .int .i64 vt, .slice A ns.length c, .bool vb, .int .i64 tag, .int .i64 vv, .string vs, .string s], .agg #[.int .i64 k, .int .i64 er, .int .i64 tx, .int .i64 id, .int .u64 ti, .int .i64 vt, .slice A' ns.length c', .bool vb, .int .i64 tag, .int .i64 vv, .string vs, .string s]] w fun e w' => e = .returned (.bool true) ∧ Below w.heap.size w w' := by
  have C1 := Aside0.mk (fun W (hb : Below w.heap.size w W) => same_same W vt A A' c c' ns vb tag vv vs (Kd.C_below hC hb) hc (Kd.C_below hC' hb) hc' hl)
  clear hC hc hC' hc' hl
  go_enter Try.func16, Try.ntmps16
  go_wp2_with (first | (go_at_call 34; (with_reducible refine (C1.out _ (by repeat (first | exact Below.refl _ _ | apply below_alloc | apply pw_below_drewN | apply below_drew1))).mono ?_); rintro e w1 ⟨rfl, hb⟩; have HB := Aside0.mk (show Below w.heap.size w w1 from below_step (by repeat (first | exact Below.refl _ _ | apply below_alloc | apply pw_below_drewN | apply below_drew1)) hb); clear hb))
  go_ret
  exact ⟨rfl, HB.out⟩
def breviaryref26_fits.f (a0 : Int) : Option (Bool) := if a0 ≥ 0 then (some (decide (a0 ≤ 2147483647))) else (some false)
set_option maxHeartbeats 8000000 in
set_option maxRecDepth 100000 in
theorem breviaryref26_fits.calls (a0 : Int) (r : Bool) (w : World) (h : breviaryref26_fits.f a0 = some r) :
    Calls Try.prog 23 #[.int .i64 a0] w fun e w' => e = .returned (.bool r) ∧ Drawn0 w w' := by
  have H : (if a0 ≥ 0 then (some (decide (a0 ≤ 2147483647))) else (some false)) = some r := h
  clear h
  by_cases c2 : a0 ≥ 0
  · rw [if_pos c2] at H
    have c2b0 : decide (0 ≤ a0) = true := decide_eq_true c2
    clear c2
    obtain rfl := Option.some.inj H
    go_enter Try.func23, Try.ntmps23
    go_wp2
    go_ret
    exact ⟨by first | rfl | (simp; done) | (simp [*]; done), by repeat (first | exact Drawn0.refl _ | apply Drawn0.step)⟩
  · rw [if_neg c2] at H
    have c2b0 : decide (0 ≤ a0) = false := decide_eq_false c2
    clear c2
    obtain rfl := Option.some.inj H
    go_enter Try.func23, Try.ntmps23
    go_wp2
    go_ret
    exact ⟨by first | rfl | (simp; done) | (simp [*]; done), by repeat (first | exact Drawn0.refl _ | apply Drawn0.step)⟩
def breviaryref03_Right.f (a0_0 : Int) (a0_1 : Int) : Option (Bool) := if a0_0 = 0 then (some (a0_1 != (-9223372036854775808))) else (if a0_0 ≥ 1 then (if a0_0 ≤ 3 then (some (a0_1 == 0)) else (some false)) else (some false))
set_option maxHeartbeats 8000000 in
set_option maxRecDepth 100000 in
theorem breviaryref03_Right.calls (a0_0 : Int) (a0_1 : Int) (r : Bool) (w : World) (h : breviaryref03_Right.f a0_0 a0_1 = some r) :
    Calls Try.prog 35 #[.agg #[.int .i64 a0_0, .int .i64 a0_1]] w fun e w' => e = .returned (.bool r) ∧ Below w.heap.size w w' := by
  have hu40 := Try.underlying40
  have HB := Aside0.mk (Below.refl w.heap.size w)
  have H : (if a0_0 = 0 then (some (a0_1 != (-9223372036854775808))) else (if a0_0 ≥ 1 then (if a0_0 ≤ 3 then (some (a0_1 == 0)) else (some false)) else (some false))) = some r := h
  clear h
  by_cases c2 : a0_0 = 0
  · rw [if_pos c2] at H
    have c2b0 : (a0_0 == 0) = true := beq_iff_eq.mpr c2
    have c2b1 : (a0_0 != 0) = false := bne_eq_false_iff_eq.mpr c2
    clear c2
    obtain rfl := Option.some.inj H
    go_enter Try.func35, Try.ntmps35
    go_wp2_with (first | ((with_reducible refine gate_dst (N := 1) rfl ?_); refine box_event ?hg (N := 1) ?hd (cs := #[.int .i64 a0_0, .int .i64 a0_1]) (t := 40) ?hr ?_; (case hd => rfl); (case hg => rfl); (case hr => first | (go_simp; done) | (go_simp; rfl)); intro gb128 hg w3 hbox hb; have n0_ := Aside0.mk (below_step (by repeat (first | (with_reducible first | exact HB.out | apply below_alloc | apply pw_below_drewN | apply below_drew1) | exact HB.out)) hb); have n1_ := Aside0.mk (hbox); have n2_ := Aside0.mk ((by rw [hg]; exact (below_size (by repeat (first | (with_reducible first | exact HB.out | apply below_alloc | apply pw_below_drewN | apply below_drew1) | exact HB.out))) : w.heap.size ≤ gb128)); have n3_ := Aside0.mk ((by rw [hg]; exact (below_size (by repeat (first | (with_reducible first | exact HB.out | apply below_alloc | apply pw_below_drewN | apply below_drew1) | exact HB.out))) : w.heap.size ≤ gb128)); clear HB; have HB := n0_; have BK128 := n1_; have GW128 := n2_; have GE128 := n3_; clear n0_ n1_ n2_ n3_; clear hb hbox hg; have hcz4_0 : w3.cell? ⟨gb128, 0, none⟩ = some (.int .i64 a0_0) := (blk_cell BK128.out 0).trans rfl; have hcz4_1 : w3.cell? ⟨gb128, 1, none⟩ = some (.int .i64 a0_1) := (blk_cell BK128.out 1).trans rfl; have hfz4_0 := blk_frozen BK128.out 0; have hfz4_1 := blk_frozen BK128.out 1))
    go_ret
    exact ⟨by first | rfl | (simp [errW_none, errW_some] <;> rfl) | (simp [*, errW_none, errW_some] <;> rfl), by repeat (first | (with_reducible first | exact HB.out | apply below_alloc | apply pw_below_drewN | apply below_drew1 | refine below_set ?_ GE128.out) | exact HB.out)⟩
  · rw [if_neg c2] at H
    have c2b0 : (a0_0 == 0) = false := beq_eq_false_iff_ne.mpr c2
    have c2b1 : (a0_0 != 0) = true := bne_iff_ne.mpr c2
    by_cases c5 : a0_0 ≥ 1
    · rw [if_pos c5] at H
      have c5b0 : decide (1 ≤ a0_0) = true := decide_eq_true c5
      clear c5
      by_cases c6 : a0_0 ≤ 3
      · rw [if_pos c6] at H
        have c6b0 : decide (a0_0 ≤ 3) = true := decide_eq_true c6
        clear c6
        obtain rfl := Option.some.inj H
        go_enter Try.func35, Try.ntmps35
        go_wp2_with (first | ((with_reducible refine gate_dst (N := 1) rfl ?_); refine box_event ?hg (N := 1) ?hd (cs := #[.int .i64 a0_0, .int .i64 a0_1]) (t := 40) ?hr ?_; (case hd => rfl); (case hg => rfl); (case hr => first | (go_simp; done) | (go_simp; rfl)); intro gb128 hg w7 hbox hb; have n0_ := Aside0.mk (below_step (by repeat (first | (with_reducible first | exact HB.out | apply below_alloc | apply pw_below_drewN | apply below_drew1) | exact HB.out)) hb); have n1_ := Aside0.mk (hbox); have n2_ := Aside0.mk ((by rw [hg]; exact (below_size (by repeat (first | (with_reducible first | exact HB.out | apply below_alloc | apply pw_below_drewN | apply below_drew1) | exact HB.out))) : w.heap.size ≤ gb128)); have n3_ := Aside0.mk ((by rw [hg]; exact (below_size (by repeat (first | (with_reducible first | exact HB.out | apply below_alloc | apply pw_below_drewN | apply below_drew1) | exact HB.out))) : w.heap.size ≤ gb128)); clear HB; have HB := n0_; have BK128 := n1_; have GW128 := n2_; have GE128 := n3_; clear n0_ n1_ n2_ n3_; clear hb hbox hg; have hcz8_0 : w7.cell? ⟨gb128, 0, none⟩ = some (.int .i64 a0_0) := (blk_cell BK128.out 0).trans rfl; have hcz8_1 : w7.cell? ⟨gb128, 1, none⟩ = some (.int .i64 a0_1) := (blk_cell BK128.out 1).trans rfl; have hfz8_0 := blk_frozen BK128.out 0; have hfz8_1 := blk_frozen BK128.out 1))
        go_ret
        exact ⟨by first | rfl | (simp [errW_none, errW_some] <;> rfl) | (simp [*, errW_none, errW_some] <;> rfl), by repeat (first | (with_reducible first | exact HB.out | apply below_alloc | apply pw_below_drewN | apply below_drew1 | refine below_set ?_ GE128.out) | exact HB.out)⟩
      · rw [if_neg c6] at H
        have c6b0 : decide (a0_0 ≤ 3) = false := decide_eq_false c6
        clear c6
        obtain rfl := Option.some.inj H
        go_enter Try.func35, Try.ntmps35
        go_wp2_with (first | ((with_reducible refine gate_dst (N := 1) rfl ?_); refine box_event ?hg (N := 1) ?hd (cs := #[.int .i64 a0_0, .int .i64 a0_1]) (t := 40) ?hr ?_; (case hd => rfl); (case hg => rfl); (case hr => first | (go_simp; done) | (go_simp; rfl)); intro gb128 hg w9 hbox hb; have n0_ := Aside0.mk (below_step (by repeat (first | (with_reducible first | exact HB.out | apply below_alloc | apply pw_below_drewN | apply below_drew1) | exact HB.out)) hb); have n1_ := Aside0.mk (hbox); have n2_ := Aside0.mk ((by rw [hg]; exact (below_size (by repeat (first | (with_reducible first | exact HB.out | apply below_alloc | apply pw_below_drewN | apply below_drew1) | exact HB.out))) : w.heap.size ≤ gb128)); have n3_ := Aside0.mk ((by rw [hg]; exact (below_size (by repeat (first | (with_reducible first | exact HB.out | apply below_alloc | apply pw_below_drewN | apply below_drew1) | exact HB.out))) : w.heap.size ≤ gb128)); clear HB; have HB := n0_; have BK128 := n1_; have GW128 := n2_; have GE128 := n3_; clear n0_ n1_ n2_ n3_; clear hb hbox hg; have hcz10_0 : w9.cell? ⟨gb128, 0, none⟩ = some (.int .i64 a0_0) := (blk_cell BK128.out 0).trans rfl; have hcz10_1 : w9.cell? ⟨gb128, 1, none⟩ = some (.int .i64 a0_1) := (blk_cell BK128.out 1).trans rfl; have hfz10_0 := blk_frozen BK128.out 0; have hfz10_1 := blk_frozen BK128.out 1))
        go_ret
        exact ⟨by first | rfl | (simp [errW_none, errW_some] <;> rfl) | (simp [*, errW_none, errW_some] <;> rfl), by repeat (first | (with_reducible first | exact HB.out | apply below_alloc | apply pw_below_drewN | apply below_drew1 | refine below_set ?_ GE128.out) | exact HB.out)⟩
    · rw [if_neg c5] at H
      have c5b0 : decide (1 ≤ a0_0) = false := decide_eq_false c5
      clear c5
      obtain rfl := Option.some.inj H
      go_enter Try.func35, Try.ntmps35
      go_wp2_with (first | ((with_reducible refine gate_dst (N := 1) rfl ?_); refine box_event ?hg (N := 1) ?hd (cs := #[.int .i64 a0_0, .int .i64 a0_1]) (t := 40) ?hr ?_; (case hd => rfl); (case hg => rfl); (case hr => first | (go_simp; done) | (go_simp; rfl)); intro gb128 hg w11 hbox hb; have n0_ := Aside0.mk (below_step (by repeat (first | (with_reducible first | exact HB.out | apply below_alloc | apply pw_below_drewN | apply below_drew1) | exact HB.out)) hb); have n1_ := Aside0.mk (hbox); have n2_ := Aside0.mk ((by rw [hg]; exact (below_size (by repeat (first | (with_reducible first | exact HB.out | apply below_alloc | apply pw_below_drewN | apply below_drew1) | exact HB.out))) : w.heap.size ≤ gb128)); have n3_ := Aside0.mk ((by rw [hg]; exact (below_size (by repeat (first | (with_reducible first | exact HB.out | apply below_alloc | apply pw_below_drewN | apply below_drew1) | exact HB.out))) : w.heap.size ≤ gb128)); clear HB; have HB := n0_; have BK128 := n1_; have GW128 := n2_; have GE128 := n3_; clear n0_ n1_ n2_ n3_; clear hb hbox hg; have hcz12_0 : w11.cell? ⟨gb128, 0, none⟩ = some (.int .i64 a0_0) := (blk_cell BK128.out 0).trans rfl; have hcz12_1 : w11.cell? ⟨gb128, 1, none⟩ = some (.int .i64 a0_1) := (blk_cell BK128.out 1).trans rfl; have hfz12_0 := blk_frozen BK128.out 0; have hfz12_1 := blk_frozen BK128.out 1))
      go_ret
      exact ⟨by first | rfl | (simp [errW_none, errW_some] <;> rfl) | (simp [*, errW_none, errW_some] <;> rfl), by repeat (first | (with_reducible first | exact HB.out | apply below_alloc | apply pw_below_drewN | apply below_drew1 | refine below_set ?_ GE128.out) | exact HB.out)⟩
end Go.Proofs.Ythkdihpbdaehbaa.PS
