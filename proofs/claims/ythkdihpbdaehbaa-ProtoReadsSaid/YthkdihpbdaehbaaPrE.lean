import Derived.Test.YthkdihpbdaehbaaPrD
namespace Go.Proofs.Ythkdihpbdaehbaa.Pr
set_option linter.unusedVariables false
set_option linter.unusedSimpArgs false
open Go.RowKit Go.Proofs.YthkdihpbdaehbaaW.PrintWords Go.Proofs.Ythkdihpbdaehbaa.Bs

theorem eqA23 (d : Nat) (w : World) (x0 y0 : Int) (x1 y1 : Int) (x2 y2 : Int) (x3 y3 : ByteArray) (x4 y4 : ByteArray) :
    (Op.equalIn (d + 2) 23 (.agg #[.int .i64 x0, .int .i64 x1, .int .i64 x2, .string x3, .string x4]) (.agg #[.int .i64 y0, .int .i64 y1, .int .i64 y2, .string y3, .string y4])).run Try.prog w = .ok (x0 == y0 && (x1 == y1 && (x2 == y2 && (x3.toList == y3.toList && (x4.toList == y4.toList))))) w := by
  refine eqA_of Try.underlying23 (by kernel_rfl) ?_
  refine eqf_cons (by rfl) (by go_simp; rfl) (by go_simp; rfl) (by go_simp) ?_
  refine eqf_cons (by rfl) (by go_simp; rfl) (by go_simp; rfl) (by go_simp) ?_
  refine eqf_cons (by rfl) (by go_simp; rfl) (by go_simp; rfl) (by go_simp) ?_
  refine eqf_cons (by rfl) (by go_simp; rfl) (by go_simp; rfl) (by go_simp) ?_
  exact eqf_last (by rfl) (by go_simp; rfl) (by go_simp; rfl) (by go_simp)
theorem eqA25 (d : Nat) (w : World) (x0 y0 : Int) (x1 y1 : ByteArray) (x2 y2 : Int) (x3 y3 : Int) (x4 y4 : Int) (x5 y5 : ByteArray) (x6 y6 : ByteArray) :
    (Op.equalIn (d + 3) 25 (.agg #[.int .i64 x0, .string x1, .int .i64 x2, .int .i64 x3, .int .i64 x4, .string x5, .string x6]) (.agg #[.int .i64 y0, .string y1, .int .i64 y2, .int .i64 y3, .int .i64 y4, .string y5, .string y6])).run Try.prog w = .ok (x0 == y0 && (x1.toList == y1.toList && ((x2 == y2 && (x3 == y3 && (x4 == y4 && (x5.toList == y5.toList && (x6.toList == y6.toList)))))))) w := by
  refine eqA_of Try.underlying25 (by kernel_rfl) ?_
  refine eqf_cons (by rfl) (by go_simp; rfl) (by go_simp; rfl) (by go_simp) ?_
  refine eqf_cons (by rfl) (by go_simp; rfl) (by go_simp; rfl) (by go_simp) ?_
  exact eqf_last (by rfl) (by go_simp) (by go_simp) (eqA23 (d + 0) w _ _ _ _ _ _ _ _ _ _)

theorem toList_nil (s : ByteArray) : (s.toList == ([] : List UInt8)) = decide (s.size = 0) := by
  rw [ByteArray.toList_eq]
  have h : s.data.toList.length = s.size := by simp
  cases e : s.data.toList with
  | nil => rw [e] at h; have h2 : s.size = 0 := h.symm
           rw [decide_eq_true h2]; rfl
  | cons a l => rw [e] at h; have h2 : s.size ≠ 0 := by simp only [List.length_cons] at h; omega
                rw [decide_eq_false h2]; rfl
theorem toList_beq (a b : ByteArray) : (a.toList == b.toList) = decide (a = b) := by
  rw [ByteArray.toList_eq, ByteArray.toList_eq]
  by_cases h : a = b
  · subst h; simp
  · have : a.data.toList ≠ b.data.toList := fun e => h (ByteArray.ext (Array.toList_inj.mp e))
    rw [decide_eq_false h]
    exact beq_eq_false_iff_ne.mpr this
section
attribute [local go_sem high] eqA25
theorem eqReq (w : World) (q : Rq) (q' : Rq) : (binOp .eql 25 (.agg q.cells) (.agg q'.cells)).run Try.prog w = .ok (.bool (q.kind == q'.kind && (q.s.toList == q'.s.toList && ((q.ok == q'.ok && (q.id == q'.id && (q.pos == q'.pos && (q.name.toList == q'.name.toList && (q.os.toList == q'.os.toList)))))))))  w := by
  simp only [Rq.cells]
  go_simp
end
def Rq.op (q : Rq) : Op5 := ⟨q.ok, q.id, q.pos, q.name, q.os⟩
/-- May a request be? -/
def rightB (q : Rq) : Bool := decide (1 ≤ q.kind) && decide (q.kind ≤ 6) && decide (q.s.size ≤ 4000) && (decide (q.kind = 2) || decide (q.s.size = 0)) && (if q.kind = 3 then opB q.op else (decide (q.kind = 6) || decide (q.id = 0)) && fitsB q.id && decide (q.ok = 0) && decide (q.pos = 0) && decide (q.name.size = 0) && decide (q.os.size = 0))

def z1 (q : Rq) : Bool := decide (q.s.size = 0) && (decide (q.ok = 0) && (decide (q.id = 0) && (decide (q.pos = 0) && (decide (q.name.size = 0) && decide (q.os.size = 0)))))
def z2 (q : Rq) : Bool := (decide (q.ok = 0) && (decide (q.id = 0) && (decide (q.pos = 0) && (decide (q.name.size = 0) && decide (q.os.size = 0)))))
def z6 (q : Rq) : Bool := decide (q.s.size = 0) && (decide (q.ok = 0) && (decide (q.pos = 0) && (decide (q.name.size = 0) && decide (q.os.size = 0))))
theorem right_eq (q : Rq) : rightB q = if q.kind = 1 then z1 q else if q.kind = 4 then z1 q else if q.kind = 5 then z1 q else if q.kind = 2 then z2 q && decide (q.s.size ≤ 4000) else if q.kind = 3 then decide (q.s.size = 0) && opB q.op else if q.kind = 6 then z6 q && fitsB q.id else false := by
  obtain ⟨k, s, o, i, p, nm, os⟩ := q
  rw [Bool.eq_iff_iff]
  simp only [rightB, z1, z2, z6, fitsB]
  generalize opB (Rq.op ⟨k, s, o, i, p, nm, os⟩) = yo
  generalize s.size = s1
  generalize nm.size = s2
  generalize os.size = s3
  by_cases k1 : k = 1
  · subst k1; simp; omega
  by_cases k4 : k = 4
  · subst k4; simp; omega
  by_cases k5 : k = 5
  · subst k5; simp; omega
  by_cases k2 : k = 2
  · subst k2; simp; omega
  by_cases k3 : k = 3
  · subst k3; simp; omega
  by_cases k6 : k = 6
  · subst k6; simp; omega
  simp [k1, k2, k3, k4, k5, k6]
  omega
set_option maxRecDepth 100000 in
set_option maxHeartbeats 1000000 in
theorem right_calls (w : World) (q : Rq) : Calls Try.prog 10 #[.agg q.cells] w fun e w' => e = .returned (.bool (rightB q)) ∧ Below w.heap.size w w' := by
  have E1 : ∀ w, (binOp .eql 25 (.agg q.cells) (.agg #[.int .i64 q.kind, .string ⟨#[]⟩, .int .i64 0, .int .i64 0, .int .i64 0, .string ⟨#[]⟩, .string ⟨#[]⟩])).run Try.prog w = .ok (.bool (z1 q)) w := by
    intro w
    have h := eqReq w q ⟨q.kind, ⟨#[]⟩, 0, 0, 0, ⟨#[]⟩, ⟨#[]⟩⟩
    simp only [Rq.cells] at h ⊢
    rw [h, show (⟨#[]⟩ : ByteArray).toList = [] from by kernel_rfl]
    simp only [toList_nil, beq_self_eq_true, Bool.true_and]
    rfl
  have E2 : ∀ w, (binOp .eql 25 (.agg q.cells) (.agg #[.int .i64 q.kind, .string q.s, .int .i64 0, .int .i64 0, .int .i64 0, .string ⟨#[]⟩, .string ⟨#[]⟩])).run Try.prog w = .ok (.bool (z2 q)) w := by
    intro w
    have h := eqReq w q ⟨q.kind, q.s, 0, 0, 0, ⟨#[]⟩, ⟨#[]⟩⟩
    simp only [Rq.cells] at h ⊢
    rw [h, show (⟨#[]⟩ : ByteArray).toList = [] from by kernel_rfl]
    simp only [toList_nil, beq_self_eq_true, Bool.true_and]
    rfl
  have E6 : ∀ w, (binOp .eql 25 (.agg q.cells) (.agg #[.int .i64 q.kind, .string ⟨#[]⟩, .int .i64 0, .int .i64 q.id, .int .i64 0, .string ⟨#[]⟩, .string ⟨#[]⟩])).run Try.prog w = .ok (.bool (z6 q)) w := by
    intro w
    have h := eqReq w q ⟨q.kind, ⟨#[]⟩, 0, q.id, 0, ⟨#[]⟩, ⟨#[]⟩⟩
    simp only [Rq.cells] at h ⊢
    rw [h, show (⟨#[]⟩ : ByteArray).toList = [] from by kernel_rfl]
    simp only [toList_nil, beq_self_eq_true, Bool.true_and]
    rfl
  have C24 := Aside0.mk (fun w => op_calls w q.op)
  have C25 := Aside0.mk (fun w => fits_calls w q.id)
  have HR := Aside0.mk (right_eq q)
  have ET := Aside0.mk (toList_nil q.s)
  generalize rightB q = r at *
  obtain ⟨k, s, o, i, p, nm, os⟩ := q
  simp only [Rq.cells, Op5.cells, Rq.op] at *
  generalize z1 ⟨k, s, o, i, p, nm, os⟩ = y1 at *
  generalize z2 ⟨k, s, o, i, p, nm, os⟩ = y2 at *
  generalize z6 ⟨k, s, o, i, p, nm, os⟩ = y6 at *
  generalize opB ⟨o, i, p, nm, os⟩ = yo at *
  by_cases k1 : k = 1
  · have K1 := Aside0.mk k1
    clear k1
    have b1 : (k == 1) = true := by simpa using K1.out
    go_enter Try.func10, Try.ntmps10
    go_wp2
    go_ret
    exact ⟨by rw [HR.out]; simp [K1.out], by repeat (first | exact Below.refl _ _ | apply below_alloc | apply pw_below_drewN | apply below_drew1)⟩
  have K1 := Aside0.mk k1
  clear k1
  by_cases k4 : k = 4
  · have K4 := Aside0.mk k4
    clear k4
    have b1 : (k == 1) = false := by simpa using K1.out
    have b4 : (k == 4) = true := by simpa using K4.out
    go_enter Try.func10, Try.ntmps10
    go_wp2
    go_ret
    exact ⟨by rw [HR.out]; simp [K1.out, K4.out], by repeat (first | exact Below.refl _ _ | apply below_alloc | apply pw_below_drewN | apply below_drew1)⟩
  have K4 := Aside0.mk k4
  clear k4
  by_cases k5 : k = 5
  · have K5 := Aside0.mk k5
    clear k5
    have b1 : (k == 1) = false := by simpa using K1.out
    have b4 : (k == 4) = false := by simpa using K4.out
    have b5 : (k == 5) = true := by simpa using K5.out
    go_enter Try.func10, Try.ntmps10
    go_wp2
    go_ret
    exact ⟨by rw [HR.out]; simp [K1.out, K4.out, K5.out], by repeat (first | exact Below.refl _ _ | apply below_alloc | apply pw_below_drewN | apply below_drew1)⟩
  have K5 := Aside0.mk k5
  clear k5
  by_cases k2 : k = 2
  · have K2 := Aside0.mk k2
    clear k2
    have b1 : (k == 1) = false := by simpa using K1.out
    have b4 : (k == 4) = false := by simpa using K4.out
    have b5 : (k == 5) = false := by simpa using K5.out
    have b2 : (k == 2) = true := by simpa using K2.out
    cases y2 with
    | false =>
      go_enter Try.func10, Try.ntmps10
      go_wp2
      go_ret
      exact ⟨by rw [HR.out]; simp [K1.out, K4.out, K5.out, K2.out] <;> omega, by repeat (first | exact Below.refl _ _ | apply below_alloc | apply pw_below_drewN | apply below_drew1)⟩
    | true =>
      go_enter Try.func10, Try.ntmps10
      go_wp2
      go_ret
      exact ⟨by rw [HR.out]; simp [K1.out, K4.out, K5.out, K2.out] <;> omega, by repeat (first | exact Below.refl _ _ | apply below_alloc | apply pw_below_drewN | apply below_drew1)⟩
  have K2 := Aside0.mk k2
  clear k2
  by_cases k3 : k = 3
  · have K3 := Aside0.mk k3
    clear k3
    have b1 : (k == 1) = false := by simpa using K1.out
    have b4 : (k == 4) = false := by simpa using K4.out
    have b5 : (k == 5) = false := by simpa using K5.out
    have b2 : (k == 2) = false := by simpa using K2.out
    have b3 : (k == 3) = true := by simpa using K3.out
    by_cases hs : s.toList = []
    · have ets : decide (s.size = 0) = true := by rw [← ET.out, hs]; rfl
      go_enter Try.func10, Try.ntmps10
      go_wp2_with (first | (go_at_call 24; (with_reducible refine (C24.out _).mono ?_); rintro e w' ⟨rfl, hb⟩))
      go_ret
      exact ⟨by rw [HR.out, if_neg K1.out, if_neg K4.out, if_neg K5.out, if_neg K2.out, if_pos K3.out, ets]; rfl, below_step (by repeat (first | exact Below.refl _ _ | apply below_alloc | apply pw_below_drewN | apply below_drew1)) hb⟩
    · have ets : decide (s.size = 0) = false := by rw [← ET.out]; exact beq_eq_false_iff_ne.mpr hs
      go_enter Try.func10, Try.ntmps10
      go_wp2
      go_ret
      exact ⟨by rw [HR.out, if_neg K1.out, if_neg K4.out, if_neg K5.out, if_neg K2.out, if_pos K3.out, ets]; rfl, by repeat (first | exact Below.refl _ _ | apply below_alloc | apply pw_below_drewN | apply below_drew1)⟩
  have K3 := Aside0.mk k3
  clear k3
  by_cases k6 : k = 6
  · have K6 := Aside0.mk k6
    clear k6
    have b1 : (k == 1) = false := by simpa using K1.out
    have b4 : (k == 4) = false := by simpa using K4.out
    have b5 : (k == 5) = false := by simpa using K5.out
    have b2 : (k == 2) = false := by simpa using K2.out
    have b3 : (k == 3) = false := by simpa using K3.out
    have b6 : (k == 6) = true := by simpa using K6.out
    cases y6 with
    | false =>
      go_enter Try.func10, Try.ntmps10
      go_wp2
      go_ret
      exact ⟨by rw [HR.out]; simp [K1.out, K4.out, K5.out, K2.out, K3.out, K6.out], by repeat (first | exact Below.refl _ _ | apply below_alloc | apply pw_below_drewN | apply below_drew1)⟩
    | true =>
      go_enter Try.func10, Try.ntmps10
      go_wp2_with (first | (go_at_call 25; (with_reducible refine (C25.out _).mono ?_); rintro e w' ⟨rfl, ⟨nd, rfl⟩⟩))
      go_ret
      exact ⟨by rw [HR.out]; simp [K1.out, K4.out, K5.out, K2.out, K3.out, K6.out], by repeat (first | exact Below.refl _ _ | apply below_alloc | apply pw_below_drewN | apply below_drew1)⟩
  have K6 := Aside0.mk k6
  clear k6
  have b1 : (k == 1) = false := by simpa using K1.out
  have b4 : (k == 4) = false := by simpa using K4.out
  have b5 : (k == 5) = false := by simpa using K5.out
  have b2 : (k == 2) = false := by simpa using K2.out
  have b3 : (k == 3) = false := by simpa using K3.out
  have b6 : (k == 6) = false := by simpa using K6.out
  go_enter Try.func10, Try.ntmps10
  go_wp2
  go_ret
  exact ⟨by rw [HR.out]; simp [K1.out, K4.out, K5.out, K2.out, K3.out, K6.out], by repeat (first | exact Below.refl _ _ | apply below_alloc | apply pw_below_drewN | apply below_drew1)⟩
end Go.Proofs.Ythkdihpbdaehbaa.Pr
