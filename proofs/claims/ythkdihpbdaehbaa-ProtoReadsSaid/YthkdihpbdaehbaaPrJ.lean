import Derived.Test.YthkdihpbdaehbaaPrI
namespace Go.Proofs.Ythkdihpbdaehbaa.Pr
set_option linter.unusedVariables false
set_option linter.unusedSimpArgs false
open Go.RowKit Go.Proofs.YthkdihpbdaehbaaW.PrintWords Go.Proofs.YthkdihpbdaehbaaW.PrintLast Go.Proofs.YthkdihpbdaehbaaW.PrintMore Go.Proofs.Ythkdihpbdaehbaa.Bs
theorem size_nil (s : ByteArray) (h : s.size = 0) : s.toList = [] := by
  have := toList_nil s
  rw [decide_eq_true h] at this
  exact eq_of_beq this
theorem size_ne (s : ByteArray) (h : ¬ s.size = 0) : ¬ s.toList = [] := fun e => by
  have := toList_nil s
  rw [decide_eq_false h, e] at this
  exact absurd this (by simp)
theorem size_empty (s : ByteArray) : s.toList.isEmpty = decide (s.size = 0) := by
  rw [← toList_nil]
  cases s.toList <;> rfl
/-- Which way the reference goes. -/
def refN (k : Int) (ss : Nat) (yo f : Bool) (o i p : Int) (ns os : Nat) : Bool :=
  if k < 1 then false else if 6 < k then false else if 4000 < ss then false else if ¬ k = 2 ∧ ¬ ss = 0 then false else
  if k = 3 then yo else if ¬ k = 6 ∧ ¬ i = 0 then false else if f = false then false else
  if ¬ o = 0 then false else if ¬ p = 0 then false else if ¬ ns = 0 then false else decide (os = 0)
theorem refN_eq (k : Int) (s1 : Nat) (yo f : Bool) (o i p : Int) (s2 s3 : Nat) : (decide (1 ≤ k) && decide (k ≤ 6) && decide (s1 ≤ 4000) && (decide (k = 2) || decide (s1 = 0)) && (if k = 3 then yo else (decide (k = 6) || decide (i = 0)) && f && decide (o = 0) && decide (p = 0) && decide (s2 = 0) && decide (s3 = 0))) = refN k s1 yo f o i p s2 s3 := by
  simp only [refN]
  by_cases h1 : k < 1
  · rw [if_pos h1, decide_eq_false (by omega : ¬ 1 ≤ k)]; rfl
  by_cases h2 : 6 < k
  · rw [if_neg h1, if_pos h2, decide_eq_false (by omega : ¬ k ≤ 6), Bool.and_false]; rfl
  by_cases h3 : 4000 < s1
  · rw [if_neg h1, if_neg h2, if_pos h3, decide_eq_false (by omega : ¬ s1 ≤ 4000), Bool.and_false]; rfl
  by_cases h4 : ¬ k = 2 ∧ ¬ s1 = 0
  · rw [if_neg h1, if_neg h2, if_neg h3, if_pos h4, decide_eq_false h4.1, decide_eq_false h4.2, Bool.or_false, Bool.and_false]; rfl
  have e1 : decide (1 ≤ k) = true := by simp; omega
  have e2 : decide (k ≤ 6) = true := by simp; omega
  have e3 : decide (s1 ≤ 4000) = true := by simp; omega
  have e4 : (decide (k = 2) || decide (s1 = 0)) = true := by simp; omega
  rw [if_neg h1, if_neg h2, if_neg h3, if_neg h4, e1, e2, e3, e4]
  by_cases h5 : k = 3
  · rw [if_pos h5, if_pos h5]; rfl
  rw [if_neg h5, if_neg h5]
  by_cases h6 : ¬ k = 6 ∧ ¬ i = 0
  · rw [if_pos h6, decide_eq_false h6.1, decide_eq_false h6.2]; rfl
  have e6 : (decide (k = 6) || decide (i = 0)) = true := by simp; omega
  rw [if_neg h6, e6]
  cases f
  · rfl
  by_cases h7 : o = 0
  · by_cases h8 : p = 0
    · by_cases h9 : s2 = 0 <;> simp [h7, h8, h9]
    · simp [h7, h8]
  · simp [h7]
theorem right_ref (q : Rq) : rightB q = refN q.kind q.s.size (opB q.op) (fitsB q.id) q.ok q.id q.pos q.name.size q.os.size := refN_eq _ _ _ _ _ _ _ _ _
set_option maxRecDepth 100000 in
set_option maxHeartbeats 600000 in
theorem rref_1 (w : World) (k : Int) (s : ByteArray) (o i p : Int) (nm os : ByteArray) (r : Bool) (HE : r = false) (h1 : k < 1) : Calls Try.prog 9 #[.agg #[.int .i64 k, .string s, .int .i64 o, .int .i64 i, .int .i64 p, .string nm, .string os]] w fun e w' => e = .returned (.bool r) ∧ Below w.heap.size w w' := by
  have E := Aside0.mk HE
  clear HE
  go_enter Try.func9, Try.ntmps9
  go_wp2_with (first | fail)
  go_ret
  exact ⟨congrArg (fun b => Ending.returned (.bool b)) E.out.symm, by repeat (first | exact Below.refl _ _ | apply below_alloc | apply pw_below_drewN | apply below_drew1)⟩
set_option maxRecDepth 100000 in
set_option maxHeartbeats 600000 in
theorem rref_2 (w : World) (k : Int) (s : ByteArray) (o i p : Int) (nm os : ByteArray) (r : Bool) (HE : r = false) (h1 : ¬ k < 1) (h2 : 6 < k) : Calls Try.prog 9 #[.agg #[.int .i64 k, .string s, .int .i64 o, .int .i64 i, .int .i64 p, .string nm, .string os]] w fun e w' => e = .returned (.bool r) ∧ Below w.heap.size w w' := by
  have E := Aside0.mk HE
  clear HE
  go_enter Try.func9, Try.ntmps9
  go_wp2_with (first | fail)
  go_ret
  exact ⟨congrArg (fun b => Ending.returned (.bool b)) E.out.symm, by repeat (first | exact Below.refl _ _ | apply below_alloc | apply pw_below_drewN | apply below_drew1)⟩
set_option maxRecDepth 100000 in
set_option maxHeartbeats 600000 in
theorem rref_3 (w : World) (k : Int) (s : ByteArray) (o i p : Int) (nm os : ByteArray) (r : Bool) (HE : r = false) (h1 : ¬ k < 1) (h2 : ¬ 6 < k) (h3 : 4000 < s.size) : Calls Try.prog 9 #[.agg #[.int .i64 k, .string s, .int .i64 o, .int .i64 i, .int .i64 p, .string nm, .string os]] w fun e w' => e = .returned (.bool r) ∧ Below w.heap.size w w' := by
  have h3' : 4000 < (s.size : Int) := by omega
  clear h3
  have E := Aside0.mk HE
  clear HE
  go_enter Try.func9, Try.ntmps9
  go_wp2_with (first | fail)
  go_ret
  exact ⟨congrArg (fun b => Ending.returned (.bool b)) E.out.symm, by repeat (first | exact Below.refl _ _ | apply below_alloc | apply pw_below_drewN | apply below_drew1)⟩
set_option maxRecDepth 100000 in
set_option maxHeartbeats 600000 in
theorem rref_4 (w : World) (k : Int) (s : ByteArray) (o i p : Int) (nm os : ByteArray) (r : Bool) (HE : r = false) (h1 : ¬ k < 1) (h2 : ¬ 6 < k) (h3 : ¬ 4000 < s.size) (k2 : ¬ k = 2) (hs : ¬ s.toList = []) : Calls Try.prog 9 #[.agg #[.int .i64 k, .string s, .int .i64 o, .int .i64 i, .int .i64 p, .string nm, .string os]] w fun e w' => e = .returned (.bool r) ∧ Below w.heap.size w w' := by
  have h3' : ¬ 4000 < (s.size : Int) := by omega
  have b2 : (k == 2) = false := by simpa using k2
  have d2 : (k != 2) = true := by simp [k2]
  have hs2 : (!s.toList.isEmpty) = true := by simpa using hs
  have E := Aside0.mk HE
  clear HE
  go_enter Try.func9, Try.ntmps9
  go_wp2_with (first | fail)
  go_ret
  exact ⟨congrArg (fun b => Ending.returned (.bool b)) E.out.symm, by repeat (first | exact Below.refl _ _ | apply below_alloc | apply pw_below_drewN | apply below_drew1)⟩
set_option maxRecDepth 100000 in
set_option maxHeartbeats 600000 in
theorem rref_5 (w : World) (k : Int) (s : ByteArray) (o i p : Int) (nm os : ByteArray) (r : Bool) (HE : r = false) (h1 : ¬ k < 1) (h2 : ¬ 6 < k) (h3 : ¬ 4000 < s.size) (hs : s.toList = []) (k3 : k = 3) (o1 : ¬ 0 ≤ o) : Calls Try.prog 9 #[.agg #[.int .i64 k, .string s, .int .i64 o, .int .i64 i, .int .i64 p, .string nm, .string os]] w fun e w' => e = .returned (.bool r) ∧ Below w.heap.size w w' := by
  have h3' : ¬ 4000 < (s.size : Int) := by omega
  have b2 : (k == 2) = false := by simp [k3]
  have d2 : (k != 2) = true := by simp [k3]
  have b3 : (k == 3) = true := by simpa using k3
  have d3 : (k != 3) = false := by simp [k3]
  have K3 := Aside0.mk k3
  clear k3
  have E := Aside0.mk HE
  clear HE
  go_enter Try.func9, Try.ntmps9
  go_wp2_with (first | fail)
  go_ret
  exact ⟨congrArg (fun b => Ending.returned (.bool b)) E.out.symm, by repeat (first | exact Below.refl _ _ | apply below_alloc | apply pw_below_drewN | apply below_drew1)⟩
set_option maxRecDepth 100000 in
set_option maxHeartbeats 600000 in
theorem rref_6 (w : World) (k : Int) (s : ByteArray) (o i p : Int) (nm os : ByteArray) (r : Bool) (HE : r = false) (h1 : ¬ k < 1) (h2 : ¬ 6 < k) (h3 : ¬ 4000 < s.size) (hs : s.toList = []) (k3 : k = 3) (o1 : 0 ≤ o) (o2 : ¬ o ≤ 255) : Calls Try.prog 9 #[.agg #[.int .i64 k, .string s, .int .i64 o, .int .i64 i, .int .i64 p, .string nm, .string os]] w fun e w' => e = .returned (.bool r) ∧ Below w.heap.size w w' := by
  have h3' : ¬ 4000 < (s.size : Int) := by omega
  have b2 : (k == 2) = false := by simp [k3]
  have d2 : (k != 2) = true := by simp [k3]
  have b3 : (k == 3) = true := by simpa using k3
  have d3 : (k != 3) = false := by simp [k3]
  have K3 := Aside0.mk k3
  clear k3
  have E := Aside0.mk HE
  clear HE
  go_enter Try.func9, Try.ntmps9
  go_wp2_with (first | fail)
  go_ret
  exact ⟨congrArg (fun b => Ending.returned (.bool b)) E.out.symm, by repeat (first | exact Below.refl _ _ | apply below_alloc | apply pw_below_drewN | apply below_drew1)⟩
set_option maxRecDepth 100000 in
set_option maxHeartbeats 600000 in
theorem rref_7 (w : World) (k : Int) (s : ByteArray) (o i p : Int) (nm os : ByteArray) (r : Bool) (HE : r = false) (h1 : ¬ k < 1) (h2 : ¬ 6 < k) (h3 : ¬ 4000 < s.size) (hs : s.toList = []) (k3 : k = 3) (o1 : 0 ≤ o) (o2 : o ≤ 255) (f1 : fitsB i = false) : Calls Try.prog 9 #[.agg #[.int .i64 k, .string s, .int .i64 o, .int .i64 i, .int .i64 p, .string nm, .string os]] w fun e w' => e = .returned (.bool r) ∧ Below w.heap.size w w' := by
  have C1 := Aside0.mk (fun w => fits2_calls w i)
  have C2 := Aside0.mk (fun w => fits2_calls w p)
  have h3' : ¬ 4000 < (s.size : Int) := by omega
  have b2 : (k == 2) = false := by simp [k3]
  have d2 : (k != 2) = true := by simp [k3]
  have b3 : (k == 3) = true := by simpa using k3
  have d3 : (k != 3) = false := by simp [k3]
  have K3 := Aside0.mk k3
  clear k3
  rw [f1] at C1
  have E := Aside0.mk HE
  clear HE
  go_enter Try.func9, Try.ntmps9
  go_wp2_with (first | (go_at_call 23; (with_reducible refine (C1.out _).mono ?_); rintro e w' ⟨rfl, ⟨nd, rfl⟩⟩))
  go_ret
  exact ⟨congrArg (fun b => Ending.returned (.bool b)) E.out.symm, by repeat (first | exact Below.refl _ _ | apply below_alloc | apply pw_below_drewN | apply below_drew1)⟩
set_option maxRecDepth 100000 in
set_option maxHeartbeats 600000 in
theorem rref_8 (w : World) (k : Int) (s : ByteArray) (o i p : Int) (nm os : ByteArray) (r : Bool) (HE : r = false) (h1 : ¬ k < 1) (h2 : ¬ 6 < k) (h3 : ¬ 4000 < s.size) (hs : s.toList = []) (k3 : k = 3) (o1 : 0 ≤ o) (o2 : o ≤ 255) (f1 : fitsB i = true) (f2 : fitsB p = false) : Calls Try.prog 9 #[.agg #[.int .i64 k, .string s, .int .i64 o, .int .i64 i, .int .i64 p, .string nm, .string os]] w fun e w' => e = .returned (.bool r) ∧ Below w.heap.size w w' := by
  have C1 := Aside0.mk (fun w => fits2_calls w i)
  have C2 := Aside0.mk (fun w => fits2_calls w p)
  have h3' : ¬ 4000 < (s.size : Int) := by omega
  have b2 : (k == 2) = false := by simp [k3]
  have d2 : (k != 2) = true := by simp [k3]
  have b3 : (k == 3) = true := by simpa using k3
  have d3 : (k != 3) = false := by simp [k3]
  have K3 := Aside0.mk k3
  clear k3
  rw [f1] at C1
  rw [f2] at C2
  have E := Aside0.mk HE
  clear HE
  go_enter Try.func9, Try.ntmps9
  go_wp2_with (first | (go_at_call 23; (with_reducible refine (C1.out _).mono ?_); rintro e w' ⟨rfl, ⟨nd, rfl⟩⟩) | (go_at_call 23; (with_reducible refine (C2.out _).mono ?_); rintro e w' ⟨rfl, ⟨nd, rfl⟩⟩))
  go_ret
  exact ⟨congrArg (fun b => Ending.returned (.bool b)) E.out.symm, by repeat (first | exact Below.refl _ _ | apply below_alloc | apply pw_below_drewN | apply below_drew1)⟩
set_option maxRecDepth 100000 in
set_option maxHeartbeats 600000 in
theorem rref_9 (w : World) (k : Int) (s : ByteArray) (o i p : Int) (nm os : ByteArray) (r : Bool) (HE : r = false) (h1 : ¬ k < 1) (h2 : ¬ 6 < k) (h3 : ¬ 4000 < s.size) (hs : s.toList = []) (k3 : k = 3) (o1 : 0 ≤ o) (o2 : o ≤ 255) (f1 : fitsB i = true) (f2 : fitsB p = true) (n1 : ¬ nm.size ≤ 200) : Calls Try.prog 9 #[.agg #[.int .i64 k, .string s, .int .i64 o, .int .i64 i, .int .i64 p, .string nm, .string os]] w fun e w' => e = .returned (.bool r) ∧ Below w.heap.size w w' := by
  have C1 := Aside0.mk (fun w => fits2_calls w i)
  have C2 := Aside0.mk (fun w => fits2_calls w p)
  have h3' : ¬ 4000 < (s.size : Int) := by omega
  have b2 : (k == 2) = false := by simp [k3]
  have d2 : (k != 2) = true := by simp [k3]
  have b3 : (k == 3) = true := by simpa using k3
  have d3 : (k != 3) = false := by simp [k3]
  have K3 := Aside0.mk k3
  clear k3
  rw [f1] at C1
  rw [f2] at C2
  have n1' : ¬ (nm.size : Int) ≤ 200 := by omega
  have E := Aside0.mk HE
  clear HE
  go_enter Try.func9, Try.ntmps9
  go_wp2_with (first | (go_at_call 23; (with_reducible refine (C1.out _).mono ?_); rintro e w' ⟨rfl, ⟨nd, rfl⟩⟩) | (go_at_call 23; (with_reducible refine (C2.out _).mono ?_); rintro e w' ⟨rfl, ⟨nd, rfl⟩⟩))
  go_ret
  exact ⟨congrArg (fun b => Ending.returned (.bool b)) E.out.symm, by repeat (first | exact Below.refl _ _ | apply below_alloc | apply pw_below_drewN | apply below_drew1)⟩
set_option maxRecDepth 100000 in
set_option maxHeartbeats 600000 in
theorem rref_10 (w : World) (k : Int) (s : ByteArray) (o i p : Int) (nm os : ByteArray) (r : Bool) (HE : r = decide (os.size ≤ 4000)) (h1 : ¬ k < 1) (h2 : ¬ 6 < k) (h3 : ¬ 4000 < s.size) (hs : s.toList = []) (k3 : k = 3) (o1 : 0 ≤ o) (o2 : o ≤ 255) (f1 : fitsB i = true) (f2 : fitsB p = true) (n1 : nm.size ≤ 200) : Calls Try.prog 9 #[.agg #[.int .i64 k, .string s, .int .i64 o, .int .i64 i, .int .i64 p, .string nm, .string os]] w fun e w' => e = .returned (.bool r) ∧ Below w.heap.size w w' := by
  have C1 := Aside0.mk (fun w => fits2_calls w i)
  have C2 := Aside0.mk (fun w => fits2_calls w p)
  have h3' : ¬ 4000 < (s.size : Int) := by omega
  have b2 : (k == 2) = false := by simp [k3]
  have d2 : (k != 2) = true := by simp [k3]
  have b3 : (k == 3) = true := by simpa using k3
  have d3 : (k != 3) = false := by simp [k3]
  have K3 := Aside0.mk k3
  clear k3
  rw [f1] at C1
  rw [f2] at C2
  have n1' : (nm.size : Int) ≤ 200 := by omega
  have HE : r = decide ((os.size : Int) ≤ 4000) := by rw [HE]; simp; omega
  have E := Aside0.mk HE
  clear HE
  go_enter Try.func9, Try.ntmps9
  go_wp2_with (first | (go_at_call 23; (with_reducible refine (C1.out _).mono ?_); rintro e w' ⟨rfl, ⟨nd, rfl⟩⟩) | (go_at_call 23; (with_reducible refine (C2.out _).mono ?_); rintro e w' ⟨rfl, ⟨nd, rfl⟩⟩))
  go_ret
  exact ⟨congrArg (fun b => Ending.returned (.bool b)) E.out.symm, by repeat (first | exact Below.refl _ _ | apply below_alloc | apply pw_below_drewN | apply below_drew1)⟩
set_option maxRecDepth 100000 in
set_option maxHeartbeats 600000 in
theorem rref_11 (w : World) (k : Int) (s : ByteArray) (o i p : Int) (nm os : ByteArray) (r : Bool) (HE : r = false) (h1 : ¬ k < 1) (h2 : ¬ 6 < k) (h3 : ¬ 4000 < s.size) (k2 : k = 2) (k3 : ¬ k = 3) (k6 : ¬ k = 6) (i0 : ¬ i = 0) : Calls Try.prog 9 #[.agg #[.int .i64 k, .string s, .int .i64 o, .int .i64 i, .int .i64 p, .string nm, .string os]] w fun e w' => e = .returned (.bool r) ∧ Below w.heap.size w w' := by
  have h3' : ¬ 4000 < (s.size : Int) := by omega
  have b2 : (k == 2) = true := by simpa using k2
  have d2 : (k != 2) = false := by simp [k2]
  have K2 := Aside0.mk k2
  clear k2
  have b3 : (k == 3) = false := by simpa using k3
  have d3 : (k != 3) = true := by simp [k3]
  have b6 : (k == 6) = false := by simpa using k6
  have d6 : (k != 6) = true := by simp [k6]
  have i1 : (i == 0) = false := by simpa using i0
  have i2 : (i != 0) = true := by simp [i0]
  have E := Aside0.mk HE
  clear HE
  go_enter Try.func9, Try.ntmps9
  go_wp2_with (first | fail)
  go_ret
  exact ⟨congrArg (fun b => Ending.returned (.bool b)) E.out.symm, by repeat (first | exact Below.refl _ _ | apply below_alloc | apply pw_below_drewN | apply below_drew1)⟩
set_option maxRecDepth 100000 in
set_option maxHeartbeats 600000 in
theorem rref_12 (w : World) (k : Int) (s : ByteArray) (o i p : Int) (nm os : ByteArray) (r : Bool) (HE : r = false) (h1 : ¬ k < 1) (h2 : ¬ 6 < k) (h3 : ¬ 4000 < s.size) (k2 : k = 2) (k3 : ¬ k = 3) (k6 : ¬ k = 6) (i0 : i = 0) (f1 : fitsB i = true) (o0 : ¬ o = 0) : Calls Try.prog 9 #[.agg #[.int .i64 k, .string s, .int .i64 o, .int .i64 i, .int .i64 p, .string nm, .string os]] w fun e w' => e = .returned (.bool r) ∧ Below w.heap.size w w' := by
  have C1 := Aside0.mk (fun w => fits2_calls w i)
  have C2 := Aside0.mk (fun w => fits2_calls w p)
  have h3' : ¬ 4000 < (s.size : Int) := by omega
  have b2 : (k == 2) = true := by simpa using k2
  have d2 : (k != 2) = false := by simp [k2]
  have K2 := Aside0.mk k2
  clear k2
  have b3 : (k == 3) = false := by simpa using k3
  have d3 : (k != 3) = true := by simp [k3]
  have b6 : (k == 6) = false := by simpa using k6
  have d6 : (k != 6) = true := by simp [k6]
  have i1 : (i == 0) = true := by simpa using i0
  have i2 : (i != 0) = false := by simp [i0]
  have I0 := Aside0.mk i0
  clear i0
  rw [f1] at C1
  have o1 : (o == 0) = false := by simpa using o0
  have E := Aside0.mk HE
  clear HE
  go_enter Try.func9, Try.ntmps9
  go_wp2_with (first | (go_at_call 23; (with_reducible refine (C1.out _).mono ?_); rintro e w' ⟨rfl, ⟨nd, rfl⟩⟩))
  go_ret
  exact ⟨congrArg (fun b => Ending.returned (.bool b)) E.out.symm, by repeat (first | exact Below.refl _ _ | apply below_alloc | apply pw_below_drewN | apply below_drew1)⟩
set_option maxRecDepth 100000 in
set_option maxHeartbeats 600000 in
theorem rref_13 (w : World) (k : Int) (s : ByteArray) (o i p : Int) (nm os : ByteArray) (r : Bool) (HE : r = false) (h1 : ¬ k < 1) (h2 : ¬ 6 < k) (h3 : ¬ 4000 < s.size) (k2 : k = 2) (k3 : ¬ k = 3) (k6 : ¬ k = 6) (i0 : i = 0) (f1 : fitsB i = true) (o0 : o = 0) (p0 : ¬ p = 0) : Calls Try.prog 9 #[.agg #[.int .i64 k, .string s, .int .i64 o, .int .i64 i, .int .i64 p, .string nm, .string os]] w fun e w' => e = .returned (.bool r) ∧ Below w.heap.size w w' := by
  have C1 := Aside0.mk (fun w => fits2_calls w i)
  have C2 := Aside0.mk (fun w => fits2_calls w p)
  have h3' : ¬ 4000 < (s.size : Int) := by omega
  have b2 : (k == 2) = true := by simpa using k2
  have d2 : (k != 2) = false := by simp [k2]
  have K2 := Aside0.mk k2
  clear k2
  have b3 : (k == 3) = false := by simpa using k3
  have d3 : (k != 3) = true := by simp [k3]
  have b6 : (k == 6) = false := by simpa using k6
  have d6 : (k != 6) = true := by simp [k6]
  have i1 : (i == 0) = true := by simpa using i0
  have i2 : (i != 0) = false := by simp [i0]
  have I0 := Aside0.mk i0
  clear i0
  rw [f1] at C1
  have o1 : (o == 0) = true := by simpa using o0
  have O0 := Aside0.mk o0
  clear o0
  have p1 : (p == 0) = false := by simpa using p0
  have E := Aside0.mk HE
  clear HE
  go_enter Try.func9, Try.ntmps9
  go_wp2_with (first | (go_at_call 23; (with_reducible refine (C1.out _).mono ?_); rintro e w' ⟨rfl, ⟨nd, rfl⟩⟩))
  go_ret
  exact ⟨congrArg (fun b => Ending.returned (.bool b)) E.out.symm, by repeat (first | exact Below.refl _ _ | apply below_alloc | apply pw_below_drewN | apply below_drew1)⟩
set_option maxRecDepth 100000 in
set_option maxHeartbeats 600000 in
theorem rref_14 (w : World) (k : Int) (s : ByteArray) (o i p : Int) (nm os : ByteArray) (r : Bool) (HE : r = false) (h1 : ¬ k < 1) (h2 : ¬ 6 < k) (h3 : ¬ 4000 < s.size) (k2 : k = 2) (k3 : ¬ k = 3) (k6 : ¬ k = 6) (i0 : i = 0) (f1 : fitsB i = true) (o0 : o = 0) (p0 : p = 0) (n0 : ¬ nm.toList = []) : Calls Try.prog 9 #[.agg #[.int .i64 k, .string s, .int .i64 o, .int .i64 i, .int .i64 p, .string nm, .string os]] w fun e w' => e = .returned (.bool r) ∧ Below w.heap.size w w' := by
  have C1 := Aside0.mk (fun w => fits2_calls w i)
  have C2 := Aside0.mk (fun w => fits2_calls w p)
  have h3' : ¬ 4000 < (s.size : Int) := by omega
  have b2 : (k == 2) = true := by simpa using k2
  have d2 : (k != 2) = false := by simp [k2]
  have K2 := Aside0.mk k2
  clear k2
  have b3 : (k == 3) = false := by simpa using k3
  have d3 : (k != 3) = true := by simp [k3]
  have b6 : (k == 6) = false := by simpa using k6
  have d6 : (k != 6) = true := by simp [k6]
  have i1 : (i == 0) = true := by simpa using i0
  have i2 : (i != 0) = false := by simp [i0]
  have I0 := Aside0.mk i0
  clear i0
  rw [f1] at C1
  have o1 : (o == 0) = true := by simpa using o0
  have O0 := Aside0.mk o0
  clear o0
  have p1 : (p == 0) = true := by simpa using p0
  have P0 := Aside0.mk p0
  clear p0
  have E := Aside0.mk HE
  clear HE
  go_enter Try.func9, Try.ntmps9
  go_wp2_with (first | (go_at_call 23; (with_reducible refine (C1.out _).mono ?_); rintro e w' ⟨rfl, ⟨nd, rfl⟩⟩))
  go_ret
  exact ⟨congrArg (fun b => Ending.returned (.bool b)) E.out.symm, by repeat (first | exact Below.refl _ _ | apply below_alloc | apply pw_below_drewN | apply below_drew1)⟩
set_option maxRecDepth 100000 in
set_option maxHeartbeats 600000 in
theorem rref_15 (w : World) (k : Int) (s : ByteArray) (o i p : Int) (nm os : ByteArray) (r : Bool) (HE : r = os.toList.isEmpty) (h1 : ¬ k < 1) (h2 : ¬ 6 < k) (h3 : ¬ 4000 < s.size) (k2 : k = 2) (k3 : ¬ k = 3) (k6 : ¬ k = 6) (i0 : i = 0) (f1 : fitsB i = true) (o0 : o = 0) (p0 : p = 0) (n0 : nm.toList = []) : Calls Try.prog 9 #[.agg #[.int .i64 k, .string s, .int .i64 o, .int .i64 i, .int .i64 p, .string nm, .string os]] w fun e w' => e = .returned (.bool r) ∧ Below w.heap.size w w' := by
  have C1 := Aside0.mk (fun w => fits2_calls w i)
  have C2 := Aside0.mk (fun w => fits2_calls w p)
  have h3' : ¬ 4000 < (s.size : Int) := by omega
  have b2 : (k == 2) = true := by simpa using k2
  have d2 : (k != 2) = false := by simp [k2]
  have K2 := Aside0.mk k2
  clear k2
  have b3 : (k == 3) = false := by simpa using k3
  have d3 : (k != 3) = true := by simp [k3]
  have b6 : (k == 6) = false := by simpa using k6
  have d6 : (k != 6) = true := by simp [k6]
  have i1 : (i == 0) = true := by simpa using i0
  have i2 : (i != 0) = false := by simp [i0]
  have I0 := Aside0.mk i0
  clear i0
  rw [f1] at C1
  have o1 : (o == 0) = true := by simpa using o0
  have O0 := Aside0.mk o0
  clear o0
  have p1 : (p == 0) = true := by simpa using p0
  have P0 := Aside0.mk p0
  clear p0
  have E := Aside0.mk HE
  clear HE
  go_enter Try.func9, Try.ntmps9
  go_wp2_with (first | (go_at_call 23; (with_reducible refine (C1.out _).mono ?_); rintro e w' ⟨rfl, ⟨nd, rfl⟩⟩))
  go_ret
  exact ⟨congrArg (fun b => Ending.returned (.bool b)) E.out.symm, by repeat (first | exact Below.refl _ _ | apply below_alloc | apply pw_below_drewN | apply below_drew1)⟩
set_option maxRecDepth 100000 in
set_option maxHeartbeats 600000 in
theorem rref_16 (w : World) (k : Int) (s : ByteArray) (o i p : Int) (nm os : ByteArray) (r : Bool) (HE : r = false) (h1 : ¬ k < 1) (h2 : ¬ 6 < k) (h3 : ¬ 4000 < s.size) (k2 : ¬ k = 2) (hs : s.toList = []) (k3 : ¬ k = 3) (k6 : k = 6) (f1 : fitsB i = false) : Calls Try.prog 9 #[.agg #[.int .i64 k, .string s, .int .i64 o, .int .i64 i, .int .i64 p, .string nm, .string os]] w fun e w' => e = .returned (.bool r) ∧ Below w.heap.size w w' := by
  have C1 := Aside0.mk (fun w => fits2_calls w i)
  have C2 := Aside0.mk (fun w => fits2_calls w p)
  have h3' : ¬ 4000 < (s.size : Int) := by omega
  have b2 : (k == 2) = false := by simpa using k2
  have d2 : (k != 2) = true := by simp [k2]
  have b3 : (k == 3) = false := by simpa using k3
  have d3 : (k != 3) = true := by simp [k3]
  have b6 : (k == 6) = true := by simpa using k6
  have d6 : (k != 6) = false := by simp [k6]
  have K6 := Aside0.mk k6
  clear k6
  rw [f1] at C1
  have E := Aside0.mk HE
  clear HE
  go_enter Try.func9, Try.ntmps9
  go_wp2_with (first | (go_at_call 23; (with_reducible refine (C1.out _).mono ?_); rintro e w' ⟨rfl, ⟨nd, rfl⟩⟩))
  go_ret
  exact ⟨congrArg (fun b => Ending.returned (.bool b)) E.out.symm, by repeat (first | exact Below.refl _ _ | apply below_alloc | apply pw_below_drewN | apply below_drew1)⟩
set_option maxRecDepth 100000 in
set_option maxHeartbeats 600000 in
theorem rref_17 (w : World) (k : Int) (s : ByteArray) (o i p : Int) (nm os : ByteArray) (r : Bool) (HE : r = false) (h1 : ¬ k < 1) (h2 : ¬ 6 < k) (h3 : ¬ 4000 < s.size) (k2 : ¬ k = 2) (hs : s.toList = []) (k3 : ¬ k = 3) (k6 : k = 6) (f1 : fitsB i = true) (o0 : ¬ o = 0) : Calls Try.prog 9 #[.agg #[.int .i64 k, .string s, .int .i64 o, .int .i64 i, .int .i64 p, .string nm, .string os]] w fun e w' => e = .returned (.bool r) ∧ Below w.heap.size w w' := by
  have C1 := Aside0.mk (fun w => fits2_calls w i)
  have C2 := Aside0.mk (fun w => fits2_calls w p)
  have h3' : ¬ 4000 < (s.size : Int) := by omega
  have b2 : (k == 2) = false := by simpa using k2
  have d2 : (k != 2) = true := by simp [k2]
  have b3 : (k == 3) = false := by simpa using k3
  have d3 : (k != 3) = true := by simp [k3]
  have b6 : (k == 6) = true := by simpa using k6
  have d6 : (k != 6) = false := by simp [k6]
  have K6 := Aside0.mk k6
  clear k6
  rw [f1] at C1
  have o1 : (o == 0) = false := by simpa using o0
  have E := Aside0.mk HE
  clear HE
  go_enter Try.func9, Try.ntmps9
  go_wp2_with (first | (go_at_call 23; (with_reducible refine (C1.out _).mono ?_); rintro e w' ⟨rfl, ⟨nd, rfl⟩⟩))
  go_ret
  exact ⟨congrArg (fun b => Ending.returned (.bool b)) E.out.symm, by repeat (first | exact Below.refl _ _ | apply below_alloc | apply pw_below_drewN | apply below_drew1)⟩
set_option maxRecDepth 100000 in
set_option maxHeartbeats 600000 in
theorem rref_18 (w : World) (k : Int) (s : ByteArray) (o i p : Int) (nm os : ByteArray) (r : Bool) (HE : r = false) (h1 : ¬ k < 1) (h2 : ¬ 6 < k) (h3 : ¬ 4000 < s.size) (k2 : ¬ k = 2) (hs : s.toList = []) (k3 : ¬ k = 3) (k6 : k = 6) (f1 : fitsB i = true) (o0 : o = 0) (p0 : ¬ p = 0) : Calls Try.prog 9 #[.agg #[.int .i64 k, .string s, .int .i64 o, .int .i64 i, .int .i64 p, .string nm, .string os]] w fun e w' => e = .returned (.bool r) ∧ Below w.heap.size w w' := by
  have C1 := Aside0.mk (fun w => fits2_calls w i)
  have C2 := Aside0.mk (fun w => fits2_calls w p)
  have h3' : ¬ 4000 < (s.size : Int) := by omega
  have b2 : (k == 2) = false := by simpa using k2
  have d2 : (k != 2) = true := by simp [k2]
  have b3 : (k == 3) = false := by simpa using k3
  have d3 : (k != 3) = true := by simp [k3]
  have b6 : (k == 6) = true := by simpa using k6
  have d6 : (k != 6) = false := by simp [k6]
  have K6 := Aside0.mk k6
  clear k6
  rw [f1] at C1
  have o1 : (o == 0) = true := by simpa using o0
  have O0 := Aside0.mk o0
  clear o0
  have p1 : (p == 0) = false := by simpa using p0
  have E := Aside0.mk HE
  clear HE
  go_enter Try.func9, Try.ntmps9
  go_wp2_with (first | (go_at_call 23; (with_reducible refine (C1.out _).mono ?_); rintro e w' ⟨rfl, ⟨nd, rfl⟩⟩))
  go_ret
  exact ⟨congrArg (fun b => Ending.returned (.bool b)) E.out.symm, by repeat (first | exact Below.refl _ _ | apply below_alloc | apply pw_below_drewN | apply below_drew1)⟩
set_option maxRecDepth 100000 in
set_option maxHeartbeats 600000 in
theorem rref_19 (w : World) (k : Int) (s : ByteArray) (o i p : Int) (nm os : ByteArray) (r : Bool) (HE : r = false) (h1 : ¬ k < 1) (h2 : ¬ 6 < k) (h3 : ¬ 4000 < s.size) (k2 : ¬ k = 2) (hs : s.toList = []) (k3 : ¬ k = 3) (k6 : k = 6) (f1 : fitsB i = true) (o0 : o = 0) (p0 : p = 0) (n0 : ¬ nm.toList = []) : Calls Try.prog 9 #[.agg #[.int .i64 k, .string s, .int .i64 o, .int .i64 i, .int .i64 p, .string nm, .string os]] w fun e w' => e = .returned (.bool r) ∧ Below w.heap.size w w' := by
  have C1 := Aside0.mk (fun w => fits2_calls w i)
  have C2 := Aside0.mk (fun w => fits2_calls w p)
  have h3' : ¬ 4000 < (s.size : Int) := by omega
  have b2 : (k == 2) = false := by simpa using k2
  have d2 : (k != 2) = true := by simp [k2]
  have b3 : (k == 3) = false := by simpa using k3
  have d3 : (k != 3) = true := by simp [k3]
  have b6 : (k == 6) = true := by simpa using k6
  have d6 : (k != 6) = false := by simp [k6]
  have K6 := Aside0.mk k6
  clear k6
  rw [f1] at C1
  have o1 : (o == 0) = true := by simpa using o0
  have O0 := Aside0.mk o0
  clear o0
  have p1 : (p == 0) = true := by simpa using p0
  have P0 := Aside0.mk p0
  clear p0
  have E := Aside0.mk HE
  clear HE
  go_enter Try.func9, Try.ntmps9
  go_wp2_with (first | (go_at_call 23; (with_reducible refine (C1.out _).mono ?_); rintro e w' ⟨rfl, ⟨nd, rfl⟩⟩))
  go_ret
  exact ⟨congrArg (fun b => Ending.returned (.bool b)) E.out.symm, by repeat (first | exact Below.refl _ _ | apply below_alloc | apply pw_below_drewN | apply below_drew1)⟩
set_option maxRecDepth 100000 in
set_option maxHeartbeats 600000 in
theorem rref_20 (w : World) (k : Int) (s : ByteArray) (o i p : Int) (nm os : ByteArray) (r : Bool) (HE : r = os.toList.isEmpty) (h1 : ¬ k < 1) (h2 : ¬ 6 < k) (h3 : ¬ 4000 < s.size) (k2 : ¬ k = 2) (hs : s.toList = []) (k3 : ¬ k = 3) (k6 : k = 6) (f1 : fitsB i = true) (o0 : o = 0) (p0 : p = 0) (n0 : nm.toList = []) : Calls Try.prog 9 #[.agg #[.int .i64 k, .string s, .int .i64 o, .int .i64 i, .int .i64 p, .string nm, .string os]] w fun e w' => e = .returned (.bool r) ∧ Below w.heap.size w w' := by
  have C1 := Aside0.mk (fun w => fits2_calls w i)
  have C2 := Aside0.mk (fun w => fits2_calls w p)
  have h3' : ¬ 4000 < (s.size : Int) := by omega
  have b2 : (k == 2) = false := by simpa using k2
  have d2 : (k != 2) = true := by simp [k2]
  have b3 : (k == 3) = false := by simpa using k3
  have d3 : (k != 3) = true := by simp [k3]
  have b6 : (k == 6) = true := by simpa using k6
  have d6 : (k != 6) = false := by simp [k6]
  have K6 := Aside0.mk k6
  clear k6
  rw [f1] at C1
  have o1 : (o == 0) = true := by simpa using o0
  have O0 := Aside0.mk o0
  clear o0
  have p1 : (p == 0) = true := by simpa using p0
  have P0 := Aside0.mk p0
  clear p0
  have E := Aside0.mk HE
  clear HE
  go_enter Try.func9, Try.ntmps9
  go_wp2_with (first | (go_at_call 23; (with_reducible refine (C1.out _).mono ?_); rintro e w' ⟨rfl, ⟨nd, rfl⟩⟩))
  go_ret
  exact ⟨congrArg (fun b => Ending.returned (.bool b)) E.out.symm, by repeat (first | exact Below.refl _ _ | apply below_alloc | apply pw_below_drewN | apply below_drew1)⟩
set_option maxRecDepth 100000 in
set_option maxHeartbeats 600000 in
theorem rref_21 (w : World) (k : Int) (s : ByteArray) (o i p : Int) (nm os : ByteArray) (r : Bool) (HE : r = false) (h1 : ¬ k < 1) (h2 : ¬ 6 < k) (h3 : ¬ 4000 < s.size) (k2 : ¬ k = 2) (hs : s.toList = []) (k3 : ¬ k = 3) (k6 : ¬ k = 6) (i0 : ¬ i = 0) : Calls Try.prog 9 #[.agg #[.int .i64 k, .string s, .int .i64 o, .int .i64 i, .int .i64 p, .string nm, .string os]] w fun e w' => e = .returned (.bool r) ∧ Below w.heap.size w w' := by
  have h3' : ¬ 4000 < (s.size : Int) := by omega
  have b2 : (k == 2) = false := by simpa using k2
  have d2 : (k != 2) = true := by simp [k2]
  have b3 : (k == 3) = false := by simpa using k3
  have d3 : (k != 3) = true := by simp [k3]
  have b6 : (k == 6) = false := by simpa using k6
  have d6 : (k != 6) = true := by simp [k6]
  have i1 : (i == 0) = false := by simpa using i0
  have i2 : (i != 0) = true := by simp [i0]
  have E := Aside0.mk HE
  clear HE
  go_enter Try.func9, Try.ntmps9
  go_wp2_with (first | fail)
  go_ret
  exact ⟨congrArg (fun b => Ending.returned (.bool b)) E.out.symm, by repeat (first | exact Below.refl _ _ | apply below_alloc | apply pw_below_drewN | apply below_drew1)⟩
set_option maxRecDepth 100000 in
set_option maxHeartbeats 600000 in
theorem rref_22 (w : World) (k : Int) (s : ByteArray) (o i p : Int) (nm os : ByteArray) (r : Bool) (HE : r = false) (h1 : ¬ k < 1) (h2 : ¬ 6 < k) (h3 : ¬ 4000 < s.size) (k2 : ¬ k = 2) (hs : s.toList = []) (k3 : ¬ k = 3) (k6 : ¬ k = 6) (i0 : i = 0) (f1 : fitsB i = true) (o0 : ¬ o = 0) : Calls Try.prog 9 #[.agg #[.int .i64 k, .string s, .int .i64 o, .int .i64 i, .int .i64 p, .string nm, .string os]] w fun e w' => e = .returned (.bool r) ∧ Below w.heap.size w w' := by
  have C1 := Aside0.mk (fun w => fits2_calls w i)
  have C2 := Aside0.mk (fun w => fits2_calls w p)
  have h3' : ¬ 4000 < (s.size : Int) := by omega
  have b2 : (k == 2) = false := by simpa using k2
  have d2 : (k != 2) = true := by simp [k2]
  have b3 : (k == 3) = false := by simpa using k3
  have d3 : (k != 3) = true := by simp [k3]
  have b6 : (k == 6) = false := by simpa using k6
  have d6 : (k != 6) = true := by simp [k6]
  have i1 : (i == 0) = true := by simpa using i0
  have i2 : (i != 0) = false := by simp [i0]
  have I0 := Aside0.mk i0
  clear i0
  rw [f1] at C1
  have o1 : (o == 0) = false := by simpa using o0
  have E := Aside0.mk HE
  clear HE
  go_enter Try.func9, Try.ntmps9
  go_wp2_with (first | (go_at_call 23; (with_reducible refine (C1.out _).mono ?_); rintro e w' ⟨rfl, ⟨nd, rfl⟩⟩))
  go_ret
  exact ⟨congrArg (fun b => Ending.returned (.bool b)) E.out.symm, by repeat (first | exact Below.refl _ _ | apply below_alloc | apply pw_below_drewN | apply below_drew1)⟩
set_option maxRecDepth 100000 in
set_option maxHeartbeats 600000 in
theorem rref_23 (w : World) (k : Int) (s : ByteArray) (o i p : Int) (nm os : ByteArray) (r : Bool) (HE : r = false) (h1 : ¬ k < 1) (h2 : ¬ 6 < k) (h3 : ¬ 4000 < s.size) (k2 : ¬ k = 2) (hs : s.toList = []) (k3 : ¬ k = 3) (k6 : ¬ k = 6) (i0 : i = 0) (f1 : fitsB i = true) (o0 : o = 0) (p0 : ¬ p = 0) : Calls Try.prog 9 #[.agg #[.int .i64 k, .string s, .int .i64 o, .int .i64 i, .int .i64 p, .string nm, .string os]] w fun e w' => e = .returned (.bool r) ∧ Below w.heap.size w w' := by
  have C1 := Aside0.mk (fun w => fits2_calls w i)
  have C2 := Aside0.mk (fun w => fits2_calls w p)
  have h3' : ¬ 4000 < (s.size : Int) := by omega
  have b2 : (k == 2) = false := by simpa using k2
  have d2 : (k != 2) = true := by simp [k2]
  have b3 : (k == 3) = false := by simpa using k3
  have d3 : (k != 3) = true := by simp [k3]
  have b6 : (k == 6) = false := by simpa using k6
  have d6 : (k != 6) = true := by simp [k6]
  have i1 : (i == 0) = true := by simpa using i0
  have i2 : (i != 0) = false := by simp [i0]
  have I0 := Aside0.mk i0
  clear i0
  rw [f1] at C1
  have o1 : (o == 0) = true := by simpa using o0
  have O0 := Aside0.mk o0
  clear o0
  have p1 : (p == 0) = false := by simpa using p0
  have E := Aside0.mk HE
  clear HE
  go_enter Try.func9, Try.ntmps9
  go_wp2_with (first | (go_at_call 23; (with_reducible refine (C1.out _).mono ?_); rintro e w' ⟨rfl, ⟨nd, rfl⟩⟩))
  go_ret
  exact ⟨congrArg (fun b => Ending.returned (.bool b)) E.out.symm, by repeat (first | exact Below.refl _ _ | apply below_alloc | apply pw_below_drewN | apply below_drew1)⟩
set_option maxRecDepth 100000 in
set_option maxHeartbeats 600000 in
theorem rref_24 (w : World) (k : Int) (s : ByteArray) (o i p : Int) (nm os : ByteArray) (r : Bool) (HE : r = false) (h1 : ¬ k < 1) (h2 : ¬ 6 < k) (h3 : ¬ 4000 < s.size) (k2 : ¬ k = 2) (hs : s.toList = []) (k3 : ¬ k = 3) (k6 : ¬ k = 6) (i0 : i = 0) (f1 : fitsB i = true) (o0 : o = 0) (p0 : p = 0) (n0 : ¬ nm.toList = []) : Calls Try.prog 9 #[.agg #[.int .i64 k, .string s, .int .i64 o, .int .i64 i, .int .i64 p, .string nm, .string os]] w fun e w' => e = .returned (.bool r) ∧ Below w.heap.size w w' := by
  have C1 := Aside0.mk (fun w => fits2_calls w i)
  have C2 := Aside0.mk (fun w => fits2_calls w p)
  have h3' : ¬ 4000 < (s.size : Int) := by omega
  have b2 : (k == 2) = false := by simpa using k2
  have d2 : (k != 2) = true := by simp [k2]
  have b3 : (k == 3) = false := by simpa using k3
  have d3 : (k != 3) = true := by simp [k3]
  have b6 : (k == 6) = false := by simpa using k6
  have d6 : (k != 6) = true := by simp [k6]
  have i1 : (i == 0) = true := by simpa using i0
  have i2 : (i != 0) = false := by simp [i0]
  have I0 := Aside0.mk i0
  clear i0
  rw [f1] at C1
  have o1 : (o == 0) = true := by simpa using o0
  have O0 := Aside0.mk o0
  clear o0
  have p1 : (p == 0) = true := by simpa using p0
  have P0 := Aside0.mk p0
  clear p0
  have E := Aside0.mk HE
  clear HE
  go_enter Try.func9, Try.ntmps9
  go_wp2_with (first | (go_at_call 23; (with_reducible refine (C1.out _).mono ?_); rintro e w' ⟨rfl, ⟨nd, rfl⟩⟩))
  go_ret
  exact ⟨congrArg (fun b => Ending.returned (.bool b)) E.out.symm, by repeat (first | exact Below.refl _ _ | apply below_alloc | apply pw_below_drewN | apply below_drew1)⟩
set_option maxRecDepth 100000 in
set_option maxHeartbeats 600000 in
theorem rref_25 (w : World) (k : Int) (s : ByteArray) (o i p : Int) (nm os : ByteArray) (r : Bool) (HE : r = os.toList.isEmpty) (h1 : ¬ k < 1) (h2 : ¬ 6 < k) (h3 : ¬ 4000 < s.size) (k2 : ¬ k = 2) (hs : s.toList = []) (k3 : ¬ k = 3) (k6 : ¬ k = 6) (i0 : i = 0) (f1 : fitsB i = true) (o0 : o = 0) (p0 : p = 0) (n0 : nm.toList = []) : Calls Try.prog 9 #[.agg #[.int .i64 k, .string s, .int .i64 o, .int .i64 i, .int .i64 p, .string nm, .string os]] w fun e w' => e = .returned (.bool r) ∧ Below w.heap.size w w' := by
  have C1 := Aside0.mk (fun w => fits2_calls w i)
  have C2 := Aside0.mk (fun w => fits2_calls w p)
  have h3' : ¬ 4000 < (s.size : Int) := by omega
  have b2 : (k == 2) = false := by simpa using k2
  have d2 : (k != 2) = true := by simp [k2]
  have b3 : (k == 3) = false := by simpa using k3
  have d3 : (k != 3) = true := by simp [k3]
  have b6 : (k == 6) = false := by simpa using k6
  have d6 : (k != 6) = true := by simp [k6]
  have i1 : (i == 0) = true := by simpa using i0
  have i2 : (i != 0) = false := by simp [i0]
  have I0 := Aside0.mk i0
  clear i0
  rw [f1] at C1
  have o1 : (o == 0) = true := by simpa using o0
  have O0 := Aside0.mk o0
  clear o0
  have p1 : (p == 0) = true := by simpa using p0
  have P0 := Aside0.mk p0
  clear p0
  have E := Aside0.mk HE
  clear HE
  go_enter Try.func9, Try.ntmps9
  go_wp2_with (first | (go_at_call 23; (with_reducible refine (C1.out _).mono ?_); rintro e w' ⟨rfl, ⟨nd, rfl⟩⟩))
  go_ret
  exact ⟨congrArg (fun b => Ending.returned (.bool b)) E.out.symm, by repeat (first | exact Below.refl _ _ | apply below_alloc | apply pw_below_drewN | apply below_drew1)⟩
theorem rref_all (w : World) (k : Int) (s : ByteArray) (o i p : Int) (nm os : ByteArray) (r : Bool) (HE : r = refN k s.size (opB ⟨o, i, p, nm, os⟩) (fitsB i) o i p nm.size os.size) : Calls Try.prog 9 #[.agg #[.int .i64 k, .string s, .int .i64 o, .int .i64 i, .int .i64 p, .string nm, .string os]] w fun e w' => e = .returned (.bool r) ∧ Below w.heap.size w w' := by
  simp only [refN] at HE
  by_cases h1 : k < 1
  · rw [if_pos h1] at HE; exact rref_1 w k s o i p nm os r HE h1
  rw [if_neg h1] at HE
  by_cases h2 : 6 < k
  · rw [if_pos h2] at HE; exact rref_2 w k s o i p nm os r HE h1 h2
  rw [if_neg h2] at HE
  by_cases h3 : 4000 < s.size
  · rw [if_pos h3] at HE; exact rref_3 w k s o i p nm os r HE h1 h2 h3
  rw [if_neg h3] at HE
  by_cases h4 : ¬ k = 2 ∧ ¬ s.size = 0
  · rw [if_pos h4] at HE; exact rref_4 w k s o i p nm os r HE h1 h2 h3 h4.1 (size_ne s h4.2)
  rw [if_neg h4] at HE
  by_cases k3 : k = 3
  · rw [if_pos k3] at HE
    have hs : s.toList = [] := size_nil s (by omega)
    simp only [opB] at HE
    by_cases o1 : 0 ≤ o
    · by_cases o2 : o ≤ 255
      · rw [decide_eq_true o1, decide_eq_true o2] at HE
        cases f1 : fitsB i with
        | false => rw [f1] at HE; exact rref_7 w k s o i p nm os r HE h1 h2 h3 hs k3 o1 o2 f1
        | true =>
          rw [f1] at HE
          cases f2 : fitsB p with
          | false => rw [f2] at HE; exact rref_8 w k s o i p nm os r HE h1 h2 h3 hs k3 o1 o2 f1 f2
          | true =>
            rw [f2] at HE
            by_cases n1 : nm.size ≤ 200
            · rw [decide_eq_true n1] at HE; exact rref_10 w k s o i p nm os r HE h1 h2 h3 hs k3 o1 o2 f1 f2 n1
            · rw [decide_eq_false n1] at HE; exact rref_9 w k s o i p nm os r HE h1 h2 h3 hs k3 o1 o2 f1 f2 n1
      · rw [decide_eq_false o2, Bool.and_false] at HE; exact rref_6 w k s o i p nm os r HE h1 h2 h3 hs k3 o1 o2
    · rw [decide_eq_false o1] at HE; exact rref_5 w k s o i p nm os r HE h1 h2 h3 hs k3 o1
  rw [if_neg k3] at HE
  by_cases h6 : ¬ k = 6 ∧ ¬ i = 0
  · rw [if_pos h6] at HE
    by_cases k2 : k = 2
    · exact rref_11 w k s o i p nm os r HE h1 h2 h3 k2 k3 h6.1 h6.2
    · exact rref_21 w k s o i p nm os r HE h1 h2 h3 k2 (size_nil s (by omega)) k3 h6.1 h6.2
  rw [if_neg h6] at HE
  by_cases k2 : k = 2
  · have k6 : ¬ k = 6 := by omega
    have i0 : i = 0 := by omega
    cases f1 : fitsB i with
    | false => rw [i0] at f1; exact absurd f1 (by decide)
    | true =>
      rw [f1, if_neg (by decide : ¬ true = false)] at HE
      by_cases o0 : o = 0
      · rw [if_neg (fun h => h o0)] at HE
        by_cases p0 : p = 0
        · rw [if_neg (fun h => h p0)] at HE
          by_cases n0 : nm.size = 0
          · rw [if_neg (fun h => h n0), ← size_empty] at HE; exact rref_15 w k s o i p nm os r HE h1 h2 h3 k2 k3 k6 i0 f1 o0 p0 (size_nil nm n0)
          · rw [if_pos n0] at HE; exact rref_14 w k s o i p nm os r HE h1 h2 h3 k2 k3 k6 i0 f1 o0 p0 (size_ne nm n0)
        · rw [if_pos p0] at HE; exact rref_13 w k s o i p nm os r HE h1 h2 h3 k2 k3 k6 i0 f1 o0 p0
      · rw [if_pos o0] at HE; exact rref_12 w k s o i p nm os r HE h1 h2 h3 k2 k3 k6 i0 f1 o0
  · have hs : s.toList = [] := size_nil s (by omega)
    by_cases k6 : k = 6
    · skip
      cases f1 : fitsB i with
      | false => rw [f1, if_pos rfl] at HE; exact rref_16 w k s o i p nm os r HE h1 h2 h3 k2 hs k3 k6 f1
      | true =>
        rw [f1, if_neg (by decide : ¬ true = false)] at HE
        by_cases o0 : o = 0
        · rw [if_neg (fun h => h o0)] at HE
          by_cases p0 : p = 0
          · rw [if_neg (fun h => h p0)] at HE
            by_cases n0 : nm.size = 0
            · rw [if_neg (fun h => h n0), ← size_empty] at HE; exact rref_20 w k s o i p nm os r HE h1 h2 h3 k2 hs k3 k6 f1 o0 p0 (size_nil nm n0)
            · rw [if_pos n0] at HE; exact rref_19 w k s o i p nm os r HE h1 h2 h3 k2 hs k3 k6 f1 o0 p0 (size_ne nm n0)
          · rw [if_pos p0] at HE; exact rref_18 w k s o i p nm os r HE h1 h2 h3 k2 hs k3 k6 f1 o0 p0
        · rw [if_pos o0] at HE; exact rref_17 w k s o i p nm os r HE h1 h2 h3 k2 hs k3 k6 f1 o0
    · have i0 : i = 0 := by omega
      cases f1 : fitsB i with
      | false => rw [i0] at f1; exact absurd f1 (by decide)
      | true =>
        rw [f1, if_neg (by decide : ¬ true = false)] at HE
        by_cases o0 : o = 0
        · rw [if_neg (fun h => h o0)] at HE
          by_cases p0 : p = 0
          · rw [if_neg (fun h => h p0)] at HE
            by_cases n0 : nm.size = 0
            · rw [if_neg (fun h => h n0), ← size_empty] at HE; exact rref_25 w k s o i p nm os r HE h1 h2 h3 k2 hs k3 k6 i0 f1 o0 p0 (size_nil nm n0)
            · rw [if_pos n0] at HE; exact rref_24 w k s o i p nm os r HE h1 h2 h3 k2 hs k3 k6 i0 f1 o0 p0 (size_ne nm n0)
          · rw [if_pos p0] at HE; exact rref_23 w k s o i p nm os r HE h1 h2 h3 k2 hs k3 k6 i0 f1 o0 p0
        · rw [if_pos o0] at HE; exact rref_22 w k s o i p nm os r HE h1 h2 h3 k2 hs k3 k6 i0 f1 o0
theorem rightRef_calls (w : World) (q : Rq) : Calls Try.prog 9 #[.agg q.cells] w fun e w' => e = .returned (.bool (rightB q)) ∧ Below w.heap.size w w' :=
  rref_all w q.kind q.s q.ok q.id q.pos q.name q.os (rightB q) (right_ref q)
end Go.Proofs.Ythkdihpbdaehbaa.Pr
