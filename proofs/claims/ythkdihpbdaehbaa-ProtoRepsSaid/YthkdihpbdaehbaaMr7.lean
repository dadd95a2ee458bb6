import Derived.Test.YthkdihpbdaehbaaMr6
namespace Go.Proofs.Ythkdihpbdaehbaa.Pr
set_option linter.unusedVariables false
set_option linter.unusedSimpArgs false
open Go.RowKit Go.Proofs.YthkdihpbdaehbaaW.PrintWords Go.Proofs.YthkdihpbdaehbaaW.PrintLast Go.Proofs.YthkdihpbdaehbaaW.PrintMore Go.Proofs.Ythkdihpbdaehbaa.Bs Go.Proofs.Ythkdihpbdaehbaa.PS
theorem redec (t v : Int) : breviaryref03_Right.f t v = some (decB t v) := by
  unfold breviaryref03_Right.f decB
  by_cases h0 : t = 0
  · rw [if_pos h0, if_pos h0]
  rw [if_neg h0, if_neg h0]
  by_cases h1 : t ≥ 1
  · rw [if_pos h1]
    by_cases h3 : t ≤ 3
    · rw [if_pos h3]
      by_cases e1 : t = 1
      · rw [if_pos e1]
      by_cases e2 : t = 2
      · rw [if_neg e1, if_pos e2]
      rw [if_neg e1, if_neg e2, if_pos (by omega)]
    · rw [if_neg h3, if_neg (by omega), if_neg (by omega), if_neg (by omega)]
  · rw [if_neg h1, if_neg (by omega), if_neg (by omega), if_neg (by omega)]
theorem rd_drop (ns : List Int) (j : Nat) (h : j < ns.length) : ns.drop j = rd ns j :: ns.drop (j + 1) := by
  rw [List.drop_eq_getElem_cons h]; simp [rd, List.getD_eq_getElem?_getD, h]
theorem dec_ref (w : World) (tag vv : Int) : Calls Try.prog 35 #[.agg #[.int .i64 tag, .int .i64 vv]] w fun e w' => e = .returned (.bool (decB tag vv)) ∧ Below w.heap.size w w' := breviaryref03_Right.calls tag vv _ w (redec tag vv)
set_option maxRecDepth 100000 in
set_option maxHeartbeats 600000 in
theorem rr_1 (w : World) (k er tx id ti vt : Int) (A : Option Addr) (c : Nat) (ns : List Int) (vb : Bool) (tag vv : Int) (vs s : ByteArray) (r : Bool) (hC : (Kd.int .i64).C w A ns.length ns) (hl : ns.length ≤ 9000000) (HE : r = false) (k0 : k < 0) : Calls Try.prog 18 #[.agg #[.int .i64 k, .int .i64 er, .int .i64 tx, .int .i64 id, .int .u64 ti, .int .i64 vt, .slice A ns.length c, .bool vb, .int .i64 tag, .int .i64 vv, .string vs, .string s]] w fun e w' => e = .returned (.bool r) ∧ Below w.heap.size w w' := by
  have E := Aside0.mk HE
  clear HE
  clear hC
  go_enter Try.func18, Try.ntmps18
  go_wp2_with (first | fail)
  go_ret
  exact ⟨congrArg (fun b => Ending.returned (.bool b)) E.out.symm, by repeat (first | exact Below.refl _ _ | apply below_alloc | apply pw_below_drewN | apply below_drew1)⟩
set_option maxRecDepth 100000 in
set_option maxHeartbeats 600000 in
theorem rr_2 (w : World) (k er tx id ti vt : Int) (A : Option Addr) (c : Nat) (ns : List Int) (vb : Bool) (tag vv : Int) (vs s : ByteArray) (r : Bool) (hC : (Kd.int .i64).C w A ns.length ns) (hl : ns.length ≤ 9000000) (HE : r = false) (k0 : ¬ k < 0) (k6 : 6 < k) : Calls Try.prog 18 #[.agg #[.int .i64 k, .int .i64 er, .int .i64 tx, .int .i64 id, .int .u64 ti, .int .i64 vt, .slice A ns.length c, .bool vb, .int .i64 tag, .int .i64 vv, .string vs, .string s]] w fun e w' => e = .returned (.bool r) ∧ Below w.heap.size w w' := by
  have E := Aside0.mk HE
  clear HE
  clear hC
  go_enter Try.func18, Try.ntmps18
  go_wp2_with (first | fail)
  go_ret
  exact ⟨congrArg (fun b => Ending.returned (.bool b)) E.out.symm, by repeat (first | exact Below.refl _ _ | apply below_alloc | apply pw_below_drewN | apply below_drew1)⟩
set_option maxRecDepth 100000 in
set_option maxHeartbeats 600000 in
theorem rr_3 (w : World) (k er tx id ti vt : Int) (A : Option Addr) (c : Nat) (ns : List Int) (vb : Bool) (tag vv : Int) (vs s : ByteArray) (r : Bool) (hC : (Kd.int .i64).C w A ns.length ns) (hl : ns.length ≤ 9000000) (HE : r = false) (k0 : ¬ k < 0) (k6 : ¬ 6 < k) (e0 : er < 0) : Calls Try.prog 18 #[.agg #[.int .i64 k, .int .i64 er, .int .i64 tx, .int .i64 id, .int .u64 ti, .int .i64 vt, .slice A ns.length c, .bool vb, .int .i64 tag, .int .i64 vv, .string vs, .string s]] w fun e w' => e = .returned (.bool r) ∧ Below w.heap.size w w' := by
  have E := Aside0.mk HE
  clear HE
  clear hC
  go_enter Try.func18, Try.ntmps18
  go_wp2_with (first | fail)
  go_ret
  exact ⟨congrArg (fun b => Ending.returned (.bool b)) E.out.symm, by repeat (first | exact Below.refl _ _ | apply below_alloc | apply pw_below_drewN | apply below_drew1)⟩
set_option maxRecDepth 100000 in
set_option maxHeartbeats 600000 in
theorem rr_4 (w : World) (k er tx id ti vt : Int) (A : Option Addr) (c : Nat) (ns : List Int) (vb : Bool) (tag vv : Int) (vs s : ByteArray) (r : Bool) (hC : (Kd.int .i64).C w A ns.length ns) (hl : ns.length ≤ 9000000) (HE : r = false) (k0 : ¬ k < 0) (k6 : ¬ 6 < k) (e0 : ¬ er < 0) (e6 : 65535 < er) : Calls Try.prog 18 #[.agg #[.int .i64 k, .int .i64 er, .int .i64 tx, .int .i64 id, .int .u64 ti, .int .i64 vt, .slice A ns.length c, .bool vb, .int .i64 tag, .int .i64 vv, .string vs, .string s]] w fun e w' => e = .returned (.bool r) ∧ Below w.heap.size w w' := by
  have E := Aside0.mk HE
  clear HE
  clear hC
  go_enter Try.func18, Try.ntmps18
  go_wp2_with (first | fail)
  go_ret
  exact ⟨congrArg (fun b => Ending.returned (.bool b)) E.out.symm, by repeat (first | exact Below.refl _ _ | apply below_alloc | apply pw_below_drewN | apply below_drew1)⟩
set_option maxRecDepth 100000 in
set_option maxHeartbeats 600000 in
theorem rr_5 (w : World) (k er tx id ti vt : Int) (A : Option Addr) (c : Nat) (ns : List Int) (vb : Bool) (tag vv : Int) (vs s : ByteArray) (r : Bool) (hC : (Kd.int .i64).C w A ns.length ns) (hl : ns.length ≤ 9000000) (HE : r = false) (k0 : ¬ k < 0) (k6 : ¬ 6 < k) (e0 : ¬ er < 0) (e6 : ¬ 65535 < er) (ft : fitsB tx = false) : Calls Try.prog 18 #[.agg #[.int .i64 k, .int .i64 er, .int .i64 tx, .int .i64 id, .int .u64 ti, .int .i64 vt, .slice A ns.length c, .bool vb, .int .i64 tag, .int .i64 vv, .string vs, .string s]] w fun e w' => e = .returned (.bool r) ∧ Below w.heap.size w w' := by
  have E := Aside0.mk HE
  clear HE
  have C1 := Aside0.mk (fun w => fits2_calls w tx)
  rw [ft] at C1
  clear hC
  go_enter Try.func18, Try.ntmps18
  go_wp2_with (first | (go_at_call 23; (with_reducible refine (C1.out _).mono ?_); rintro e w1 ⟨rfl, ⟨nd, rfl⟩⟩))
  go_ret
  exact ⟨congrArg (fun b => Ending.returned (.bool b)) E.out.symm, by repeat (first | exact Below.refl _ _ | apply below_alloc | apply pw_below_drewN | apply below_drew1)⟩
set_option maxRecDepth 100000 in
set_option maxHeartbeats 600000 in
theorem rr_6 (w : World) (k er tx id ti vt : Int) (A : Option Addr) (c : Nat) (ns : List Int) (vb : Bool) (tag vv : Int) (vs s : ByteArray) (r : Bool) (hC : (Kd.int .i64).C w A ns.length ns) (hl : ns.length ≤ 9000000) (HE : r = false) (k0 : ¬ k < 0) (k6 : ¬ 6 < k) (e0 : ¬ er < 0) (e6 : ¬ 65535 < er) (ft : fitsB tx = true) (fi : fitsB id = false) : Calls Try.prog 18 #[.agg #[.int .i64 k, .int .i64 er, .int .i64 tx, .int .i64 id, .int .u64 ti, .int .i64 vt, .slice A ns.length c, .bool vb, .int .i64 tag, .int .i64 vv, .string vs, .string s]] w fun e w' => e = .returned (.bool r) ∧ Below w.heap.size w w' := by
  have E := Aside0.mk HE
  clear HE
  have C1 := Aside0.mk (fun w => fits2_calls w tx)
  have C2 := Aside0.mk (fun w => fits2_calls w id)
  rw [ft] at C1
  rw [fi] at C2
  clear hC
  go_enter Try.func18, Try.ntmps18
  go_wp2_with (first | (go_at_call 23; (with_reducible refine (C1.out _).mono ?_); rintro e w1 ⟨rfl, ⟨nd, rfl⟩⟩) | (go_at_call 23; (with_reducible refine (C2.out _).mono ?_); rintro e w1 ⟨rfl, ⟨nd, rfl⟩⟩))
  go_ret
  exact ⟨congrArg (fun b => Ending.returned (.bool b)) E.out.symm, by repeat (first | exact Below.refl _ _ | apply below_alloc | apply pw_below_drewN | apply below_drew1)⟩
set_option maxRecDepth 100000 in
set_option maxHeartbeats 600000 in
theorem rr_7 (w : World) (k er tx id ti vt : Int) (A : Option Addr) (c : Nat) (ns : List Int) (vb : Bool) (tag vv : Int) (vs s : ByteArray) (r : Bool) (hC : (Kd.int .i64).C w A ns.length ns) (hl : ns.length ≤ 9000000) (HE : r = false) (k0 : ¬ k < 0) (k6 : ¬ 6 < k) (e0 : ¬ er < 0) (e6 : ¬ 65535 < er) (ft : fitsB tx = true) (fi : fitsB id = true) (ss : 65535 < s.size) : Calls Try.prog 18 #[.agg #[.int .i64 k, .int .i64 er, .int .i64 tx, .int .i64 id, .int .u64 ti, .int .i64 vt, .slice A ns.length c, .bool vb, .int .i64 tag, .int .i64 vv, .string vs, .string s]] w fun e w' => e = .returned (.bool r) ∧ Below w.heap.size w w' := by
  have E := Aside0.mk HE
  clear HE
  have C1 := Aside0.mk (fun w => fits2_calls w tx)
  have C2 := Aside0.mk (fun w => fits2_calls w id)
  rw [ft] at C1
  rw [fi] at C2
  have ss' : 65535 < (s.size : Int) := by omega
  clear hC
  go_enter Try.func18, Try.ntmps18
  go_wp2_with (first | (go_at_call 23; (with_reducible refine (C1.out _).mono ?_); rintro e w1 ⟨rfl, ⟨nd, rfl⟩⟩) | (go_at_call 23; (with_reducible refine (C2.out _).mono ?_); rintro e w1 ⟨rfl, ⟨nd, rfl⟩⟩))
  go_ret
  exact ⟨congrArg (fun b => Ending.returned (.bool b)) E.out.symm, by repeat (first | exact Below.refl _ _ | apply below_alloc | apply pw_below_drewN | apply below_drew1)⟩
set_option maxRecDepth 100000 in
set_option maxHeartbeats 600000 in
theorem rr_8 (w : World) (k er tx id ti vt : Int) (A : Option Addr) (c : Nat) (ns : List Int) (vb : Bool) (tag vv : Int) (vs s : ByteArray) (r : Bool) (hC : (Kd.int .i64).C w A ns.length ns) (hl : ns.length ≤ 9000000) (HE : r = false) (k0 : ¬ k < 0) (k6 : ¬ 6 < k) (e0 : ¬ er < 0) (e6 : ¬ 65535 < er) (ft : fitsB tx = true) (fi : fitsB id = true) (ss : ¬ 65535 < s.size) (v0 : vt < 0) : Calls Try.prog 18 #[.agg #[.int .i64 k, .int .i64 er, .int .i64 tx, .int .i64 id, .int .u64 ti, .int .i64 vt, .slice A ns.length c, .bool vb, .int .i64 tag, .int .i64 vv, .string vs, .string s]] w fun e w' => e = .returned (.bool r) ∧ Below w.heap.size w w' := by
  have E := Aside0.mk HE
  clear HE
  have C1 := Aside0.mk (fun w => fits2_calls w tx)
  have C2 := Aside0.mk (fun w => fits2_calls w id)
  rw [ft] at C1
  rw [fi] at C2
  have ss' : ¬ 65535 < (s.size : Int) := by omega
  clear hC
  go_enter Try.func18, Try.ntmps18
  go_wp2_with (first | (go_at_call 23; (with_reducible refine (C1.out _).mono ?_); rintro e w1 ⟨rfl, ⟨nd, rfl⟩⟩) | (go_at_call 23; (with_reducible refine (C2.out _).mono ?_); rintro e w1 ⟨rfl, ⟨nd, rfl⟩⟩))
  go_ret
  exact ⟨congrArg (fun b => Ending.returned (.bool b)) E.out.symm, by repeat (first | exact Below.refl _ _ | apply below_alloc | apply pw_below_drewN | apply below_drew1)⟩
set_option maxRecDepth 100000 in
set_option maxHeartbeats 600000 in
theorem rr_9 (w : World) (k er tx id ti vt : Int) (A : Option Addr) (c : Nat) (ns : List Int) (vb : Bool) (tag vv : Int) (vs s : ByteArray) (r : Bool) (hC : (Kd.int .i64).C w A ns.length ns) (hl : ns.length ≤ 9000000) (HE : r = false) (k0 : ¬ k < 0) (k6 : ¬ 6 < k) (e0 : ¬ er < 0) (e6 : ¬ 65535 < er) (ft : fitsB tx = true) (fi : fitsB id = true) (ss : ¬ 65535 < s.size) (v0 : ¬ vt < 0) (v5 : 4 < vt) : Calls Try.prog 18 #[.agg #[.int .i64 k, .int .i64 er, .int .i64 tx, .int .i64 id, .int .u64 ti, .int .i64 vt, .slice A ns.length c, .bool vb, .int .i64 tag, .int .i64 vv, .string vs, .string s]] w fun e w' => e = .returned (.bool r) ∧ Below w.heap.size w w' := by
  have E := Aside0.mk HE
  clear HE
  have C1 := Aside0.mk (fun w => fits2_calls w tx)
  have C2 := Aside0.mk (fun w => fits2_calls w id)
  rw [ft] at C1
  rw [fi] at C2
  have ss' : ¬ 65535 < (s.size : Int) := by omega
  clear hC
  go_enter Try.func18, Try.ntmps18
  go_wp2_with (first | (go_at_call 23; (with_reducible refine (C1.out _).mono ?_); rintro e w1 ⟨rfl, ⟨nd, rfl⟩⟩) | (go_at_call 23; (with_reducible refine (C2.out _).mono ?_); rintro e w1 ⟨rfl, ⟨nd, rfl⟩⟩))
  go_ret
  exact ⟨congrArg (fun b => Ending.returned (.bool b)) E.out.symm, by repeat (first | exact Below.refl _ _ | apply below_alloc | apply pw_below_drewN | apply below_drew1)⟩
set_option maxRecDepth 100000 in
set_option maxHeartbeats 600000 in
theorem rr_10 (w : World) (k er tx id ti vt : Int) (A : Option Addr) (c : Nat) (ns : List Int) (vb : Bool) (tag vv : Int) (vs s : ByteArray) (r : Bool) (hC : (Kd.int .i64).C w A ns.length ns) (hl : ns.length ≤ 9000000) (HE : r = false) (k0 : ¬ k < 0) (k6 : ¬ 6 < k) (e0 : ¬ er < 0) (e6 : ¬ 65535 < er) (ft : fitsB tx = true) (fi : fitsB id = true) (ss : ¬ 65535 < s.size) (v0 : ¬ vt < 0) (v5 : ¬ 4 < vt) (vn : vt = 1) (hb : vb = true) : Calls Try.prog 18 #[.agg #[.int .i64 k, .int .i64 er, .int .i64 tx, .int .i64 id, .int .u64 ti, .int .i64 vt, .slice A ns.length c, .bool vb, .int .i64 tag, .int .i64 vv, .string vs, .string s]] w fun e w' => e = .returned (.bool r) ∧ Below w.heap.size w w' := by
  have E := Aside0.mk HE
  clear HE
  have C1 := Aside0.mk (fun w => fits2_calls w tx)
  have C2 := Aside0.mk (fun w => fits2_calls w id)
  rw [ft] at C1
  rw [fi] at C2
  have ss' : ¬ 65535 < (s.size : Int) := by omega
  subst vn
  subst hb
  clear hC
  go_enter Try.func18, Try.ntmps18
  go_wp2_with (first | (go_at_call 23; (with_reducible refine (C1.out _).mono ?_); rintro e w1 ⟨rfl, ⟨nd, rfl⟩⟩) | (go_at_call 23; (with_reducible refine (C2.out _).mono ?_); rintro e w1 ⟨rfl, ⟨nd, rfl⟩⟩))
  go_ret
  exact ⟨congrArg (fun b => Ending.returned (.bool b)) E.out.symm, by repeat (first | exact Below.refl _ _ | apply below_alloc | apply pw_below_drewN | apply below_drew1)⟩
set_option maxRecDepth 100000 in
set_option maxHeartbeats 600000 in
theorem rr_11 (w : World) (k er tx id ti vt : Int) (A : Option Addr) (c : Nat) (ns : List Int) (vb : Bool) (tag vv : Int) (vs s : ByteArray) (r : Bool) (hC : (Kd.int .i64).C w A ns.length ns) (hl : ns.length ≤ 9000000) (HE : r = false) (k0 : ¬ k < 0) (k6 : ¬ 6 < k) (e0 : ¬ er < 0) (e6 : ¬ 65535 < er) (ft : fitsB tx = true) (fi : fitsB id = true) (ss : ¬ 65535 < s.size) (v0 : ¬ vt < 0) (v5 : ¬ 4 < vt) (vn : vt = 1) (hb : vb = false) (ht : ¬ tag = 0) : Calls Try.prog 18 #[.agg #[.int .i64 k, .int .i64 er, .int .i64 tx, .int .i64 id, .int .u64 ti, .int .i64 vt, .slice A ns.length c, .bool vb, .int .i64 tag, .int .i64 vv, .string vs, .string s]] w fun e w' => e = .returned (.bool r) ∧ Below w.heap.size w w' := by
  have E := Aside0.mk HE
  clear HE
  have C1 := Aside0.mk (fun w => fits2_calls w tx)
  have C2 := Aside0.mk (fun w => fits2_calls w id)
  rw [ft] at C1
  rw [fi] at C2
  have ss' : ¬ 65535 < (s.size : Int) := by omega
  subst vn
  subst hb
  have t0 : (tag != 0) = true := by simp [ht]
  clear hC
  go_enter Try.func18, Try.ntmps18
  go_wp2_with (first | (go_at_call 23; (with_reducible refine (C1.out _).mono ?_); rintro e w1 ⟨rfl, ⟨nd, rfl⟩⟩) | (go_at_call 23; (with_reducible refine (C2.out _).mono ?_); rintro e w1 ⟨rfl, ⟨nd, rfl⟩⟩))
  go_ret
  exact ⟨congrArg (fun b => Ending.returned (.bool b)) E.out.symm, by repeat (first | exact Below.refl _ _ | apply below_alloc | apply pw_below_drewN | apply below_drew1)⟩
set_option maxRecDepth 100000 in
set_option maxHeartbeats 600000 in
theorem rr_12 (w : World) (k er tx id ti vt : Int) (A : Option Addr) (c : Nat) (ns : List Int) (vb : Bool) (tag vv : Int) (vs s : ByteArray) (r : Bool) (hC : (Kd.int .i64).C w A ns.length ns) (hl : ns.length ≤ 9000000) (HE : r = false) (k0 : ¬ k < 0) (k6 : ¬ 6 < k) (e0 : ¬ er < 0) (e6 : ¬ 65535 < er) (ft : fitsB tx = true) (fi : fitsB id = true) (ss : ¬ 65535 < s.size) (v0 : ¬ vt < 0) (v5 : ¬ 4 < vt) (vn : vt = 1) (hb : vb = false) (ht : tag = 0) (hv : ¬ vv = 0) : Calls Try.prog 18 #[.agg #[.int .i64 k, .int .i64 er, .int .i64 tx, .int .i64 id, .int .u64 ti, .int .i64 vt, .slice A ns.length c, .bool vb, .int .i64 tag, .int .i64 vv, .string vs, .string s]] w fun e w' => e = .returned (.bool r) ∧ Below w.heap.size w w' := by
  have E := Aside0.mk HE
  clear HE
  have C1 := Aside0.mk (fun w => fits2_calls w tx)
  have C2 := Aside0.mk (fun w => fits2_calls w id)
  rw [ft] at C1
  rw [fi] at C2
  have ss' : ¬ 65535 < (s.size : Int) := by omega
  subst vn
  subst hb
  subst ht
  have vv0 : (vv != 0) = true := by simp [hv]
  clear hC
  go_enter Try.func18, Try.ntmps18
  go_wp2_with (first | (go_at_call 23; (with_reducible refine (C1.out _).mono ?_); rintro e w1 ⟨rfl, ⟨nd, rfl⟩⟩) | (go_at_call 23; (with_reducible refine (C2.out _).mono ?_); rintro e w1 ⟨rfl, ⟨nd, rfl⟩⟩))
  go_ret
  exact ⟨congrArg (fun b => Ending.returned (.bool b)) E.out.symm, by repeat (first | exact Below.refl _ _ | apply below_alloc | apply pw_below_drewN | apply below_drew1)⟩
set_option maxRecDepth 100000 in
set_option maxHeartbeats 600000 in
theorem rr_13 (w : World) (k er tx id ti vt : Int) (A : Option Addr) (c : Nat) (ns : List Int) (vb : Bool) (tag vv : Int) (vs s : ByteArray) (r : Bool) (hC : (Kd.int .i64).C w A ns.length ns) (hl : ns.length ≤ 9000000) (HE : r = false) (k0 : ¬ k < 0) (k6 : ¬ 6 < k) (e0 : ¬ er < 0) (e6 : ¬ 65535 < er) (ft : fitsB tx = true) (fi : fitsB id = true) (ss : ¬ 65535 < s.size) (v0 : ¬ vt < 0) (v5 : ¬ 4 < vt) (vn : vt = 1) (hb : vb = false) (ht : tag = 0) (hv : vv = 0) (hs : ¬ vs.toList = []) : Calls Try.prog 18 #[.agg #[.int .i64 k, .int .i64 er, .int .i64 tx, .int .i64 id, .int .u64 ti, .int .i64 vt, .slice A ns.length c, .bool vb, .int .i64 tag, .int .i64 vv, .string vs, .string s]] w fun e w' => e = .returned (.bool r) ∧ Below w.heap.size w w' := by
  have E := Aside0.mk HE
  clear HE
  have C1 := Aside0.mk (fun w => fits2_calls w tx)
  have C2 := Aside0.mk (fun w => fits2_calls w id)
  rw [ft] at C1
  rw [fi] at C2
  have ss' : ¬ 65535 < (s.size : Int) := by omega
  subst vn
  subst hb
  subst ht
  subst hv
  have hs2 : (!vs.toList.isEmpty) = true := by simpa using hs
  clear hC
  go_enter Try.func18, Try.ntmps18
  go_wp2_with (first | (go_at_call 23; (with_reducible refine (C1.out _).mono ?_); rintro e w1 ⟨rfl, ⟨nd, rfl⟩⟩) | (go_at_call 23; (with_reducible refine (C2.out _).mono ?_); rintro e w1 ⟨rfl, ⟨nd, rfl⟩⟩))
  go_ret
  exact ⟨congrArg (fun b => Ending.returned (.bool b)) E.out.symm, by repeat (first | exact Below.refl _ _ | apply below_alloc | apply pw_below_drewN | apply below_drew1)⟩
set_option maxRecDepth 100000 in
set_option maxHeartbeats 600000 in
theorem rr_14 (w : World) (k er tx id ti vt : Int) (A : Option Addr) (c : Nat) (ns : List Int) (vb : Bool) (tag vv : Int) (vs s : ByteArray) (r : Bool) (hC : (Kd.int .i64).C w A ns.length ns) (hl : ns.length ≤ 9000000) (HE : r = false) (k0 : ¬ k < 0) (k6 : ¬ 6 < k) (e0 : ¬ er < 0) (e6 : ¬ 65535 < er) (ft : fitsB tx = true) (fi : fitsB id = true) (ss : ¬ 65535 < s.size) (v0 : ¬ vt < 0) (v5 : ¬ 4 < vt) (vn : vt = 1) (hb : vb = false) (ht : tag = 0) (hv : vv = 0) (hs : vs.toList = []) (nm : 1000 < ns.length) : Calls Try.prog 18 #[.agg #[.int .i64 k, .int .i64 er, .int .i64 tx, .int .i64 id, .int .u64 ti, .int .i64 vt, .slice A ns.length c, .bool vb, .int .i64 tag, .int .i64 vv, .string vs, .string s]] w fun e w' => e = .returned (.bool r) ∧ Below w.heap.size w w' := by
  have E := Aside0.mk HE
  clear HE
  have C1 := Aside0.mk (fun w => fits2_calls w tx)
  have C2 := Aside0.mk (fun w => fits2_calls w id)
  rw [ft] at C1
  rw [fi] at C2
  have ss' : ¬ 65535 < (s.size : Int) := by omega
  subst vn
  subst hb
  subst ht
  subst hv
  have sz : ¬ 65535 < ((vs.size : Nat) : Int) := by have := isEmpty_nil hs; omega
  have nm' : 1000 < (ns.length : Int) := by omega
  clear hC
  go_enter Try.func18, Try.ntmps18
  go_wp2_with (first | (go_at_call 23; (with_reducible refine (C1.out _).mono ?_); rintro e w1 ⟨rfl, ⟨nd, rfl⟩⟩) | (go_at_call 23; (with_reducible refine (C2.out _).mono ?_); rintro e w1 ⟨rfl, ⟨nd, rfl⟩⟩))
  go_ret
  exact ⟨congrArg (fun b => Ending.returned (.bool b)) E.out.symm, by repeat (first | exact Below.refl _ _ | apply below_alloc | apply pw_below_drewN | apply below_drew1)⟩
set_option maxRecDepth 100000 in
set_option maxHeartbeats 600000 in
theorem rr_15 (w : World) (k er tx id ti vt : Int) (A : Option Addr) (c : Nat) (ns : List Int) (vb : Bool) (tag vv : Int) (vs s : ByteArray) (r : Bool) (hC : (Kd.int .i64).C w A ns.length ns) (hl : ns.length ≤ 9000000) (HE : r = !badB ns) (k0 : ¬ k < 0) (k6 : ¬ 6 < k) (e0 : ¬ er < 0) (e6 : ¬ 65535 < er) (ft : fitsB tx = true) (fi : fitsB id = true) (ss : ¬ 65535 < s.size) (v0 : ¬ vt < 0) (v5 : ¬ 4 < vt) (vn : vt = 1) (hb : vb = false) (ht : tag = 0) (hv : vv = 0) (hs : vs.toList = []) (nm : ¬ 1000 < ns.length) : Calls Try.prog 18 #[.agg #[.int .i64 k, .int .i64 er, .int .i64 tx, .int .i64 id, .int .u64 ti, .int .i64 vt, .slice A ns.length c, .bool vb, .int .i64 tag, .int .i64 vv, .string vs, .string s]] w fun e w' => e = .returned (.bool r) ∧ Below w.heap.size w w' := by
  have E := Aside0.mk HE
  clear HE
  have C1 := Aside0.mk (fun w => fits2_calls w tx)
  have C2 := Aside0.mk (fun w => fits2_calls w id)
  have C3 := Aside0.mk (fun w => dec_ref w tag vv)
  rw [ft] at C1
  rw [fi] at C2
  have ss' : ¬ 65535 < (s.size : Int) := by omega
  subst vn
  subst hb
  subst ht
  subst hv
  have sz : ¬ 65535 < ((vs.size : Nat) : Int) := by have := isEmpty_nil hs; omega
  have nm' : ¬ 1000 < (ns.length : Int) := by omega
  rw [show decB 0 0 = true from by decide] at C3
  have HC := Aside0.mk hC
  clear hC
  go_enter Try.func18, Try.ntmps18
  go_wp2_with (first | (go_at_call 23; (with_reducible refine (C1.out _).mono ?_); rintro e w1 ⟨rfl, ⟨nd, rfl⟩⟩) | (go_at_call 23; (with_reducible refine (C2.out _).mono ?_); rintro e w1 ⟨rfl, ⟨nd, rfl⟩⟩) | (go_at_call 35; (with_reducible refine (C3.out _).mono ?_); rintro e w2 ⟨rfl, hb⟩; have hns : w2.cell? ⟨w.heap.size + 1, 1, none⟩ = some (.slice A ns.length c) := pw_cell_below hb (by go_simp); have HB := Aside0.mk (show Below w.heap.size w w2 from below_step (by repeat (first | exact Below.refl _ _ | apply below_alloc | apply pw_below_drewN | apply below_drew1)) hb); clear hb))
  go_loopw [4] (fun v4 wr => ∃ j : Nat, v4 = .int .i64 j ∧ j ≤ ns.length ∧ Aside0 (badB ns = badB (ns.drop j)) ∧ Aside0 (Drawn0 w2 wr)) (fun v4 _ => (ns.length - intOf v4).toNat)
  case atStart => exact ⟨0, rfl, Nat.zero_le _, ⟨rfl⟩, ⟨Drawn0.refl _⟩⟩
  case round =>
    obtain ⟨j, rfl, hj, HB2, HD⟩ := hrel
    have hn2 : wr.cell? ⟨w.heap.size + 1, 1, none⟩ = some (.slice A ns.length c) := by obtain ⟨nd2, e⟩ := HD.out; rw [e]; exact hns
    have hbw : Below w.heap.size w wr := by obtain ⟨nd2, e⟩ := HD.out; rw [e]; exact pw_below_drewN HB.out nd2
    have HBW := Aside0.mk hbw
    by_cases hjs : j < ns.length
    · have hjs' : (j : Int) < ns.length := by omega
      obtain ⟨ad, cc, rfl, hce, hK1, hK2⟩ := Kd.C_get (Kd.C_below HC.out hbw) (0 : Int) j (by omega) (by omega)
      have e1 : cc = [.int .i64 (rd ns j)] := hK1
      have hcell : wr.cell? (ad.add j) = some (.int .i64 (rd ns j)) := by
        have := hK2 0 (.int .i64 (rd ns j)) (by rw [e1]; rfl)
        rw [show ((j : Int).toNat * (Kd.int .i64).sz + 0) = j from by show (j : Int).toNat * 1 + 0 = j; simp] at this
        exact this
      have hbad : badB ns = ((!fitsB (rd ns j)) || badB (ns.drop (j + 1))) := by
        rw [HB2.out, rd_drop ns j hjs]; simp [badB]
      have HBAD := Aside0.mk hbad
      have C4 := fun w => fits2_calls w (rd ns j)
      generalize fitsB (rd ns j) = f at *
      clear hK1 hK2 hce e1 hbad hbw hns
      cases f with
      | true =>
        go_wp2_with (first | (go_at_call 23; (with_reducible refine (C4 _).mono ?_); rintro e w' ⟨rfl, hd⟩; have HD2 := Aside0.mk hd; clear hd))
        go_roundw
        case rel => exact ⟨j + 1, rfl, hjs, ⟨by rw [HBAD.out]; rfl⟩, ⟨Drawn0.two HD.out HD2.out⟩⟩
        case measure => simp [intOf]; omega
      | false =>
        go_wp2_with (first | (go_at_call 23; (with_reducible refine (C4 _).mono ?_); rintro e w' ⟨rfl, hd⟩; have HD2 := Aside0.mk hd; clear hd))
        go_ret
        exact ⟨by rw [E.out, HBAD.out]; rfl, by obtain ⟨nd3, e⟩ := HD2.out; rw [e]; exact pw_below_drewN HBW.out nd3⟩
    · have hjs' : ¬ (j : Int) < ns.length := by omega
      have hd0 : ns.drop j = [] := List.drop_eq_nil_of_le (by omega)
      have HE := Aside0.mk (show badB ns = false by rw [HB2.out, hd0]; rfl)
      clear hd0 hbw hns
      go_wp2
      go_ret
      exact ⟨by rw [E.out, HE.out]; rfl, HBW.out⟩
set_option maxRecDepth 100000 in
set_option maxHeartbeats 600000 in
theorem rr_16 (w : World) (k er tx id ti vt : Int) (A : Option Addr) (c : Nat) (ns : List Int) (vb : Bool) (tag vv : Int) (vs s : ByteArray) (r : Bool) (hC : (Kd.int .i64).C w A ns.length ns) (hl : ns.length ≤ 9000000) (HE : r = false) (k0 : ¬ k < 0) (k6 : ¬ 6 < k) (e0 : ¬ er < 0) (e6 : ¬ 65535 < er) (ft : fitsB tx = true) (fi : fitsB id = true) (ss : ¬ 65535 < s.size) (v0 : ¬ vt < 0) (v5 : ¬ 4 < vt) (vn : vt = 2) (np : 0 < ns.length) : Calls Try.prog 18 #[.agg #[.int .i64 k, .int .i64 er, .int .i64 tx, .int .i64 id, .int .u64 ti, .int .i64 vt, .slice A ns.length c, .bool vb, .int .i64 tag, .int .i64 vv, .string vs, .string s]] w fun e w' => e = .returned (.bool r) ∧ Below w.heap.size w w' := by
  have E := Aside0.mk HE
  clear HE
  have C1 := Aside0.mk (fun w => fits2_calls w tx)
  have C2 := Aside0.mk (fun w => fits2_calls w id)
  rw [ft] at C1
  rw [fi] at C2
  have ss' : ¬ 65535 < (s.size : Int) := by omega
  subst vn
  have n1 : 0 < (ns.length : Int) := by omega
  clear hC
  go_enter Try.func18, Try.ntmps18
  go_wp2_with (first | (go_at_call 23; (with_reducible refine (C1.out _).mono ?_); rintro e w1 ⟨rfl, ⟨nd, rfl⟩⟩) | (go_at_call 23; (with_reducible refine (C2.out _).mono ?_); rintro e w1 ⟨rfl, ⟨nd, rfl⟩⟩))
  go_ret
  exact ⟨congrArg (fun b => Ending.returned (.bool b)) E.out.symm, by repeat (first | exact Below.refl _ _ | apply below_alloc | apply pw_below_drewN | apply below_drew1)⟩
set_option maxRecDepth 100000 in
set_option maxHeartbeats 600000 in
theorem rr_17 (w : World) (k er tx id ti vt : Int) (A : Option Addr) (c : Nat) (ns : List Int) (vb : Bool) (tag vv : Int) (vs s : ByteArray) (r : Bool) (hC : (Kd.int .i64).C w A ns.length ns) (hl : ns.length ≤ 9000000) (HE : r = false) (k0 : ¬ k < 0) (k6 : ¬ 6 < k) (e0 : ¬ er < 0) (e6 : ¬ 65535 < er) (ft : fitsB tx = true) (fi : fitsB id = true) (ss : ¬ 65535 < s.size) (v0 : ¬ vt < 0) (v5 : ¬ 4 < vt) (vn : vt = 2) (nz : ns.length = 0) (ht : ¬ tag = 0) : Calls Try.prog 18 #[.agg #[.int .i64 k, .int .i64 er, .int .i64 tx, .int .i64 id, .int .u64 ti, .int .i64 vt, .slice A ns.length c, .bool vb, .int .i64 tag, .int .i64 vv, .string vs, .string s]] w fun e w' => e = .returned (.bool r) ∧ Below w.heap.size w w' := by
  have E := Aside0.mk HE
  clear HE
  have C1 := Aside0.mk (fun w => fits2_calls w tx)
  have C2 := Aside0.mk (fun w => fits2_calls w id)
  rw [ft] at C1
  rw [fi] at C2
  have ss' : ¬ 65535 < (s.size : Int) := by omega
  subst vn
  obtain rfl : ns = [] := List.length_eq_zero_iff.mp nz
  simp only [List.length_nil] at *
  have t0 : (tag != 0) = true := by simp [ht]
  clear hC
  go_enter Try.func18, Try.ntmps18
  go_wp2_with (first | (go_at_call 23; (with_reducible refine (C1.out _).mono ?_); rintro e w1 ⟨rfl, ⟨nd, rfl⟩⟩) | (go_at_call 23; (with_reducible refine (C2.out _).mono ?_); rintro e w1 ⟨rfl, ⟨nd, rfl⟩⟩))
  go_ret
  exact ⟨congrArg (fun b => Ending.returned (.bool b)) E.out.symm, by repeat (first | exact Below.refl _ _ | apply below_alloc | apply pw_below_drewN | apply below_drew1)⟩
set_option maxRecDepth 100000 in
set_option maxHeartbeats 600000 in
theorem rr_18 (w : World) (k er tx id ti vt : Int) (A : Option Addr) (c : Nat) (ns : List Int) (vb : Bool) (tag vv : Int) (vs s : ByteArray) (r : Bool) (hC : (Kd.int .i64).C w A ns.length ns) (hl : ns.length ≤ 9000000) (HE : r = false) (k0 : ¬ k < 0) (k6 : ¬ 6 < k) (e0 : ¬ er < 0) (e6 : ¬ 65535 < er) (ft : fitsB tx = true) (fi : fitsB id = true) (ss : ¬ 65535 < s.size) (v0 : ¬ vt < 0) (v5 : ¬ 4 < vt) (vn : vt = 2) (nz : ns.length = 0) (ht : tag = 0) (hv : ¬ vv = 0) : Calls Try.prog 18 #[.agg #[.int .i64 k, .int .i64 er, .int .i64 tx, .int .i64 id, .int .u64 ti, .int .i64 vt, .slice A ns.length c, .bool vb, .int .i64 tag, .int .i64 vv, .string vs, .string s]] w fun e w' => e = .returned (.bool r) ∧ Below w.heap.size w w' := by
  have E := Aside0.mk HE
  clear HE
  have C1 := Aside0.mk (fun w => fits2_calls w tx)
  have C2 := Aside0.mk (fun w => fits2_calls w id)
  rw [ft] at C1
  rw [fi] at C2
  have ss' : ¬ 65535 < (s.size : Int) := by omega
  subst vn
  obtain rfl : ns = [] := List.length_eq_zero_iff.mp nz
  simp only [List.length_nil] at *
  subst ht
  have vv0 : (vv != 0) = true := by simp [hv]
  clear hC
  go_enter Try.func18, Try.ntmps18
  go_wp2_with (first | (go_at_call 23; (with_reducible refine (C1.out _).mono ?_); rintro e w1 ⟨rfl, ⟨nd, rfl⟩⟩) | (go_at_call 23; (with_reducible refine (C2.out _).mono ?_); rintro e w1 ⟨rfl, ⟨nd, rfl⟩⟩))
  go_ret
  exact ⟨congrArg (fun b => Ending.returned (.bool b)) E.out.symm, by repeat (first | exact Below.refl _ _ | apply below_alloc | apply pw_below_drewN | apply below_drew1)⟩
set_option maxRecDepth 100000 in
set_option maxHeartbeats 600000 in
theorem rr_19 (w : World) (k er tx id ti vt : Int) (A : Option Addr) (c : Nat) (ns : List Int) (vb : Bool) (tag vv : Int) (vs s : ByteArray) (r : Bool) (hC : (Kd.int .i64).C w A ns.length ns) (hl : ns.length ≤ 9000000) (HE : r = false) (k0 : ¬ k < 0) (k6 : ¬ 6 < k) (e0 : ¬ er < 0) (e6 : ¬ 65535 < er) (ft : fitsB tx = true) (fi : fitsB id = true) (ss : ¬ 65535 < s.size) (v0 : ¬ vt < 0) (v5 : ¬ 4 < vt) (vn : vt = 2) (nz : ns.length = 0) (ht : tag = 0) (hv : vv = 0) (hs : ¬ vs.toList = []) : Calls Try.prog 18 #[.agg #[.int .i64 k, .int .i64 er, .int .i64 tx, .int .i64 id, .int .u64 ti, .int .i64 vt, .slice A ns.length c, .bool vb, .int .i64 tag, .int .i64 vv, .string vs, .string s]] w fun e w' => e = .returned (.bool r) ∧ Below w.heap.size w w' := by
  have E := Aside0.mk HE
  clear HE
  have C1 := Aside0.mk (fun w => fits2_calls w tx)
  have C2 := Aside0.mk (fun w => fits2_calls w id)
  rw [ft] at C1
  rw [fi] at C2
  have ss' : ¬ 65535 < (s.size : Int) := by omega
  subst vn
  obtain rfl : ns = [] := List.length_eq_zero_iff.mp nz
  simp only [List.length_nil] at *
  subst ht
  subst hv
  have hs2 : (!vs.toList.isEmpty) = true := by simpa using hs
  clear hC
  go_enter Try.func18, Try.ntmps18
  go_wp2_with (first | (go_at_call 23; (with_reducible refine (C1.out _).mono ?_); rintro e w1 ⟨rfl, ⟨nd, rfl⟩⟩) | (go_at_call 23; (with_reducible refine (C2.out _).mono ?_); rintro e w1 ⟨rfl, ⟨nd, rfl⟩⟩))
  go_ret
  exact ⟨congrArg (fun b => Ending.returned (.bool b)) E.out.symm, by repeat (first | exact Below.refl _ _ | apply below_alloc | apply pw_below_drewN | apply below_drew1)⟩
set_option maxRecDepth 100000 in
set_option maxHeartbeats 600000 in
theorem rr_20 (w : World) (k er tx id ti vt : Int) (A : Option Addr) (c : Nat) (ns : List Int) (vb : Bool) (tag vv : Int) (vs s : ByteArray) (r : Bool) (hC : (Kd.int .i64).C w A ns.length ns) (hl : ns.length ≤ 9000000) (HE : r = true) (k0 : ¬ k < 0) (k6 : ¬ 6 < k) (e0 : ¬ er < 0) (e6 : ¬ 65535 < er) (ft : fitsB tx = true) (fi : fitsB id = true) (ss : ¬ 65535 < s.size) (v0 : ¬ vt < 0) (v5 : ¬ 4 < vt) (vn : vt = 2) (nz : ns.length = 0) (ht : tag = 0) (hv : vv = 0) (hs : vs.toList = []) : Calls Try.prog 18 #[.agg #[.int .i64 k, .int .i64 er, .int .i64 tx, .int .i64 id, .int .u64 ti, .int .i64 vt, .slice A ns.length c, .bool vb, .int .i64 tag, .int .i64 vv, .string vs, .string s]] w fun e w' => e = .returned (.bool r) ∧ Below w.heap.size w w' := by
  have E := Aside0.mk HE
  clear HE
  have C1 := Aside0.mk (fun w => fits2_calls w tx)
  have C2 := Aside0.mk (fun w => fits2_calls w id)
  have C3 := Aside0.mk (fun w => dec_ref w tag vv)
  rw [ft] at C1
  rw [fi] at C2
  have ss' : ¬ 65535 < (s.size : Int) := by omega
  subst vn
  obtain rfl : ns = [] := List.length_eq_zero_iff.mp nz
  simp only [List.length_nil] at *
  subst ht
  subst hv
  have sz : ¬ 65535 < ((vs.size : Nat) : Int) := by have := isEmpty_nil hs; omega
  rw [show decB 0 0 = true from by decide] at C3
  clear hC
  go_enter Try.func18, Try.ntmps18
  go_wp2_with (first | (go_at_call 23; (with_reducible refine (C1.out _).mono ?_); rintro e w1 ⟨rfl, ⟨nd, rfl⟩⟩) | (go_at_call 23; (with_reducible refine (C2.out _).mono ?_); rintro e w1 ⟨rfl, ⟨nd, rfl⟩⟩) | (go_at_call 35; (with_reducible refine (C3.out _).mono ?_); rintro e w2 ⟨rfl, hb⟩; have hns : w2.cell? ⟨w.heap.size + 1, 1, none⟩ = some (.slice A 0 c) := pw_cell_below hb (by go_simp); have HB := Aside0.mk (show Below w.heap.size w w2 from below_step (by repeat (first | exact Below.refl _ _ | apply below_alloc | apply pw_below_drewN | apply below_drew1)) hb); clear hb))
  go_loopw [4] (fun v4 wr => v4 = .int .i64 0 ∧ Aside0 (Drawn0 w2 wr)) (fun _ _ => 0)
  case atStart => exact ⟨rfl, ⟨Drawn0.refl _⟩⟩
  case round =>
    obtain ⟨rfl, HD⟩ := hrel
    have hn2 : wr.cell? ⟨w.heap.size + 1, 1, none⟩ = some (.slice A 0 c) := by obtain ⟨nd2, e⟩ := HD.out; rw [e]; exact hns
    go_wp2
    go_ret
    exact ⟨congrArg (fun b => Ending.returned (.bool b)) E.out.symm, by obtain ⟨nd2, e⟩ := HD.out; rw [e]; exact pw_below_drewN HB.out nd2⟩
set_option maxRecDepth 100000 in
set_option maxHeartbeats 600000 in
theorem rr_21 (w : World) (k er tx id ti vt : Int) (A : Option Addr) (c : Nat) (ns : List Int) (vb : Bool) (tag vv : Int) (vs s : ByteArray) (r : Bool) (hC : (Kd.int .i64).C w A ns.length ns) (hl : ns.length ≤ 9000000) (HE : r = false) (k0 : ¬ k < 0) (k6 : ¬ 6 < k) (e0 : ¬ er < 0) (e6 : ¬ 65535 < er) (ft : fitsB tx = true) (fi : fitsB id = true) (ss : ¬ 65535 < s.size) (v0 : ¬ vt < 0) (v5 : ¬ 4 < vt) (vn : vt = 3) (np : 0 < ns.length) : Calls Try.prog 18 #[.agg #[.int .i64 k, .int .i64 er, .int .i64 tx, .int .i64 id, .int .u64 ti, .int .i64 vt, .slice A ns.length c, .bool vb, .int .i64 tag, .int .i64 vv, .string vs, .string s]] w fun e w' => e = .returned (.bool r) ∧ Below w.heap.size w w' := by
  have E := Aside0.mk HE
  clear HE
  have C1 := Aside0.mk (fun w => fits2_calls w tx)
  have C2 := Aside0.mk (fun w => fits2_calls w id)
  rw [ft] at C1
  rw [fi] at C2
  have ss' : ¬ 65535 < (s.size : Int) := by omega
  subst vn
  have n1 : 0 < (ns.length : Int) := by omega
  clear hC
  go_enter Try.func18, Try.ntmps18
  go_wp2_with (first | (go_at_call 23; (with_reducible refine (C1.out _).mono ?_); rintro e w1 ⟨rfl, ⟨nd, rfl⟩⟩) | (go_at_call 23; (with_reducible refine (C2.out _).mono ?_); rintro e w1 ⟨rfl, ⟨nd, rfl⟩⟩))
  go_ret
  exact ⟨congrArg (fun b => Ending.returned (.bool b)) E.out.symm, by repeat (first | exact Below.refl _ _ | apply below_alloc | apply pw_below_drewN | apply below_drew1)⟩
set_option maxRecDepth 100000 in
set_option maxHeartbeats 600000 in
theorem rr_22 (w : World) (k er tx id ti vt : Int) (A : Option Addr) (c : Nat) (ns : List Int) (vb : Bool) (tag vv : Int) (vs s : ByteArray) (r : Bool) (hC : (Kd.int .i64).C w A ns.length ns) (hl : ns.length ≤ 9000000) (HE : r = false) (k0 : ¬ k < 0) (k6 : ¬ 6 < k) (e0 : ¬ er < 0) (e6 : ¬ 65535 < er) (ft : fitsB tx = true) (fi : fitsB id = true) (ss : ¬ 65535 < s.size) (v0 : ¬ vt < 0) (v5 : ¬ 4 < vt) (vn : vt = 3) (nz : ns.length = 0) (hb : vb = true) : Calls Try.prog 18 #[.agg #[.int .i64 k, .int .i64 er, .int .i64 tx, .int .i64 id, .int .u64 ti, .int .i64 vt, .slice A ns.length c, .bool vb, .int .i64 tag, .int .i64 vv, .string vs, .string s]] w fun e w' => e = .returned (.bool r) ∧ Below w.heap.size w w' := by
  have E := Aside0.mk HE
  clear HE
  have C1 := Aside0.mk (fun w => fits2_calls w tx)
  have C2 := Aside0.mk (fun w => fits2_calls w id)
  rw [ft] at C1
  rw [fi] at C2
  have ss' : ¬ 65535 < (s.size : Int) := by omega
  subst vn
  obtain rfl : ns = [] := List.length_eq_zero_iff.mp nz
  simp only [List.length_nil] at *
  subst hb
  clear hC
  go_enter Try.func18, Try.ntmps18
  go_wp2_with (first | (go_at_call 23; (with_reducible refine (C1.out _).mono ?_); rintro e w1 ⟨rfl, ⟨nd, rfl⟩⟩) | (go_at_call 23; (with_reducible refine (C2.out _).mono ?_); rintro e w1 ⟨rfl, ⟨nd, rfl⟩⟩))
  go_ret
  exact ⟨congrArg (fun b => Ending.returned (.bool b)) E.out.symm, by repeat (first | exact Below.refl _ _ | apply below_alloc | apply pw_below_drewN | apply below_drew1)⟩
set_option maxRecDepth 100000 in
set_option maxHeartbeats 600000 in
theorem rr_23 (w : World) (k er tx id ti vt : Int) (A : Option Addr) (c : Nat) (ns : List Int) (vb : Bool) (tag vv : Int) (vs s : ByteArray) (r : Bool) (hC : (Kd.int .i64).C w A ns.length ns) (hl : ns.length ≤ 9000000) (HE : r = false) (k0 : ¬ k < 0) (k6 : ¬ 6 < k) (e0 : ¬ er < 0) (e6 : ¬ 65535 < er) (ft : fitsB tx = true) (fi : fitsB id = true) (ss : ¬ 65535 < s.size) (v0 : ¬ vt < 0) (v5 : ¬ 4 < vt) (vn : vt = 3) (nz : ns.length = 0) (hb : vb = false) (hs : ¬ vs.toList = []) : Calls Try.prog 18 #[.agg #[.int .i64 k, .int .i64 er, .int .i64 tx, .int .i64 id, .int .u64 ti, .int .i64 vt, .slice A ns.length c, .bool vb, .int .i64 tag, .int .i64 vv, .string vs, .string s]] w fun e w' => e = .returned (.bool r) ∧ Below w.heap.size w w' := by
  have E := Aside0.mk HE
  clear HE
  have C1 := Aside0.mk (fun w => fits2_calls w tx)
  have C2 := Aside0.mk (fun w => fits2_calls w id)
  rw [ft] at C1
  rw [fi] at C2
  have ss' : ¬ 65535 < (s.size : Int) := by omega
  subst vn
  obtain rfl : ns = [] := List.length_eq_zero_iff.mp nz
  simp only [List.length_nil] at *
  subst hb
  have hs2 : (!vs.toList.isEmpty) = true := by simpa using hs
  clear hC
  go_enter Try.func18, Try.ntmps18
  go_wp2_with (first | (go_at_call 23; (with_reducible refine (C1.out _).mono ?_); rintro e w1 ⟨rfl, ⟨nd, rfl⟩⟩) | (go_at_call 23; (with_reducible refine (C2.out _).mono ?_); rintro e w1 ⟨rfl, ⟨nd, rfl⟩⟩))
  go_ret
  exact ⟨congrArg (fun b => Ending.returned (.bool b)) E.out.symm, by repeat (first | exact Below.refl _ _ | apply below_alloc | apply pw_below_drewN | apply below_drew1)⟩
set_option maxRecDepth 100000 in
set_option maxHeartbeats 600000 in
theorem rr_24 (w : World) (k er tx id ti vt : Int) (A : Option Addr) (c : Nat) (ns : List Int) (vb : Bool) (tag vv : Int) (vs s : ByteArray) (r : Bool) (hC : (Kd.int .i64).C w A ns.length ns) (hl : ns.length ≤ 9000000) (HE : r = false) (k0 : ¬ k < 0) (k6 : ¬ 6 < k) (e0 : ¬ er < 0) (e6 : ¬ 65535 < er) (ft : fitsB tx = true) (fi : fitsB id = true) (ss : ¬ 65535 < s.size) (v0 : ¬ vt < 0) (v5 : ¬ 4 < vt) (vn : vt = 3) (nz : ns.length = 0) (hb : vb = false) (hs : vs.toList = []) (dd : decB tag vv = false) : Calls Try.prog 18 #[.agg #[.int .i64 k, .int .i64 er, .int .i64 tx, .int .i64 id, .int .u64 ti, .int .i64 vt, .slice A ns.length c, .bool vb, .int .i64 tag, .int .i64 vv, .string vs, .string s]] w fun e w' => e = .returned (.bool r) ∧ Below w.heap.size w w' := by
  have E := Aside0.mk HE
  clear HE
  have C1 := Aside0.mk (fun w => fits2_calls w tx)
  have C2 := Aside0.mk (fun w => fits2_calls w id)
  have C3 := Aside0.mk (fun w => dec_ref w tag vv)
  rw [ft] at C1
  rw [fi] at C2
  have ss' : ¬ 65535 < (s.size : Int) := by omega
  subst vn
  obtain rfl : ns = [] := List.length_eq_zero_iff.mp nz
  simp only [List.length_nil] at *
  subst hb
  have sz : ¬ 65535 < ((vs.size : Nat) : Int) := by have := isEmpty_nil hs; omega
  rw [show decB tag vv = false from dd] at C3
  clear hC
  go_enter Try.func18, Try.ntmps18
  go_wp2_with (first | (go_at_call 23; (with_reducible refine (C1.out _).mono ?_); rintro e w1 ⟨rfl, ⟨nd, rfl⟩⟩) | (go_at_call 23; (with_reducible refine (C2.out _).mono ?_); rintro e w1 ⟨rfl, ⟨nd, rfl⟩⟩) | (go_at_call 35; (with_reducible refine (C3.out _).mono ?_); rintro e w2 ⟨rfl, hb⟩; have hns : w2.cell? ⟨w.heap.size + 1, 1, none⟩ = some (.slice A 0 c) := pw_cell_below hb (by go_simp); have HB := Aside0.mk (show Below w.heap.size w w2 from below_step (by repeat (first | exact Below.refl _ _ | apply below_alloc | apply pw_below_drewN | apply below_drew1)) hb); clear hb))
  go_ret
  exact ⟨congrArg (fun b => Ending.returned (.bool b)) E.out.symm, HB.out⟩
set_option maxRecDepth 100000 in
set_option maxHeartbeats 600000 in
theorem rr_25 (w : World) (k er tx id ti vt : Int) (A : Option Addr) (c : Nat) (ns : List Int) (vb : Bool) (tag vv : Int) (vs s : ByteArray) (r : Bool) (hC : (Kd.int .i64).C w A ns.length ns) (hl : ns.length ≤ 9000000) (HE : r = true) (k0 : ¬ k < 0) (k6 : ¬ 6 < k) (e0 : ¬ er < 0) (e6 : ¬ 65535 < er) (ft : fitsB tx = true) (fi : fitsB id = true) (ss : ¬ 65535 < s.size) (v0 : ¬ vt < 0) (v5 : ¬ 4 < vt) (vn : vt = 3) (nz : ns.length = 0) (hb : vb = false) (hs : vs.toList = []) (dd : decB tag vv = true) : Calls Try.prog 18 #[.agg #[.int .i64 k, .int .i64 er, .int .i64 tx, .int .i64 id, .int .u64 ti, .int .i64 vt, .slice A ns.length c, .bool vb, .int .i64 tag, .int .i64 vv, .string vs, .string s]] w fun e w' => e = .returned (.bool r) ∧ Below w.heap.size w w' := by
  have E := Aside0.mk HE
  clear HE
  have C1 := Aside0.mk (fun w => fits2_calls w tx)
  have C2 := Aside0.mk (fun w => fits2_calls w id)
  have C3 := Aside0.mk (fun w => dec_ref w tag vv)
  rw [ft] at C1
  rw [fi] at C2
  have ss' : ¬ 65535 < (s.size : Int) := by omega
  subst vn
  obtain rfl : ns = [] := List.length_eq_zero_iff.mp nz
  simp only [List.length_nil] at *
  subst hb
  have sz : ¬ 65535 < ((vs.size : Nat) : Int) := by have := isEmpty_nil hs; omega
  rw [show decB tag vv = true from dd] at C3
  clear hC
  go_enter Try.func18, Try.ntmps18
  go_wp2_with (first | (go_at_call 23; (with_reducible refine (C1.out _).mono ?_); rintro e w1 ⟨rfl, ⟨nd, rfl⟩⟩) | (go_at_call 23; (with_reducible refine (C2.out _).mono ?_); rintro e w1 ⟨rfl, ⟨nd, rfl⟩⟩) | (go_at_call 35; (with_reducible refine (C3.out _).mono ?_); rintro e w2 ⟨rfl, hb⟩; have hns : w2.cell? ⟨w.heap.size + 1, 1, none⟩ = some (.slice A 0 c) := pw_cell_below hb (by go_simp); have HB := Aside0.mk (show Below w.heap.size w w2 from below_step (by repeat (first | exact Below.refl _ _ | apply below_alloc | apply pw_below_drewN | apply below_drew1)) hb); clear hb))
  go_loopw [4] (fun v4 wr => v4 = .int .i64 0 ∧ Aside0 (Drawn0 w2 wr)) (fun _ _ => 0)
  case atStart => exact ⟨rfl, ⟨Drawn0.refl _⟩⟩
  case round =>
    obtain ⟨rfl, HD⟩ := hrel
    have hn2 : wr.cell? ⟨w.heap.size + 1, 1, none⟩ = some (.slice A 0 c) := by obtain ⟨nd2, e⟩ := HD.out; rw [e]; exact hns
    go_wp2
    go_ret
    exact ⟨congrArg (fun b => Ending.returned (.bool b)) E.out.symm, by obtain ⟨nd2, e⟩ := HD.out; rw [e]; exact pw_below_drewN HB.out nd2⟩
set_option maxRecDepth 100000 in
set_option maxHeartbeats 600000 in
theorem rr_26 (w : World) (k er tx id ti vt : Int) (A : Option Addr) (c : Nat) (ns : List Int) (vb : Bool) (tag vv : Int) (vs s : ByteArray) (r : Bool) (hC : (Kd.int .i64).C w A ns.length ns) (hl : ns.length ≤ 9000000) (HE : r = false) (k0 : ¬ k < 0) (k6 : ¬ 6 < k) (e0 : ¬ er < 0) (e6 : ¬ 65535 < er) (ft : fitsB tx = true) (fi : fitsB id = true) (ss : ¬ 65535 < s.size) (v0 : ¬ vt < 0) (v5 : ¬ 4 < vt) (vn : vt = 4) (np : 0 < ns.length) : Calls Try.prog 18 #[.agg #[.int .i64 k, .int .i64 er, .int .i64 tx, .int .i64 id, .int .u64 ti, .int .i64 vt, .slice A ns.length c, .bool vb, .int .i64 tag, .int .i64 vv, .string vs, .string s]] w fun e w' => e = .returned (.bool r) ∧ Below w.heap.size w w' := by
  have E := Aside0.mk HE
  clear HE
  have C1 := Aside0.mk (fun w => fits2_calls w tx)
  have C2 := Aside0.mk (fun w => fits2_calls w id)
  rw [ft] at C1
  rw [fi] at C2
  have ss' : ¬ 65535 < (s.size : Int) := by omega
  subst vn
  have n1 : 0 < (ns.length : Int) := by omega
  clear hC
  go_enter Try.func18, Try.ntmps18
  go_wp2_with (first | (go_at_call 23; (with_reducible refine (C1.out _).mono ?_); rintro e w1 ⟨rfl, ⟨nd, rfl⟩⟩) | (go_at_call 23; (with_reducible refine (C2.out _).mono ?_); rintro e w1 ⟨rfl, ⟨nd, rfl⟩⟩))
  go_ret
  exact ⟨congrArg (fun b => Ending.returned (.bool b)) E.out.symm, by repeat (first | exact Below.refl _ _ | apply below_alloc | apply pw_below_drewN | apply below_drew1)⟩
set_option maxRecDepth 100000 in
set_option maxHeartbeats 600000 in
theorem rr_27 (w : World) (k er tx id ti vt : Int) (A : Option Addr) (c : Nat) (ns : List Int) (vb : Bool) (tag vv : Int) (vs s : ByteArray) (r : Bool) (hC : (Kd.int .i64).C w A ns.length ns) (hl : ns.length ≤ 9000000) (HE : r = false) (k0 : ¬ k < 0) (k6 : ¬ 6 < k) (e0 : ¬ er < 0) (e6 : ¬ 65535 < er) (ft : fitsB tx = true) (fi : fitsB id = true) (ss : ¬ 65535 < s.size) (v0 : ¬ vt < 0) (v5 : ¬ 4 < vt) (vn : vt = 4) (nz : ns.length = 0) (hb : vb = true) : Calls Try.prog 18 #[.agg #[.int .i64 k, .int .i64 er, .int .i64 tx, .int .i64 id, .int .u64 ti, .int .i64 vt, .slice A ns.length c, .bool vb, .int .i64 tag, .int .i64 vv, .string vs, .string s]] w fun e w' => e = .returned (.bool r) ∧ Below w.heap.size w w' := by
  have E := Aside0.mk HE
  clear HE
  have C1 := Aside0.mk (fun w => fits2_calls w tx)
  have C2 := Aside0.mk (fun w => fits2_calls w id)
  rw [ft] at C1
  rw [fi] at C2
  have ss' : ¬ 65535 < (s.size : Int) := by omega
  subst vn
  obtain rfl : ns = [] := List.length_eq_zero_iff.mp nz
  simp only [List.length_nil] at *
  subst hb
  clear hC
  go_enter Try.func18, Try.ntmps18
  go_wp2_with (first | (go_at_call 23; (with_reducible refine (C1.out _).mono ?_); rintro e w1 ⟨rfl, ⟨nd, rfl⟩⟩) | (go_at_call 23; (with_reducible refine (C2.out _).mono ?_); rintro e w1 ⟨rfl, ⟨nd, rfl⟩⟩))
  go_ret
  exact ⟨congrArg (fun b => Ending.returned (.bool b)) E.out.symm, by repeat (first | exact Below.refl _ _ | apply below_alloc | apply pw_below_drewN | apply below_drew1)⟩
set_option maxRecDepth 100000 in
set_option maxHeartbeats 600000 in
theorem rr_28 (w : World) (k er tx id ti vt : Int) (A : Option Addr) (c : Nat) (ns : List Int) (vb : Bool) (tag vv : Int) (vs s : ByteArray) (r : Bool) (hC : (Kd.int .i64).C w A ns.length ns) (hl : ns.length ≤ 9000000) (HE : r = false) (k0 : ¬ k < 0) (k6 : ¬ 6 < k) (e0 : ¬ er < 0) (e6 : ¬ 65535 < er) (ft : fitsB tx = true) (fi : fitsB id = true) (ss : ¬ 65535 < s.size) (v0 : ¬ vt < 0) (v5 : ¬ 4 < vt) (vn : vt = 4) (nz : ns.length = 0) (hb : vb = false) (ht : ¬ tag = 0) : Calls Try.prog 18 #[.agg #[.int .i64 k, .int .i64 er, .int .i64 tx, .int .i64 id, .int .u64 ti, .int .i64 vt, .slice A ns.length c, .bool vb, .int .i64 tag, .int .i64 vv, .string vs, .string s]] w fun e w' => e = .returned (.bool r) ∧ Below w.heap.size w w' := by
  have E := Aside0.mk HE
  clear HE
  have C1 := Aside0.mk (fun w => fits2_calls w tx)
  have C2 := Aside0.mk (fun w => fits2_calls w id)
  rw [ft] at C1
  rw [fi] at C2
  have ss' : ¬ 65535 < (s.size : Int) := by omega
  subst vn
  obtain rfl : ns = [] := List.length_eq_zero_iff.mp nz
  simp only [List.length_nil] at *
  subst hb
  have t0 : (tag != 0) = true := by simp [ht]
  clear hC
  go_enter Try.func18, Try.ntmps18
  go_wp2_with (first | (go_at_call 23; (with_reducible refine (C1.out _).mono ?_); rintro e w1 ⟨rfl, ⟨nd, rfl⟩⟩) | (go_at_call 23; (with_reducible refine (C2.out _).mono ?_); rintro e w1 ⟨rfl, ⟨nd, rfl⟩⟩))
  go_ret
  exact ⟨congrArg (fun b => Ending.returned (.bool b)) E.out.symm, by repeat (first | exact Below.refl _ _ | apply below_alloc | apply pw_below_drewN | apply below_drew1)⟩
set_option maxRecDepth 100000 in
set_option maxHeartbeats 600000 in
theorem rr_29 (w : World) (k er tx id ti vt : Int) (A : Option Addr) (c : Nat) (ns : List Int) (vb : Bool) (tag vv : Int) (vs s : ByteArray) (r : Bool) (hC : (Kd.int .i64).C w A ns.length ns) (hl : ns.length ≤ 9000000) (HE : r = false) (k0 : ¬ k < 0) (k6 : ¬ 6 < k) (e0 : ¬ er < 0) (e6 : ¬ 65535 < er) (ft : fitsB tx = true) (fi : fitsB id = true) (ss : ¬ 65535 < s.size) (v0 : ¬ vt < 0) (v5 : ¬ 4 < vt) (vn : vt = 4) (nz : ns.length = 0) (hb : vb = false) (ht : tag = 0) (hv : ¬ vv = 0) : Calls Try.prog 18 #[.agg #[.int .i64 k, .int .i64 er, .int .i64 tx, .int .i64 id, .int .u64 ti, .int .i64 vt, .slice A ns.length c, .bool vb, .int .i64 tag, .int .i64 vv, .string vs, .string s]] w fun e w' => e = .returned (.bool r) ∧ Below w.heap.size w w' := by
  have E := Aside0.mk HE
  clear HE
  have C1 := Aside0.mk (fun w => fits2_calls w tx)
  have C2 := Aside0.mk (fun w => fits2_calls w id)
  rw [ft] at C1
  rw [fi] at C2
  have ss' : ¬ 65535 < (s.size : Int) := by omega
  subst vn
  obtain rfl : ns = [] := List.length_eq_zero_iff.mp nz
  simp only [List.length_nil] at *
  subst hb
  subst ht
  have vv0 : (vv != 0) = true := by simp [hv]
  clear hC
  go_enter Try.func18, Try.ntmps18
  go_wp2_with (first | (go_at_call 23; (with_reducible refine (C1.out _).mono ?_); rintro e w1 ⟨rfl, ⟨nd, rfl⟩⟩) | (go_at_call 23; (with_reducible refine (C2.out _).mono ?_); rintro e w1 ⟨rfl, ⟨nd, rfl⟩⟩))
  go_ret
  exact ⟨congrArg (fun b => Ending.returned (.bool b)) E.out.symm, by repeat (first | exact Below.refl _ _ | apply below_alloc | apply pw_below_drewN | apply below_drew1)⟩
set_option maxRecDepth 100000 in
set_option maxHeartbeats 600000 in
theorem rr_30 (w : World) (k er tx id ti vt : Int) (A : Option Addr) (c : Nat) (ns : List Int) (vb : Bool) (tag vv : Int) (vs s : ByteArray) (r : Bool) (hC : (Kd.int .i64).C w A ns.length ns) (hl : ns.length ≤ 9000000) (HE : r = false) (k0 : ¬ k < 0) (k6 : ¬ 6 < k) (e0 : ¬ er < 0) (e6 : ¬ 65535 < er) (ft : fitsB tx = true) (fi : fitsB id = true) (ss : ¬ 65535 < s.size) (v0 : ¬ vt < 0) (v5 : ¬ 4 < vt) (vn : vt = 4) (nz : ns.length = 0) (hb : vb = false) (ht : tag = 0) (hv : vv = 0) (sl : 65535 < vs.size) : Calls Try.prog 18 #[.agg #[.int .i64 k, .int .i64 er, .int .i64 tx, .int .i64 id, .int .u64 ti, .int .i64 vt, .slice A ns.length c, .bool vb, .int .i64 tag, .int .i64 vv, .string vs, .string s]] w fun e w' => e = .returned (.bool r) ∧ Below w.heap.size w w' := by
  have E := Aside0.mk HE
  clear HE
  have C1 := Aside0.mk (fun w => fits2_calls w tx)
  have C2 := Aside0.mk (fun w => fits2_calls w id)
  rw [ft] at C1
  rw [fi] at C2
  have ss' : ¬ 65535 < (s.size : Int) := by omega
  subst vn
  obtain rfl : ns = [] := List.length_eq_zero_iff.mp nz
  simp only [List.length_nil] at *
  subst hb
  subst ht
  subst hv
  have sl' : 65535 < (vs.size : Int) := by omega
  clear hC
  go_enter Try.func18, Try.ntmps18
  go_wp2_with (first | (go_at_call 23; (with_reducible refine (C1.out _).mono ?_); rintro e w1 ⟨rfl, ⟨nd, rfl⟩⟩) | (go_at_call 23; (with_reducible refine (C2.out _).mono ?_); rintro e w1 ⟨rfl, ⟨nd, rfl⟩⟩))
  go_ret
  exact ⟨congrArg (fun b => Ending.returned (.bool b)) E.out.symm, by repeat (first | exact Below.refl _ _ | apply below_alloc | apply pw_below_drewN | apply below_drew1)⟩
set_option maxRecDepth 100000 in
set_option maxHeartbeats 600000 in
theorem rr_31 (w : World) (k er tx id ti vt : Int) (A : Option Addr) (c : Nat) (ns : List Int) (vb : Bool) (tag vv : Int) (vs s : ByteArray) (r : Bool) (hC : (Kd.int .i64).C w A ns.length ns) (hl : ns.length ≤ 9000000) (HE : r = true) (k0 : ¬ k < 0) (k6 : ¬ 6 < k) (e0 : ¬ er < 0) (e6 : ¬ 65535 < er) (ft : fitsB tx = true) (fi : fitsB id = true) (ss : ¬ 65535 < s.size) (v0 : ¬ vt < 0) (v5 : ¬ 4 < vt) (vn : vt = 4) (nz : ns.length = 0) (hb : vb = false) (ht : tag = 0) (hv : vv = 0) (sl : ¬ 65535 < vs.size) : Calls Try.prog 18 #[.agg #[.int .i64 k, .int .i64 er, .int .i64 tx, .int .i64 id, .int .u64 ti, .int .i64 vt, .slice A ns.length c, .bool vb, .int .i64 tag, .int .i64 vv, .string vs, .string s]] w fun e w' => e = .returned (.bool r) ∧ Below w.heap.size w w' := by
  have E := Aside0.mk HE
  clear HE
  have C1 := Aside0.mk (fun w => fits2_calls w tx)
  have C2 := Aside0.mk (fun w => fits2_calls w id)
  have C3 := Aside0.mk (fun w => dec_ref w tag vv)
  rw [ft] at C1
  rw [fi] at C2
  have ss' : ¬ 65535 < (s.size : Int) := by omega
  subst vn
  obtain rfl : ns = [] := List.length_eq_zero_iff.mp nz
  simp only [List.length_nil] at *
  subst hb
  subst ht
  subst hv
  have sl' : ¬ 65535 < (vs.size : Int) := by omega
  rw [show decB 0 0 = true from by decide] at C3
  clear hC
  go_enter Try.func18, Try.ntmps18
  go_wp2_with (first | (go_at_call 23; (with_reducible refine (C1.out _).mono ?_); rintro e w1 ⟨rfl, ⟨nd, rfl⟩⟩) | (go_at_call 23; (with_reducible refine (C2.out _).mono ?_); rintro e w1 ⟨rfl, ⟨nd, rfl⟩⟩) | (go_at_call 35; (with_reducible refine (C3.out _).mono ?_); rintro e w2 ⟨rfl, hb⟩; have hns : w2.cell? ⟨w.heap.size + 1, 1, none⟩ = some (.slice A 0 c) := pw_cell_below hb (by go_simp); have HB := Aside0.mk (show Below w.heap.size w w2 from below_step (by repeat (first | exact Below.refl _ _ | apply below_alloc | apply pw_below_drewN | apply below_drew1)) hb); clear hb))
  go_loopw [4] (fun v4 wr => v4 = .int .i64 0 ∧ Aside0 (Drawn0 w2 wr)) (fun _ _ => 0)
  case atStart => exact ⟨rfl, ⟨Drawn0.refl _⟩⟩
  case round =>
    obtain ⟨rfl, HD⟩ := hrel
    have hn2 : wr.cell? ⟨w.heap.size + 1, 1, none⟩ = some (.slice A 0 c) := by obtain ⟨nd2, e⟩ := HD.out; rw [e]; exact hns
    go_wp2
    go_ret
    exact ⟨congrArg (fun b => Ending.returned (.bool b)) E.out.symm, by obtain ⟨nd2, e⟩ := HD.out; rw [e]; exact pw_below_drewN HB.out nd2⟩
set_option maxRecDepth 100000 in
set_option maxHeartbeats 600000 in
theorem rr_32 (w : World) (k er tx id ti vt : Int) (A : Option Addr) (c : Nat) (ns : List Int) (vb : Bool) (tag vv : Int) (vs s : ByteArray) (r : Bool) (hC : (Kd.int .i64).C w A ns.length ns) (hl : ns.length ≤ 9000000) (HE : r = false) (k0 : ¬ k < 0) (k6 : ¬ 6 < k) (e0 : ¬ er < 0) (e6 : ¬ 65535 < er) (ft : fitsB tx = true) (fi : fitsB id = true) (ss : ¬ 65535 < s.size) (v0 : ¬ vt < 0) (v5 : ¬ 4 < vt) (vn : vt = 0) (np : 0 < ns.length) : Calls Try.prog 18 #[.agg #[.int .i64 k, .int .i64 er, .int .i64 tx, .int .i64 id, .int .u64 ti, .int .i64 vt, .slice A ns.length c, .bool vb, .int .i64 tag, .int .i64 vv, .string vs, .string s]] w fun e w' => e = .returned (.bool r) ∧ Below w.heap.size w w' := by
  have E := Aside0.mk HE
  clear HE
  have C1 := Aside0.mk (fun w => fits2_calls w tx)
  have C2 := Aside0.mk (fun w => fits2_calls w id)
  rw [ft] at C1
  rw [fi] at C2
  have ss' : ¬ 65535 < (s.size : Int) := by omega
  subst vn
  have n1 : 0 < (ns.length : Int) := by omega
  clear hC
  go_enter Try.func18, Try.ntmps18
  go_wp2_with (first | (go_at_call 23; (with_reducible refine (C1.out _).mono ?_); rintro e w1 ⟨rfl, ⟨nd, rfl⟩⟩) | (go_at_call 23; (with_reducible refine (C2.out _).mono ?_); rintro e w1 ⟨rfl, ⟨nd, rfl⟩⟩))
  go_ret
  exact ⟨congrArg (fun b => Ending.returned (.bool b)) E.out.symm, by repeat (first | exact Below.refl _ _ | apply below_alloc | apply pw_below_drewN | apply below_drew1)⟩
set_option maxRecDepth 100000 in
set_option maxHeartbeats 600000 in
theorem rr_33 (w : World) (k er tx id ti vt : Int) (A : Option Addr) (c : Nat) (ns : List Int) (vb : Bool) (tag vv : Int) (vs s : ByteArray) (r : Bool) (hC : (Kd.int .i64).C w A ns.length ns) (hl : ns.length ≤ 9000000) (HE : r = false) (k0 : ¬ k < 0) (k6 : ¬ 6 < k) (e0 : ¬ er < 0) (e6 : ¬ 65535 < er) (ft : fitsB tx = true) (fi : fitsB id = true) (ss : ¬ 65535 < s.size) (v0 : ¬ vt < 0) (v5 : ¬ 4 < vt) (vn : vt = 0) (nz : ns.length = 0) (hb : vb = true) : Calls Try.prog 18 #[.agg #[.int .i64 k, .int .i64 er, .int .i64 tx, .int .i64 id, .int .u64 ti, .int .i64 vt, .slice A ns.length c, .bool vb, .int .i64 tag, .int .i64 vv, .string vs, .string s]] w fun e w' => e = .returned (.bool r) ∧ Below w.heap.size w w' := by
  have E := Aside0.mk HE
  clear HE
  have C1 := Aside0.mk (fun w => fits2_calls w tx)
  have C2 := Aside0.mk (fun w => fits2_calls w id)
  rw [ft] at C1
  rw [fi] at C2
  have ss' : ¬ 65535 < (s.size : Int) := by omega
  subst vn
  obtain rfl : ns = [] := List.length_eq_zero_iff.mp nz
  simp only [List.length_nil] at *
  subst hb
  clear hC
  go_enter Try.func18, Try.ntmps18
  go_wp2_with (first | (go_at_call 23; (with_reducible refine (C1.out _).mono ?_); rintro e w1 ⟨rfl, ⟨nd, rfl⟩⟩) | (go_at_call 23; (with_reducible refine (C2.out _).mono ?_); rintro e w1 ⟨rfl, ⟨nd, rfl⟩⟩))
  go_ret
  exact ⟨congrArg (fun b => Ending.returned (.bool b)) E.out.symm, by repeat (first | exact Below.refl _ _ | apply below_alloc | apply pw_below_drewN | apply below_drew1)⟩
set_option maxRecDepth 100000 in
set_option maxHeartbeats 600000 in
theorem rr_34 (w : World) (k er tx id ti vt : Int) (A : Option Addr) (c : Nat) (ns : List Int) (vb : Bool) (tag vv : Int) (vs s : ByteArray) (r : Bool) (hC : (Kd.int .i64).C w A ns.length ns) (hl : ns.length ≤ 9000000) (HE : r = false) (k0 : ¬ k < 0) (k6 : ¬ 6 < k) (e0 : ¬ er < 0) (e6 : ¬ 65535 < er) (ft : fitsB tx = true) (fi : fitsB id = true) (ss : ¬ 65535 < s.size) (v0 : ¬ vt < 0) (v5 : ¬ 4 < vt) (vn : vt = 0) (nz : ns.length = 0) (hb : vb = false) (ht : ¬ tag = 0) : Calls Try.prog 18 #[.agg #[.int .i64 k, .int .i64 er, .int .i64 tx, .int .i64 id, .int .u64 ti, .int .i64 vt, .slice A ns.length c, .bool vb, .int .i64 tag, .int .i64 vv, .string vs, .string s]] w fun e w' => e = .returned (.bool r) ∧ Below w.heap.size w w' := by
  have E := Aside0.mk HE
  clear HE
  have C1 := Aside0.mk (fun w => fits2_calls w tx)
  have C2 := Aside0.mk (fun w => fits2_calls w id)
  rw [ft] at C1
  rw [fi] at C2
  have ss' : ¬ 65535 < (s.size : Int) := by omega
  subst vn
  obtain rfl : ns = [] := List.length_eq_zero_iff.mp nz
  simp only [List.length_nil] at *
  subst hb
  have t0 : (tag != 0) = true := by simp [ht]
  clear hC
  go_enter Try.func18, Try.ntmps18
  go_wp2_with (first | (go_at_call 23; (with_reducible refine (C1.out _).mono ?_); rintro e w1 ⟨rfl, ⟨nd, rfl⟩⟩) | (go_at_call 23; (with_reducible refine (C2.out _).mono ?_); rintro e w1 ⟨rfl, ⟨nd, rfl⟩⟩))
  go_ret
  exact ⟨congrArg (fun b => Ending.returned (.bool b)) E.out.symm, by repeat (first | exact Below.refl _ _ | apply below_alloc | apply pw_below_drewN | apply below_drew1)⟩
set_option maxRecDepth 100000 in
set_option maxHeartbeats 600000 in
theorem rr_35 (w : World) (k er tx id ti vt : Int) (A : Option Addr) (c : Nat) (ns : List Int) (vb : Bool) (tag vv : Int) (vs s : ByteArray) (r : Bool) (hC : (Kd.int .i64).C w A ns.length ns) (hl : ns.length ≤ 9000000) (HE : r = false) (k0 : ¬ k < 0) (k6 : ¬ 6 < k) (e0 : ¬ er < 0) (e6 : ¬ 65535 < er) (ft : fitsB tx = true) (fi : fitsB id = true) (ss : ¬ 65535 < s.size) (v0 : ¬ vt < 0) (v5 : ¬ 4 < vt) (vn : vt = 0) (nz : ns.length = 0) (hb : vb = false) (ht : tag = 0) (hv : ¬ vv = 0) : Calls Try.prog 18 #[.agg #[.int .i64 k, .int .i64 er, .int .i64 tx, .int .i64 id, .int .u64 ti, .int .i64 vt, .slice A ns.length c, .bool vb, .int .i64 tag, .int .i64 vv, .string vs, .string s]] w fun e w' => e = .returned (.bool r) ∧ Below w.heap.size w w' := by
  have E := Aside0.mk HE
  clear HE
  have C1 := Aside0.mk (fun w => fits2_calls w tx)
  have C2 := Aside0.mk (fun w => fits2_calls w id)
  rw [ft] at C1
  rw [fi] at C2
  have ss' : ¬ 65535 < (s.size : Int) := by omega
  subst vn
  obtain rfl : ns = [] := List.length_eq_zero_iff.mp nz
  simp only [List.length_nil] at *
  subst hb
  subst ht
  have vv0 : (vv != 0) = true := by simp [hv]
  clear hC
  go_enter Try.func18, Try.ntmps18
  go_wp2_with (first | (go_at_call 23; (with_reducible refine (C1.out _).mono ?_); rintro e w1 ⟨rfl, ⟨nd, rfl⟩⟩) | (go_at_call 23; (with_reducible refine (C2.out _).mono ?_); rintro e w1 ⟨rfl, ⟨nd, rfl⟩⟩))
  go_ret
  exact ⟨congrArg (fun b => Ending.returned (.bool b)) E.out.symm, by repeat (first | exact Below.refl _ _ | apply below_alloc | apply pw_below_drewN | apply below_drew1)⟩
set_option maxRecDepth 100000 in
set_option maxHeartbeats 600000 in
theorem rr_36 (w : World) (k er tx id ti vt : Int) (A : Option Addr) (c : Nat) (ns : List Int) (vb : Bool) (tag vv : Int) (vs s : ByteArray) (r : Bool) (hC : (Kd.int .i64).C w A ns.length ns) (hl : ns.length ≤ 9000000) (HE : r = false) (k0 : ¬ k < 0) (k6 : ¬ 6 < k) (e0 : ¬ er < 0) (e6 : ¬ 65535 < er) (ft : fitsB tx = true) (fi : fitsB id = true) (ss : ¬ 65535 < s.size) (v0 : ¬ vt < 0) (v5 : ¬ 4 < vt) (vn : vt = 0) (nz : ns.length = 0) (hb : vb = false) (ht : tag = 0) (hv : vv = 0) (hs : ¬ vs.toList = []) : Calls Try.prog 18 #[.agg #[.int .i64 k, .int .i64 er, .int .i64 tx, .int .i64 id, .int .u64 ti, .int .i64 vt, .slice A ns.length c, .bool vb, .int .i64 tag, .int .i64 vv, .string vs, .string s]] w fun e w' => e = .returned (.bool r) ∧ Below w.heap.size w w' := by
  have E := Aside0.mk HE
  clear HE
  have C1 := Aside0.mk (fun w => fits2_calls w tx)
  have C2 := Aside0.mk (fun w => fits2_calls w id)
  rw [ft] at C1
  rw [fi] at C2
  have ss' : ¬ 65535 < (s.size : Int) := by omega
  subst vn
  obtain rfl : ns = [] := List.length_eq_zero_iff.mp nz
  simp only [List.length_nil] at *
  subst hb
  subst ht
  subst hv
  have hs2 : (!vs.toList.isEmpty) = true := by simpa using hs
  clear hC
  go_enter Try.func18, Try.ntmps18
  go_wp2_with (first | (go_at_call 23; (with_reducible refine (C1.out _).mono ?_); rintro e w1 ⟨rfl, ⟨nd, rfl⟩⟩) | (go_at_call 23; (with_reducible refine (C2.out _).mono ?_); rintro e w1 ⟨rfl, ⟨nd, rfl⟩⟩))
  go_ret
  exact ⟨congrArg (fun b => Ending.returned (.bool b)) E.out.symm, by repeat (first | exact Below.refl _ _ | apply below_alloc | apply pw_below_drewN | apply below_drew1)⟩
set_option maxRecDepth 100000 in
set_option maxHeartbeats 600000 in
theorem rr_37 (w : World) (k er tx id ti vt : Int) (A : Option Addr) (c : Nat) (ns : List Int) (vb : Bool) (tag vv : Int) (vs s : ByteArray) (r : Bool) (hC : (Kd.int .i64).C w A ns.length ns) (hl : ns.length ≤ 9000000) (HE : r = true) (k0 : ¬ k < 0) (k6 : ¬ 6 < k) (e0 : ¬ er < 0) (e6 : ¬ 65535 < er) (ft : fitsB tx = true) (fi : fitsB id = true) (ss : ¬ 65535 < s.size) (v0 : ¬ vt < 0) (v5 : ¬ 4 < vt) (vn : vt = 0) (nz : ns.length = 0) (hb : vb = false) (ht : tag = 0) (hv : vv = 0) (hs : vs.toList = []) : Calls Try.prog 18 #[.agg #[.int .i64 k, .int .i64 er, .int .i64 tx, .int .i64 id, .int .u64 ti, .int .i64 vt, .slice A ns.length c, .bool vb, .int .i64 tag, .int .i64 vv, .string vs, .string s]] w fun e w' => e = .returned (.bool r) ∧ Below w.heap.size w w' := by
  have E := Aside0.mk HE
  clear HE
  have C1 := Aside0.mk (fun w => fits2_calls w tx)
  have C2 := Aside0.mk (fun w => fits2_calls w id)
  have C3 := Aside0.mk (fun w => dec_ref w tag vv)
  rw [ft] at C1
  rw [fi] at C2
  have ss' : ¬ 65535 < (s.size : Int) := by omega
  subst vn
  obtain rfl : ns = [] := List.length_eq_zero_iff.mp nz
  simp only [List.length_nil] at *
  subst hb
  subst ht
  subst hv
  have sz : ¬ 65535 < ((vs.size : Nat) : Int) := by have := isEmpty_nil hs; omega
  rw [show decB 0 0 = true from by decide] at C3
  clear hC
  go_enter Try.func18, Try.ntmps18
  go_wp2_with (first | (go_at_call 23; (with_reducible refine (C1.out _).mono ?_); rintro e w1 ⟨rfl, ⟨nd, rfl⟩⟩) | (go_at_call 23; (with_reducible refine (C2.out _).mono ?_); rintro e w1 ⟨rfl, ⟨nd, rfl⟩⟩) | (go_at_call 35; (with_reducible refine (C3.out _).mono ?_); rintro e w2 ⟨rfl, hb⟩; have hns : w2.cell? ⟨w.heap.size + 1, 1, none⟩ = some (.slice A 0 c) := pw_cell_below hb (by go_simp); have HB := Aside0.mk (show Below w.heap.size w w2 from below_step (by repeat (first | exact Below.refl _ _ | apply below_alloc | apply pw_below_drewN | apply below_drew1)) hb); clear hb))
  go_loopw [4] (fun v4 wr => v4 = .int .i64 0 ∧ Aside0 (Drawn0 w2 wr)) (fun _ _ => 0)
  case atStart => exact ⟨rfl, ⟨Drawn0.refl _⟩⟩
  case round =>
    obtain ⟨rfl, HD⟩ := hrel
    have hn2 : wr.cell? ⟨w.heap.size + 1, 1, none⟩ = some (.slice A 0 c) := by obtain ⟨nd2, e⟩ := HD.out; rw [e]; exact hns
    go_wp2
    go_ret
    exact ⟨congrArg (fun b => Ending.returned (.bool b)) E.out.symm, by obtain ⟨nd2, e⟩ := HD.out; rw [e]; exact pw_below_drewN HB.out nd2⟩
theorem rep_refR (w : World) (q : Rp) (A : Option Addr) (c : Nat) (hC : (Kd.int .i64).C w A q.nodes.length q.nodes) (hl : q.nodes.length ≤ 9000000) : Calls Try.prog 18 #[.agg (q.cells (.slice A q.nodes.length c))] w fun e w' => e = .returned (.bool (rightRepB q)) ∧ Below w.heap.size w w' := by
  obtain ⟨k, er, tx, id, ti, vt, ns, vb, tag, vv, vs, s⟩ := q
  simp only [Rp.cells] at *
  have hde : decB 0 0 = true := by decide
  have hbe : badB [] = false := rfl
  by_cases k0 : k < 0
  case pos => exact rr_1 w k er tx id ti vt A c ns vb tag vv vs s _ hC hl (by simp [rightRepB, valB, valueB, *] <;> omega) k0
  by_cases k6 : 6 < k
  case pos => exact rr_2 w k er tx id ti vt A c ns vb tag vv vs s _ hC hl (by simp [rightRepB, valB, valueB, *] <;> omega) k0 k6
  by_cases e0 : er < 0
  case pos => exact rr_3 w k er tx id ti vt A c ns vb tag vv vs s _ hC hl (by simp [rightRepB, valB, valueB, *] <;> omega) k0 k6 e0
  by_cases e6 : 65535 < er
  case pos => exact rr_4 w k er tx id ti vt A c ns vb tag vv vs s _ hC hl (by simp [rightRepB, valB, valueB, *] <;> omega) k0 k6 e0 e6
  by_cases ft : fitsB tx = false
  case pos => exact rr_5 w k er tx id ti vt A c ns vb tag vv vs s _ hC hl (by simp [rightRepB, valB, valueB, *] <;> omega) k0 k6 e0 e6 ft
  have ft := eq_true_of_ne_false ft
  by_cases fi : fitsB id = false
  case pos => exact rr_6 w k er tx id ti vt A c ns vb tag vv vs s _ hC hl (by simp [rightRepB, valB, valueB, *] <;> omega) k0 k6 e0 e6 ft fi
  have fi := eq_true_of_ne_false fi
  by_cases ss : 65535 < s.size
  case pos => exact rr_7 w k er tx id ti vt A c ns vb tag vv vs s _ hC hl (by simp [rightRepB, valB, valueB, *] <;> omega) k0 k6 e0 e6 ft fi ss
  by_cases v0 : vt < 0
  case pos => exact rr_8 w k er tx id ti vt A c ns vb tag vv vs s _ hC hl (by simp [rightRepB, valB, valueB, *] <;> omega) k0 k6 e0 e6 ft fi ss v0
  by_cases v5 : 4 < vt
  case pos => exact rr_9 w k er tx id ti vt A c ns vb tag vv vs s _ hC hl (by simp [rightRepB, valB, valueB, *] <;> omega) k0 k6 e0 e6 ft fi ss v0 v5
  by_cases vn : vt = 1
  · skip
    by_cases hb : vb = true
    case pos => exact rr_10 w k er tx id ti vt A c ns vb tag vv vs s _ hC hl (by simp [rightRepB, valB, valueB, *] <;> omega) k0 k6 e0 e6 ft fi ss v0 v5 vn hb
    have hb := eq_false_of_ne_true hb
    by_cases ht : tag = 0
    case neg => exact rr_11 w k er tx id ti vt A c ns vb tag vv vs s _ hC hl (by simp [rightRepB, valB, valueB, *] <;> omega) k0 k6 e0 e6 ft fi ss v0 v5 vn hb ht
    by_cases hv : vv = 0
    case neg => exact rr_12 w k er tx id ti vt A c ns vb tag vv vs s _ hC hl (by simp [rightRepB, valB, valueB, *] <;> omega) k0 k6 e0 e6 ft fi ss v0 v5 vn hb ht hv
    by_cases hs : vs.size = 0
    case neg => exact rr_13 w k er tx id ti vt A c ns vb tag vv vs s _ hC hl (by simp [rightRepB, valB, valueB, *] <;> omega) k0 k6 e0 e6 ft fi ss v0 v5 vn hb ht hv (size_ne vs hs)
    by_cases nm : 1000 < ns.length
    case pos => exact rr_14 w k er tx id ti vt A c ns vb tag vv vs s _ hC hl (by simp [rightRepB, valB, valueB, *] <;> omega) k0 k6 e0 e6 ft fi ss v0 v5 vn hb ht hv (size_nil vs hs) nm
    exact rr_15 w k er tx id ti vt A c ns vb tag vv vs s _ hC hl (by simp [rightRepB, valB, valueB, *] <;> omega) k0 k6 e0 e6 ft fi ss v0 v5 vn hb ht hv (size_nil vs hs) nm 
  by_cases vn : vt = 2
  · skip
    by_cases np : 0 < ns.length
    case pos => exact rr_16 w k er tx id ti vt A c ns vb tag vv vs s _ hC hl (by simp [rightRepB, valB, valueB, *] <;> omega) k0 k6 e0 e6 ft fi ss v0 v5 vn np
    have nz : ns.length = 0 := by omega
    have hnb : badB ns = false := by rw [List.length_eq_zero_iff.mp nz]; rfl
    by_cases ht : tag = 0
    case neg => exact rr_17 w k er tx id ti vt A c ns vb tag vv vs s _ hC hl (by simp [rightRepB, valB, valueB, *] <;> omega) k0 k6 e0 e6 ft fi ss v0 v5 vn nz ht
    by_cases hv : vv = 0
    case neg => exact rr_18 w k er tx id ti vt A c ns vb tag vv vs s _ hC hl (by simp [rightRepB, valB, valueB, *] <;> omega) k0 k6 e0 e6 ft fi ss v0 v5 vn nz ht hv
    by_cases hs : vs.size = 0
    case neg => exact rr_19 w k er tx id ti vt A c ns vb tag vv vs s _ hC hl (by simp [rightRepB, valB, valueB, *] <;> omega) k0 k6 e0 e6 ft fi ss v0 v5 vn nz ht hv (size_ne vs hs)
    exact rr_20 w k er tx id ti vt A c ns vb tag vv vs s _ hC hl (by simp [rightRepB, valB, valueB, *] <;> omega) k0 k6 e0 e6 ft fi ss v0 v5 vn nz ht hv (size_nil vs hs) 
  by_cases vn : vt = 3
  · skip
    by_cases np : 0 < ns.length
    case pos => exact rr_21 w k er tx id ti vt A c ns vb tag vv vs s _ hC hl (by simp [rightRepB, valB, valueB, *] <;> omega) k0 k6 e0 e6 ft fi ss v0 v5 vn np
    have nz : ns.length = 0 := by omega
    have hnb : badB ns = false := by rw [List.length_eq_zero_iff.mp nz]; rfl
    by_cases hb : vb = true
    case pos => exact rr_22 w k er tx id ti vt A c ns vb tag vv vs s _ hC hl (by simp [rightRepB, valB, valueB, *] <;> omega) k0 k6 e0 e6 ft fi ss v0 v5 vn nz hb
    have hb := eq_false_of_ne_true hb
    by_cases hs : vs.size = 0
    case neg => exact rr_23 w k er tx id ti vt A c ns vb tag vv vs s _ hC hl (by simp [rightRepB, valB, valueB, *] <;> omega) k0 k6 e0 e6 ft fi ss v0 v5 vn nz hb (size_ne vs hs)
    by_cases dd : decB tag vv = false
    case pos => exact rr_24 w k er tx id ti vt A c ns vb tag vv vs s _ hC hl (by simp [rightRepB, valB, valueB, *] <;> omega) k0 k6 e0 e6 ft fi ss v0 v5 vn nz hb (size_nil vs hs) dd
    have dd := eq_true_of_ne_false dd
    exact rr_25 w k er tx id ti vt A c ns vb tag vv vs s _ hC hl (by simp [rightRepB, valB, valueB, *] <;> omega) k0 k6 e0 e6 ft fi ss v0 v5 vn nz hb (size_nil vs hs) dd 
  by_cases vn : vt = 4
  · skip
    by_cases np : 0 < ns.length
    case pos => exact rr_26 w k er tx id ti vt A c ns vb tag vv vs s _ hC hl (by simp [rightRepB, valB, valueB, *] <;> omega) k0 k6 e0 e6 ft fi ss v0 v5 vn np
    have nz : ns.length = 0 := by omega
    have hnb : badB ns = false := by rw [List.length_eq_zero_iff.mp nz]; rfl
    by_cases hb : vb = true
    case pos => exact rr_27 w k er tx id ti vt A c ns vb tag vv vs s _ hC hl (by simp [rightRepB, valB, valueB, *] <;> omega) k0 k6 e0 e6 ft fi ss v0 v5 vn nz hb
    have hb := eq_false_of_ne_true hb
    by_cases ht : tag = 0
    case neg => exact rr_28 w k er tx id ti vt A c ns vb tag vv vs s _ hC hl (by simp [rightRepB, valB, valueB, *] <;> omega) k0 k6 e0 e6 ft fi ss v0 v5 vn nz hb ht
    by_cases hv : vv = 0
    case neg => exact rr_29 w k er tx id ti vt A c ns vb tag vv vs s _ hC hl (by simp [rightRepB, valB, valueB, *] <;> omega) k0 k6 e0 e6 ft fi ss v0 v5 vn nz hb ht hv
    by_cases sl : 65535 < vs.size
    case pos => exact rr_30 w k er tx id ti vt A c ns vb tag vv vs s _ hC hl (by simp [rightRepB, valB, valueB, *] <;> omega) k0 k6 e0 e6 ft fi ss v0 v5 vn nz hb ht hv sl
    exact rr_31 w k er tx id ti vt A c ns vb tag vv vs s _ hC hl (by simp [rightRepB, valB, valueB, *] <;> omega) k0 k6 e0 e6 ft fi ss v0 v5 vn nz hb ht hv sl 
  · have vn : vt = 0 := by omega
    by_cases np : 0 < ns.length
    case pos => exact rr_32 w k er tx id ti vt A c ns vb tag vv vs s _ hC hl (by simp [rightRepB, valB, valueB, *] <;> omega) k0 k6 e0 e6 ft fi ss v0 v5 vn np
    have nz : ns.length = 0 := by omega
    have hnb : badB ns = false := by rw [List.length_eq_zero_iff.mp nz]; rfl
    by_cases hb : vb = true
    case pos => exact rr_33 w k er tx id ti vt A c ns vb tag vv vs s _ hC hl (by simp [rightRepB, valB, valueB, *] <;> omega) k0 k6 e0 e6 ft fi ss v0 v5 vn nz hb
    have hb := eq_false_of_ne_true hb
    by_cases ht : tag = 0
    case neg => exact rr_34 w k er tx id ti vt A c ns vb tag vv vs s _ hC hl (by simp [rightRepB, valB, valueB, *] <;> omega) k0 k6 e0 e6 ft fi ss v0 v5 vn nz hb ht
    by_cases hv : vv = 0
    case neg => exact rr_35 w k er tx id ti vt A c ns vb tag vv vs s _ hC hl (by simp [rightRepB, valB, valueB, *] <;> omega) k0 k6 e0 e6 ft fi ss v0 v5 vn nz hb ht hv
    by_cases hs : vs.size = 0
    case neg => exact rr_36 w k er tx id ti vt A c ns vb tag vv vs s _ hC hl (by simp [rightRepB, valB, valueB, *] <;> omega) k0 k6 e0 e6 ft fi ss v0 v5 vn nz hb ht hv (size_ne vs hs)
    exact rr_37 w k er tx id ti vt A c ns vb tag vv vs s _ hC hl (by simp [rightRepB, valB, valueB, *] <;> omega) k0 k6 e0 e6 ft fi ss v0 v5 vn nz hb ht hv (size_nil vs hs) 
end Go.Proofs.Ythkdihpbdaehbaa.Pr
namespace Go.Proofs.Ythkdihpbdaehbaa.Pr
set_option linter.unusedVariables false
set_option linter.unusedSimpArgs false
open Go.RowKit Go.Proofs.YthkdihpbdaehbaaW.PrintWords Go.Proofs.YthkdihpbdaehbaaW.PrintLast Go.Proofs.YthkdihpbdaehbaaW.PrintMore Go.Proofs.Ythkdihpbdaehbaa.Bs
def getRepOf (r : Option Rp) : Rp × Int := match r with | some q => if rightRepB q = true then (q, 0) else (zeroRep, 61) | none => (zeroRep, 61)
def getRep (xs : List Int) : Rp × Int := getRepOf (readRep xs)
def set12 (w : World) (g : Nat) (b0 b1 b2 b3 b4 b5 b6 b7 b8 b9 b10 b11 : Value) : World := ((((((((((((w.setCell ⟨g, 0, none⟩ b0).setCell ⟨g, 1, none⟩ b1).setCell ⟨g, 2, none⟩ b2).setCell ⟨g, 3, none⟩ b3).setCell ⟨g, 4, none⟩ b4).setCell ⟨g, 5, none⟩ b5).setCell ⟨g, 6, none⟩ b6).setCell ⟨g, 7, none⟩ b7).setCell ⟨g, 8, none⟩ b8).setCell ⟨g, 9, none⟩ b9).setCell ⟨g, 10, none⟩ b10).setCell ⟨g, 11, none⟩ b11)
theorem set12_q {w : World} {g t : Nat} {a0 a1 a2 a3 a4 a5 a6 a7 a8 a9 a10 a11 : Value} (h : w.heap[g]? = some (.cells #[a0, a1, a2, a3, a4, a5, a6, a7, a8, a9, a10, a11] t (0, 0))) (b0 b1 b2 b3 b4 b5 b6 b7 b8 b9 b10 b11 : Value) : (set12 w g b0 b1 b2 b3 b4 b5 b6 b7 b8 b9 b10 b11).heap[g]? = some (.cells #[b0, b1, b2, b3, b4, b5, b6, b7, b8, b9, b10, b11] t (0, 0)) := by
  have h0 : (w.setCell ⟨g, 0, none⟩ b0).heap[g]? = some (.cells #[b0, a1, a2, a3, a4, a5, a6, a7, a8, a9, a10, a11] t (0, 0)) := blk_upd 0 b0 h rfl
  have h1 : ((w.setCell ⟨g, 0, none⟩ b0).setCell ⟨g, 1, none⟩ b1).heap[g]? = some (.cells #[b0, b1, a2, a3, a4, a5, a6, a7, a8, a9, a10, a11] t (0, 0)) := blk_upd 1 b1 h0 rfl
  have h2 : (((w.setCell ⟨g, 0, none⟩ b0).setCell ⟨g, 1, none⟩ b1).setCell ⟨g, 2, none⟩ b2).heap[g]? = some (.cells #[b0, b1, b2, a3, a4, a5, a6, a7, a8, a9, a10, a11] t (0, 0)) := blk_upd 2 b2 h1 rfl
  have h3 : ((((w.setCell ⟨g, 0, none⟩ b0).setCell ⟨g, 1, none⟩ b1).setCell ⟨g, 2, none⟩ b2).setCell ⟨g, 3, none⟩ b3).heap[g]? = some (.cells #[b0, b1, b2, b3, a4, a5, a6, a7, a8, a9, a10, a11] t (0, 0)) := blk_upd 3 b3 h2 rfl
  have h4 : (((((w.setCell ⟨g, 0, none⟩ b0).setCell ⟨g, 1, none⟩ b1).setCell ⟨g, 2, none⟩ b2).setCell ⟨g, 3, none⟩ b3).setCell ⟨g, 4, none⟩ b4).heap[g]? = some (.cells #[b0, b1, b2, b3, b4, a5, a6, a7, a8, a9, a10, a11] t (0, 0)) := blk_upd 4 b4 h3 rfl
  have h5 : ((((((w.setCell ⟨g, 0, none⟩ b0).setCell ⟨g, 1, none⟩ b1).setCell ⟨g, 2, none⟩ b2).setCell ⟨g, 3, none⟩ b3).setCell ⟨g, 4, none⟩ b4).setCell ⟨g, 5, none⟩ b5).heap[g]? = some (.cells #[b0, b1, b2, b3, b4, b5, a6, a7, a8, a9, a10, a11] t (0, 0)) := blk_upd 5 b5 h4 rfl
  have h6 : (((((((w.setCell ⟨g, 0, none⟩ b0).setCell ⟨g, 1, none⟩ b1).setCell ⟨g, 2, none⟩ b2).setCell ⟨g, 3, none⟩ b3).setCell ⟨g, 4, none⟩ b4).setCell ⟨g, 5, none⟩ b5).setCell ⟨g, 6, none⟩ b6).heap[g]? = some (.cells #[b0, b1, b2, b3, b4, b5, b6, a7, a8, a9, a10, a11] t (0, 0)) := blk_upd 6 b6 h5 rfl
  have h7 : ((((((((w.setCell ⟨g, 0, none⟩ b0).setCell ⟨g, 1, none⟩ b1).setCell ⟨g, 2, none⟩ b2).setCell ⟨g, 3, none⟩ b3).setCell ⟨g, 4, none⟩ b4).setCell ⟨g, 5, none⟩ b5).setCell ⟨g, 6, none⟩ b6).setCell ⟨g, 7, none⟩ b7).heap[g]? = some (.cells #[b0, b1, b2, b3, b4, b5, b6, b7, a8, a9, a10, a11] t (0, 0)) := blk_upd 7 b7 h6 rfl
  have h8 : (((((((((w.setCell ⟨g, 0, none⟩ b0).setCell ⟨g, 1, none⟩ b1).setCell ⟨g, 2, none⟩ b2).setCell ⟨g, 3, none⟩ b3).setCell ⟨g, 4, none⟩ b4).setCell ⟨g, 5, none⟩ b5).setCell ⟨g, 6, none⟩ b6).setCell ⟨g, 7, none⟩ b7).setCell ⟨g, 8, none⟩ b8).heap[g]? = some (.cells #[b0, b1, b2, b3, b4, b5, b6, b7, b8, a9, a10, a11] t (0, 0)) := blk_upd 8 b8 h7 rfl
  have h9 : ((((((((((w.setCell ⟨g, 0, none⟩ b0).setCell ⟨g, 1, none⟩ b1).setCell ⟨g, 2, none⟩ b2).setCell ⟨g, 3, none⟩ b3).setCell ⟨g, 4, none⟩ b4).setCell ⟨g, 5, none⟩ b5).setCell ⟨g, 6, none⟩ b6).setCell ⟨g, 7, none⟩ b7).setCell ⟨g, 8, none⟩ b8).setCell ⟨g, 9, none⟩ b9).heap[g]? = some (.cells #[b0, b1, b2, b3, b4, b5, b6, b7, b8, b9, a10, a11] t (0, 0)) := blk_upd 9 b9 h8 rfl
  have h10 : (((((((((((w.setCell ⟨g, 0, none⟩ b0).setCell ⟨g, 1, none⟩ b1).setCell ⟨g, 2, none⟩ b2).setCell ⟨g, 3, none⟩ b3).setCell ⟨g, 4, none⟩ b4).setCell ⟨g, 5, none⟩ b5).setCell ⟨g, 6, none⟩ b6).setCell ⟨g, 7, none⟩ b7).setCell ⟨g, 8, none⟩ b8).setCell ⟨g, 9, none⟩ b9).setCell ⟨g, 10, none⟩ b10).heap[g]? = some (.cells #[b0, b1, b2, b3, b4, b5, b6, b7, b8, b9, b10, a11] t (0, 0)) := blk_upd 10 b10 h9 rfl
  have h11 : ((((((((((((w.setCell ⟨g, 0, none⟩ b0).setCell ⟨g, 1, none⟩ b1).setCell ⟨g, 2, none⟩ b2).setCell ⟨g, 3, none⟩ b3).setCell ⟨g, 4, none⟩ b4).setCell ⟨g, 5, none⟩ b5).setCell ⟨g, 6, none⟩ b6).setCell ⟨g, 7, none⟩ b7).setCell ⟨g, 8, none⟩ b8).setCell ⟨g, 9, none⟩ b9).setCell ⟨g, 10, none⟩ b10).setCell ⟨g, 11, none⟩ b11).heap[g]? = some (.cells #[b0, b1, b2, b3, b4, b5, b6, b7, b8, b9, b10, b11] t (0, 0)) := blk_upd 11 b11 h10 rfl
  exact h11
theorem set12_ch (w : World) (g : Nat) (b0 b1 b2 b3 b4 b5 b6 b7 b8 b9 b10 b11 : Value) : Ch (fun k => k = g) w (set12 w g b0 b1 b2 b3 b4 b5 b6 b7 b8 b9 b10 b11) :=
  (((((((((((((Ch.refl (fun k => k = g) w).setCell (p := ⟨g, 0, none⟩) (.inl rfl) b0).setCell (p := ⟨g, 1, none⟩) (.inl rfl) b1).setCell (p := ⟨g, 2, none⟩) (.inl rfl) b2).setCell (p := ⟨g, 3, none⟩) (.inl rfl) b3).setCell (p := ⟨g, 4, none⟩) (.inl rfl) b4).setCell (p := ⟨g, 5, none⟩) (.inl rfl) b5).setCell (p := ⟨g, 6, none⟩) (.inl rfl) b6).setCell (p := ⟨g, 7, none⟩) (.inl rfl) b7).setCell (p := ⟨g, 8, none⟩) (.inl rfl) b8).setCell (p := ⟨g, 9, none⟩) (.inl rfl) b9).setCell (p := ⟨g, 10, none⟩) (.inl rfl) b10).setCell (p := ⟨g, 11, none⟩) (.inl rfl) b11)
theorem R_ch {w w' : World} {g base t : Nat} {ok : Nat → Prop} {v : Value} {ns : List Int} {cs : Array Value} (h : (Kd.int .i64).R 3 w base ok v ns) (hg : w.heap[g]? = some (.cells cs t (0, 0))) (ht : t ≠ 3) (hch : Ch (fun k => k = g) w w') : (Kd.int .i64).R 3 w' base (fun _ => True) v ns := by
  have hn := Kd.R_ne h hg (fun e => ht e.symm)
  exact Kd.R_mono (hch.R (Kd.R_of_own (ok := fun k => some k = v.ownBlock) (Kd.own_of_R h) (fun k hk => hk.symm)) (fun k hk e => hn (e ▸ hk))) (fun _ _ => trivial)
/-- What GetRep leaves. -/
def RepPost (w : World) (r : Rp × Int) (e : Ending) (w' : World) : Prop := ∃ A c, e = .returned (.tuple #[.agg (r.1.cells (.slice A r.1.nodes.length c)), .int .i64 r.2]) ∧ (Kd.int .i64).R 3 w' w.heap.size (fun _ => True) (.slice A r.1.nodes.length c) r.1.nodes ∧ Below w.heap.size w w'
theorem RepPost.zero {w w' : World} (h : Below w.heap.size w w') : RepPost w (zeroRep, 61) (.returned (.tuple #[.agg zrep, .int .i64 61])) w' := ⟨none, 0, rfl, Kd.R_nil _ _ _ _ _, h⟩
set_option maxRecDepth 100000 in
set_option maxHeartbeats 1000000 in
theorem getRep_calls (w : World) (A : Option Addr) (c : Nat) (xs : List Int) (hC : (Kd.int .u8).C w A xs.length xs) (hl : xs.length ≤ c) (hby : Bys xs) (hsm : ∀ q, readRep xs = some q → q.nodes.length ≤ 9000000) :
    Calls Try.prog 14 #[.slice A xs.length c] w (RepPost w (getRep xs)) := by
  have hmf : ∀ (fn : Fn) (first cap : Array Value) (w : World), (Instr.makeFunc fn first cap).run Try.prog w = .ok (.func fn first cap) w := fun _ _ _ _ => rfl
  obtain ⟨W, hW⟩ : ∃ W, W = (w.alloc (.cells #[.int .i64 0, .int .i64 0, .int .i64 0, .int .i64 0, .int .u64 0, .int .i64 0, .slice none 0 0, .bool false, .int .i64 0, .int .i64 0, .string ⟨#[]⟩, .string ⟨#[]⟩] 44)).alloc (.cells #[.int .i64 0, .int .i64 0, .int .i64 0, .int .i64 0, .int .u64 0, .int .i64 0, .slice none 0 0, .bool false, .int .i64 0, .int .i64 0, .string ⟨#[]⟩, .string ⟨#[]⟩] 44) := ⟨_, rfl⟩
  have hWch : Ch (fun _ => False) w W := by rw [hW]; exact ((Ch.refl _ w).alloc _).alloc _
  have hWp : W.heap[w.heap.size + 1]? = some (.cells zrep 44 (0, 0)) := by
    have h := heap_alloc_new (w.alloc (.cells #[.int .i64 0, .int .i64 0, .int .i64 0, .int .i64 0, .int .u64 0, .int .i64 0, .slice none 0 0, .bool false, .int .i64 0, .int .i64 0, .string ⟨#[]⟩, .string ⟨#[]⟩] 44)) (.cells #[.int .i64 0, .int .i64 0, .int .i64 0, .int .i64 0, .int .u64 0, .int .i64 0, .slice none 0 0, .bool false, .int .i64 0, .int .i64 0, .string ⟨#[]⟩, .string ⟨#[]⟩] 44)
    rw [show (w.alloc (.cells #[.int .i64 0, .int .i64 0, .int .i64 0, .int .i64 0, .int .u64 0, .int .i64 0, .slice none 0 0, .bool false, .int .i64 0, .int .i64 0, .string ⟨#[]⟩, .string ⟨#[]⟩] 44)).heap.size = w.heap.size + 1 by simp, ← hW] at h
    exact h
  have hWr : W.heap[w.heap.size]? = some (.cells zrep 44 (0, 0)) := by
    rw [hW]
    exact (Below.heap_alloc _ _ _ (by simp)).trans (heap_alloc_new w _)
  have C1 := read_rep w W (w.heap.size + 1) A c xs hC hl hby (Ch.to_below hWch (fun _ h => h.elim) (Nat.le_refl _)) hWp (by omega)
  have HW := Aside0.mk hW
  have HR := Aside0.mk hWr
  have HWch := Aside0.mk (hWch.mono (S' := fun k => k = w.heap.size + 1) (fun _ h _ => h.elim))
  rw [hW] at C1
  clear hC hl hby hWch hWp hWr hW
  go_enter Try.func14, Try.ntmps14
  go_wp2_with fail
  refine C1.mono ?_
  rintro e w1 ⟨rfl, hch, hq⟩
  rw [← HW.out] at hch hq
  have hr1 : w1.heap[w.heap.size]? = some (.cells #[.int .i64 0, .int .i64 0, .int .i64 0, .int .i64 0, .int .u64 0, .int .i64 0, .slice none 0 0, .bool false, .int .i64 0, .int .i64 0, .string ⟨#[]⟩, .string ⟨#[]⟩] 44 (0, 0)) := hch.heap HR.out (by omega)
  obtain ⟨m0, m1, m2, m3, m4, m5, m6, m7, m8, m9, m10, m11, m12⟩ := blk12 hr1
  have hch1 : Ch (fun k => k = w.heap.size + 1) w w1 := HWch.out.trans (hch.mono (fun k hk _ => .inl hk))
  have hb1 : Below w.heap.size w w1 := Ch.to_below hch1 (fun k hk => by omega) (Nat.le_refl _)
  have HB := Aside0.mk hb1
  have HWS := Aside0.mk HWch.out.size
  have hlt := blk_lt hr1
  clear C1 hch hch1 hb1
  have E0 : getRep xs = getRepOf (readRep xs) := rfl
  generalize readRep xs = R at *
  have E := Aside0.mk E0
  clear E0
  cases R with
  | none =>
    have E2 := Aside0.mk (show getRep xs = (zeroRep, 61) from E.out)
    clear hq E hsm
    go_wp2_with fail
    have S := set12_q hr1 (.int .i64 0) (.int .i64 0) (.int .i64 0) (.int .i64 0) (.int .u64 0) (.int .i64 0) (.slice none 0 0) (.bool false) (.int .i64 0) (.int .i64 0) (.string ⟨#[]⟩) (.string ⟨#[]⟩)
    have SB := Aside0.mk (HB.out.trans (Ch.to_below (set12_ch w1 w.heap.size (.int .i64 0) (.int .i64 0) (.int .i64 0) (.int .i64 0) (.int .u64 0) (.int .i64 0) (.slice none 0 0) (.bool false) (.int .i64 0) (.int .i64 0) (.string ⟨#[]⟩) (.string ⟨#[]⟩)) (B := w.heap.size) (fun k hk => by omega) (by omega)))
    rw [E2.out]
    change bodyPost Try.prog Try.f14 _ Exit.ret _ (set12 w1 w.heap.size (.int .i64 0) (.int .i64 0) (.int .i64 0) (.int .i64 0) (.int .u64 0) (.int .i64 0) (.slice none 0 0) (.bool false) (.int .i64 0) (.int .i64 0) (.string ⟨#[]⟩) (.string ⟨#[]⟩))
    clear m0 m1 m2 m3 m4 m5 m6 m7 m8 m9 m10 m11 m12
    generalize set12 w1 w.heap.size (.int .i64 0) (.int .i64 0) (.int .i64 0) (.int .i64 0) (.int .u64 0) (.int .i64 0) (.slice none 0 0) (.bool false) (.int .i64 0) (.int .i64 0) (.string ⟨#[]⟩) (.string ⟨#[]⟩) = w2 at *
    obtain ⟨d0, d1, d2, d3, d4, d5, d6, d7, d8, d9, d10, d11, d12⟩ := blk12 S
    refine bodyPost_ret (v := .tuple #[.agg zrep, .int .i64 61]) (by simp [results, Try.results14, go_sem, d0, d1, d2, d3, d4, d5, d6, d7, d8, d9, d10, d11, zrep, zeroRep, Rp.cells, nil8]) rfl (RepPost.zero SB.out)
  | some q =>
    obtain ⟨A1, c1, hq1, hrw⟩ := hq q rfl
    have hrow := Kd.R_lower hrw HWS.out
    have C19 := rightRep_calls w1 q A1 c1 (Kd.R_reads' hrow).2.2 (hsm q rfl)
    clear hq hrw hsm
    obtain ⟨k, er, tx, id, ti, vt, ns, vb, tag, vv, vs, s⟩ := q
    simp only [Rp.cells] at hq1 C19 hrow
    obtain ⟨e0, e1, e2, e3, e4, e5, e6, e7, e8, e9, e10, e11, e12⟩ := blk12 hq1
    have HQ1 := Aside0.mk hq1
    have HR1 := Aside0.mk hr1
    have HRW := Aside0.mk hrow
    clear hq1 hr1 hrow m0 m1 m2 m3 m4 m5 m6 m7 m8 m9 m10 m11 m12
    generalize hrb : rightRepB ⟨k, er, tx, id, ti, vt, ns, vb, tag, vv, vs, s⟩ = rb at *
    have E2 : getRep xs = if rb = true then (⟨k, er, tx, id, ti, vt, ns, vb, tag, vv, vs, s⟩, 0) else (zeroRep, 61) := by rw [E.out, getRepOf, hrb]
    have E3 := Aside0.mk E2
    clear hrb E2 E
    cases rb with
    | false =>
      go_wp2_with fail
      refine C19.mono ?_
      rintro e w3 ⟨rfl, hb3⟩
      have hr3 := (hb3.block w.heap.size (blk_lt HR1.out)).trans HR1.out
      have HB3 := Aside0.mk (below_step HB.out hb3)
      obtain ⟨m0, m1, m2, m3, m4, m5, m6, m7, m8, m9, m10, m11, m12⟩ := blk12 hr3
      have S := Aside0.mk (set12_q hr3 (.int .i64 0) (.int .i64 0) (.int .i64 0) (.int .i64 0) (.int .u64 0) (.int .i64 0) (.slice none 0 0) (.bool false) (.int .i64 0) (.int .i64 0) (.string ⟨#[]⟩) (.string ⟨#[]⟩))
      have SB := Aside0.mk (HB3.out.trans (Ch.to_below (set12_ch w3 w.heap.size (.int .i64 0) (.int .i64 0) (.int .i64 0) (.int .i64 0) (.int .u64 0) (.int .i64 0) (.slice none 0 0) (.bool false) (.int .i64 0) (.int .i64 0) (.string ⟨#[]⟩) (.string ⟨#[]⟩)) (B := w.heap.size) (fun k hk => by omega) (by have := HB3.out.size; omega)))
      clear hb3 hr3 e0 e1 e2 e3 e4 e5 e6 e7 e8 e9 e10 e11 e12 C19
      go_wp2_with fail
      rw [E3.out]
      change bodyPost Try.prog Try.f14 _ Exit.ret _ (set12 w3 w.heap.size (.int .i64 0) (.int .i64 0) (.int .i64 0) (.int .i64 0) (.int .u64 0) (.int .i64 0) (.slice none 0 0) (.bool false) (.int .i64 0) (.int .i64 0) (.string ⟨#[]⟩) (.string ⟨#[]⟩))
      clear m0 m1 m2 m3 m4 m5 m6 m7 m8 m9 m10 m11 m12
      generalize set12 w3 w.heap.size (.int .i64 0) (.int .i64 0) (.int .i64 0) (.int .i64 0) (.int .u64 0) (.int .i64 0) (.slice none 0 0) (.bool false) (.int .i64 0) (.int .i64 0) (.string ⟨#[]⟩) (.string ⟨#[]⟩) = w2 at *
      obtain ⟨d0, d1, d2, d3, d4, d5, d6, d7, d8, d9, d10, d11, d12⟩ := blk12 S.out
      refine bodyPost_ret (v := .tuple #[.agg zrep, .int .i64 61]) (by simp [results, Try.results14, go_sem, d0, d1, d2, d3, d4, d5, d6, d7, d8, d9, d10, d11, zrep, zeroRep, Rp.cells, nil8]) rfl (RepPost.zero SB.out)
    | true =>
      go_wp2_with fail
      refine C19.mono ?_
      rintro e w3 ⟨rfl, hb3⟩
      have hr3 := (hb3.block w.heap.size (blk_lt HR1.out)).trans HR1.out
      have hq3 := (hb3.block (w.heap.size + 1) (blk_lt HQ1.out)).trans HQ1.out
      have HB3 := Aside0.mk (below_step HB.out hb3)
      have hrow3 := Kd.R_below HRW.out hb3
      obtain ⟨m0, m1, m2, m3, m4, m5, m6, m7, m8, m9, m10, m11, m12⟩ := blk12 hr3
      have S := Aside0.mk (set12_q hr3 (.int .i64 k) (.int .i64 er) (.int .i64 tx) (.int .i64 id) (.int .u64 ti) (.int .i64 vt) (.slice A1 ns.length c1) (.bool vb) (.int .i64 tag) (.int .i64 vv) (.string vs) (.string s))
      have SB := Aside0.mk (HB3.out.trans (Ch.to_below (set12_ch w3 w.heap.size (.int .i64 k) (.int .i64 er) (.int .i64 tx) (.int .i64 id) (.int .u64 ti) (.int .i64 vt) (.slice A1 ns.length c1) (.bool vb) (.int .i64 tag) (.int .i64 vv) (.string vs) (.string s)) (B := w.heap.size) (fun k hk => by omega) (by have := HB3.out.size; omega)))
      have SR := Aside0.mk (R_ch hrow3 hr3 (by decide) (set12_ch w3 w.heap.size (.int .i64 k) (.int .i64 er) (.int .i64 tx) (.int .i64 id) (.int .u64 ti) (.int .i64 vt) (.slice A1 ns.length c1) (.bool vb) (.int .i64 tag) (.int .i64 vv) (.string vs) (.string s)))
      clear e0 e1 e2 e3 e4 e5 e6 e7 e8 e9 e10 e11 e12
      obtain ⟨e0, e1, e2, e3, e4, e5, e6, e7, e8, e9, e10, e11, e12⟩ := blk12 hq3
      clear hb3 hr3 hq3 C19 hrow3
      go_wp2_with fail
      rw [E3.out]
      change bodyPost Try.prog Try.f14 _ Exit.ret _ (set12 w3 w.heap.size (.int .i64 k) (.int .i64 er) (.int .i64 tx) (.int .i64 id) (.int .u64 ti) (.int .i64 vt) (.slice A1 ns.length c1) (.bool vb) (.int .i64 tag) (.int .i64 vv) (.string vs) (.string s))
      clear m0 m1 m2 m3 m4 m5 m6 m7 m8 m9 m10 m11 m12
      generalize set12 w3 w.heap.size (.int .i64 k) (.int .i64 er) (.int .i64 tx) (.int .i64 id) (.int .u64 ti) (.int .i64 vt) (.slice A1 ns.length c1) (.bool vb) (.int .i64 tag) (.int .i64 vv) (.string vs) (.string s) = w2 at *
      obtain ⟨d0, d1, d2, d3, d4, d5, d6, d7, d8, d9, d10, d11, d12⟩ := blk12 S.out
      refine bodyPost_ret (v := .tuple #[.agg #[.int .i64 k, .int .i64 er, .int .i64 tx, .int .i64 id, .int .u64 ti, .int .i64 vt, .slice A1 ns.length c1, .bool vb, .int .i64 tag, .int .i64 vv, .string vs, .string s], .int .i64 0]) (by simp [results, Try.results14, go_sem, d0, d1, d2, d3, d4, d5, d6, d7, d8, d9, d10, d11]) rfl ⟨A1, c1, rfl, SR.out, SB.out⟩
end Go.Proofs.Ythkdihpbdaehbaa.Pr
namespace Go.Proofs.Ythkdihpbdaehbaa.Pr
set_option linter.unusedVariables false
set_option linter.unusedSimpArgs false
open Go.RowKit Go.Proofs.YthkdihpbdaehbaaW.PrintWords Go.Proofs.YthkdihpbdaehbaaW.PrintLast Go.Proofs.YthkdihpbdaehbaaW.PrintMore Go.Proofs.Ythkdihpbdaehbaa.Bs
theorem be_add (s : Nat) : ∀ n m : Int, be s (n + 256 ^ s * m) = be s n := by
  induction s with
  | zero => intros; rfl
  | succ s ih =>
    intro n m
    have hp : (256 : Int) ^ s ≠ 0 := Int.pow_ne_zero (by decide)
    have e : n + 256 ^ (s + 1) * m = n + 256 ^ s * (256 * m) := by rw [Int.pow_succ, Int.mul_assoc]
    rw [be, be, e, ih, Int.add_mul_ediv_left _ _ hp]
    congr 1
    omega
theorem fold_val (l : List Int) : ∀ a : Int, l.foldl (fun a c => a * 256 + c) a = a * 256 ^ l.length + val l := by
  induction l with
  | nil => intro a; simp [val]
  | cons c l ih =>
    intro a
    rw [val, List.foldl_cons, List.foldl_cons, ih, ih (0 * 256 + c), List.length_cons, Int.pow_succ, Int.zero_mul, Int.zero_add, Int.add_mul, Int.mul_assoc, Int.mul_comm (256 : Int) (256 ^ l.length), Int.add_assoc]
theorem val_cons (c : Int) (l : List Int) : val (c :: l) = c * 256 ^ l.length + val l := by
  rw [val, List.foldl_cons, fold_val, Int.zero_mul, Int.zero_add]
theorem val_lt (l : List Int) (h : Bys l) : 0 ≤ val l ∧ val l < 256 ^ l.length := by
  induction l with
  | nil => exact ⟨by decide, by decide⟩
  | cons c l ih =>
    obtain ⟨h0, h1⟩ := ih (fun x hx => h x (List.mem_cons_of_mem _ hx))
    obtain ⟨c0, c1⟩ := h c (List.mem_cons_self ..)
    rw [val_cons, List.length_cons, Int.pow_succ]
    generalize (256 : Int) ^ l.length = P at *
    have hm : 0 ≤ c * P := Int.mul_nonneg c0 (by omega)
    have hm2 : c * P ≤ 255 * P := Int.mul_le_mul_of_nonneg_right c1 (by omega)
    exact ⟨by omega, by omega⟩
theorem be_val (l : List Int) (h : Bys l) : be l.length (val l) = l := by
  induction l with
  | nil => rfl
  | cons c l ih =>
    have hb : Bys l := fun x hx => h x (List.mem_cons_of_mem _ hx)
    obtain ⟨h0, h1⟩ := val_lt l hb
    obtain ⟨c0, c1⟩ := h c (List.mem_cons_self ..)
    have hp : (256 : Int) ^ l.length ≠ 0 := Int.pow_ne_zero (by decide)
    have e : c * 256 ^ l.length + val l = val l + 256 ^ l.length * c := by rw [Int.mul_comm, Int.add_comm]
    rw [val_cons, List.length_cons, be, e, be_add, ih hb, Int.add_mul_ediv_left _ _ hp, Int.ediv_eq_zero_of_lt h0 h1]
    congr 1
    omega
theorem bytes_str (l : List Int) (h : Bys l) : bytesOf (strOfNums l) = l := by
  rw [strOf_data, bytesOf]
  show (l.map fun n => UInt8.ofNat n.toNat).map (fun b : UInt8 => (b.toNat : Int)) = l
  rw [List.map_map]
  refine (List.map_congr_left (fun x hx => ?_)).trans (List.map_id l)
  obtain ⟨h0, h1⟩ := h x hx
  show ((UInt8.ofNat x.toNat).toNat : Int) = id x
  rw [UInt8.toNat_ofNat_of_lt' (by show x.toNat < 256; omega)]
  show ((x.toNat : Nat) : Int) = x
  omega
theorem str_size (l : List Int) : (strOfNums l).size = l.length := by
  rw [strOf_data]
  show (l.map fun n => UInt8.ofNat n.toNat).toArray.size = l.length
  simp
theorem Bys.take {l : List Int} (h : Bys l) (n : Nat) : Bys (l.take n) := fun x hx => h x (List.mem_of_mem_take hx)
theorem Bys.drop {l : List Int} (h : Bys l) (n : Nat) : Bys (l.drop n) := fun x hx => h x (List.mem_of_mem_drop hx)
theorem numP_back {k : Nat} {xs ys : List Int} {v : Int} (h : Bys xs) (e : numP k xs = some (v, ys)) : xs = be k v ++ ys ∧ 0 ≤ v ∧ v < 256 ^ k := by
  simp only [numP] at e
  split at e
  · cases e
  · cases e
    have hl : (xs.take k).length = k := by rw [List.length_take]; omega
    have h1 := be_val (xs.take k) (h.take k)
    have h2 := val_lt (xs.take k) (h.take k)
    rw [hl] at h1 h2
    exact ⟨by rw [h1, List.take_append_drop], h2.1, h2.2⟩
theorem textP_back {xs ys : List Int} {s : ByteArray} (h : Bys xs) (e : textP xs = some (s, ys)) : xs = textB s ++ ys ∧ s.size < 65536 := by
  simp only [textP] at e
  split at e
  · cases e
  · rename_i hn
    cases e
    have hl : (xs.take 2).length = 2 := by rw [List.length_take]; omega
    have h1 := be_val (xs.take 2) (h.take 2)
    have h2 := val_lt (xs.take 2) (h.take 2)
    rw [hl] at h1 h2
    generalize hv : val (xs.take 2) = v at *
    have hs : (strOfNums ((xs.drop 2).take v.toNat)).size = v.toNat := by rw [str_size, List.length_take, List.length_drop]; omega
    have hp : v < 65536 := h2.2
    refine ⟨?_, by rw [hs]; omega⟩
    rw [textB, hs, bytes_str _ ((h.drop 2).take _), show ((v.toNat : Nat) : Int) = v by omega, h1, ← List.drop_drop, List.append_assoc, List.take_append_drop, List.take_append_drop]
theorem intsP_back : ∀ (k : Nat) (xs ys l : List Int), Bys xs → intsP k xs = some (l, ys) → xs = beAll l ++ ys ∧ l.length = k
  | 0, xs, ys, l, h, e => by
    simp only [intsP] at e
    cases e
    exact ⟨rfl, rfl⟩
  | k + 1, xs, ys, l, h, e => by
    simp only [intsP] at e
    split at e
    · cases e
    · rename_i v y1 hn
      split at e
      · cases e
      · rename_i l1 zs hk
        cases e
        obtain ⟨e1, _, _⟩ := numP_back h hn
        obtain ⟨e2, e3⟩ := intsP_back k y1 ys l1 (numP_bys h hn) hk
        refine ⟨?_, by rw [List.length_cons, e3]⟩
        rw [e1, e2]
        simp [beAll]
theorem nodesP_back {xs ys l : List Int} (h : Bys xs) (e : nodesP xs = some (l, ys)) : xs = (be 2 l.length ++ beAll l) ++ ys ∧ l.length ≤ 1000 := by
  simp only [nodesP] at e
  split at e
  · cases e
  · rename_i n y1 hn
    split at e
    · cases e
    · rename_i hle
      obtain ⟨e1, h0, _⟩ := numP_back h hn
      obtain ⟨e2, e3⟩ := intsP_back n.toNat y1 ys l (numP_bys h hn) e
      have : ((l.length : Nat) : Int) = n := by omega
      refine ⟨?_, by omega⟩
      rw [this, List.append_assoc, ← e2]
      exact e1
theorem parseReq_back {xs : List Int} {q : Rq} {ys : List Int} (h : Bys xs) (e : parseReq xs = some (q, ys)) : xs = q.bytes ++ ys := by
  simp only [parseReq] at e
  split at e
  · cases e
  rename_i k x1 hk
  obtain ⟨e1, k0, _⟩ := numP_back h hk
  have b1 := numP_bys h hk
  rw [e1]
  split at e
  · rename_i k2
    split at e
    · cases e
    · rename_i s x2 hs
      cases e
      obtain ⟨e2, _⟩ := textP_back b1 hs
      rw [e2]
      simp [Rq.bytes, k2]
  split at e
  · rename_i k2 k3
    split at e
    · cases e
    rename_i o x2 ho
    split at e
    · cases e
    rename_i i x3 hi
    split at e
    · cases e
    rename_i p x4 hp
    split at e
    · cases e
    rename_i nm x5 hnm
    split at e
    · cases e
    rename_i os x6 hos
    cases e
    have b2 := numP_bys b1 ho
    have b3 := numP_bys b2 hi
    have b4 := numP_bys b3 hp
    have b5 := textP_bys b4 hnm
    rw [(numP_back b1 ho).1, (numP_back b2 hi).1, (numP_back b3 hp).1, (textP_back b4 hnm).1, (textP_back b5 hos).1]
    simp [Rq.bytes, k3]
  split at e
  · rename_i k2 k3 k6
    split at e
    · cases e
    rename_i i x2 hi
    cases e
    rw [(numP_back b1 hi).1]
    simp [Rq.bytes, k6]
  · rename_i k2 k3 k6
    cases e
    simp [Rq.bytes, k2, k3, k6]
theorem readReq_back {xs : List Int} {q : Rq} (h : Bys xs) (e : readReq xs = some q) : q.bytes = xs ∧ xs.length ≤ 4200 := by
  simp only [readReq] at e
  split at e
  · cases e
  · rename_i hl
    split at e
    · rename_i q' hp
      cases e
      have := parseReq_back h hp
      rw [List.append_nil] at this
      exact ⟨this.symm, by omega⟩
    · cases e
/-- What is read of a request is put as it was. -/
theorem req_once {xs : List Int} {q : Rq} (h : Bys xs) (e : getReq xs = (q, 0)) : putReq q = (xs, 0) := by
  rw [getReq] at e
  cases hr : readReq xs with
  | none => rw [hr] at e; simp [getOf] at e
  | some q' =>
    rw [hr] at e
    simp only [getOf] at e
    split at e
    · rename_i hb
      cases e
      obtain ⟨h1, h2⟩ := readReq_back h hr
      rw [putReq, if_neg (by rw [hb]; decide), h1, if_neg (by omega)]
    · cases e
theorem wrap_back (v : Int) (h0 : 0 ≤ v) (h1 : v < 18446744073709551616) : IntKind.u64.wrap (wrap64 v) = v := by
  rw [IntKind.wrap_u64]
  unfold wrap64
  omega
theorem wrap64_bounds (v : Int) : -9223372036854775808 ≤ wrap64 v ∧ wrap64 v ≤ 9223372036854775807 := by
  unfold wrap64
  omega
theorem parseRep_back {xs : List Int} {q : Rp} {ys : List Int} (h : Bys xs) (e : parseRep xs = some (q, true, ys)) : xs = q.bytes ++ ys ∧ q.kinds ∧ q.nodes.length ≤ 1000 := by
  simp only [parseRep] at e
  split at e
  · cases e
  rename_i k x1 hk
  split at e
  · cases e
  rename_i er x2 her
  split at e
  · cases e
  rename_i tx x3 htx
  split at e
  · cases e
  rename_i id x4 hid
  split at e
  · cases e
  rename_i ti x5 hti
  split at e
  · cases e
  rename_i s x6 hs
  split at e
  · cases e
  rename_i vt x7 hvt
  have b1 := numP_bys h hk
  have b2 := numP_bys b1 her
  have b3 := numP_bys b2 htx
  have b4 := numP_bys b3 hid
  have b5 := numP_bys b4 hti
  have b6 := textP_bys b5 hs
  have b7 := numP_bys b6 hvt
  obtain ⟨_, t0, t1⟩ := numP_back b4 hti
  have ht : 0 ≤ ti ∧ ti ≤ 18446744073709551615 := ⟨t0, by have : ti < 18446744073709551616 := t1; omega⟩
  have hz : -9223372036854775808 ≤ (0 : Int) ∧ (0 : Int) ≤ 9223372036854775807 := by decide
  rw [(numP_back h hk).1, (numP_back b1 her).1, (numP_back b2 htx).1, (numP_back b3 hid).1, (numP_back b4 hti).1, (textP_back b5 hs).1, (numP_back b6 hvt).1]
  split at e
  · rename_i v1
    split at e
    · cases e
    rename_i l y1 hl
    cases e
    obtain ⟨n1, n2⟩ := nodesP_back b7 hl
    rw [n1]
    exact ⟨by simp [Rp.bytes, Rp.head, Rp.tail, v1], ⟨ht, hz⟩, n2⟩
  split at e
  · rename_i v1 v2
    split at e
    · cases e
    rename_i v y1 hv
    obtain ⟨n1, n2, n3⟩ := numP_back b7 hv
    simp only [Option.some.injEq, Prod.mk.injEq] at e
    obtain ⟨rfl, hv1, rfl⟩ := e
    have hv2 : v ≤ 1 := of_decide_eq_true hv1
    have hf : flag (v == 1) = v := by
      by_cases hv3 : v = 1
      · subst hv3; rfl
      · have : v = 0 := by omega
        subst this; rfl
    refine ⟨?_, ⟨ht, hz⟩, Nat.zero_le _⟩
    rw [n1]
    simp [Rp.bytes, Rp.head, Rp.tail, v2, hf]
  split at e
  · rename_i v1 v2 v3
    split at e
    · cases e
    rename_i tg x8 htg
    split at e
    · cases e
    rename_i v y1 hv
    cases e
    have b8 := numP_bys b7 htg
    obtain ⟨n1, n2, n3⟩ := numP_back b8 hv
    refine ⟨?_, ⟨ht, wrap64_bounds v⟩, Nat.zero_le _⟩
    have hw := wrap_back v n2 n3
    rw [(numP_back b7 htg).1, n1]
    simp [Rp.bytes, Rp.head, Rp.tail, v3, hw]
  split at e
  · rename_i v1 v2 v3 v4
    split at e
    · cases e
    rename_i vs y1 hv
    cases e
    rw [(textP_back b7 hv).1]
    exact ⟨by simp [Rp.bytes, Rp.head, Rp.tail, v4], ⟨ht, hz⟩, Nat.zero_le _⟩
  · rename_i v1 v2 v3 v4
    cases e
    exact ⟨by simp [Rp.bytes, Rp.head, Rp.tail, v1, v2, v3, v4], ⟨ht, hz⟩, Nat.zero_le _⟩
theorem readRep_back {xs : List Int} {q : Rp} (h : Bys xs) (e : readRep xs = some q) : q.bytes = xs ∧ xs.length ≤ 4200 ∧ q.kinds ∧ q.nodes.length ≤ 1000 := by
  simp only [readRep] at e
  split at e
  · cases e
  · rename_i hl
    split at e
    · rename_i q' hp
      cases e
      obtain ⟨h1, h2, h3⟩ := parseRep_back h hp
      rw [List.append_nil] at h1
      exact ⟨h1.symm, by omega, h2, h3⟩
    · cases e
theorem rep_once {xs : List Int} {q : Rp} (h : Bys xs) (e : getRep xs = (q, 0)) : putRep q = (xs, 0) ∧ q.kinds ∧ q.nodes.length ≤ 1000 := by
  rw [getRep] at e
  cases hr : readRep xs with
  | none => rw [hr] at e; simp [getRepOf] at e
  | some q' =>
    rw [hr] at e
    simp only [getRepOf] at e
    split at e
    · rename_i hb
      cases e
      obtain ⟨h1, h2, h3, h4⟩ := readRep_back h hr
      refine ⟨?_, h3, h4⟩
      rw [putRep, if_neg (by rw [hb]; decide), h1, if_neg (by omega)]
    · cases e
end Go.Proofs.Ythkdihpbdaehbaa.Pr
namespace Go.Proofs.Ythkdihpbdaehbaa.Pr
set_option linter.unusedVariables false
set_option linter.unusedSimpArgs false
open Go.RowKit Go.Proofs.YthkdihpbdaehbaaW.PrintWords Go.Proofs.YthkdihpbdaehbaaW.PrintLast Go.Proofs.YthkdihpbdaehbaaW.PrintMore Go.Proofs.Ythkdihpbdaehbaa.Bs Go.Proofs.Ythkdihpbdaehbaa.PS
theorem wrap_succ (j : Nat) (h : j < 9223372036854775807) : wrap64 ((j : Int) + 1) = ((j + 1 : Nat) : Int) := by
  unfold wrap64; omega
theorem ints_loop (ns : List Int) (hl : ns.length ≤ 9000000) : ∀ (d j k : Nat), ns.length - j = d → j ≤ ns.length → d < k → breviaryref09_Ints.l0 k ns ns j = some true
  | d, j, 0, _, _, hk => by omega
  | 0, j, k + 1, hd, hj, _ => by
    have : j = ns.length := by omega
    subst this
    rw [breviaryref09_Ints.l0, if_neg (by omega)]
  | d + 1, j, k + 1, hd, hj, hk => by
    have hjs : j < ns.length := by omega
    rw [breviaryref09_Ints.l0, if_pos (by omega), if_pos (by omega), if_pos (by omega), if_pos rfl, wrap_succ j (by omega)]
    exact ints_loop ns hl d (j + 1) k (by omega) (by omega) (by omega)
theorem same_refl (r : Rp) (hl : r.nodes.length ≤ 9000000) : breviaryref26_SameRep.f (r.nodes.length + 1) r.kind r.err r.txn r.id r.time r.vt r.nodes r.vb r.tag r.vv r.vs r.s r.kind r.err r.txn r.id r.time r.vt r.nodes r.vb r.tag r.vv r.vs r.s = some true := by
  have hi : breviaryref09_Ints.f (r.nodes.length + 1) r.nodes r.nodes = some true := by
    unfold breviaryref09_Ints.f
    rw [if_pos rfl]
    exact ints_loop r.nodes hl r.nodes.length 0 _ (by omega) (by omega) (by omega)
  unfold breviaryref26_SameRep.f breviaryref16_Same.f
  simp [hi]
end Go.Proofs.Ythkdihpbdaehbaa.Pr
namespace Go.Proofs.Ythkdihpbdaehbaa.Pr
set_option linter.unusedVariables false
set_option linter.unusedSimpArgs false
open Go.RowKit Go.Proofs.YthkdihpbdaehbaaW.PrintWords Go.Proofs.YthkdihpbdaehbaaW.PrintLast Go.Proofs.YthkdihpbdaehbaaW.PrintMore Go.Proofs.Ythkdihpbdaehbaa.Bs
theorem intsP_all : ∀ (l r : List Int), (∀ x ∈ l, 0 ≤ x ∧ x ≤ 2147483647) → intsP l.length (beAll l ++ r) = some (l, r)
  | [], r, _ => rfl
  | x :: l, r, h => by
    have hx := h x (List.mem_cons_self ..)
    have e : beAll (x :: l) ++ r = be 4 x ++ (beAll l ++ r) := by simp [beAll]
    rw [List.length_cons, intsP, e, numP_be 4 x _ hx.1 (by show x < 4294967296; omega)]
    simp only []
    rw [intsP_all l r (fun y hy => h y (List.mem_cons_of_mem _ hy))]
theorem nodesP_all (l r : List Int) (h : ∀ x ∈ l, 0 ≤ x ∧ x ≤ 2147483647) (hl : l.length ≤ 1000) : nodesP (be 2 l.length ++ (beAll l ++ r)) = some (l, r) := by
  rw [nodesP, numP_be 2 (l.length : Int) _ (by omega) (by show (l.length : Int) < 65536; omega)]
  simp only []
  rw [if_neg (by omega), Int.toNat_natCast, intsP_all l r h]
theorem wrap_fwd (v : Int) (h0 : -9223372036854775808 ≤ v) (h1 : v ≤ 9223372036854775807) : wrap64 (IntKind.u64.wrap v) = v := by
  rw [IntKind.wrap_u64]
  unfold wrap64
  omega
theorem parseRep_bytes (r : Rp) (h : rightRepB r = true) (hk : r.kinds) : parseRep r.bytes = some (r, true, []) := by
  obtain ⟨⟨k0, k6⟩, ⟨e0, e6⟩, ft, fi, ss, hv⟩ := rightRep_parts r h
  obtain ⟨v1, v2, v3, v4, ⟨t0, t4⟩, nl, bd, dc, vl⟩ := val_parts _ _ _ _ _ _ hv
  have hd := dec_tag dc
  have x0 := fits_bounds ft
  have i0 := fits_bounds fi
  have hn := bad_fits bd
  obtain ⟨⟨ti0, ti1⟩, w0, w1⟩ := hk
  obtain ⟨k, er, tx, id, ti, vt, ns, vb, tag, vv, vs, s⟩ := r
  simp only [] at *
  have P1 : ∀ n : Int, 0 ≤ n → n ≤ 255 → ∀ r, numP 1 (be 1 n ++ r) = some (n, r) := fun n h0 h1 r => numP_be 1 n r h0 (by show n < 256; omega)
  have P2 : ∀ n : Int, 0 ≤ n → n ≤ 65535 → ∀ r, numP 2 (be 2 n ++ r) = some (n, r) := fun n h0 h1 r => numP_be 2 n r h0 (by show n < 65536; omega)
  have P4 : ∀ n : Int, 0 ≤ n → n ≤ 2147483647 → ∀ r, numP 4 (be 4 n ++ r) = some (n, r) := fun n h0 h1 r => numP_be 4 n r h0 (by show n < 4294967296; omega)
  have P8 : ∀ n : Int, 0 ≤ n → n ≤ 18446744073709551615 → ∀ r, numP 8 (be 8 n ++ r) = some (n, r) := fun n h0 h1 r => numP_be 8 n r h0 (by show n < 18446744073709551616; omega)
  have e : Rp.bytes ⟨k, er, tx, id, ti, vt, ns, vb, tag, vv, vs, s⟩ = be 1 k ++ (be 2 er ++ (be 4 tx ++ (be 4 id ++ (be 8 ti ++ (textB s ++ (be 1 vt ++ Rp.tail ⟨k, er, tx, id, ti, vt, ns, vb, tag, vv, vs, s⟩)))))) := by simp [Rp.bytes, Rp.head]
  rw [e, parseRep, P1 k k0 (by omega)]
  simp only []
  rw [P2 er e0 e6]
  simp only []
  rw [P4 tx x0.1 x0.2]
  simp only []
  rw [P4 id i0.1 i0.2]
  simp only []
  rw [P8 ti ti0 ti1]
  simp only []
  rw [textP_b s _ (by omega)]
  simp only []
  rw [P1 vt t0 (by omega)]
  simp only []
  by_cases a1 : vt = 1
  · subst a1
    obtain rfl := v2 (by decide)
    obtain ⟨rfl, rfl⟩ := v3 (by decide)
    obtain rfl := size0 vs (v4 (by decide))
    have et : Rp.tail ⟨k, er, tx, id, ti, 1, ns, false, 0, 0, nil8, s⟩ = be 2 ns.length ++ (beAll ns ++ []) := by simp [Rp.tail]
    rw [if_pos rfl, et, nodesP_all ns [] hn nl]
  rw [if_neg a1]
  obtain rfl := List.length_eq_zero_iff.mp (v1 a1)
  by_cases a2 : vt = 2
  · subst a2
    obtain ⟨rfl, rfl⟩ := v3 (by decide)
    obtain rfl := size0 vs (v4 (by decide))
    have et : Rp.tail ⟨k, er, tx, id, ti, 2, [], vb, 0, 0, nil8, s⟩ = be 1 (flag vb) ++ [] := by simp [Rp.tail]
    rw [if_pos rfl, et, P1 (flag vb) (by cases vb <;> decide) (by cases vb <;> decide)]
    cases vb <;> rfl
  rw [if_neg a2]
  obtain rfl := v2 a2
  by_cases a3 : vt = 3
  · subst a3
    obtain rfl := size0 vs (v4 (by decide))
    have et : Rp.tail ⟨k, er, tx, id, ti, 3, [], false, tag, vv, nil8, s⟩ = be 1 tag ++ (be 8 (IntKind.u64.wrap vv) ++ []) := by simp [Rp.tail]
    rw [if_pos rfl, et, P1 tag hd.1 (by omega)]
    simp only []
    rw [P8 (IntKind.u64.wrap vv) (by rw [IntKind.wrap_u64]; omega) (by rw [IntKind.wrap_u64]; omega)]
    simp only []
    rw [wrap_fwd vv w0 w1]
  rw [if_neg a3]
  obtain ⟨rfl, rfl⟩ := v3 a3
  by_cases a4 : vt = 4
  · subst a4
    have et : Rp.tail ⟨k, er, tx, id, ti, 4, [], false, 0, 0, vs, s⟩ = textB vs ++ [] := by simp [Rp.tail]
    rw [if_pos rfl, et, textP_b vs _ (by omega)]
  rw [if_neg a4]
  obtain rfl := size0 vs (v4 a4)
  have et : Rp.tail ⟨k, er, tx, id, ti, vt, [], false, 0, 0, nil8, s⟩ = [] := by simp [Rp.tail, a1, a2, a3, a4]
  rw [et]
theorem get_rep_bytes (r : Rp) (h : rightRepB r = true) (hk : r.kinds) (hl : r.bytes.length ≤ 4200) : getRep r.bytes = (r, 0) := by
  rw [getRep, readRep, if_neg (by omega), parseRep_bytes r h hk, getRepOf, if_pos h]
theorem Bys.append {a b : List Int} (h : Bys a) (k : Bys b) : Bys (a ++ b) := fun x hx => (List.mem_append.mp hx).elim (h x) (k x)
theorem bys_be (s : Nat) (n : Int) : Bys (be s n) := be_bytes s n
theorem bys_text (s : ByteArray) : Bys (textB s) := by
  intro x hx
  simp only [textB, List.mem_append] at hx
  rcases hx with hx | hx
  · exact be_bytes _ _ x hx
  · simp only [bytesOf, List.mem_map] at hx
    obtain ⟨b, _, rfl⟩ := hx
    have := b.toNat_lt
    omega
theorem bys_all (l : List Int) : Bys (beAll l) := by
  intro x hx
  simp only [beAll, List.mem_flatMap] at hx
  obtain ⟨y, _, hy⟩ := hx
  exact be_bytes _ _ x hy
theorem bys_rep (r : Rp) : Bys r.bytes := by
  refine Bys.append ?_ ?_
  · exact (((((((Bys.append (fun x hx => by cases hx) (bys_be _ _)).append (bys_be _ _)).append (bys_be _ _)).append (bys_be _ _)).append (bys_be _ _)).append (bys_text _)).append (bys_be _ _))
  · unfold Rp.tail
    split
    · exact (bys_be _ _).append (bys_all _)
    split
    · exact bys_be _ _
    split
    · exact (bys_be _ _).append (bys_be _ _)
    split
    · exact bys_text _
    · exact fun x hx => by cases hx
end Go.Proofs.Ythkdihpbdaehbaa.Pr
