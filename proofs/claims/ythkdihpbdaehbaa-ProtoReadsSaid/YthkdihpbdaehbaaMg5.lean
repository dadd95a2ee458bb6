import Derived.Test.YthkdihpbdaehbaaMg4
import Derived.Deep.DeepCutAuto
import Derived.StillTailTactics
import Derived.Deep.RegionHeld3
import Derived.Test.YthkdihpbdaehbaaPrT
import Derived.Test.YthkdihpbdaehbaaPrU
namespace Go.Proofs.Ythkdihpbdaehbaa.Pr
set_option linter.unusedVariables false
set_option linter.unusedSimpArgs false
open Go.RowKit Go.Proofs.YthkdihpbdaehbaaW.PrintWords Go.Proofs.YthkdihpbdaehbaaW.PrintLast Go.Proofs.YthkdihpbdaehbaaW.PrintMore Go.Proofs.Ythkdihpbdaehbaa.Bs Go.Proofs.Ythkdihpbdaehbaa.PS
theorem redec (t v : Int) : breviaryref03_Right.f t v = some (decB t v) := by
  unfold breviaryref03_Right.f decB
  by_cases h0 : t = 0
  · rw [if_pos h0, if_pos h0]
  rw [if_neg h0, if_neg h0]
  by_cases h1 : t ≥ 1
  · rw [if_pos h1]
    by_cases h3 : t ≤ 3
    · rw [if_pos h3]
      by_cases e1 : t = 1
      · rw [if_pos e1]
      by_cases e2 : t = 2
      · rw [if_neg e1, if_pos e2]
      rw [if_neg e1, if_neg e2, if_pos (by omega)]
    · rw [if_neg h3, if_neg (by omega), if_neg (by omega), if_neg (by omega)]
  · rw [if_neg h1, if_neg (by omega), if_neg (by omega), if_neg (by omega)]
theorem rd_drop (ns : List Int) (j : Nat) (h : j < ns.length) : ns.drop j = rd ns j :: ns.drop (j + 1) := by
  rw [List.drop_eq_getElem_cons h]; simp [rd, List.getD_eq_getElem?_getD, h]
theorem dec_ref (w : World) (tag vv : Int) : Calls Try.prog 35 #[.agg #[.int .i64 tag, .int .i64 vv]] w fun e w' => e = .returned (.bool (decB tag vv)) ∧ Below w.heap.size w w' := breviaryref03_Right.calls tag vv _ w (redec tag vv)
set_option maxRecDepth 100000 in
set_option maxHeartbeats 600000 in
theorem rr_1 (w : World) (k er tx id ti vt : Int) (A : Option Addr) (c : Nat) (ns : List Int) (vb : Bool) (tag vv : Int) (vs s : ByteArray) (r : Bool) (hC : (Kd.int .i64).C w A ns.length ns) (hl : ns.length ≤ 9000000) (HE : r = false) (k0 : k < 0) : Calls Try.prog 18 #[.agg #[.int .i64 k, .int .i64 er, .int .i64 tx, .int .i64 id, .int .u64 ti, .int .i64 vt, .slice A ns.length c, .bool vb, .int .i64 tag, .int .i64 vv, .string vs, .string s]] w fun e w' => e = .returned (.bool r) ∧ Below w.heap.size w w' := by
  have E := Aside0.mk HE
  clear HE
  clear hC
  go_enter Try.func18, Try.ntmps18
  go_wp2_with (first | fail)
  go_ret
  exact ⟨congrArg (fun b => Ending.returned (.bool b)) E.out.symm, by repeat (first | exact Below.refl _ _ | apply below_alloc | apply pw_below_drewN | apply below_drew1)⟩
set_option maxRecDepth 100000 in
set_option maxHeartbeats 600000 in
theorem rr_2 (w : World) (k er tx id ti vt : Int) (A : Option Addr) (c : Nat) (ns : List Int) (vb : Bool) (tag vv : Int) (vs s : ByteArray) (r : Bool) (hC : (Kd.int .i64).C w A ns.length ns) (hl : ns.length ≤ 9000000) (HE : r = false) (k0 : ¬ k < 0) (k6 : 6 < k) : Calls Try.prog 18 #[.agg #[.int .i64 k, .int .i64 er, .int .i64 tx, .int .i64 id, .int .u64 ti, .int .i64 vt, .slice A ns.length c, .bool vb, .int .i64 tag, .int .i64 vv, .string vs, .string s]] w fun e w' => e = .returned (.bool r) ∧ Below w.heap.size w w' := by
  have E := Aside0.mk HE
  clear HE
  clear hC
  go_enter Try.func18, Try.ntmps18
  go_wp2_with (first | fail)
  go_ret
  exact ⟨congrArg (fun b => Ending.returned (.bool b)) E.out.symm, by repeat (first | exact Below.refl _ _ | apply below_alloc | apply pw_below_drewN | apply below_drew1)⟩
set_option maxRecDepth 100000 in
set_option maxHeartbeats 600000 in
theorem rr_3 (w : World) (k er tx id ti vt : Int) (A : Option Addr) (c : Nat) (ns : List Int) (vb : Bool) (tag vv : Int) (vs s : ByteArray) (r : Bool) (hC : (Kd.int .i64).C w A ns.length ns) (hl : ns.length ≤ 9000000) (HE : r = false) (k0 : ¬ k < 0) (k6 : ¬ 6 < k) (e0 : er < 0) : Calls Try.prog 18 #[.agg #[.int .i64 k, .int .i64 er, .int .i64 tx, .int .i64 id, .int .u64 ti, .int .i64 vt, .slice A ns.length c, .bool vb, .int .i64 tag, .int .i64 vv, .string vs, .string s]] w fun e w' => e = .returned (.bool r) ∧ Below w.heap.size w w' := by
  have E := Aside0.mk HE
  clear HE
  clear hC
  go_enter Try.func18, Try.ntmps18
  go_wp2_with (first | fail)
  go_ret
  exact ⟨congrArg (fun b => Ending.returned (.bool b)) E.out.symm, by repeat (first | exact Below.refl _ _ | apply below_alloc | apply pw_below_drewN | apply below_drew1)⟩
set_option maxRecDepth 100000 in
set_option maxHeartbeats 600000 in
theorem rr_4 (w : World) (k er tx id ti vt : Int) (A : Option Addr) (c : Nat) (ns : List Int) (vb : Bool) (tag vv : Int) (vs s : ByteArray) (r : Bool) (hC : (Kd.int .i64).C w A ns.length ns) (hl : ns.length ≤ 9000000) (HE : r = false) (k0 : ¬ k < 0) (k6 : ¬ 6 < k) (e0 : ¬ er < 0) (e6 : 65535 < er) : Calls Try.prog 18 #[.agg #[.int .i64 k, .int .i64 er, .int .i64 tx, .int .i64 id, .int .u64 ti, .int .i64 vt, .slice A ns.length c, .bool vb, .int .i64 tag, .int .i64 vv, .string vs, .string s]] w fun e w' => e = .returned (.bool r) ∧ Below w.heap.size w w' := by
  have E := Aside0.mk HE
  clear HE
  clear hC
  go_enter Try.func18, Try.ntmps18
  go_wp2_with (first | fail)
  go_ret
  exact ⟨congrArg (fun b => Ending.returned (.bool b)) E.out.symm, by repeat (first | exact Below.refl _ _ | apply below_alloc | apply pw_below_drewN | apply below_drew1)⟩
set_option maxRecDepth 100000 in
set_option maxHeartbeats 600000 in
theorem rr_5 (w : World) (k er tx id ti vt : Int) (A : Option Addr) (c : Nat) (ns : List Int) (vb : Bool) (tag vv : Int) (vs s : ByteArray) (r : Bool) (hC : (Kd.int .i64).C w A ns.length ns) (hl : ns.length ≤ 9000000) (HE : r = false) (k0 : ¬ k < 0) (k6 : ¬ 6 < k) (e0 : ¬ er < 0) (e6 : ¬ 65535 < er) (ft : fitsB tx = false) : Calls Try.prog 18 #[.agg #[.int .i64 k, .int .i64 er, .int .i64 tx, .int .i64 id, .int .u64 ti, .int .i64 vt, .slice A ns.length c, .bool vb, .int .i64 tag, .int .i64 vv, .string vs, .string s]] w fun e w' => e = .returned (.bool r) ∧ Below w.heap.size w w' := by
  have E := Aside0.mk HE
  clear HE
  have C1 := Aside0.mk (fun w => fits2_calls w tx)
  rw [ft] at C1
  clear hC
  go_enter Try.func18, Try.ntmps18
  go_wp2_with (first | (go_at_call 23; (with_reducible refine (C1.out _).mono ?_); rintro e w1 ⟨rfl, ⟨nd, rfl⟩⟩))
  go_ret
  exact ⟨congrArg (fun b => Ending.returned (.bool b)) E.out.symm, by repeat (first | exact Below.refl _ _ | apply below_alloc | apply pw_below_drewN | apply below_drew1)⟩
set_option maxRecDepth 100000 in
set_option maxHeartbeats 600000 in
theorem rr_6 (w : World) (k er tx id ti vt : Int) (A : Option Addr) (c : Nat) (ns : List Int) (vb : Bool) (tag vv : Int) (vs s : ByteArray) (r : Bool) (hC : (Kd.int .i64).C w A ns.length ns) (hl : ns.length ≤ 9000000) (HE : r = false) (k0 : ¬ k < 0) (k6 : ¬ 6 < k) (e0 : ¬ er < 0) (e6 : ¬ 65535 < er) (ft : fitsB tx = true) (fi : fitsB id = false) : Calls Try.prog 18 #[.agg #[.int .i64 k, .int .i64 er, .int .i64 tx, .int .i64 id, .int .u64 ti, .int .i64 vt, .slice A ns.length c, .bool vb, .int .i64 tag, .int .i64 vv, .string vs, .string s]] w fun e w' => e = .returned (.bool r) ∧ Below w.heap.size w w' := by
  have E := Aside0.mk HE
  clear HE
  have C1 := Aside0.mk (fun w => fits2_calls w tx)
  have C2 := Aside0.mk (fun w => fits2_calls w id)
  rw [ft] at C1
  rw [fi] at C2
  clear hC
  go_enter Try.func18, Try.ntmps18
  go_wp2_with (first | (go_at_call 23; (with_reducible refine (C1.out _).mono ?_); rintro e w1 ⟨rfl, ⟨nd, rfl⟩⟩) | (go_at_call 23; (with_reducible refine (C2.out _).mono ?_); rintro e w1 ⟨rfl, ⟨nd, rfl⟩⟩))
  go_ret
  exact ⟨congrArg (fun b => Ending.returned (.bool b)) E.out.symm, by repeat (first | exact Below.refl _ _ | apply below_alloc | apply pw_below_drewN | apply below_drew1)⟩
set_option maxRecDepth 100000 in
set_option maxHeartbeats 600000 in
theorem rr_7 (w : World) (k er tx id ti vt : Int) (A : Option Addr) (c : Nat) (ns : List Int) (vb : Bool) (tag vv : Int) (vs s : ByteArray) (r : Bool) (hC : (Kd.int .i64).C w A ns.length ns) (hl : ns.length ≤ 9000000) (HE : r = false) (k0 : ¬ k < 0) (k6 : ¬ 6 < k) (e0 : ¬ er < 0) (e6 : ¬ 65535 < er) (ft : fitsB tx = true) (fi : fitsB id = true) (ss : 65535 < s.size) : Calls Try.prog 18 #[.agg #[.int .i64 k, .int .i64 er, .int .i64 tx, .int .i64 id, .int .u64 ti, .int .i64 vt, .slice A ns.length c, .bool vb, .int .i64 tag, .int .i64 vv, .string vs, .string s]] w fun e w' => e = .returned (.bool r) ∧ Below w.heap.size w w' := by
  have E := Aside0.mk HE
  clear HE
  have C1 := Aside0.mk (fun w => fits2_calls w tx)
  have C2 := Aside0.mk (fun w => fits2_calls w id)
  rw [ft] at C1
  rw [fi] at C2
  have ss' : 65535 < (s.size : Int) := by omega
  clear hC
  go_enter Try.func18, Try.ntmps18
  go_wp2_with (first | (go_at_call 23; (with_reducible refine (C1.out _).mono ?_); rintro e w1 ⟨rfl, ⟨nd, rfl⟩⟩) | (go_at_call 23; (with_reducible refine (C2.out _).mono ?_); rintro e w1 ⟨rfl, ⟨nd, rfl⟩⟩))
  go_ret
  exact ⟨congrArg (fun b => Ending.returned (.bool b)) E.out.symm, by repeat (first | exact Below.refl _ _ | apply below_alloc | apply pw_below_drewN | apply below_drew1)⟩
set_option maxRecDepth 100000 in
set_option maxHeartbeats 600000 in
theorem rr_8 (w : World) (k er tx id ti vt : Int) (A : Option Addr) (c : Nat) (ns : List Int) (vb : Bool) (tag vv : Int) (vs s : ByteArray) (r : Bool) (hC : (Kd.int .i64).C w A ns.length ns) (hl : ns.length ≤ 9000000) (HE : r = false) (k0 : ¬ k < 0) (k6 : ¬ 6 < k) (e0 : ¬ er < 0) (e6 : ¬ 65535 < er) (ft : fitsB tx = true) (fi : fitsB id = true) (ss : ¬ 65535 < s.size) (v0 : vt < 0) : Calls Try.prog 18 #[.agg #[.int .i64 k, .int .i64 er, .int .i64 tx, .int .i64 id, .int .u64 ti, .int .i64 vt, .slice A ns.length c, .bool vb, .int .i64 tag, .int .i64 vv, .string vs, .string s]] w fun e w' => e = .returned (.bool r) ∧ Below w.heap.size w w' := by
  have E := Aside0.mk HE
  clear HE
  have C1 := Aside0.mk (fun w => fits2_calls w tx)
  have C2 := Aside0.mk (fun w => fits2_calls w id)
  rw [ft] at C1
  rw [fi] at C2
  have ss' : ¬ 65535 < (s.size : Int) := by omega
  clear hC
  go_enter Try.func18, Try.ntmps18
  go_wp2_with (first | (go_at_call 23; (with_reducible refine (C1.out _).mono ?_); rintro e w1 ⟨rfl, ⟨nd, rfl⟩⟩) | (go_at_call 23; (with_reducible refine (C2.out _).mono ?_); rintro e w1 ⟨rfl, ⟨nd, rfl⟩⟩))
  go_ret
  exact ⟨congrArg (fun b => Ending.returned (.bool b)) E.out.symm, by repeat (first | exact Below.refl _ _ | apply below_alloc | apply pw_below_drewN | apply below_drew1)⟩
set_option maxRecDepth 100000 in
set_option maxHeartbeats 600000 in
theorem rr_9 (w : World) (k er tx id ti vt : Int) (A : Option Addr) (c : Nat) (ns : List Int) (vb : Bool) (tag vv : Int) (vs s : ByteArray) (r : Bool) (hC : (Kd.int .i64).C w A ns.length ns) (hl : ns.length ≤ 9000000) (HE : r = false) (k0 : ¬ k < 0) (k6 : ¬ 6 < k) (e0 : ¬ er < 0) (e6 : ¬ 65535 < er) (ft : fitsB tx = true) (fi : fitsB id = true) (ss : ¬ 65535 < s.size) (v0 : ¬ vt < 0) (v5 : 4 < vt) : Calls Try.prog 18 #[.agg #[.int .i64 k, .int .i64 er, .int .i64 tx, .int .i64 id, .int .u64 ti, .int .i64 vt, .slice A ns.length c, .bool vb, .int .i64 tag, .int .i64 vv, .string vs, .string s]] w fun e w' => e = .returned (.bool r) ∧ Below w.heap.size w w' := by
  have E := Aside0.mk HE
  clear HE
  have C1 := Aside0.mk (fun w => fits2_calls w tx)
  have C2 := Aside0.mk (fun w => fits2_calls w id)
  rw [ft] at C1
  rw [fi] at C2
  have ss' : ¬ 65535 < (s.size : Int) := by omega
  clear hC
  go_enter Try.func18, Try.ntmps18
  go_wp2_with (first | (go_at_call 23; (with_reducible refine (C1.out _).mono ?_); rintro e w1 ⟨rfl, ⟨nd, rfl⟩⟩) | (go_at_call 23; (with_reducible refine (C2.out _).mono ?_); rintro e w1 ⟨rfl, ⟨nd, rfl⟩⟩))
  go_ret
  exact ⟨congrArg (fun b => Ending.returned (.bool b)) E.out.symm, by repeat (first | exact Below.refl _ _ | apply below_alloc | apply pw_below_drewN | apply below_drew1)⟩
set_option maxRecDepth 100000 in
set_option maxHeartbeats 600000 in
theorem rr_10 (w : World) (k er tx id ti vt : Int) (A : Option Addr) (c : Nat) (ns : List Int) (vb : Bool) (tag vv : Int) (vs s : ByteArray) (r : Bool) (hC : (Kd.int .i64).C w A ns.length ns) (hl : ns.length ≤ 9000000) (HE : r = false) (k0 : ¬ k < 0) (k6 : ¬ 6 < k) (e0 : ¬ er < 0) (e6 : ¬ 65535 < er) (ft : fitsB tx = true) (fi : fitsB id = true) (ss : ¬ 65535 < s.size) (v0 : ¬ vt < 0) (v5 : ¬ 4 < vt) (vn : vt = 1) (hb : vb = true) : Calls Try.prog 18 #[.agg #[.int .i64 k, .int .i64 er, .int .i64 tx, .int .i64 id, .int .u64 ti, .int .i64 vt, .slice A ns.length c, .bool vb, .int .i64 tag, .int .i64 vv, .string vs, .string s]] w fun e w' => e = .returned (.bool r) ∧ Below w.heap.size w w' := by
  have E := Aside0.mk HE
  clear HE
  have C1 := Aside0.mk (fun w => fits2_calls w tx)
  have C2 := Aside0.mk (fun w => fits2_calls w id)
  rw [ft] at C1
  rw [fi] at C2
  have ss' : ¬ 65535 < (s.size : Int) := by omega
  subst vn
  subst hb
  clear hC
  go_enter Try.func18, Try.ntmps18
  go_wp2_with (first | (go_at_call 23; (with_reducible refine (C1.out _).mono ?_); rintro e w1 ⟨rfl, ⟨nd, rfl⟩⟩) | (go_at_call 23; (with_reducible refine (C2.out _).mono ?_); rintro e w1 ⟨rfl, ⟨nd, rfl⟩⟩))
  go_ret
  exact ⟨congrArg (fun b => Ending.returned (.bool b)) E.out.symm, by repeat (first | exact Below.refl _ _ | apply below_alloc | apply pw_below_drewN | apply below_drew1)⟩
set_option maxRecDepth 100000 in
set_option maxHeartbeats 600000 in
theorem rr_11 (w : World) (k er tx id ti vt : Int) (A : Option Addr) (c : Nat) (ns : List Int) (vb : Bool) (tag vv : Int) (vs s : ByteArray) (r : Bool) (hC : (Kd.int .i64).C w A ns.length ns) (hl : ns.length ≤ 9000000) (HE : r = false) (k0 : ¬ k < 0) (k6 : ¬ 6 < k) (e0 : ¬ er < 0) (e6 : ¬ 65535 < er) (ft : fitsB tx = true) (fi : fitsB id = true) (ss : ¬ 65535 < s.size) (v0 : ¬ vt < 0) (v5 : ¬ 4 < vt) (vn : vt = 1) (hb : vb = false) (ht : ¬ tag = 0) : Calls Try.prog 18 #[.agg #[.int .i64 k, .int .i64 er, .int .i64 tx, .int .i64 id, .int .u64 ti, .int .i64 vt, .slice A ns.length c, .bool vb, .int .i64 tag, .int .i64 vv, .string vs, .string s]] w fun e w' => e = .returned (.bool r) ∧ Below w.heap.size w w' := by
  have E := Aside0.mk HE
  clear HE
  have C1 := Aside0.mk (fun w => fits2_calls w tx)
  have C2 := Aside0.mk (fun w => fits2_calls w id)
  rw [ft] at C1
  rw [fi] at C2
  have ss' : ¬ 65535 < (s.size : Int) := by omega
  subst vn
  subst hb
  have t0 : (tag != 0) = true := by simp [ht]
  clear hC
  go_enter Try.func18, Try.ntmps18
  go_wp2_with (first | (go_at_call 23; (with_reducible refine (C1.out _).mono ?_); rintro e w1 ⟨rfl, ⟨nd, rfl⟩⟩) | (go_at_call 23; (with_reducible refine (C2.out _).mono ?_); rintro e w1 ⟨rfl, ⟨nd, rfl⟩⟩))
  go_ret
  exact ⟨congrArg (fun b => Ending.returned (.bool b)) E.out.symm, by repeat (first | exact Below.refl _ _ | apply below_alloc | apply pw_below_drewN | apply below_drew1)⟩
set_option maxRecDepth 100000 in
set_option maxHeartbeats 600000 in
theorem rr_12 (w : World) (k er tx id ti vt : Int) (A : Option Addr) (c : Nat) (ns : List Int) (vb : Bool) (tag vv : Int) (vs s : ByteArray) (r : Bool) (hC : (Kd.int .i64).C w A ns.length ns) (hl : ns.length ≤ 9000000) (HE : r = false) (k0 : ¬ k < 0) (k6 : ¬ 6 < k) (e0 : ¬ er < 0) (e6 : ¬ 65535 < er) (ft : fitsB tx = true) (fi : fitsB id = true) (ss : ¬ 65535 < s.size) (v0 : ¬ vt < 0) (v5 : ¬ 4 < vt) (vn : vt = 1) (hb : vb = false) (ht : tag = 0) (hv : ¬ vv = 0) : Calls Try.prog 18 #[.agg #[.int .i64 k, .int .i64 er, .int .i64 tx, .int .i64 id, .int .u64 ti, .int .i64 vt, .slice A ns.length c, .bool vb, .int .i64 tag, .int .i64 vv, .string vs, .string s]] w fun e w' => e = .returned (.bool r) ∧ Below w.heap.size w w' := by
  have E := Aside0.mk HE
  clear HE
  have C1 := Aside0.mk (fun w => fits2_calls w tx)
  have C2 := Aside0.mk (fun w => fits2_calls w id)
  rw [ft] at C1
  rw [fi] at C2
  have ss' : ¬ 65535 < (s.size : Int) := by omega
  subst vn
  subst hb
  subst ht
  have vv0 : (vv != 0) = true := by simp [hv]
  clear hC
  go_enter Try.func18, Try.ntmps18
  go_wp2_with (first | (go_at_call 23; (with_reducible refine (C1.out _).mono ?_); rintro e w1 ⟨rfl, ⟨nd, rfl⟩⟩) | (go_at_call 23; (with_reducible refine (C2.out _).mono ?_); rintro e w1 ⟨rfl, ⟨nd, rfl⟩⟩))
  go_ret
  exact ⟨congrArg (fun b => Ending.returned (.bool b)) E.out.symm, by repeat (first | exact Below.refl _ _ | apply below_alloc | apply pw_below_drewN | apply below_drew1)⟩
set_option maxRecDepth 100000 in
set_option maxHeartbeats 600000 in
theorem rr_13 (w : World) (k er tx id ti vt : Int) (A : Option Addr) (c : Nat) (ns : List Int) (vb : Bool) (tag vv : Int) (vs s : ByteArray) (r : Bool) (hC : (Kd.int .i64).C w A ns.length ns) (hl : ns.length ≤ 9000000) (HE : r = false) (k0 : ¬ k < 0) (k6 : ¬ 6 < k) (e0 : ¬ er < 0) (e6 : ¬ 65535 < er) (ft : fitsB tx = true) (fi : fitsB id = true) (ss : ¬ 65535 < s.size) (v0 : ¬ vt < 0) (v5 : ¬ 4 < vt) (vn : vt = 1) (hb : vb = false) (ht : tag = 0) (hv : vv = 0) (hs : ¬ vs.toList = []) : Calls Try.prog 18 #[.agg #[.int .i64 k, .int .i64 er, .int .i64 tx, .int .i64 id, .int .u64 ti, .int .i64 vt, .slice A ns.length c, .bool vb, .int .i64 tag, .int .i64 vv, .string vs, .string s]] w fun e w' => e = .returned (.bool r) ∧ Below w.heap.size w w' := by
  have E := Aside0.mk HE
  clear HE
  have C1 := Aside0.mk (fun w => fits2_calls w tx)
  have C2 := Aside0.mk (fun w => fits2_calls w id)
  rw [ft] at C1
  rw [fi] at C2
  have ss' : ¬ 65535 < (s.size : Int) := by omega
  subst vn
  subst hb
  subst ht
  subst hv
  have hs2 : (!vs.toList.isEmpty) = true := by simpa using hs
  clear hC
  go_enter Try.func18, Try.ntmps18
  go_wp2_with (first | (go_at_call 23; (with_reducible refine (C1.out _).mono ?_); rintro e w1 ⟨rfl, ⟨nd, rfl⟩⟩) | (go_at_call 23; (with_reducible refine (C2.out _).mono ?_); rintro e w1 ⟨rfl, ⟨nd, rfl⟩⟩))
  go_ret
  exact ⟨congrArg (fun b => Ending.returned (.bool b)) E.out.symm, by repeat (first | exact Below.refl _ _ | apply below_alloc | apply pw_below_drewN | apply below_drew1)⟩
set_option maxRecDepth 100000 in
set_option maxHeartbeats 600000 in
theorem rr_14 (w : World) (k er tx id ti vt : Int) (A : Option Addr) (c : Nat) (ns : List Int) (vb : Bool) (tag vv : Int) (vs s : ByteArray) (r : Bool) (hC : (Kd.int .i64).C w A ns.length ns) (hl : ns.length ≤ 9000000) (HE : r = false) (k0 : ¬ k < 0) (k6 : ¬ 6 < k) (e0 : ¬ er < 0) (e6 : ¬ 65535 < er) (ft : fitsB tx = true) (fi : fitsB id = true) (ss : ¬ 65535 < s.size) (v0 : ¬ vt < 0) (v5 : ¬ 4 < vt) (vn : vt = 1) (hb : vb = false) (ht : tag = 0) (hv : vv = 0) (hs : vs.toList = []) (nm : 1000 < ns.length) : Calls Try.prog 18 #[.agg #[.int .i64 k, .int .i64 er, .int .i64 tx, .int .i64 id, .int .u64 ti, .int .i64 vt, .slice A ns.length c, .bool vb, .int .i64 tag, .int .i64 vv, .string vs, .string s]] w fun e w' => e = .returned (.bool r) ∧ Below w.heap.size w w' := by
  have E := Aside0.mk HE
  clear HE
  have C1 := Aside0.mk (fun w => fits2_calls w tx)
  have C2 := Aside0.mk (fun w => fits2_calls w id)
  rw [ft] at C1
  rw [fi] at C2
  have ss' : ¬ 65535 < (s.size : Int) := by omega
  subst vn
  subst hb
  subst ht
  subst hv
  have sz : ¬ 65535 < ((vs.size : Nat) : Int) := by have := isEmpty_nil hs; omega
  have nm' : 1000 < (ns.length : Int) := by omega
  clear hC
  go_enter Try.func18, Try.ntmps18
  go_wp2_with (first | (go_at_call 23; (with_reducible refine (C1.out _).mono ?_); rintro e w1 ⟨rfl, ⟨nd, rfl⟩⟩) | (go_at_call 23; (with_reducible refine (C2.out _).mono ?_); rintro e w1 ⟨rfl, ⟨nd, rfl⟩⟩))
  go_ret
  exact ⟨congrArg (fun b => Ending.returned (.bool b)) E.out.symm, by repeat (first | exact Below.refl _ _ | apply below_alloc | apply pw_below_drewN | apply below_drew1)⟩
set_option maxRecDepth 100000 in
set_option maxHeartbeats 600000 in
theorem rr_15 (w : World) (k er tx id ti vt : Int) (A : Option Addr) (c : Nat) (ns : List Int) (vb : Bool) (tag vv : Int) (vs s : ByteArray) (r : Bool) (hC : (Kd.int .i64).C w A ns.length ns) (hl : ns.length ≤ 9000000) (HE : r = !badB ns) (k0 : ¬ k < 0) (k6 : ¬ 6 < k) (e0 : ¬ er < 0) (e6 : ¬ 65535 < er) (ft : fitsB tx = true) (fi : fitsB id = true) (ss : ¬ 65535 < s.size) (v0 : ¬ vt < 0) (v5 : ¬ 4 < vt) (vn : vt = 1) (hb : vb = false) (ht : tag = 0) (hv : vv = 0) (hs : vs.toList = []) (nm : ¬ 1000 < ns.length) : Calls Try.prog 18 #[.agg #[.int .i64 k, .int .i64 er, .int .i64 tx, .int .i64 id, .int .u64 ti, .int .i64 vt, .slice A ns.length c, .bool vb, .int .i64 tag, .int .i64 vv, .string vs, .string s]] w fun e w' => e = .returned (.bool r) ∧ Below w.heap.size w w' := by
  have E := Aside0.mk HE
  clear HE
  have C1 := Aside0.mk (fun w => fits2_calls w tx)
  have C2 := Aside0.mk (fun w => fits2_calls w id)
  have C3 := Aside0.mk (fun w => dec_ref w tag vv)
  rw [ft] at C1
  rw [fi] at C2
  have ss' : ¬ 65535 < (s.size : Int) := by omega
  subst vn
  subst hb
  subst ht
  subst hv
  have sz : ¬ 65535 < ((vs.size : Nat) : Int) := by have := isEmpty_nil hs; omega
  have nm' : ¬ 1000 < (ns.length : Int) := by omega
  rw [show decB 0 0 = true from by decide] at C3
  have HC := Aside0.mk hC
  clear hC
  go_enter Try.func18, Try.ntmps18
  go_wp2_with (first | (go_at_call 23; (with_reducible refine (C1.out _).mono ?_); rintro e w1 ⟨rfl, ⟨nd, rfl⟩⟩) | (go_at_call 23; (with_reducible refine (C2.out _).mono ?_); rintro e w1 ⟨rfl, ⟨nd, rfl⟩⟩) | (go_at_call 35; (with_reducible refine (C3.out _).mono ?_); rintro e w2 ⟨rfl, hb⟩; have hns : w2.cell? ⟨w.heap.size + 1, 1, none⟩ = some (.slice A ns.length c) := pw_cell_below hb (by go_simp); have HB := Aside0.mk (show Below w.heap.size w w2 from below_step (by repeat (first | exact Below.refl _ _ | apply below_alloc | apply pw_below_drewN | apply below_drew1)) hb); clear hb))
  go_loopw [4] (fun v4 wr => ∃ j : Nat, v4 = .int .i64 j ∧ j ≤ ns.length ∧ Aside0 (badB ns = badB (ns.drop j)) ∧ Aside0 (Drawn0 w2 wr)) (fun v4 _ => (ns.length - intOf v4).toNat)
  case atStart => exact ⟨0, rfl, Nat.zero_le _, ⟨rfl⟩, ⟨Drawn0.refl _⟩⟩
  case round =>
    obtain ⟨j, rfl, hj, HB2, HD⟩ := hrel
    have hn2 : wr.cell? ⟨w.heap.size + 1, 1, none⟩ = some (.slice A ns.length c) := by obtain ⟨nd2, e⟩ := HD.out; rw [e]; exact hns
    have hbw : Below w.heap.size w wr := by obtain ⟨nd2, e⟩ := HD.out; rw [e]; exact pw_below_drewN HB.out nd2
    have HBW := Aside0.mk hbw
    by_cases hjs : j < ns.length
    · have hjs' : (j : Int) < ns.length := by omega
      obtain ⟨ad, cc, rfl, hce, hK1, hK2⟩ := Kd.C_get (Kd.C_below HC.out hbw) (0 : Int) j (by omega) (by omega)
      have e1 : cc = [.int .i64 (rd ns j)] := hK1
      have hcell : wr.cell? (ad.add j) = some (.int .i64 (rd ns j)) := by
        have := hK2 0 (.int .i64 (rd ns j)) (by rw [e1]; rfl)
        rw [show ((j : Int).toNat * (Kd.int .i64).sz + 0) = j from by show (j : Int).toNat * 1 + 0 = j; simp] at this
        exact this
      have hbad : badB ns = ((!fitsB (rd ns j)) || badB (ns.drop (j + 1))) := by
        rw [HB2.out, rd_drop ns j hjs]; simp [badB]
      have HBAD := Aside0.mk hbad
      have C4 := fun w => fits2_calls w (rd ns j)
      generalize fitsB (rd ns j) = f at *
      clear hK1 hK2 hce e1 hbad hbw hns
      cases f with
      | true =>
        go_wp2_with (first | (go_at_call 23; (with_reducible refine (C4 _).mono ?_); rintro e w' ⟨rfl, hd⟩; have HD2 := Aside0.mk hd; clear hd))
        go_roundw
        case rel => exact ⟨j + 1, rfl, hjs, ⟨by rw [HBAD.out]; rfl⟩, ⟨Drawn0.two HD.out HD2.out⟩⟩
        case measure => simp [intOf]; omega
      | false =>
        go_wp2_with (first | (go_at_call 23; (with_reducible refine (C4 _).mono ?_); rintro e w' ⟨rfl, hd⟩; have HD2 := Aside0.mk hd; clear hd))
        go_ret
        exact ⟨by rw [E.out, HBAD.out]; rfl, by obtain ⟨nd3, e⟩ := HD2.out; rw [e]; exact pw_below_drewN HBW.out nd3⟩
    · have hjs' : ¬ (j : Int) < ns.length := by omega
      have hd0 : ns.drop j = [] := List.drop_eq_nil_of_le (by omega)
      have HE := Aside0.mk (show badB ns = false by rw [HB2.out, hd0]; rfl)
      clear hd0 hbw hns
      go_wp2
      go_ret
      exact ⟨by rw [E.out, HE.out]; rfl, HBW.out⟩
set_option maxRecDepth 100000 in
set_option maxHeartbeats 600000 in
theorem rr_16 (w : World) (k er tx id ti vt : Int) (A : Option Addr) (c : Nat) (ns : List Int) (vb : Bool) (tag vv : Int) (vs s : ByteArray) (r : Bool) (hC : (Kd.int .i64).C w A ns.length ns) (hl : ns.length ≤ 9000000) (HE : r = false) (k0 : ¬ k < 0) (k6 : ¬ 6 < k) (e0 : ¬ er < 0) (e6 : ¬ 65535 < er) (ft : fitsB tx = true) (fi : fitsB id = true) (ss : ¬ 65535 < s.size) (v0 : ¬ vt < 0) (v5 : ¬ 4 < vt) (vn : vt = 2) (np : 0 < ns.length) : Calls Try.prog 18 #[.agg #[.int .i64 k, .int .i64 er, .int .i64 tx, .int .i64 id, .int .u64 ti, .int .i64 vt, .slice A ns.length c, .bool vb, .int .i64 tag, .int .i64 vv, .string vs, .string s]] w fun e w' => e = .returned (.bool r) ∧ Below w.heap.size w w' := by
  have E := Aside0.mk HE
  clear HE
  have C1 := Aside0.mk (fun w => fits2_calls w tx)
  have C2 := Aside0.mk (fun w => fits2_calls w id)
  rw [ft] at C1
  rw [fi] at C2
  have ss' : ¬ 65535 < (s.size : Int) := by omega
  subst vn
  have n1 : 0 < (ns.length : Int) := by omega
  clear hC
  go_enter Try.func18, Try.ntmps18
  go_wp2_with (first | (go_at_call 23; (with_reducible refine (C1.out _).mono ?_); rintro e w1 ⟨rfl, ⟨nd, rfl⟩⟩) | (go_at_call 23; (with_reducible refine (C2.out _).mono ?_); rintro e w1 ⟨rfl, ⟨nd, rfl⟩⟩))
  go_ret
  exact ⟨congrArg (fun b => Ending.returned (.bool b)) E.out.symm, by repeat (first | exact Below.refl _ _ | apply below_alloc | apply pw_below_drewN | apply below_drew1)⟩
set_option maxRecDepth 100000 in
set_option maxHeartbeats 600000 in
theorem rr_17 (w : World) (k er tx id ti vt : Int) (A : Option Addr) (c : Nat) (ns : List Int) (vb : Bool) (tag vv : Int) (vs s : ByteArray) (r : Bool) (hC : (Kd.int .i64).C w A ns.length ns) (hl : ns.length ≤ 9000000) (HE : r = false) (k0 : ¬ k < 0) (k6 : ¬ 6 < k) (e0 : ¬ er < 0) (e6 : ¬ 65535 < er) (ft : fitsB tx = true) (fi : fitsB id = true) (ss : ¬ 65535 < s.size) (v0 : ¬ vt < 0) (v5 : ¬ 4 < vt) (vn : vt = 2) (nz : ns.length = 0) (ht : ¬ tag = 0) : Calls Try.prog 18 #[.agg #[.int .i64 k, .int .i64 er, .int .i64 tx, .int .i64 id, .int .u64 ti, .int .i64 vt, .slice A ns.length c, .bool vb, .int .i64 tag, .int .i64 vv, .string vs, .string s]] w fun e w' => e = .returned (.bool r) ∧ Below w.heap.size w w' := by
  have E := Aside0.mk HE
  clear HE
  have C1 := Aside0.mk (fun w => fits2_calls w tx)
  have C2 := Aside0.mk (fun w => fits2_calls w id)
  rw [ft] at C1
  rw [fi] at C2
  have ss' : ¬ 65535 < (s.size : Int) := by omega
  subst vn
  obtain rfl : ns = [] := List.length_eq_zero_iff.mp nz
  simp only [List.length_nil] at *
  have t0 : (tag != 0) = true := by simp [ht]
  clear hC
  go_enter Try.func18, Try.ntmps18
  go_wp2_with (first | (go_at_call 23; (with_reducible refine (C1.out _).mono ?_); rintro e w1 ⟨rfl, ⟨nd, rfl⟩⟩) | (go_at_call 23; (with_reducible refine (C2.out _).mono ?_); rintro e w1 ⟨rfl, ⟨nd, rfl⟩⟩))
  go_ret
  exact ⟨congrArg (fun b => Ending.returned (.bool b)) E.out.symm, by repeat (first | exact Below.refl _ _ | apply below_alloc | apply pw_below_drewN | apply below_drew1)⟩
set_option maxRecDepth 100000 in
set_option maxHeartbeats 600000 in
theorem rr_18 (w : World) (k er tx id ti vt : Int) (A : Option Addr) (c : Nat) (ns : List Int) (vb : Bool) (tag vv : Int) (vs s : ByteArray) (r : Bool) (hC : (Kd.int .i64).C w A ns.length ns) (hl : ns.length ≤ 9000000) (HE : r = false) (k0 : ¬ k < 0) (k6 : ¬ 6 < k) (e0 : ¬ er < 0) (e6 : ¬ 65535 < er) (ft : fitsB tx = true) (fi : fitsB id = true) (ss : ¬ 65535 < s.size) (v0 : ¬ vt < 0) (v5 : ¬ 4 < vt) (vn : vt = 2) (nz : ns.length = 0) (ht : tag = 0) (hv : ¬ vv = 0) : Calls Try.prog 18 #[.agg #[.int .i64 k, .int .i64 er, .int .i64 tx, .int .i64 id, .int .u64 ti, .int .i64 vt, .slice A ns.length c, .bool vb, .int .i64 tag, .int .i64 vv, .string vs, .string s]] w fun e w' => e = .returned (.bool r) ∧ Below w.heap.size w w' := by
  have E := Aside0.mk HE
  clear HE
  have C1 := Aside0.mk (fun w => fits2_calls w tx)
  have C2 := Aside0.mk (fun w => fits2_calls w id)
  rw [ft] at C1
  rw [fi] at C2
  have ss' : ¬ 65535 < (s.size : Int) := by omega
  subst vn
  obtain rfl : ns = [] := List.length_eq_zero_iff.mp nz
  simp only [List.length_nil] at *
  subst ht
  have vv0 : (vv != 0) = true := by simp [hv]
  clear hC
  go_enter Try.func18, Try.ntmps18
  go_wp2_with (first | (go_at_call 23; (with_reducible refine (C1.out _).mono ?_); rintro e w1 ⟨rfl, ⟨nd, rfl⟩⟩) | (go_at_call 23; (with_reducible refine (C2.out _).mono ?_); rintro e w1 ⟨rfl, ⟨nd, rfl⟩⟩))
  go_ret
  exact ⟨congrArg (fun b => Ending.returned (.bool b)) E.out.symm, by repeat (first | exact Below.refl _ _ | apply below_alloc | apply pw_below_drewN | apply below_drew1)⟩
set_option maxRecDepth 100000 in
set_option maxHeartbeats 600000 in
theorem rr_19 (w : World) (k er tx id ti vt : Int) (A : Option Addr) (c : Nat) (ns : List Int) (vb : Bool) (tag vv : Int) (vs s : ByteArray) (r : Bool) (hC : (Kd.int .i64).C w A ns.length ns) (hl : ns.length ≤ 9000000) (HE : r = false) (k0 : ¬ k < 0) (k6 : ¬ 6 < k) (e0 : ¬ er < 0) (e6 : ¬ 65535 < er) (ft : fitsB tx = true) (fi : fitsB id = true) (ss : ¬ 65535 < s.size) (v0 : ¬ vt < 0) (v5 : ¬ 4 < vt) (vn : vt = 2) (nz : ns.length = 0) (ht : tag = 0) (hv : vv = 0) (hs : ¬ vs.toList = []) : Calls Try.prog 18 #[.agg #[.int .i64 k, .int .i64 er, .int .i64 tx, .int .i64 id, .int .u64 ti, .int .i64 vt, .slice A ns.length c, .bool vb, .int .i64 tag, .int .i64 vv, .string vs, .string s]] w fun e w' => e = .returned (.bool r) ∧ Below w.heap.size w w' := by
  have E := Aside0.mk HE
  clear HE
  have C1 := Aside0.mk (fun w => fits2_calls w tx)
  have C2 := Aside0.mk (fun w => fits2_calls w id)
  rw [ft] at C1
  rw [fi] at C2
  have ss' : ¬ 65535 < (s.size : Int) := by omega
  subst vn
  obtain rfl : ns = [] := List.length_eq_zero_iff.mp nz
  simp only [List.length_nil] at *
  subst ht
  subst hv
  have hs2 : (!vs.toList.isEmpty) = true := by simpa using hs
  clear hC
  go_enter Try.func18, Try.ntmps18
  go_wp2_with (first | (go_at_call 23; (with_reducible refine (C1.out _).mono ?_); rintro e w1 ⟨rfl, ⟨nd, rfl⟩⟩) | (go_at_call 23; (with_reducible refine (C2.out _).mono ?_); rintro e w1 ⟨rfl, ⟨nd, rfl⟩⟩))
  go_ret
  exact ⟨congrArg (fun b => Ending.returned (.bool b)) E.out.symm, by repeat (first | exact Below.refl _ _ | apply below_alloc | apply pw_below_drewN | apply below_drew1)⟩
set_option maxRecDepth 100000 in
set_option maxHeartbeats 600000 in
theorem rr_20 (w : World) (k er tx id ti vt : Int) (A : Option Addr) (c : Nat) (ns : List Int) (vb : Bool) (tag vv : Int) (vs s : ByteArray) (r : Bool) (hC : (Kd.int .i64).C w A ns.length ns) (hl : ns.length ≤ 9000000) (HE : r = true) (k0 : ¬ k < 0) (k6 : ¬ 6 < k) (e0 : ¬ er < 0) (e6 : ¬ 65535 < er) (ft : fitsB tx = true) (fi : fitsB id = true) (ss : ¬ 65535 < s.size) (v0 : ¬ vt < 0) (v5 : ¬ 4 < vt) (vn : vt = 2) (nz : ns.length = 0) (ht : tag = 0) (hv : vv = 0) (hs : vs.toList = []) : Calls Try.prog 18 #[.agg #[.int .i64 k, .int .i64 er, .int .i64 tx, .int .i64 id, .int .u64 ti, .int .i64 vt, .slice A ns.length c, .bool vb, .int .i64 tag, .int .i64 vv, .string vs, .string s]] w fun e w' => e = .returned (.bool r) ∧ Below w.heap.size w w' := by
  have E := Aside0.mk HE
  clear HE
  have C1 := Aside0.mk (fun w => fits2_calls w tx)
  have C2 := Aside0.mk (fun w => fits2_calls w id)
  have C3 := Aside0.mk (fun w => dec_ref w tag vv)
  rw [ft] at C1
  rw [fi] at C2
  have ss' : ¬ 65535 < (s.size : Int) := by omega
  subst vn
  obtain rfl : ns = [] := List.length_eq_zero_iff.mp nz
  simp only [List.length_nil] at *
  subst ht
  subst hv
  have sz : ¬ 65535 < ((vs.size : Nat) : Int) := by have := isEmpty_nil hs; omega
  rw [show decB 0 0 = true from by decide] at C3
  clear hC
  go_enter Try.func18, Try.ntmps18
  go_wp2_with (first | (go_at_call 23; (with_reducible refine (C1.out _).mono ?_); rintro e w1 ⟨rfl, ⟨nd, rfl⟩⟩) | (go_at_call 23; (with_reducible refine (C2.out _).mono ?_); rintro e w1 ⟨rfl, ⟨nd, rfl⟩⟩) | (go_at_call 35; (with_reducible refine (C3.out _).mono ?_); rintro e w2 ⟨rfl, hb⟩; have hns : w2.cell? ⟨w.heap.size + 1, 1, none⟩ = some (.slice A 0 c) := pw_cell_below hb (by go_simp); have HB := Aside0.mk (show Below w.heap.size w w2 from below_step (by repeat (first | exact Below.refl _ _ | apply below_alloc | apply pw_below_drewN | apply below_drew1)) hb); clear hb))
  go_loopw [4] (fun v4 wr => v4 = .int .i64 0 ∧ Aside0 (Drawn0 w2 wr)) (fun _ _ => 0)
  case atStart => exact ⟨rfl, ⟨Drawn0.refl _⟩⟩
  case round =>
    obtain ⟨rfl, HD⟩ := hrel
    have hn2 : wr.cell? ⟨w.heap.size + 1, 1, none⟩ = some (.slice A 0 c) := by obtain ⟨nd2, e⟩ := HD.out; rw [e]; exact hns
    go_wp2
    go_ret
    exact ⟨congrArg (fun b => Ending.returned (.bool b)) E.out.symm, by obtain ⟨nd2, e⟩ := HD.out; rw [e]; exact pw_below_drewN HB.out nd2⟩
set_option maxRecDepth 100000 in
set_option maxHeartbeats 600000 in
theorem rr_21 (w : World) (k er tx id ti vt : Int) (A : Option Addr) (c : Nat) (ns : List Int) (vb : Bool) (tag vv : Int) (vs s : ByteArray) (r : Bool) (hC : (Kd.int .i64).C w A ns.length ns) (hl : ns.length ≤ 9000000) (HE : r = false) (k0 : ¬ k < 0) (k6 : ¬ 6 < k) (e0 : ¬ er < 0) (e6 : ¬ 65535 < er) (ft : fitsB tx = true) (fi : fitsB id = true) (ss : ¬ 65535 < s.size) (v0 : ¬ vt < 0) (v5 : ¬ 4 < vt) (vn : vt = 3) (np : 0 < ns.length) : Calls Try.prog 18 #[.agg #[.int .i64 k, .int .i64 er, .int .i64 tx, .int .i64 id, .int .u64 ti, .int .i64 vt, .slice A ns.length c, .bool vb, .int .i64 tag, .int .i64 vv, .string vs, .string s]] w fun e w' => e = .returned (.bool r) ∧ Below w.heap.size w w' := by
  have E := Aside0.mk HE
  clear HE
  have C1 := Aside0.mk (fun w => fits2_calls w tx)
  have C2 := Aside0.mk (fun w => fits2_calls w id)
  rw [ft] at C1
  rw [fi] at C2
  have ss' : ¬ 65535 < (s.size : Int) := by omega
  subst vn
  have n1 : 0 < (ns.length : Int) := by omega
  clear hC
  go_enter Try.func18, Try.ntmps18
  go_wp2_with (first | (go_at_call 23; (with_reducible refine (C1.out _).mono ?_); rintro e w1 ⟨rfl, ⟨nd, rfl⟩⟩) | (go_at_call 23; (with_reducible refine (C2.out _).mono ?_); rintro e w1 ⟨rfl, ⟨nd, rfl⟩⟩))
  go_ret
  exact ⟨congrArg (fun b => Ending.returned (.bool b)) E.out.symm, by repeat (first | exact Below.refl _ _ | apply below_alloc | apply pw_below_drewN | apply below_drew1)⟩
set_option maxRecDepth 100000 in
set_option maxHeartbeats 600000 in
theorem rr_22 (w : World) (k er tx id ti vt : Int) (A : Option Addr) (c : Nat) (ns : List Int) (vb : Bool) (tag vv : Int) (vs s : ByteArray) (r : Bool) (hC : (Kd.int .i64).C w A ns.length ns) (hl : ns.length ≤ 9000000) (HE : r = false) (k0 : ¬ k < 0) (k6 : ¬ 6 < k) (e0 : ¬ er < 0) (e6 : ¬ 65535 < er) (ft : fitsB tx = true) (fi : fitsB id = true) (ss : ¬ 65535 < s.size) (v0 : ¬ vt < 0) (v5 : ¬ 4 < vt) (vn : vt = 3) (nz : ns.length = 0) (hb : vb = true) : Calls Try.prog 18 #[.agg #[.int .i64 k, .int .i64 er, .int .i64 tx, .int .i64 id, .int .u64 ti, .int .i64 vt, .slice A ns.length c, .bool vb, .int .i64 tag, .int .i64 vv, .string vs, .string s]] w fun e w' => e = .returned (.bool r) ∧ Below w.heap.size w w' := by
  have E := Aside0.mk HE
  clear HE
  have C1 := Aside0.mk (fun w => fits2_calls w tx)
  have C2 := Aside0.mk (fun w => fits2_calls w id)
  rw [ft] at C1
  rw [fi] at C2
  have ss' : ¬ 65535 < (s.size : Int) := by omega
  subst vn
  obtain rfl : ns = [] := List.length_eq_zero_iff.mp nz
  simp only [List.length_nil] at *
  subst hb
  clear hC
  go_enter Try.func18, Try.ntmps18
  go_wp2_with (first | (go_at_call 23; (with_reducible refine (C1.out _).mono ?_); rintro e w1 ⟨rfl, ⟨nd, rfl⟩⟩) | (go_at_call 23; (with_reducible refine (C2.out _).mono ?_); rintro e w1 ⟨rfl, ⟨nd, rfl⟩⟩))
  go_ret
  exact ⟨congrArg (fun b => Ending.returned (.bool b)) E.out.symm, by repeat (first | exact Below.refl _ _ | apply below_alloc | apply pw_below_drewN | apply below_drew1)⟩
set_option maxRecDepth 100000 in
set_option maxHeartbeats 600000 in
theorem rr_23 (w : World) (k er tx id ti vt : Int) (A : Option Addr) (c : Nat) (ns : List Int) (vb : Bool) (tag vv : Int) (vs s : ByteArray) (r : Bool) (hC : (Kd.int .i64).C w A ns.length ns) (hl : ns.length ≤ 9000000) (HE : r = false) (k0 : ¬ k < 0) (k6 : ¬ 6 < k) (e0 : ¬ er < 0) (e6 : ¬ 65535 < er) (ft : fitsB tx = true) (fi : fitsB id = true) (ss : ¬ 65535 < s.size) (v0 : ¬ vt < 0) (v5 : ¬ 4 < vt) (vn : vt = 3) (nz : ns.length = 0) (hb : vb = false) (hs : ¬ vs.toList = []) : Calls Try.prog 18 #[.agg #[.int .i64 k, .int .i64 er, .int .i64 tx, .int .i64 id, .int .u64 ti, .int .i64 vt, .slice A ns.length c, .bool vb, .int .i64 tag, .int .i64 vv, .string vs, .string s]] w fun e w' => e = .returned (.bool r) ∧ Below w.heap.size w w' := by
  have E := Aside0.mk HE
  clear HE
  have C1 := Aside0.mk (fun w => fits2_calls w tx)
  have C2 := Aside0.mk (fun w => fits2_calls w id)
  rw [ft] at C1
  rw [fi] at C2
  have ss' : ¬ 65535 < (s.size : Int) := by omega
  subst vn
  obtain rfl : ns = [] := List.length_eq_zero_iff.mp nz
  simp only [List.length_nil] at *
  subst hb
  have hs2 : (!vs.toList.isEmpty) = true := by simpa using hs
  clear hC
  go_enter Try.func18, Try.ntmps18
  go_wp2_with (first | (go_at_call 23; (with_reducible refine (C1.out _).mono ?_); rintro e w1 ⟨rfl, ⟨nd, rfl⟩⟩) | (go_at_call 23; (with_reducible refine (C2.out _).mono ?_); rintro e w1 ⟨rfl, ⟨nd, rfl⟩⟩))
  go_ret
  exact ⟨congrArg (fun b => Ending.returned (.bool b)) E.out.symm, by repeat (first | exact Below.refl _ _ | apply below_alloc | apply pw_below_drewN | apply below_drew1)⟩
set_option maxRecDepth 100000 in
set_option maxHeartbeats 600000 in
theorem rr_24 (w : World) (k er tx id ti vt : Int) (A : Option Addr) (c : Nat) (ns : List Int) (vb : Bool) (tag vv : Int) (vs s : ByteArray) (r : Bool) (hC : (Kd.int .i64).C w A ns.length ns) (hl : ns.length ≤ 9000000) (HE : r = false) (k0 : ¬ k < 0) (k6 : ¬ 6 < k) (e0 : ¬ er < 0) (e6 : ¬ 65535 < er) (ft : fitsB tx = true) (fi : fitsB id = true) (ss : ¬ 65535 < s.size) (v0 : ¬ vt < 0) (v5 : ¬ 4 < vt) (vn : vt = 3) (nz : ns.length = 0) (hb : vb = false) (hs : vs.toList = []) (dd : decB tag vv = false) : Calls Try.prog 18 #[.agg #[.int .i64 k, .int .i64 er, .int .i64 tx, .int .i64 id, .int .u64 ti, .int .i64 vt, .slice A ns.length c, .bool vb, .int .i64 tag, .int .i64 vv, .string vs, .string s]] w fun e w' => e = .returned (.bool r) ∧ Below w.heap.size w w' := by
  have E := Aside0.mk HE
  clear HE
  have C1 := Aside0.mk (fun w => fits2_calls w tx)
  have C2 := Aside0.mk (fun w => fits2_calls w id)
  have C3 := Aside0.mk (fun w => dec_ref w tag vv)
  rw [ft] at C1
  rw [fi] at C2
  have ss' : ¬ 65535 < (s.size : Int) := by omega
  subst vn
  obtain rfl : ns = [] := List.length_eq_zero_iff.mp nz
  simp only [List.length_nil] at *
  subst hb
  have sz : ¬ 65535 < ((vs.size : Nat) : Int) := by have := isEmpty_nil hs; omega
  rw [show decB tag vv = false from dd] at C3
  clear hC
  go_enter Try.func18, Try.ntmps18
  go_wp2_with (first | (go_at_call 23; (with_reducible refine (C1.out _).mono ?_); rintro e w1 ⟨rfl, ⟨nd, rfl⟩⟩) | (go_at_call 23; (with_reducible refine (C2.out _).mono ?_); rintro e w1 ⟨rfl, ⟨nd, rfl⟩⟩) | (go_at_call 35; (with_reducible refine (C3.out _).mono ?_); rintro e w2 ⟨rfl, hb⟩; have hns : w2.cell? ⟨w.heap.size + 1, 1, none⟩ = some (.slice A 0 c) := pw_cell_below hb (by go_simp); have HB := Aside0.mk (show Below w.heap.size w w2 from below_step (by repeat (first | exact Below.refl _ _ | apply below_alloc | apply pw_below_drewN | apply below_drew1)) hb); clear hb))
  go_ret
  exact ⟨congrArg (fun b => Ending.returned (.bool b)) E.out.symm, HB.out⟩
set_option maxRecDepth 100000 in
set_option maxHeartbeats 600000 in
theorem rr_25 (w : World) (k er tx id ti vt : Int) (A : Option Addr) (c : Nat) (ns : List Int) (vb : Bool) (tag vv : Int) (vs s : ByteArray) (r : Bool) (hC : (Kd.int .i64).C w A ns.length ns) (hl : ns.length ≤ 9000000) (HE : r = true) (k0 : ¬ k < 0) (k6 : ¬ 6 < k) (e0 : ¬ er < 0) (e6 : ¬ 65535 < er) (ft : fitsB tx = true) (fi : fitsB id = true) (ss : ¬ 65535 < s.size) (v0 : ¬ vt < 0) (v5 : ¬ 4 < vt) (vn : vt = 3) (nz : ns.length = 0) (hb : vb = false) (hs : vs.toList = []) (dd : decB tag vv = true) : Calls Try.prog 18 #[.agg #[.int .i64 k, .int .i64 er, .int .i64 tx, .int .i64 id, .int .u64 ti, .int .i64 vt, .slice A ns.length c, .bool vb, .int .i64 tag, .int .i64 vv, .string vs, .string s]] w fun e w' => e = .returned (.bool r) ∧ Below w.heap.size w w' := by
  have E := Aside0.mk HE
  clear HE
  have C1 := Aside0.mk (fun w => fits2_calls w tx)
  have C2 := Aside0.mk (fun w => fits2_calls w id)
  have C3 := Aside0.mk (fun w => dec_ref w tag vv)
  rw [ft] at C1
  rw [fi] at C2
  have ss' : ¬ 65535 < (s.size : Int) := by omega
  subst vn
  obtain rfl : ns = [] := List.length_eq_zero_iff.mp nz
  simp only [List.length_nil] at *
  subst hb
  have sz : ¬ 65535 < ((vs.size : Nat) : Int) := by have := isEmpty_nil hs; omega
  rw [show decB tag vv = true from dd] at C3
  clear hC
  go_enter Try.func18, Try.ntmps18
  go_wp2_with (first | (go_at_call 23; (with_reducible refine (C1.out _).mono ?_); rintro e w1 ⟨rfl, ⟨nd, rfl⟩⟩) | (go_at_call 23; (with_reducible refine (C2.out _).mono ?_); rintro e w1 ⟨rfl, ⟨nd, rfl⟩⟩) | (go_at_call 35; (with_reducible refine (C3.out _).mono ?_); rintro e w2 ⟨rfl, hb⟩; have hns : w2.cell? ⟨w.heap.size + 1, 1, none⟩ = some (.slice A 0 c) := pw_cell_below hb (by go_simp); have HB := Aside0.mk (show Below w.heap.size w w2 from below_step (by repeat (first | exact Below.refl _ _ | apply below_alloc | apply pw_below_drewN | apply below_drew1)) hb); clear hb))
  go_loopw [4] (fun v4 wr => v4 = .int .i64 0 ∧ Aside0 (Drawn0 w2 wr)) (fun _ _ => 0)
  case atStart => exact ⟨rfl, ⟨Drawn0.refl _⟩⟩
  case round =>
    obtain ⟨rfl, HD⟩ := hrel
    have hn2 : wr.cell? ⟨w.heap.size + 1, 1, none⟩ = some (.slice A 0 c) := by obtain ⟨nd2, e⟩ := HD.out; rw [e]; exact hns
    go_wp2
    go_ret
    exact ⟨congrArg (fun b => Ending.returned (.bool b)) E.out.symm, by obtain ⟨nd2, e⟩ := HD.out; rw [e]; exact pw_below_drewN HB.out nd2⟩
set_option maxRecDepth 100000 in
set_option maxHeartbeats 600000 in
theorem rr_26 (w : World) (k er tx id ti vt : Int) (A : Option Addr) (c : Nat) (ns : List Int) (vb : Bool) (tag vv : Int) (vs s : ByteArray) (r : Bool) (hC : (Kd.int .i64).C w A ns.length ns) (hl : ns.length ≤ 9000000) (HE : r = false) (k0 : ¬ k < 0) (k6 : ¬ 6 < k) (e0 : ¬ er < 0) (e6 : ¬ 65535 < er) (ft : fitsB tx = true) (fi : fitsB id = true) (ss : ¬ 65535 < s.size) (v0 : ¬ vt < 0) (v5 : ¬ 4 < vt) (vn : vt = 4) (np : 0 < ns.length) : Calls Try.prog 18 #[.agg #[.int .i64 k, .int .i64 er, .int .i64 tx, .int .i64 id, .int .u64 ti, .int .i64 vt, .slice A ns.length c, .bool vb, .int .i64 tag, .int .i64 vv, .string vs, .string s]] w fun e w' => e = .returned (.bool r) ∧ Below w.heap.size w w' := by
  have E := Aside0.mk HE
  clear HE
  have C1 := Aside0.mk (fun w => fits2_calls w tx)
  have C2 := Aside0.mk (fun w => fits2_calls w id)
  rw [ft] at C1
  rw [fi] at C2
  have ss' : ¬ 65535 < (s.size : Int) := by omega
  subst vn
  have n1 : 0 < (ns.length : Int) := by omega
  clear hC
  go_enter Try.func18, Try.ntmps18
  go_wp2_with (first | (go_at_call 23; (with_reducible refine (C1.out _).mono ?_); rintro e w1 ⟨rfl, ⟨nd, rfl⟩⟩) | (go_at_call 23; (with_reducible refine (C2.out _).mono ?_); rintro e w1 ⟨rfl, ⟨nd, rfl⟩⟩))
  go_ret
  exact ⟨congrArg (fun b => Ending.returned (.bool b)) E.out.symm, by repeat (first | exact Below.refl _ _ | apply below_alloc | apply pw_below_drewN | apply below_drew1)⟩
set_option maxRecDepth 100000 in
set_option maxHeartbeats 600000 in
theorem rr_27 (w : World) (k er tx id ti vt : Int) (A : Option Addr) (c : Nat) (ns : List Int) (vb : Bool) (tag vv : Int) (vs s : ByteArray) (r : Bool) (hC : (Kd.int .i64).C w A ns.length ns) (hl : ns.length ≤ 9000000) (HE : r = false) (k0 : ¬ k < 0) (k6 : ¬ 6 < k) (e0 : ¬ er < 0) (e6 : ¬ 65535 < er) (ft : fitsB tx = true) (fi : fitsB id = true) (ss : ¬ 65535 < s.size) (v0 : ¬ vt < 0) (v5 : ¬ 4 < vt) (vn : vt = 4) (nz : ns.length = 0) (hb : vb = true) : Calls Try.prog 18 #[.agg #[.int .i64 k, .int .i64 er, .int .i64 tx, .int .i64 id, .int .u64 ti, .int .i64 vt, .slice A ns.length c, .bool vb, .int .i64 tag, .int .i64 vv, .string vs, .string s]] w fun e w' => e = .returned (.bool r) ∧ Below w.heap.size w w' := by
  have E := Aside0.mk HE
  clear HE
  have C1 := Aside0.mk (fun w => fits2_calls w tx)
  have C2 := Aside0.mk (fun w => fits2_calls w id)
  rw [ft] at C1
  rw [fi] at C2
  have ss' : ¬ 65535 < (s.size : Int) := by omega
  subst vn
  obtain rfl : ns = [] := List.length_eq_zero_iff.mp nz
  simp only [List.length_nil] at *
  subst hb
  clear hC
  go_enter Try.func18, Try.ntmps18
  go_wp2_with (first | (go_at_call 23; (with_reducible refine (C1.out _).mono ?_); rintro e w1 ⟨rfl, ⟨nd, rfl⟩⟩) | (go_at_call 23; (with_reducible refine (C2.out _).mono ?_); rintro e w1 ⟨rfl, ⟨nd, rfl⟩⟩))
  go_ret
  exact ⟨congrArg (fun b => Ending.returned (.bool b)) E.out.symm, by repeat (first | exact Below.refl _ _ | apply below_alloc | apply pw_below_drewN | apply below_drew1)⟩
set_option maxRecDepth 100000 in
set_option maxHeartbeats 600000 in
theorem rr_28 (w : World) (k er tx id ti vt : Int) (A : Option Addr) (c : Nat) (ns : List Int) (vb : Bool) (tag vv : Int) (vs s : ByteArray) (r : Bool) (hC : (Kd.int .i64).C w A ns.length ns) (hl : ns.length ≤ 9000000) (HE : r = false) (k0 : ¬ k < 0) (k6 : ¬ 6 < k) (e0 : ¬ er < 0) (e6 : ¬ 65535 < er) (ft : fitsB tx = true) (fi : fitsB id = true) (ss : ¬ 65535 < s.size) (v0 : ¬ vt < 0) (v5 : ¬ 4 < vt) (vn : vt = 4) (nz : ns.length = 0) (hb : vb = false) (ht : ¬ tag = 0) : Calls Try.prog 18 #[.agg #[.int .i64 k, .int .i64 er, .int .i64 tx, .int .i64 id, .int .u64 ti, .int .i64 vt, .slice A ns.length c, .bool vb, .int .i64 tag, .int .i64 vv, .string vs, .string s]] w fun e w' => e = .returned (.bool r) ∧ Below w.heap.size w w' := by
  have E := Aside0.mk HE
  clear HE
  have C1 := Aside0.mk (fun w => fits2_calls w tx)
  have C2 := Aside0.mk (fun w => fits2_calls w id)
  rw [ft] at C1
  rw [fi] at C2
  have ss' : ¬ 65535 < (s.size : Int) := by omega
  subst vn
  obtain rfl : ns = [] := List.length_eq_zero_iff.mp nz
  simp only [List.length_nil] at *
  subst hb
  have t0 : (tag != 0) = true := by simp [ht]
  clear hC
  go_enter Try.func18, Try.ntmps18
  go_wp2_with (first | (go_at_call 23; (with_reducible refine (C1.out _).mono ?_); rintro e w1 ⟨rfl, ⟨nd, rfl⟩⟩) | (go_at_call 23; (with_reducible refine (C2.out _).mono ?_); rintro e w1 ⟨rfl, ⟨nd, rfl⟩⟩))
  go_ret
  exact ⟨congrArg (fun b => Ending.returned (.bool b)) E.out.symm, by repeat (first | exact Below.refl _ _ | apply below_alloc | apply pw_below_drewN | apply below_drew1)⟩
set_option maxRecDepth 100000 in
set_option maxHeartbeats 600000 in
theorem rr_29 (w : World) (k er tx id ti vt : Int) (A : Option Addr) (c : Nat) (ns : List Int) (vb : Bool) (tag vv : Int) (vs s : ByteArray) (r : Bool) (hC : (Kd.int .i64).C w A ns.length ns) (hl : ns.length ≤ 9000000) (HE : r = false) (k0 : ¬ k < 0) (k6 : ¬ 6 < k) (e0 : ¬ er < 0) (e6 : ¬ 65535 < er) (ft : fitsB tx = true) (fi : fitsB id = true) (ss : ¬ 65535 < s.size) (v0 : ¬ vt < 0) (v5 : ¬ 4 < vt) (vn : vt = 4) (nz : ns.length = 0) (hb : vb = false) (ht : tag = 0) (hv : ¬ vv = 0) : Calls Try.prog 18 #[.agg #[.int .i64 k, .int .i64 er, .int .i64 tx, .int .i64 id, .int .u64 ti, .int .i64 vt, .slice A ns.length c, .bool vb, .int .i64 tag, .int .i64 vv, .string vs, .string s]] w fun e w' => e = .returned (.bool r) ∧ Below w.heap.size w w' := by
  have E := Aside0.mk HE
  clear HE
  have C1 := Aside0.mk (fun w => fits2_calls w tx)
  have C2 := Aside0.mk (fun w => fits2_calls w id)
  rw [ft] at C1
  rw [fi] at C2
  have ss' : ¬ 65535 < (s.size : Int) := by omega
  subst vn
  obtain rfl : ns = [] := List.length_eq_zero_iff.mp nz
  simp only [List.length_nil] at *
  subst hb
  subst ht
  have vv0 : (vv != 0) = true := by simp [hv]
  clear hC
  go_enter Try.func18, Try.ntmps18
  go_wp2_with (first | (go_at_call 23; (with_reducible refine (C1.out _).mono ?_); rintro e w1 ⟨rfl, ⟨nd, rfl⟩⟩) | (go_at_call 23; (with_reducible refine (C2.out _).mono ?_); rintro e w1 ⟨rfl, ⟨nd, rfl⟩⟩))
  go_ret
  exact ⟨congrArg (fun b => Ending.returned (.bool b)) E.out.symm, by repeat (first | exact Below.refl _ _ | apply below_alloc | apply pw_below_drewN | apply below_drew1)⟩
set_option maxRecDepth 100000 in
set_option maxHeartbeats 600000 in
theorem rr_30 (w : World) (k er tx id ti vt : Int) (A : Option Addr) (c : Nat) (ns : List Int) (vb : Bool) (tag vv : Int) (vs s : ByteArray) (r : Bool) (hC : (Kd.int .i64).C w A ns.length ns) (hl : ns.length ≤ 9000000) (HE : r = false) (k0 : ¬ k < 0) (k6 : ¬ 6 < k) (e0 : ¬ er < 0) (e6 : ¬ 65535 < er) (ft : fitsB tx = true) (fi : fitsB id = true) (ss : ¬ 65535 < s.size) (v0 : ¬ vt < 0) (v5 : ¬ 4 < vt) (vn : vt = 4) (nz : ns.length = 0) (hb : vb = false) (ht : tag = 0) (hv : vv = 0) (sl : 65535 < vs.size) : Calls Try.prog 18 #[.agg #[.int .i64 k, .int .i64 er, .int .i64 tx, .int .i64 id, .int .u64 ti, .int .i64 vt, .slice A ns.length c, .bool vb, .int .i64 tag, .int .i64 vv, .string vs, .string s]] w fun e w' => e = .returned (.bool r) ∧ Below w.heap.size w w' := by
  have E := Aside0.mk HE
  clear HE
  have C1 := Aside0.mk (fun w => fits2_calls w tx)
  have C2 := Aside0.mk (fun w => fits2_calls w id)
  rw [ft] at C1
  rw [fi] at C2
  have ss' : ¬ 65535 < (s.size : Int) := by omega
  subst vn
  obtain rfl : ns = [] := List.length_eq_zero_iff.mp nz
  simp only [List.length_nil] at *
  subst hb
  subst ht
  subst hv
  have sl' : 65535 < (vs.size : Int) := by omega
  clear hC
  go_enter Try.func18, Try.ntmps18
  go_wp2_with (first | (go_at_call 23; (with_reducible refine (C1.out _).mono ?_); rintro e w1 ⟨rfl, ⟨nd, rfl⟩⟩) | (go_at_call 23; (with_reducible refine (C2.out _).mono ?_); rintro e w1 ⟨rfl, ⟨nd, rfl⟩⟩))
  go_ret
  exact ⟨congrArg (fun b => Ending.returned (.bool b)) E.out.symm, by repeat (first | exact Below.refl _ _ | apply below_alloc | apply pw_below_drewN | apply below_drew1)⟩
set_option maxRecDepth 100000 in
set_option maxHeartbeats 600000 in
theorem rr_31 (w : World) (k er tx id ti vt : Int) (A : Option Addr) (c : Nat) (ns : List Int) (vb : Bool) (tag vv : Int) (vs s : ByteArray) (r : Bool) (hC : (Kd.int .i64).C w A ns.length ns) (hl : ns.length ≤ 9000000) (HE : r = true) (k0 : ¬ k < 0) (k6 : ¬ 6 < k) (e0 : ¬ er < 0) (e6 : ¬ 65535 < er) (ft : fitsB tx = true) (fi : fitsB id = true) (ss : ¬ 65535 < s.size) (v0 : ¬ vt < 0) (v5 : ¬ 4 < vt) (vn : vt = 4) (nz : ns.length = 0) (hb : vb = false) (ht : tag = 0) (hv : vv = 0) (sl : ¬ 65535 < vs.size) : Calls Try.prog 18 #[.agg #[.int .i64 k, .int .i64 er, .int .i64 tx, .int .i64 id, .int .u64 ti, .int .i64 vt, .slice A ns.length c, .bool vb, .int .i64 tag, .int .i64 vv, .string vs, .string s]] w fun e w' => e = .returned (.bool r) ∧ Below w.heap.size w w' := by
  have E := Aside0.mk HE
  clear HE
  have C1 := Aside0.mk (fun w => fits2_calls w tx)
  have C2 := Aside0.mk (fun w => fits2_calls w id)
  have C3 := Aside0.mk (fun w => dec_ref w tag vv)
  rw [ft] at C1
  rw [fi] at C2
  have ss' : ¬ 65535 < (s.size : Int) := by omega
  subst vn
  obtain rfl : ns = [] := List.length_eq_zero_iff.mp nz
  simp only [List.length_nil] at *
  subst hb
  subst ht
  subst hv
  have sl' : ¬ 65535 < (vs.size : Int) := by omega
  rw [show decB 0 0 = true from by decide] at C3
  clear hC
  go_enter Try.func18, Try.ntmps18
  go_wp2_with (first | (go_at_call 23; (with_reducible refine (C1.out _).mono ?_); rintro e w1 ⟨rfl, ⟨nd, rfl⟩⟩) | (go_at_call 23; (with_reducible refine (C2.out _).mono ?_); rintro e w1 ⟨rfl, ⟨nd, rfl⟩⟩) | (go_at_call 35; (with_reducible refine (C3.out _).mono ?_); rintro e w2 ⟨rfl, hb⟩; have hns : w2.cell? ⟨w.heap.size + 1, 1, none⟩ = some (.slice A 0 c) := pw_cell_below hb (by go_simp); have HB := Aside0.mk (show Below w.heap.size w w2 from below_step (by repeat (first | exact Below.refl _ _ | apply below_alloc | apply pw_below_drewN | apply below_drew1)) hb); clear hb))
  go_loopw [4] (fun v4 wr => v4 = .int .i64 0 ∧ Aside0 (Drawn0 w2 wr)) (fun _ _ => 0)
  case atStart => exact ⟨rfl, ⟨Drawn0.refl _⟩⟩
  case round =>
    obtain ⟨rfl, HD⟩ := hrel
    have hn2 : wr.cell? ⟨w.heap.size + 1, 1, none⟩ = some (.slice A 0 c) := by obtain ⟨nd2, e⟩ := HD.out; rw [e]; exact hns
    go_wp2
    go_ret
    exact ⟨congrArg (fun b => Ending.returned (.bool b)) E.out.symm, by obtain ⟨nd2, e⟩ := HD.out; rw [e]; exact pw_below_drewN HB.out nd2⟩
set_option maxRecDepth 100000 in
set_option maxHeartbeats 600000 in
theorem rr_32 (w : World) (k er tx id ti vt : Int) (A : Option Addr) (c : Nat) (ns : List Int) (vb : Bool) (tag vv : Int) (vs s : ByteArray) (r : Bool) (hC : (Kd.int .i64).C w A ns.length ns) (hl : ns.length ≤ 9000000) (HE : r = false) (k0 : ¬ k < 0) (k6 : ¬ 6 < k) (e0 : ¬ er < 0) (e6 : ¬ 65535 < er) (ft : fitsB tx = true) (fi : fitsB id = true) (ss : ¬ 65535 < s.size) (v0 : ¬ vt < 0) (v5 : ¬ 4 < vt) (vn : vt = 0) (np : 0 < ns.length) : Calls Try.prog 18 #[.agg #[.int .i64 k, .int .i64 er, .int .i64 tx, .int .i64 id, .int .u64 ti, .int .i64 vt, .slice A ns.length c, .bool vb, .int .i64 tag, .int .i64 vv, .string vs, .string s]] w fun e w' => e = .returned (.bool r) ∧ Below w.heap.size w w' := by
  have E := Aside0.mk HE
  clear HE
  have C1 := Aside0.mk (fun w => fits2_calls w tx)
  have C2 := Aside0.mk (fun w => fits2_calls w id)
  rw [ft] at C1
  rw [fi] at C2
  have ss' : ¬ 65535 < (s.size : Int) := by omega
  subst vn
  have n1 : 0 < (ns.length : Int) := by omega
  clear hC
  go_enter Try.func18, Try.ntmps18
  go_wp2_with (first | (go_at_call 23; (with_reducible refine (C1.out _).mono ?_); rintro e w1 ⟨rfl, ⟨nd, rfl⟩⟩) | (go_at_call 23; (with_reducible refine (C2.out _).mono ?_); rintro e w1 ⟨rfl, ⟨nd, rfl⟩⟩))
  go_ret
  exact ⟨congrArg (fun b => Ending.returned (.bool b)) E.out.symm, by repeat (first | exact Below.refl _ _ | apply below_alloc | apply pw_below_drewN | apply below_drew1)⟩
set_option maxRecDepth 100000 in
set_option maxHeartbeats 600000 in
theorem rr_33 (w : World) (k er tx id ti vt : Int) (A : Option Addr) (c : Nat) (ns : List Int) (vb : Bool) (tag vv : Int) (vs s : ByteArray) (r : Bool) (hC : (Kd.int .i64).C w A ns.length ns) (hl : ns.length ≤ 9000000) (HE : r = false) (k0 : ¬ k < 0) (k6 : ¬ 6 < k) (e0 : ¬ er < 0) (e6 : ¬ 65535 < er) (ft : fitsB tx = true) (fi : fitsB id = true) (ss : ¬ 65535 < s.size) (v0 : ¬ vt < 0) (v5 : ¬ 4 < vt) (vn : vt = 0) (nz : ns.length = 0) (hb : vb = true) : Calls Try.prog 18 #[.agg #[.int .i64 k, .int .i64 er, .int .i64 tx, .int .i64 id, .int .u64 ti, .int .i64 vt, .slice A ns.length c, .bool vb, .int .i64 tag, .int .i64 vv, .string vs, .string s]] w fun e w' => e = .returned (.bool r) ∧ Below w.heap.size w w' := by
  have E := Aside0.mk HE
  clear HE
  have C1 := Aside0.mk (fun w => fits2_calls w tx)
  have C2 := Aside0.mk (fun w => fits2_calls w id)
  rw [ft] at C1
  rw [fi] at C2
  have ss' : ¬ 65535 < (s.size : Int) := by omega
  subst vn
  obtain rfl : ns = [] := List.length_eq_zero_iff.mp nz
  simp only [List.length_nil] at *
  subst hb
  clear hC
  go_enter Try.func18, Try.ntmps18
  go_wp2_with (first | (go_at_call 23; (with_reducible refine (C1.out _).mono ?_); rintro e w1 ⟨rfl, ⟨nd, rfl⟩⟩) | (go_at_call 23; (with_reducible refine (C2.out _).mono ?_); rintro e w1 ⟨rfl, ⟨nd, rfl⟩⟩))
  go_ret
  exact ⟨congrArg (fun b => Ending.returned (.bool b)) E.out.symm, by repeat (first | exact Below.refl _ _ | apply below_alloc | apply pw_below_drewN | apply below_drew1)⟩
set_option maxRecDepth 100000 in
set_option maxHeartbeats 600000 in
theorem rr_34 (w : World) (k er tx id ti vt : Int) (A : Option Addr) (c : Nat) (ns : List Int) (vb : Bool) (tag vv : Int) (vs s : ByteArray) (r : Bool) (hC : (Kd.int .i64).C w A ns.length ns) (hl : ns.length ≤ 9000000) (HE : r = false) (k0 : ¬ k < 0) (k6 : ¬ 6 < k) (e0 : ¬ er < 0) (e6 : ¬ 65535 < er) (ft : fitsB tx = true) (fi : fitsB id = true) (ss : ¬ 65535 < s.size) (v0 : ¬ vt < 0) (v5 : ¬ 4 < vt) (vn : vt = 0) (nz : ns.length = 0) (hb : vb = false) (ht : ¬ tag = 0) : Calls Try.prog 18 #[.agg #[.int .i64 k, .int .i64 er, .int .i64 tx, .int .i64 id, .int .u64 ti, .int .i64 vt, .slice A ns.length c, .bool vb, .int .i64 tag, .int .i64 vv, .string vs, .string s]] w fun e w' => e = .returned (.bool r) ∧ Below w.heap.size w w' := by
  have E := Aside0.mk HE
  clear HE
  have C1 := Aside0.mk (fun w => fits2_calls w tx)
  have C2 := Aside0.mk (fun w => fits2_calls w id)
  rw [ft] at C1
  rw [fi] at C2
  have ss' : ¬ 65535 < (s.size : Int) := by omega
  subst vn
  obtain rfl : ns = [] := List.length_eq_zero_iff.mp nz
  simp only [List.length_nil] at *
  subst hb
  have t0 : (tag != 0) = true := by simp [ht]
  clear hC
  go_enter Try.func18, Try.ntmps18
  go_wp2_with (first | (go_at_call 23; (with_reducible refine (C1.out _).mono ?_); rintro e w1 ⟨rfl, ⟨nd, rfl⟩⟩) | (go_at_call 23; (with_reducible refine (C2.out _).mono ?_); rintro e w1 ⟨rfl, ⟨nd, rfl⟩⟩))
  go_ret
  exact ⟨congrArg (fun b => Ending.returned (.bool b)) E.out.symm, by repeat (first | exact Below.refl _ _ | apply below_alloc | apply pw_below_drewN | apply below_drew1)⟩
set_option maxRecDepth 100000 in
set_option maxHeartbeats 600000 in
theorem rr_35 (w : World) (k er tx id ti vt : Int) (A : Option Addr) (c : Nat) (ns : List Int) (vb : Bool) (tag vv : Int) (vs s : ByteArray) (r : Bool) (hC : (Kd.int .i64).C w A ns.length ns) (hl : ns.length ≤ 9000000) (HE : r = false) (k0 : ¬ k < 0) (k6 : ¬ 6 < k) (e0 : ¬ er < 0) (e6 : ¬ 65535 < er) (ft : fitsB tx = true) (fi : fitsB id = true) (ss : ¬ 65535 < s.size) (v0 : ¬ vt < 0) (v5 : ¬ 4 < vt) (vn : vt = 0) (nz : ns.length = 0) (hb : vb = false) (ht : tag = 0) (hv : ¬ vv = 0) : Calls Try.prog 18 #[.agg #[.int .i64 k, .int .i64 er, .int .i64 tx, .int .i64 id, .int .u64 ti, .int .i64 vt, .slice A ns.length c, .bool vb, .int .i64 tag, .int .i64 vv, .string vs, .string s]] w fun e w' => e = .returned (.bool r) ∧ Below w.heap.size w w' := by
  have E := Aside0.mk HE
  clear HE
  have C1 := Aside0.mk (fun w => fits2_calls w tx)
  have C2 := Aside0.mk (fun w => fits2_calls w id)
  rw [ft] at C1
  rw [fi] at C2
  have ss' : ¬ 65535 < (s.size : Int) := by omega
  subst vn
  obtain rfl : ns = [] := List.length_eq_zero_iff.mp nz
  simp only [List.length_nil] at *
  subst hb
  subst ht
  have vv0 : (vv != 0) = true := by simp [hv]
  clear hC
  go_enter Try.func18, Try.ntmps18
  go_wp2_with (first | (go_at_call 23; (with_reducible refine (C1.out _).mono ?_); rintro e w1 ⟨rfl, ⟨nd, rfl⟩⟩) | (go_at_call 23; (with_reducible refine (C2.out _).mono ?_); rintro e w1 ⟨rfl, ⟨nd, rfl⟩⟩))
  go_ret
  exact ⟨congrArg (fun b => Ending.returned (.bool b)) E.out.symm, by repeat (first | exact Below.refl _ _ | apply below_alloc | apply pw_below_drewN | apply below_drew1)⟩
set_option maxRecDepth 100000 in
set_option maxHeartbeats 600000 in
theorem rr_36 (w : World) (k er tx id ti vt : Int) (A : Option Addr) (c : Nat) (ns : List Int) (vb : Bool) (tag vv : Int) (vs s : ByteArray) (r : Bool) (hC : (Kd.int .i64).C w A ns.length ns) (hl : ns.length ≤ 9000000) (HE : r = false) (k0 : ¬ k < 0) (k6 : ¬ 6 < k) (e0 : ¬ er < 0) (e6 : ¬ 65535 < er) (ft : fitsB tx = true) (fi : fitsB id = true) (ss : ¬ 65535 < s.size) (v0 : ¬ vt < 0) (v5 : ¬ 4 < vt) (vn : vt = 0) (nz : ns.length = 0) (hb : vb = false) (ht : tag = 0) (hv : vv = 0) (hs : ¬ vs.toList = []) : Calls Try.prog 18 #[.agg #[.int .i64 k, .int .i64 er, .int .i64 tx, .int .i64 id, .int .u64 ti, .int .i64 vt, .slice A ns.length c, .bool vb, .int .i64 tag, .int .i64 vv, .string vs, .string s]] w fun e w' => e = .returned (.bool r) ∧ Below w.heap.size w w' := by
  have E := Aside0.mk HE
  clear HE
  have C1 := Aside0.mk (fun w => fits2_calls w tx)
  have C2 := Aside0.mk (fun w => fits2_calls w id)
  rw [ft] at C1
  rw [fi] at C2
  have ss' : ¬ 65535 < (s.size : Int) := by omega
  subst vn
  obtain rfl : ns = [] := List.length_eq_zero_iff.mp nz
  simp only [List.length_nil] at *
  subst hb
  subst ht
  subst hv
  have hs2 : (!vs.toList.isEmpty) = true := by simpa using hs
  clear hC
  go_enter Try.func18, Try.ntmps18
  go_wp2_with (first | (go_at_call 23; (with_reducible refine (C1.out _).mono ?_); rintro e w1 ⟨rfl, ⟨nd, rfl⟩⟩) | (go_at_call 23; (with_reducible refine (C2.out _).mono ?_); rintro e w1 ⟨rfl, ⟨nd, rfl⟩⟩))
  go_ret
  exact ⟨congrArg (fun b => Ending.returned (.bool b)) E.out.symm, by repeat (first | exact Below.refl _ _ | apply below_alloc | apply pw_below_drewN | apply below_drew1)⟩
set_option maxRecDepth 100000 in
set_option maxHeartbeats 600000 in
theorem rr_37 (w : World) (k er tx id ti vt : Int) (A : Option Addr) (c : Nat) (ns : List Int) (vb : Bool) (tag vv : Int) (vs s : ByteArray) (r : Bool) (hC : (Kd.int .i64).C w A ns.length ns) (hl : ns.length ≤ 9000000) (HE : r = true) (k0 : ¬ k < 0) (k6 : ¬ 6 < k) (e0 : ¬ er < 0) (e6 : ¬ 65535 < er) (ft : fitsB tx = true) (fi : fitsB id = true) (ss : ¬ 65535 < s.size) (v0 : ¬ vt < 0) (v5 : ¬ 4 < vt) (vn : vt = 0) (nz : ns.length = 0) (hb : vb = false) (ht : tag = 0) (hv : vv = 0) (hs : vs.toList = []) : Calls Try.prog 18 #[.agg #[.int .i64 k, .int .i64 er, .int .i64 tx, .int .i64 id, .int .u64 ti, .int .i64 vt, .slice A ns.length c, .bool vb, .int .i64 tag, .int .i64 vv, .string vs, .string s]] w fun e w' => e = .returned (.bool r) ∧ Below w.heap.size w w' := by
  have E := Aside0.mk HE
  clear HE
  have C1 := Aside0.mk (fun w => fits2_calls w tx)
  have C2 := Aside0.mk (fun w => fits2_calls w id)
  have C3 := Aside0.mk (fun w => dec_ref w tag vv)
  rw [ft] at C1
  rw [fi] at C2
  have ss' : ¬ 65535 < (s.size : Int) := by omega
  subst vn
  obtain rfl : ns = [] := List.length_eq_zero_iff.mp nz
  simp only [List.length_nil] at *
  subst hb
  subst ht
  subst hv
  have sz : ¬ 65535 < ((vs.size : Nat) : Int) := by have := isEmpty_nil hs; omega
  rw [show decB 0 0 = true from by decide] at C3
  clear hC
  go_enter Try.func18, Try.ntmps18
  go_wp2_with (first | (go_at_call 23; (with_reducible refine (C1.out _).mono ?_); rintro e w1 ⟨rfl, ⟨nd, rfl⟩⟩) | (go_at_call 23; (with_reducible refine (C2.out _).mono ?_); rintro e w1 ⟨rfl, ⟨nd, rfl⟩⟩) | (go_at_call 35; (with_reducible refine (C3.out _).mono ?_); rintro e w2 ⟨rfl, hb⟩; have hns : w2.cell? ⟨w.heap.size + 1, 1, none⟩ = some (.slice A 0 c) := pw_cell_below hb (by go_simp); have HB := Aside0.mk (show Below w.heap.size w w2 from below_step (by repeat (first | exact Below.refl _ _ | apply below_alloc | apply pw_below_drewN | apply below_drew1)) hb); clear hb))
  go_loopw [4] (fun v4 wr => v4 = .int .i64 0 ∧ Aside0 (Drawn0 w2 wr)) (fun _ _ => 0)
  case atStart => exact ⟨rfl, ⟨Drawn0.refl _⟩⟩
  case round =>
    obtain ⟨rfl, HD⟩ := hrel
    have hn2 : wr.cell? ⟨w.heap.size + 1, 1, none⟩ = some (.slice A 0 c) := by obtain ⟨nd2, e⟩ := HD.out; rw [e]; exact hns
    go_wp2
    go_ret
    exact ⟨congrArg (fun b => Ending.returned (.bool b)) E.out.symm, by obtain ⟨nd2, e⟩ := HD.out; rw [e]; exact pw_below_drewN HB.out nd2⟩
theorem rep_refR (w : World) (q : Rp) (A : Option Addr) (c : Nat) (hC : (Kd.int .i64).C w A q.nodes.length q.nodes) (hl : q.nodes.length ≤ 9000000) : Calls Try.prog 18 #[.agg (q.cells (.slice A q.nodes.length c))] w fun e w' => e = .returned (.bool (rightRepB q)) ∧ Below w.heap.size w w' := by
  obtain ⟨k, er, tx, id, ti, vt, ns, vb, tag, vv, vs, s⟩ := q
  simp only [Rp.cells] at *
  have hde : decB 0 0 = true := by decide
  have hbe : badB [] = false := rfl
  by_cases k0 : k < 0
  case pos => exact rr_1 w k er tx id ti vt A c ns vb tag vv vs s _ hC hl (by simp [rightRepB, valB, valueB, *] <;> omega) k0
  by_cases k6 : 6 < k
  case pos => exact rr_2 w k er tx id ti vt A c ns vb tag vv vs s _ hC hl (by simp [rightRepB, valB, valueB, *] <;> omega) k0 k6
  by_cases e0 : er < 0
  case pos => exact rr_3 w k er tx id ti vt A c ns vb tag vv vs s _ hC hl (by simp [rightRepB, valB, valueB, *] <;> omega) k0 k6 e0
  by_cases e6 : 65535 < er
  case pos => exact rr_4 w k er tx id ti vt A c ns vb tag vv vs s _ hC hl (by simp [rightRepB, valB, valueB, *] <;> omega) k0 k6 e0 e6
  by_cases ft : fitsB tx = false
  case pos => exact rr_5 w k er tx id ti vt A c ns vb tag vv vs s _ hC hl (by simp [rightRepB, valB, valueB, *] <;> omega) k0 k6 e0 e6 ft
  have ft := eq_true_of_ne_false ft
  by_cases fi : fitsB id = false
  case pos => exact rr_6 w k er tx id ti vt A c ns vb tag vv vs s _ hC hl (by simp [rightRepB, valB, valueB, *] <;> omega) k0 k6 e0 e6 ft fi
  have fi := eq_true_of_ne_false fi
  by_cases ss : 65535 < s.size
  case pos => exact rr_7 w k er tx id ti vt A c ns vb tag vv vs s _ hC hl (by simp [rightRepB, valB, valueB, *] <;> omega) k0 k6 e0 e6 ft fi ss
  by_cases v0 : vt < 0
  case pos => exact rr_8 w k er tx id ti vt A c ns vb tag vv vs s _ hC hl (by simp [rightRepB, valB, valueB, *] <;> omega) k0 k6 e0 e6 ft fi ss v0
  by_cases v5 : 4 < vt
  case pos => exact rr_9 w k er tx id ti vt A c ns vb tag vv vs s _ hC hl (by simp [rightRepB, valB, valueB, *] <;> omega) k0 k6 e0 e6 ft fi ss v0 v5
  by_cases vn : vt = 1
  · skip
    by_cases hb : vb = true
    case pos => exact rr_10 w k er tx id ti vt A c ns vb tag vv vs s _ hC hl (by simp [rightRepB, valB, valueB, *] <;> omega) k0 k6 e0 e6 ft fi ss v0 v5 vn hb
    have hb := eq_false_of_ne_true hb
    by_cases ht : tag = 0
    case neg => exact rr_11 w k er tx id ti vt A c ns vb tag vv vs s _ hC hl (by simp [rightRepB, valB, valueB, *] <;> omega) k0 k6 e0 e6 ft fi ss v0 v5 vn hb ht
    by_cases hv : vv = 0
    case neg => exact rr_12 w k er tx id ti vt A c ns vb tag vv vs s _ hC hl (by simp [rightRepB, valB, valueB, *] <;> omega) k0 k6 e0 e6 ft fi ss v0 v5 vn hb ht hv
    by_cases hs : vs.size = 0
    case neg => exact rr_13 w k er tx id ti vt A c ns vb tag vv vs s _ hC hl (by simp [rightRepB, valB, valueB, *] <;> omega) k0 k6 e0 e6 ft fi ss v0 v5 vn hb ht hv (size_ne vs hs)
    by_cases nm : 1000 < ns.length
    case pos => exact rr_14 w k er tx id ti vt A c ns vb tag vv vs s _ hC hl (by simp [rightRepB, valB, valueB, *] <;> omega) k0 k6 e0 e6 ft fi ss v0 v5 vn hb ht hv (size_nil vs hs) nm
    exact rr_15 w k er tx id ti vt A c ns vb tag vv vs s _ hC hl (by simp [rightRepB, valB, valueB, *] <;> omega) k0 k6 e0 e6 ft fi ss v0 v5 vn hb ht hv (size_nil vs hs) nm 
  by_cases vn : vt = 2
  · skip
    by_cases np : 0 < ns.length
    case pos => exact rr_16 w k er tx id ti vt A c ns vb tag vv vs s _ hC hl (by simp [rightRepB, valB, valueB, *] <;> omega) k0 k6 e0 e6 ft fi ss v0 v5 vn np
    have nz : ns.length = 0 := by omega
    have hnb : badB ns = false := by rw [List.length_eq_zero_iff.mp nz]; rfl
    by_cases ht : tag = 0
    case neg => exact rr_17 w k er tx id ti vt A c ns vb tag vv vs s _ hC hl (by simp [rightRepB, valB, valueB, *] <;> omega) k0 k6 e0 e6 ft fi ss v0 v5 vn nz ht
    by_cases hv : vv = 0
    case neg => exact rr_18 w k er tx id ti vt A c ns vb tag vv vs s _ hC hl (by simp [rightRepB, valB, valueB, *] <;> omega) k0 k6 e0 e6 ft fi ss v0 v5 vn nz ht hv
    by_cases hs : vs.size = 0
    case neg => exact rr_19 w k er tx id ti vt A c ns vb tag vv vs s _ hC hl (by simp [rightRepB, valB, valueB, *] <;> omega) k0 k6 e0 e6 ft fi ss v0 v5 vn nz ht hv (size_ne vs hs)
    exact rr_20 w k er tx id ti vt A c ns vb tag vv vs s _ hC hl (by simp [rightRepB, valB, valueB, *] <;> omega) k0 k6 e0 e6 ft fi ss v0 v5 vn nz ht hv (size_nil vs hs) 
  by_cases vn : vt = 3
  · skip
    by_cases np : 0 < ns.length
    case pos => exact rr_21 w k er tx id ti vt A c ns vb tag vv vs s _ hC hl (by simp [rightRepB, valB, valueB, *] <;> omega) k0 k6 e0 e6 ft fi ss v0 v5 vn np
    have nz : ns.length = 0 := by omega
    have hnb : badB ns = false := by rw [List.length_eq_zero_iff.mp nz]; rfl
    by_cases hb : vb = true
    case pos => exact rr_22 w k er tx id ti vt A c ns vb tag vv vs s _ hC hl (by simp [rightRepB, valB, valueB, *] <;> omega) k0 k6 e0 e6 ft fi ss v0 v5 vn nz hb
    have hb := eq_false_of_ne_true hb
    by_cases hs : vs.size = 0
    case neg => exact rr_23 w k er tx id ti vt A c ns vb tag vv vs s _ hC hl (by simp [rightRepB, valB, valueB, *] <;> omega) k0 k6 e0 e6 ft fi ss v0 v5 vn nz hb (size_ne vs hs)
    by_cases dd : decB tag vv = false
    case pos => exact rr_24 w k er tx id ti vt A c ns vb tag vv vs s _ hC hl (by simp [rightRepB, valB, valueB, *] <;> omega) k0 k6 e0 e6 ft fi ss v0 v5 vn nz hb (size_nil vs hs) dd
    have dd := eq_true_of_ne_false dd
    exact rr_25 w k er tx id ti vt A c ns vb tag vv vs s _ hC hl (by simp [rightRepB, valB, valueB, *] <;> omega) k0 k6 e0 e6 ft fi ss v0 v5 vn nz hb (size_nil vs hs) dd 
  by_cases vn : vt = 4
  · skip
    by_cases np : 0 < ns.length
    case pos => exact rr_26 w k er tx id ti vt A c ns vb tag vv vs s _ hC hl (by simp [rightRepB, valB, valueB, *] <;> omega) k0 k6 e0 e6 ft fi ss v0 v5 vn np
    have nz : ns.length = 0 := by omega
    have hnb : badB ns = false := by rw [List.length_eq_zero_iff.mp nz]; rfl
    by_cases hb : vb = true
    case pos => exact rr_27 w k er tx id ti vt A c ns vb tag vv vs s _ hC hl (by simp [rightRepB, valB, valueB, *] <;> omega) k0 k6 e0 e6 ft fi ss v0 v5 vn nz hb
    have hb := eq_false_of_ne_true hb
    by_cases ht : tag = 0
    case neg => exact rr_28 w k er tx id ti vt A c ns vb tag vv vs s _ hC hl (by simp [rightRepB, valB, valueB, *] <;> omega) k0 k6 e0 e6 ft fi ss v0 v5 vn nz hb ht
    by_cases hv : vv = 0
    case neg => exact rr_29 w k er tx id ti vt A c ns vb tag vv vs s _ hC hl (by simp [rightRepB, valB, valueB, *] <;> omega) k0 k6 e0 e6 ft fi ss v0 v5 vn nz hb ht hv
    by_cases sl : 65535 < vs.size
    case pos => exact rr_30 w k er tx id ti vt A c ns vb tag vv vs s _ hC hl (by simp [rightRepB, valB, valueB, *] <;> omega) k0 k6 e0 e6 ft fi ss v0 v5 vn nz hb ht hv sl
    exact rr_31 w k er tx id ti vt A c ns vb tag vv vs s _ hC hl (by simp [rightRepB, valB, valueB, *] <;> omega) k0 k6 e0 e6 ft fi ss v0 v5 vn nz hb ht hv sl 
  · have vn : vt = 0 := by omega
    by_cases np : 0 < ns.length
    case pos => exact rr_32 w k er tx id ti vt A c ns vb tag vv vs s _ hC hl (by simp [rightRepB, valB, valueB, *] <;> omega) k0 k6 e0 e6 ft fi ss v0 v5 vn np
    have nz : ns.length = 0 := by omega
    have hnb : badB ns = false := by rw [List.length_eq_zero_iff.mp nz]; rfl
    by_cases hb : vb = true
    case pos => exact rr_33 w k er tx id ti vt A c ns vb tag vv vs s _ hC hl (by simp [rightRepB, valB, valueB, *] <;> omega) k0 k6 e0 e6 ft fi ss v0 v5 vn nz hb
    have hb := eq_false_of_ne_true hb
    by_cases ht : tag = 0
    case neg => exact rr_34 w k er tx id ti vt A c ns vb tag vv vs s _ hC hl (by simp [rightRepB, valB, valueB, *] <;> omega) k0 k6 e0 e6 ft fi ss v0 v5 vn nz hb ht
    by_cases hv : vv = 0
    case neg => exact rr_35 w k er tx id ti vt A c ns vb tag vv vs s _ hC hl (by simp [rightRepB, valB, valueB, *] <;> omega) k0 k6 e0 e6 ft fi ss v0 v5 vn nz hb ht hv
    by_cases hs : vs.size = 0
    case neg => exact rr_36 w k er tx id ti vt A c ns vb tag vv vs s _ hC hl (by simp [rightRepB, valB, valueB, *] <;> omega) k0 k6 e0 e6 ft fi ss v0 v5 vn nz hb ht hv (size_ne vs hs)
    exact rr_37 w k er tx id ti vt A c ns vb tag vv vs s _ hC hl (by simp [rightRepB, valB, valueB, *] <;> omega) k0 k6 e0 e6 ft fi ss v0 v5 vn nz hb ht hv (size_nil vs hs) 
end Go.Proofs.Ythkdihpbdaehbaa.Pr
namespace Go.Proofs.Ythkdihpbdaehbaa.Pr
set_option linter.unusedVariables false
set_option linter.unusedSimpArgs false
open Go.RowKit Go.Proofs.YthkdihpbdaehbaaW.PrintWords Go.Proofs.YthkdihpbdaehbaaW.PrintLast Go.Proofs.YthkdihpbdaehbaaW.PrintMore Go.Proofs.Ythkdihpbdaehbaa.Bs
theorem intsP_all : ∀ (l r : List Int), (∀ x ∈ l, 0 ≤ x ∧ x ≤ 2147483647) → intsP l.length (beAll l ++ r) = some (l, r)
  | [], r, _ => rfl
  | x :: l, r, h => by
    have hx := h x (List.mem_cons_self ..)
    have e : beAll (x :: l) ++ r = be 4 x ++ (beAll l ++ r) := by simp [beAll]
    rw [List.length_cons, intsP, e, numP_be 4 x _ hx.1 (by show x < 4294967296; omega)]
    simp only []
    rw [intsP_all l r (fun y hy => h y (List.mem_cons_of_mem _ hy))]
theorem nodesP_all (l r : List Int) (h : ∀ x ∈ l, 0 ≤ x ∧ x ≤ 2147483647) (hl : l.length ≤ 1000) : nodesP (be 2 l.length ++ (beAll l ++ r)) = some (l, r) := by
  rw [nodesP, numP_be 2 (l.length : Int) _ (by omega) (by show (l.length : Int) < 65536; omega)]
  simp only []
  rw [if_neg (by omega), Int.toNat_natCast, intsP_all l r h]
theorem wrap_fwd (v : Int) (h0 : -9223372036854775808 ≤ v) (h1 : v ≤ 9223372036854775807) : wrap64 (IntKind.u64.wrap v) = v := by
  rw [IntKind.wrap_u64]
  unfold wrap64
  omega
theorem parseRep_bytes (r : Rp) (h : rightRepB r = true) (hk : r.kinds) : parseRep r.bytes = some (r, true, []) := by
  obtain ⟨⟨k0, k6⟩, ⟨e0, e6⟩, ft, fi, ss, hv⟩ := rightRep_parts r h
  obtain ⟨v1, v2, v3, v4, ⟨t0, t4⟩, nl, bd, dc, vl⟩ := val_parts _ _ _ _ _ _ hv
  have hd := dec_tag dc
  have x0 := fits_bounds ft
  have i0 := fits_bounds fi
  have hn := bad_fits bd
  obtain ⟨⟨ti0, ti1⟩, w0, w1⟩ := hk
  obtain ⟨k, er, tx, id, ti, vt, ns, vb, tag, vv, vs, s⟩ := r
  simp only [] at *
  have P1 : ∀ n : Int, 0 ≤ n → n ≤ 255 → ∀ r, numP 1 (be 1 n ++ r) = some (n, r) := fun n h0 h1 r => numP_be 1 n r h0 (by show n < 256; omega)
  have P2 : ∀ n : Int, 0 ≤ n → n ≤ 65535 → ∀ r, numP 2 (be 2 n ++ r) = some (n, r) := fun n h0 h1 r => numP_be 2 n r h0 (by show n < 65536; omega)
  have P4 : ∀ n : Int, 0 ≤ n → n ≤ 2147483647 → ∀ r, numP 4 (be 4 n ++ r) = some (n, r) := fun n h0 h1 r => numP_be 4 n r h0 (by show n < 4294967296; omega)
  have P8 : ∀ n : Int, 0 ≤ n → n ≤ 18446744073709551615 → ∀ r, numP 8 (be 8 n ++ r) = some (n, r) := fun n h0 h1 r => numP_be 8 n r h0 (by show n < 18446744073709551616; omega)
  have e : Rp.bytes ⟨k, er, tx, id, ti, vt, ns, vb, tag, vv, vs, s⟩ = be 1 k ++ (be 2 er ++ (be 4 tx ++ (be 4 id ++ (be 8 ti ++ (textB s ++ (be 1 vt ++ Rp.tail ⟨k, er, tx, id, ti, vt, ns, vb, tag, vv, vs, s⟩)))))) := by simp [Rp.bytes, Rp.head]
  rw [e, parseRep, P1 k k0 (by omega)]
  simp only []
  rw [P2 er e0 e6]
  simp only []
  rw [P4 tx x0.1 x0.2]
  simp only []
  rw [P4 id i0.1 i0.2]
  simp only []
  rw [P8 ti ti0 ti1]
  simp only []
  rw [textP_b s _ (by omega)]
  simp only []
  rw [P1 vt t0 (by omega)]
  simp only []
  by_cases a1 : vt = 1
  · subst a1
    obtain rfl := v2 (by decide)
    obtain ⟨rfl, rfl⟩ := v3 (by decide)
    obtain rfl := size0 vs (v4 (by decide))
    have et : Rp.tail ⟨k, er, tx, id, ti, 1, ns, false, 0, 0, nil8, s⟩ = be 2 ns.length ++ (beAll ns ++ []) := by simp [Rp.tail]
    rw [if_pos rfl, et, nodesP_all ns [] hn nl]
  rw [if_neg a1]
  obtain rfl := List.length_eq_zero_iff.mp (v1 a1)
  by_cases a2 : vt = 2
  · subst a2
    obtain ⟨rfl, rfl⟩ := v3 (by decide)
    obtain rfl := size0 vs (v4 (by decide))
    have et : Rp.tail ⟨k, er, tx, id, ti, 2, [], vb, 0, 0, nil8, s⟩ = be 1 (flag vb) ++ [] := by simp [Rp.tail]
    rw [if_pos rfl, et, P1 (flag vb) (by cases vb <;> decide) (by cases vb <;> decide)]
    cases vb <;> rfl
  rw [if_neg a2]
  obtain rfl := v2 a2
  by_cases a3 : vt = 3
  · subst a3
    obtain rfl := size0 vs (v4 (by decide))
    have et : Rp.tail ⟨k, er, tx, id, ti, 3, [], false, tag, vv, nil8, s⟩ = be 1 tag ++ (be 8 (IntKind.u64.wrap vv) ++ []) := by simp [Rp.tail]
    rw [if_pos rfl, et, P1 tag hd.1 (by omega)]
    simp only []
    rw [P8 (IntKind.u64.wrap vv) (by rw [IntKind.wrap_u64]; omega) (by rw [IntKind.wrap_u64]; omega)]
    simp only []
    rw [wrap_fwd vv w0 w1]
  rw [if_neg a3]
  obtain ⟨rfl, rfl⟩ := v3 a3
  by_cases a4 : vt = 4
  · subst a4
    have et : Rp.tail ⟨k, er, tx, id, ti, 4, [], false, 0, 0, vs, s⟩ = textB vs ++ [] := by simp [Rp.tail]
    rw [if_pos rfl, et, textP_b vs _ (by omega)]
  rw [if_neg a4]
  obtain rfl := size0 vs (v4 a4)
  have et : Rp.tail ⟨k, er, tx, id, ti, vt, [], false, 0, 0, nil8, s⟩ = [] := by simp [Rp.tail, a1, a2, a3, a4]
  rw [et]
theorem get_rep_bytes (r : Rp) (h : rightRepB r = true) (hk : r.kinds) (hl : r.bytes.length ≤ 4200) : getRep r.bytes = (r, 0) := by
  rw [getRep, readRep, if_neg (by omega), parseRep_bytes r h hk, getRepOf, if_pos h]
theorem Bys.append {a b : List Int} (h : Bys a) (k : Bys b) : Bys (a ++ b) := fun x hx => (List.mem_append.mp hx).elim (h x) (k x)
theorem bys_be (s : Nat) (n : Int) : Bys (be s n) := be_bytes s n
theorem bys_text (s : ByteArray) : Bys (textB s) := by
  intro x hx
  simp only [textB, List.mem_append] at hx
  rcases hx with hx | hx
  · exact be_bytes _ _ x hx
  · simp only [bytesOf, List.mem_map] at hx
    obtain ⟨b, _, rfl⟩ := hx
    have := b.toNat_lt
    omega
theorem bys_all (l : List Int) : Bys (beAll l) := by
  intro x hx
  simp only [beAll, List.mem_flatMap] at hx
  obtain ⟨y, _, hy⟩ := hx
  exact be_bytes _ _ x hy
theorem bys_rep (r : Rp) : Bys r.bytes := by
  refine Bys.append ?_ ?_
  · exact (((((((Bys.append (fun x hx => by cases hx) (bys_be _ _)).append (bys_be _ _)).append (bys_be _ _)).append (bys_be _ _)).append (bys_be _ _)).append (bys_text _)).append (bys_be _ _))
  · unfold Rp.tail
    split
    · exact (bys_be _ _).append (bys_all _)
    split
    · exact bys_be _ _
    split
    · exact (bys_be _ _).append (bys_be _ _)
    split
    · exact bys_text _
    · exact fun x hx => by cases hx
end Go.Proofs.Ythkdihpbdaehbaa.Pr
namespace Go.Proofs.Ythkdihpbdaehbaa.Pr
set_option linter.unusedVariables false
set_option linter.unusedSimpArgs false
open Go.RowKit Go.Proofs.YthkdihpbdaehbaaW.PrintWords Go.Proofs.YthkdihpbdaehbaaW.PrintLast Go.Proofs.YthkdihpbdaehbaaW.PrintMore Go.Proofs.Ythkdihpbdaehbaa.Bs
/-- What the reference's GetRep leaves. -/
def GotRep (w : World) (q : Rp) (b : Bool) (e : Ending) (w' : World) : Prop := ∃ A c, e = .returned (.tuple #[.agg (q.cells (.slice A q.nodes.length c)), .bool b]) ∧ (Kd.int .i64).R 3 w' w.heap.size (fun _ => True) (.slice A q.nodes.length c) q.nodes ∧ q.nodes.length ≤ c ∧ Below w.heap.size w w'
theorem GotRep.zero {w w' : World} (h : Below w.heap.size w w') : GotRep w zeroRep false (.returned (.tuple #[.agg zrep, .bool false])) w' := ⟨none, 0, rfl, Kd.R_nil _ _ _ _ _, Nat.le_refl _, h⟩
/-- The result's cell and the reply's box, on the way. -/
structure GR (w : World) (Q : Array Value) (w1 : World) : Prop where
  r : w1.heap[w.heap.size]? = some (.cells #[.int .i64 0, .int .i64 0, .int .i64 0, .int .i64 0, .int .u64 0, .int .i64 0, .slice none 0 0, .bool false, .int .i64 0, .int .i64 0, .string ⟨#[]⟩, .string ⟨#[]⟩] 44 (0, 0))
  q : w1.heap[w.heap.size + 1]? = some (.cells Q 44 (0, 0))
  b : Below w.heap.size w w1
theorem GR.start (w : World) (Q : Array Value) : GR w Q ((w.alloc (.cells #[.int .i64 0, .int .i64 0, .int .i64 0, .int .i64 0, .int .u64 0, .int .i64 0, .slice none 0 0, .bool false, .int .i64 0, .int .i64 0, .string ⟨#[]⟩, .string ⟨#[]⟩] 44)).alloc (.cells Q 44)) := by
  refine ⟨(Below.heap_alloc _ _ _ (by simp)).trans (heap_alloc_new w _), ?_, below_alloc (below_alloc (Below.refl _ _) _) _⟩
  have h := heap_alloc_new (w.alloc (.cells #[.int .i64 0, .int .i64 0, .int .i64 0, .int .i64 0, .int .u64 0, .int .i64 0, .slice none 0 0, .bool false, .int .i64 0, .int .i64 0, .string ⟨#[]⟩, .string ⟨#[]⟩] 44)) (.cells Q 44)
  rw [show (w.alloc (.cells #[.int .i64 0, .int .i64 0, .int .i64 0, .int .i64 0, .int .u64 0, .int .i64 0, .slice none 0 0, .bool false, .int .i64 0, .int .i64 0, .string ⟨#[]⟩, .string ⟨#[]⟩] 44)).heap.size = w.heap.size + 1 by simp] at h
  exact h
theorem GR.drawn {w w1 w2 : World} {Q : Array Value} (h : GR w Q w1) (k : Drawn0 w1 w2) : GR w Q w2 := ⟨by rw [drawn_heap k]; exact h.r, by rw [drawn_heap k]; exact h.q, by obtain ⟨n, rfl⟩ := k; exact pw_below_drewN h.b n⟩
theorem GR.drew {w w1 : World} {Q : Array Value} (h : GR w Q w1) : GR w Q w1.drew := ⟨h.r, h.q, below_drew h.b⟩
theorem GR.set {w w1 : World} {Q Q' : Array Value} (h : GR w Q w1) (i : Nat) (u : Value) (e : Q.setIfInBounds i u = Q') : GR w Q' (w1.setCell ⟨w.heap.size + 1, i, none⟩ u) :=
  ⟨(Below.heap_setCell _ _ _ _ (by show w.heap.size ≠ w.heap.size + 1; omega)).trans h.r, blk_upd i u h.q e, h.b.setCell (p := ⟨w.heap.size + 1, i, none⟩) (Nat.le_succ _) u⟩
theorem GR.below {w w1 w2 : World} {Q : Array Value} (h : GR w Q w1) (k : Below w1.heap.size w1 w2) : GR w Q w2 := ⟨(k.block _ (blk_lt h.r)).trans h.r, (k.block _ (blk_lt h.q)).trans h.q, below_step h.b k⟩
def tailP (k er tx id ti : Int) (s : ByteArray) (vt : Int) (x7 : List Int) : Option (Rp × Bool × List Int) :=
    if vt = 1 then (match nodesP x7 with | none => none | some (l, ys) => some (⟨k, er, tx, id, ti, vt, l, false, 0, 0, nil8, s⟩, true, ys))
    else if vt = 2 then (match numP 1 x7 with | none => none | some (v, ys) => some (⟨k, er, tx, id, ti, vt, [], v == 1, 0, 0, nil8, s⟩, decide (v ≤ 1), ys))
    else if vt = 3 then (match numP 1 x7 with | none => none | some (tg, x8) => match numP 8 x8 with | none => none | some (v, ys) => some (⟨k, er, tx, id, ti, vt, [], false, tg, wrap64 v, nil8, s⟩, true, ys))
    else if vt = 4 then (match textP x7 with | none => none | some (vs, ys) => some (⟨k, er, tx, id, ti, vt, [], false, 0, 0, vs, s⟩, true, ys))
    else some (⟨k, er, tx, id, ti, vt, [], false, 0, 0, nil8, s⟩, true, x7)
theorem parseRep_head (xs : List Int) (h22 : ¬ xs.length < 22) : parseRep xs = match textP (xs.drop 19) with | none => none | some (s, r) => match numP 1 r with | none => none | some (vt, x7) => tailP (rd xs 0) (val (sub xs 1 3)) (val (sub xs 3 7)) (val (sub xs 7 11)) (val (sub xs 11 19)) s vt x7 := by
  have P0 : numP 1 xs = some (rd xs 0, xs.drop 1) := by
    have h := numP_at xs 0 1 1 rfl (by omega)
    rw [List.drop_zero, val_one xs 0 (by omega)] at h
    exact h
  rw [parseRep, P0]
  simp only []
  rw [numP_at xs 1 2 3 rfl (by omega)]
  simp only []
  rw [numP_at xs 3 4 7 rfl (by omega)]
  simp only []
  rw [numP_at xs 7 4 11 rfl (by omega)]
  simp only []
  rw [numP_at xs 11 8 19 rfl (by omega)]
  simp only []
  rfl
/-- Of which kind bytes are, for the walk. -/
def clsV (v : Int) : Nat := if v = 1 then 1 else if v = 2 then 2 else if v = 3 then 3 else if v = 4 then 4 else 0
def clsL : List Int → Nat
  | [] => 6
  | v :: _ => clsV v
def cls (xs : List Int) : Nat := match textP (xs.drop 19) with | none => 6 | some (_, r) => clsL r
theorem rp_none (xs : List Int) (h : parseRep xs = none) : getRep xs = (zeroRep, 61) := by rw [getRep, readRep, h]; split <;> rfl
theorem rp_hi (xs : List Int) (h : 4200 < xs.length) : getRep xs = (zeroRep, 61) := by rw [getRep, readRep, if_pos h]; rfl
theorem rp_bad (xs r : List Int) (q : Rp) (h : parseRep xs = some (q, false, r)) : getRep xs = (zeroRep, 61) := by rw [getRep, readRep, h]; split <;> rfl
theorem rp_more (xs r : List Int) (q : Rp) (b : Bool) (h : parseRep xs = some (q, b, r)) (hr : ¬ r = []) : getRep xs = (zeroRep, 61) := by
  rw [getRep, readRep, h]
  cases r with
  | nil => exact absurd rfl hr
  | cons a r => cases b <;> split <;> rfl
theorem rp_all (xs : List Int) (q : Rp) (hl : ¬ 4200 < xs.length) (h : parseRep xs = some (q, true, [])) : getRep xs = if rightRepB q = true then (q, 0) else (zeroRep, 61) := by
  rw [getRep, readRep, h, if_neg hl]; rfl
theorem suffix (A : Option Addr) (c : Nat) (l : List Int) (a : Nat) (h1 : a ≤ l.length) (hc : l.length ≤ c) :
    ∃ A' : Option Addr, (∀ W : World, (Instr.slice 27 (.slice A l.length c) (some (.int .i64 a)) none none).run Try.prog W = .ok (.slice A' (l.drop a).length (c - a)) W) ∧ (∀ W, (Kd.int .u8).C W A l.length l → (Kd.int .u8).C W A' (l.drop a).length (l.drop a)) := by
  obtain ⟨i0, hi0, _, hsz, _⟩ := info_parts info5
  obtain ⟨A', h1', h2, h3⟩ := print_drop_of (P := Try.prog) (Value.int .u8) 0 27 5 .i64 Try.underlying27 hi0 hsz A c l a (by omega) (by omega) hc
  exact ⟨A', h1', fun W hC => Kd.C_of_reads (h1 := fun _ => rfl) (h2 W (Kd.reads_of_C hC))⟩
theorem prefix2 (A : Option Addr) (c : Nat) (l : List Int) (h1 : 2 ≤ l.length) (hc : l.length ≤ c) :
    (∀ W : World, (Instr.slice 27 (.slice A l.length c) none (some (.int .i64 2)) none).run Try.prog W = .ok (.slice A 2 c) W) ∧ (∀ W, (Kd.int .u8).C W A l.length l → (Kd.int .u8).C W A 2 (sub l 0 2)) := by
  obtain ⟨i0, hi0, _, hsz, _⟩ := info_parts info5
  obtain ⟨h1', h2, h3⟩ := print_take_of (P := Try.prog) (Value.int .u8) 0 27 5 .i64 Try.underlying27 hi0 hsz A c l 2 (by omega) (by omega) hc
  have e : (l.take (2 : Int).toNat).length = 2 := by rw [List.length_take]; omega
  rw [e] at h1'
  refine ⟨h1', fun W hC => ?_⟩
  have := Kd.C_of_reads (h1 := fun _ => rfl) (h2 W (Kd.reads_of_C hC))
  rw [e] at this
  exact this
theorem z3ok : (Value.int .i64 0).cells.size = (Kd.int .i64).sz ∧ 0 < (Kd.int .i64).sz ∧ 0 < 8 := ⟨rfl, by decide, by decide⟩
theorem intsP_some : ∀ (n : Nat) (xs : List Int), xs.length = 4 * n → ∃ l, intsP n xs = some (l, [])
  | 0, xs, h => ⟨[], by rw [List.length_eq_zero_iff.mp (by omega : xs.length = 0)]; rfl⟩
  | n + 1, xs, h => by
    obtain ⟨l, hl⟩ := intsP_some n (xs.drop 4) (by rw [List.length_drop]; omega)
    have hp : numP 4 xs = some (val (sub xs 0 4), xs.drop 4) := numP_at xs 0 4 4 rfl (by omega)
    exact ⟨val (sub xs 0 4) :: l, by rw [intsP, hp]; simp only []; rw [hl]⟩
theorem sub_drop (xs : List Int) (m a b : Nat) : sub (xs.drop m) a b = sub xs (m + a) (m + b) := by
  rw [sub, sub, List.take_drop, List.drop_drop]
theorem intsP_get : ∀ (n : Nat) (xs zs l : List Int), intsP n xs = some (l, zs) → ∀ j, j < n → rd l (j : Int) = val (sub xs (4 * j) (4 * j + 4))
  | 0, xs, zs, l, h, j, hj => by omega
  | n + 1, xs, zs, l, h, j, hj => by
    simp only [intsP] at h
    split at h
    · cases h
    · rename_i v y1 hn
      split at h
      · cases h
      · rename_i l1 z1 hk
        cases h
        simp only [numP] at hn
        split at hn
        · cases hn
        · cases hn
          cases j with
          | zero => simp [rd, sub]
          | succ j =>
            have ih := intsP_get n (xs.drop 4) zs l1 hk j (by omega)
            rw [sub_drop] at ih
            have e : rd (val (xs.take 4) :: l1) ((j + 1 : Nat) : Int) = rd l1 (j : Int) := by
              simp [rd]
            rw [e, ih]
            congr 2 <;> omega
theorem GR.app {w W w1 : World} {Q : Array Value} {v : Value} {L : List Int} {ok : Nat → Prop} (h : GR w Q W) (hr : (Kd.int .i64).R 3 W (w.heap.size + 2) ok v L) (hch : Ch (fun k => some k = v.ownBlock) W w1) : GR w Q w1 := by
  have hb : ∀ k, some k = v.ownBlock → w.heap.size + 2 ≤ k := fun k hk => own_base (Kd.own_of_R hr) k hk.symm
  refine ⟨hch.heap h.r (fun e => by have := hb _ e; omega), hch.heap h.q (fun e => by have := hb _ e; omega), h.b.trans (Ch.to_below hch (fun k hk => by have := hb k hk; omega) h.b.size)⟩
set_option maxRecDepth 100000 in
set_option maxHeartbeats 600000 in
theorem gr_lo (w : World) (A : Option Addr) (c : Nat) (xs : List Int) (h : xs.length < 22) : Calls Try.prog 15 #[.slice A xs.length c] w (GotRep w zeroRep false) := by
  have h' : (xs.length : Int) < 22 := by omega
  clear h
  go_enter Try.func15, Try.ntmps15
  go_wp2
  exact bodyPost_ret (v := .tuple #[.agg zrep, .bool false]) (by simp [results, Try.results15, go_sem, zrep, zeroRep, Rp.cells, nil8]) rfl (GotRep.zero (by repeat (first | exact Below.refl _ _ | apply below_alloc | apply pw_below_drewN | apply below_drew1)))
set_option maxRecDepth 100000 in
set_option maxHeartbeats 600000 in
theorem gr_hi (w : World) (A : Option Addr) (c : Nat) (xs : List Int) (h : 4200 < xs.length) : Calls Try.prog 15 #[.slice A xs.length c] w (GotRep w zeroRep false) := by
  have h' : ¬ (xs.length : Int) < 22 := by omega
  have h2' : 4200 < (xs.length : Int) := by omega
  clear h
  go_enter Try.func15, Try.ntmps15
  go_wp2
  exact bodyPost_ret (v := .tuple #[.agg zrep, .bool false]) (by simp [results, Try.results15, go_sem, zrep, zeroRep, Rp.cells, nil8]) rfl (GotRep.zero (by repeat (first | exact Below.refl _ _ | apply below_alloc | apply pw_below_drewN | apply below_drew1)))
theorem cls_ne (r : List Int) (h : ¬ r = []) : ¬ clsL r = 6 := by
  cases r with
  | nil => exact absurd rfl h
  | cons v r =>
    simp only [clsL, clsV]
    split
    · decide
    split
    · decide
    split
    · decide
    split <;> decide
end Go.Proofs.Ythkdihpbdaehbaa.Pr
namespace Go.Proofs.Ythkdihpbdaehbaa.Pr
set_option linter.unusedVariables false
set_option linter.unusedSimpArgs false
open Go.RowKit Go.Proofs.YthkdihpbdaehbaaW.PrintWords
theorem rep_same (w : World) (q : Rp) (A A' : Option Addr) (c c' : Nat) (hC : (Kd.int .i64).C w A q.nodes.length q.nodes) (hc : q.nodes.length ≤ c) (hC' : (Kd.int .i64).C w A' q.nodes.length q.nodes) (hc' : q.nodes.length ≤ c') (hl : q.nodes.length ≤ 9000000) : Calls Try.prog 16 #[.agg (q.cells (.slice A q.nodes.length c)), .agg (q.cells (.slice A' q.nodes.length c'))] w fun e w' => e = .returned (.bool true) ∧ Below w.heap.size w w' :=
  PS.reps_same w q.kind q.err q.txn q.id q.time q.vt A A' c c' q.nodes q.vb q.tag q.vv q.vs q.s hC hc hC' hc' hl
end Go.Proofs.Ythkdihpbdaehbaa.Pr
namespace Go.Proofs.Ythkdihpbdaehbaa.Pr
set_option linter.unusedVariables false
set_option linter.unusedSimpArgs false
open Go.RowKit Go.Proofs.YthkdihpbdaehbaaW.PrintWords Go.Proofs.YthkdihpbdaehbaaW.PrintLast Go.Proofs.YthkdihpbdaehbaaW.PrintMore Go.Proofs.Ythkdihpbdaehbaa.Bs
theorem str_ne (l : List Int) : (strOfNums l).toList == (strOfNums l).toList := beq_self_eq_true _
set_option maxRecDepth 100000 in
set_option maxHeartbeats 600000 in
theorem once_l (w : World) (A : Option Addr) (c : Nat) (xs : List Int) (h1 : 5000 < xs.length) : Calls Try.prog 6 #[.slice A xs.length c] w (True_ w) := by
  have h1' : 5000 < (xs.length : Int) := by omega
  clear h1
  go_enter Try.func6, Try.ntmps6
  go_wp2_with fail
  refine (works_calls _).mono ?_
  rintro e v0 ⟨rfl, hbv⟩
  have HV := Aside0.mk hbv
  clear hbv
  go_wp2_with fail
  go_ret
  exact ⟨rfl, HV.out⟩
set_option maxRecDepth 100000 in
set_option maxHeartbeats 1000000 in
theorem once_00 (w : World) (A : Option Addr) (c : Nat) (xs : List Int) (q : Rq) (r : Rp) (hC : (Kd.int .u8).C w A xs.length xs) (hl : xs.length ≤ c) (hby : Bys xs) (h1 : ¬ 5000 < xs.length) (e1 : getReq xs = (q, 61)) (e2 : getRep xs = (r, 61)) : Calls Try.prog 6 #[.slice A xs.length c] w (True_ w) := by
  have h1' : ¬ 5000 < (xs.length : Int) := by omega
  have C1 := getReq_calls w A c xs hC hl hby
  rw [e1] at C1
  have C3 := Aside0.mk (fun w hC => getRep_calls w A c xs hC hl hby (fun q' h' => Nat.le_trans (readRep_back hby h').2.2.2 (by decide)))
  rw [e2] at C3
  have HC := Aside0.mk hC
  unfold GetPost at C1
  unfold RepPost at C3
  obtain ⟨k, s, o, i, p, nm, os⟩ := q
  obtain ⟨k', er, tx, id, ti, vt, ns, vb, tag, vv, vs, s'⟩ := r
  simp only [Rq.cells, Rp.cells] at *
  clear hC hl hby h1 e1 e2
  go_enter Try.func6, Try.ntmps6
  go_wp2_with fail
  refine C1.mono ?_
  rintro e w1 ⟨rfl, hb⟩
  have HB1 := Aside0.mk hb
  clear hb C1
  go_wp2_with fail
  refine (C3.out _ (Kd.C_below HC.out (below_alloc HB1.out _))).mono ?_
  rintro e w3 ⟨A3, c3, rfl, hR3, hb⟩
  have HB3 := Aside0.mk (below_step (below_alloc HB1.out _) hb)
  have HR3 := Aside0.mk hR3
  clear hb hR3
  go_wp2_with fail
  refine (works_calls _).mono ?_
  rintro e v0 ⟨rfl, hbv⟩
  have HV := Aside0.mk (below_step (below_alloc HB3.out _) hbv)
  clear hbv
  go_wp2_with fail
  go_ret
  exact ⟨rfl, HV.out⟩
set_option maxRecDepth 100000 in
set_option maxHeartbeats 1000000 in
theorem once_01 (w : World) (A : Option Addr) (c : Nat) (xs : List Int) (q : Rq) (r : Rp) (hC : (Kd.int .u8).C w A xs.length xs) (hl : xs.length ≤ c) (hby : Bys xs) (h1 : ¬ 5000 < xs.length) (e1 : getReq xs = (q, 61)) (e2 : getRep xs = (r, 0)) : Calls Try.prog 6 #[.slice A xs.length c] w (True_ w) := by
  have h1' : ¬ 5000 < (xs.length : Int) := by omega
  obtain ⟨p2, k2, n2⟩ := rep_once hby e2
  have C1 := getReq_calls w A c xs hC hl hby
  rw [e1] at C1
  have C3 := Aside0.mk (fun w hC => getRep_calls w A c xs hC hl hby (fun q' h' => Nat.le_trans (readRep_back hby h').2.2.2 (by decide)))
  rw [e2] at C3
  have C4 := Aside0.mk (fun w A0 c0 hC => putRep_calls w r A0 c0 hC (by omega) k2)
  rw [p2] at C4
  have HC := Aside0.mk hC
  unfold GetPost at C1
  unfold RepPost at C3
  obtain ⟨k, s, o, i, p, nm, os⟩ := q
  obtain ⟨k', er, tx, id, ti, vt, ns, vb, tag, vv, vs, s'⟩ := r
  simp only [Rq.cells, Rp.cells] at *
  clear hC hl hby h1 e1 e2 p2 k2 n2
  go_enter Try.func6, Try.ntmps6
  go_wp2_with fail
  refine C1.mono ?_
  rintro e w1 ⟨rfl, hb⟩
  have HB1 := Aside0.mk hb
  clear hb C1
  go_wp2_with fail
  refine (C3.out _ (Kd.C_below HC.out (below_alloc HB1.out _))).mono ?_
  rintro e w3 ⟨A3, c3, rfl, hR3, hb⟩
  have HB3 := Aside0.mk (below_step (below_alloc HB1.out _) hb)
  have HR3 := Aside0.mk hR3
  clear hb hR3
  go_wp2_with fail
  refine (C4.out _ A3 c3 (Kd.C_alloc (Kd.R_reads' HR3.out).2.2 _)).mono ?_
  rintro e w4 ⟨⟨A4, c4, rfl, hR4⟩, hb⟩
  have HB4 := Aside0.mk (below_step (below_alloc HB3.out _) hb)
  have q1 : (convert 27 9 (.slice A4 xs.length c4)).run Try.prog w4 = .ok (.string (strOfNums xs)) w4 := Kd.C_string Try.underlying27 Try.underlying5 Try.underlying9 (Kd.R_reads' hR4).2.2
  have q2 : (convert 27 9 (.slice A xs.length c)).run Try.prog w4 = .ok (.string (strOfNums xs)) w4 := Kd.C_string Try.underlying27 Try.underlying5 Try.underlying9 (Kd.C_below HC.out HB4.out)
  clear hb hR4
  go_wp2_with fail
  clear q1 q2
  refine (works_calls _).mono ?_
  rintro e v0 ⟨rfl, hbv⟩
  have HV := Aside0.mk (below_step HB4.out hbv)
  clear hbv
  go_wp2_with fail
  go_ret
  exact ⟨rfl, HV.out⟩
set_option maxRecDepth 100000 in
set_option maxHeartbeats 1000000 in
theorem once_10 (w : World) (A : Option Addr) (c : Nat) (xs : List Int) (q : Rq) (r : Rp) (hC : (Kd.int .u8).C w A xs.length xs) (hl : xs.length ≤ c) (hby : Bys xs) (h1 : ¬ 5000 < xs.length) (e1 : getReq xs = (q, 0)) (e2 : getRep xs = (r, 61)) : Calls Try.prog 6 #[.slice A xs.length c] w (True_ w) := by
  have h1' : ¬ 5000 < (xs.length : Int) := by omega
  have p1 := req_once hby e1
  have C1 := getReq_calls w A c xs hC hl hby
  rw [e1] at C1
  have C2 := Aside0.mk (fun w => putReq_calls w q)
  rw [p1] at C2
  have C3 := Aside0.mk (fun w hC => getRep_calls w A c xs hC hl hby (fun q' h' => Nat.le_trans (readRep_back hby h').2.2.2 (by decide)))
  rw [e2] at C3
  have HC := Aside0.mk hC
  unfold GetPost at C1
  unfold RepPost at C3
  obtain ⟨k, s, o, i, p, nm, os⟩ := q
  obtain ⟨k', er, tx, id, ti, vt, ns, vb, tag, vv, vs, s'⟩ := r
  simp only [Rq.cells, Rp.cells] at *
  clear hC hl hby h1 e1 e2 p1
  go_enter Try.func6, Try.ntmps6
  go_wp2_with fail
  refine C1.mono ?_
  rintro e w1 ⟨rfl, hb⟩
  have HB1 := Aside0.mk hb
  clear hb C1
  go_wp2_with fail
  refine (C2.out _).mono ?_
  rintro e w2 ⟨⟨A2, c2, rfl, hR2⟩, hb⟩
  have HB2 := Aside0.mk (below_step (below_alloc HB1.out _) hb)
  have q1 : (convert 27 9 (.slice A2 xs.length c2)).run Try.prog w2 = .ok (.string (strOfNums xs)) w2 := Kd.C_string Try.underlying27 Try.underlying5 Try.underlying9 (Kd.R_reads' hR2).2.2
  have q2 : (convert 27 9 (.slice A xs.length c)).run Try.prog w2 = .ok (.string (strOfNums xs)) w2 := Kd.C_string Try.underlying27 Try.underlying5 Try.underlying9 (Kd.C_below HC.out HB2.out)
  have HC2 := Aside0.mk (Kd.C_below HC.out HB2.out)
  clear hb hR2
  go_wp2_with fail
  clear q1 q2
  refine (C3.out w2 HC2.out).mono ?_
  rintro e w3 ⟨A3, c3, rfl, hR3, hb⟩
  have HB3 := Aside0.mk (below_step HB2.out hb)
  have HR3 := Aside0.mk hR3
  clear hb hR3
  go_wp2_with fail
  refine (works_calls _).mono ?_
  rintro e v0 ⟨rfl, hbv⟩
  have HV := Aside0.mk (below_step (below_alloc HB3.out _) hbv)
  clear hbv
  go_wp2_with fail
  go_ret
  exact ⟨rfl, HV.out⟩
set_option maxRecDepth 100000 in
set_option maxHeartbeats 1000000 in
theorem once_11 (w : World) (A : Option Addr) (c : Nat) (xs : List Int) (q : Rq) (r : Rp) (hC : (Kd.int .u8).C w A xs.length xs) (hl : xs.length ≤ c) (hby : Bys xs) (h1 : ¬ 5000 < xs.length) (e1 : getReq xs = (q, 0)) (e2 : getRep xs = (r, 0)) : Calls Try.prog 6 #[.slice A xs.length c] w (True_ w) := by
  have h1' : ¬ 5000 < (xs.length : Int) := by omega
  have p1 := req_once hby e1
  obtain ⟨p2, k2, n2⟩ := rep_once hby e2
  have C1 := getReq_calls w A c xs hC hl hby
  rw [e1] at C1
  have C2 := Aside0.mk (fun w => putReq_calls w q)
  rw [p1] at C2
  have C3 := Aside0.mk (fun w hC => getRep_calls w A c xs hC hl hby (fun q' h' => Nat.le_trans (readRep_back hby h').2.2.2 (by decide)))
  rw [e2] at C3
  have C4 := Aside0.mk (fun w A0 c0 hC => putRep_calls w r A0 c0 hC (by omega) k2)
  rw [p2] at C4
  have HC := Aside0.mk hC
  unfold GetPost at C1
  unfold RepPost at C3
  obtain ⟨k, s, o, i, p, nm, os⟩ := q
  obtain ⟨k', er, tx, id, ti, vt, ns, vb, tag, vv, vs, s'⟩ := r
  simp only [Rq.cells, Rp.cells] at *
  clear hC hl hby h1 e1 e2 p1 p2 k2 n2
  go_enter Try.func6, Try.ntmps6
  go_wp2_with fail
  refine C1.mono ?_
  rintro e w1 ⟨rfl, hb⟩
  have HB1 := Aside0.mk hb
  clear hb C1
  go_wp2_with fail
  refine (C2.out _).mono ?_
  rintro e w2 ⟨⟨A2, c2, rfl, hR2⟩, hb⟩
  have HB2 := Aside0.mk (below_step (below_alloc HB1.out _) hb)
  have q1 : (convert 27 9 (.slice A2 xs.length c2)).run Try.prog w2 = .ok (.string (strOfNums xs)) w2 := Kd.C_string Try.underlying27 Try.underlying5 Try.underlying9 (Kd.R_reads' hR2).2.2
  have q2 : (convert 27 9 (.slice A xs.length c)).run Try.prog w2 = .ok (.string (strOfNums xs)) w2 := Kd.C_string Try.underlying27 Try.underlying5 Try.underlying9 (Kd.C_below HC.out HB2.out)
  have HC2 := Aside0.mk (Kd.C_below HC.out HB2.out)
  clear hb hR2
  go_wp2_with fail
  clear q1 q2
  refine (C3.out w2 HC2.out).mono ?_
  rintro e w3 ⟨A3, c3, rfl, hR3, hb⟩
  have HB3 := Aside0.mk (below_step HB2.out hb)
  have HR3 := Aside0.mk hR3
  clear hb hR3
  go_wp2_with fail
  refine (C4.out _ A3 c3 (Kd.C_alloc (Kd.R_reads' HR3.out).2.2 _)).mono ?_
  rintro e w4 ⟨⟨A4, c4, rfl, hR4⟩, hb⟩
  have HB4 := Aside0.mk (below_step (below_alloc HB3.out _) hb)
  have q1 : (convert 27 9 (.slice A4 xs.length c4)).run Try.prog w4 = .ok (.string (strOfNums xs)) w4 := Kd.C_string Try.underlying27 Try.underlying5 Try.underlying9 (Kd.R_reads' hR4).2.2
  have q2 : (convert 27 9 (.slice A xs.length c)).run Try.prog w4 = .ok (.string (strOfNums xs)) w4 := Kd.C_string Try.underlying27 Try.underlying5 Try.underlying9 (Kd.C_below HC.out HB4.out)
  clear hb hR4
  go_wp2_with fail
  clear q1 q2
  refine (works_calls _).mono ?_
  rintro e v0 ⟨rfl, hbv⟩
  have HV := Aside0.mk (below_step HB4.out hbv)
  clear hbv
  go_wp2_with fail
  go_ret
  exact ⟨rfl, HV.out⟩
theorem getReq_code (xs : List Int) : (getReq xs).2 = 0 ∨ (getReq xs).2 = 61 := by
  rw [getReq]
  cases readReq xs with
  | none => exact .inr rfl
  | some q => simp only [getOf]; split <;> simp
theorem getRep_code (xs : List Int) : (getRep xs).2 = 0 ∨ (getRep xs).2 = 61 := by
  rw [getRep]
  cases readRep xs with
  | none => exact .inr rfl
  | some q => simp only [getRepOf]; split <;> simp
theorem once_calls (w : World) (A : Option Addr) (c : Nat) (xs : List Int) (hC : (Kd.int .u8).C w A xs.length xs) (hl : xs.length ≤ c) (hby : Bys xs) : Calls Try.prog 6 #[.slice A xs.length c] w (True_ w) := by
  by_cases h1 : 5000 < xs.length
  · exact once_l w A c xs h1
  rcases getReq_code xs with a | a <;> rcases getRep_code xs with b | b
  · exact once_11 w A c xs _ _ hC hl hby h1 (Prod.ext rfl a) (Prod.ext rfl b)
  · exact once_10 w A c xs _ _ hC hl hby h1 (Prod.ext rfl a) (Prod.ext rfl b)
  · exact once_01 w A c xs _ _ hC hl hby h1 (Prod.ext rfl a) (Prod.ext rfl b)
  · exact once_00 w A c xs _ _ hC hl hby h1 (Prod.ext rfl a) (Prod.ext rfl b)
end Go.Proofs.Ythkdihpbdaehbaa.Pr
namespace Go.Proofs.Ythkdihpbdaehbaa.Pr
set_option linter.unusedVariables false
set_option linter.unusedSimpArgs false
open Go.RowKit Go.Proofs.YthkdihpbdaehbaaW.PrintWords Go.Proofs.Ythkdihpbdaehbaa.Bs Go.WideShapes
theorem op27 : Opens Try.prog 27 (Kd.slice 5 (Kd.int .u8)) (fun xs => (∀ x ∈ xs, (Lit.int .u8 x).wf = true) ∧ xs.length ≤ maxLen) := Opens.slice Try.underlying27 (by kernel_rfl) (Opens.int Try.underlying5)
theorem wf_u8 {x : Int} (h : (Lit.int .u8 x).wf = true) : 0 ≤ x ∧ x ≤ 255 := by
  simp [Lit.wf, IntKind.min, IntKind.max, IntKind.signed, IntKind.bits] at h
  omega
theorem once_row (W : World) (A : Option Addr) (cp : Nat) (l : List Int) (f : (Kd.int .u8).C W A l.length l) (e : l.length ≤ cp) (g : (∀ x ∈ l, (Lit.int .u8 x).wf = true) ∧ l.length ≤ maxLen) :
    Calls Try.prog 6 #[.slice A l.length cp] W fun e w' => e = .returned (.bool true) ∧ Below W.heap.size W w' :=
  once_calls W A cp l f e (fun x hx => wf_u8 (g.1 x hx))
end Go.Proofs.Ythkdihpbdaehbaa.Pr
