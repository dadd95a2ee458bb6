import Derived.Test.YthkdihpbdaehbaaMg2
namespace Go.Proofs.Ythkdihpbdaehbaa.Pr
set_option linter.unusedVariables false
set_option linter.unusedSimpArgs false
open Go.RowKit Go.Proofs.YthkdihpbdaehbaaW.PrintWords Go.Proofs.YthkdihpbdaehbaaW.PrintLast Go.Proofs.YthkdihpbdaehbaaW.PrintMore Go.Proofs.Ythkdihpbdaehbaa.Bs
theorem isEmpty_nil {s : ByteArray} (h : s.toList = []) : s.size = 0 := by
  have := toList_nil s
  rw [h] at this
  simpa using this.symm
set_option maxRecDepth 100000 in
set_option maxHeartbeats 600000 in
theorem val_1 (w : World) (vt : Int) (A : Option Addr) (c : Nat) (ns : List Int) (vb : Bool) (tag vv : Int) (vs : ByteArray) (r : Bool) (hC : (Kd.int .i64).C w A ns.length ns) (hl : ns.length ≤ 9000000) (HE : r = false) (v0 : vt = 1) (hb : vb = true) : Calls Try.prog 36 #[.agg #[.int .i64 vt, .slice A ns.length c, .bool vb, .int .i64 tag, .int .i64 vv, .string vs]] w fun e w' => e = .returned (.bool r) ∧ Below w.heap.size w w' := by
  have E := Aside0.mk HE
  clear HE
  subst v0
  subst hb
  clear hC
  go_enter Try.func36, Try.ntmps36
  go_wp2_with (first | fail)
  go_ret
  exact ⟨congrArg (fun b => Ending.returned (.bool b)) E.out.symm, by repeat (first | exact Below.refl _ _ | apply below_alloc | apply pw_below_drewN | apply below_drew1)⟩
set_option maxRecDepth 100000 in
set_option maxHeartbeats 600000 in
theorem val_2 (w : World) (vt : Int) (A : Option Addr) (c : Nat) (ns : List Int) (vb : Bool) (tag vv : Int) (vs : ByteArray) (r : Bool) (hC : (Kd.int .i64).C w A ns.length ns) (hl : ns.length ≤ 9000000) (HE : r = false) (v0 : vt = 1) (hb : vb = false) (hz : (tag == 0 && vv == 0) = false) : Calls Try.prog 36 #[.agg #[.int .i64 vt, .slice A ns.length c, .bool vb, .int .i64 tag, .int .i64 vv, .string vs]] w fun e w' => e = .returned (.bool r) ∧ Below w.heap.size w w' := by
  have E := Aside0.mk HE
  clear HE
  subst v0
  subst hb
  have qd : ∀ w, (binOp .neq 40 (.agg #[.int .i64 tag, .int .i64 vv]) (.agg #[.int .i64 0, .int .i64 0])).run Try.prog w = .ok (.bool true) w := fun w => by rw [eqDec, hz]; rfl
  clear hC
  go_enter Try.func36, Try.ntmps36
  go_wp2_with (first | fail)
  go_ret
  exact ⟨congrArg (fun b => Ending.returned (.bool b)) E.out.symm, by repeat (first | exact Below.refl _ _ | apply below_alloc | apply pw_below_drewN | apply below_drew1)⟩
set_option maxRecDepth 100000 in
set_option maxHeartbeats 600000 in
theorem val_3 (w : World) (vt : Int) (A : Option Addr) (c : Nat) (ns : List Int) (vb : Bool) (tag vv : Int) (vs : ByteArray) (r : Bool) (hC : (Kd.int .i64).C w A ns.length ns) (hl : ns.length ≤ 9000000) (HE : r = false) (v0 : vt = 1) (hb : vb = false) (h0 : tag = 0) (h1 : vv = 0) (hs : ¬ vs.toList = []) : Calls Try.prog 36 #[.agg #[.int .i64 vt, .slice A ns.length c, .bool vb, .int .i64 tag, .int .i64 vv, .string vs]] w fun e w' => e = .returned (.bool r) ∧ Below w.heap.size w w' := by
  have E := Aside0.mk HE
  clear HE
  subst v0
  subst hb
  subst h0 h1
  have qd : ∀ w, (binOp .neq 40 (.agg #[.int .i64 0, .int .i64 0]) (.agg #[.int .i64 0, .int .i64 0])).run Try.prog w = .ok (.bool false) w := fun w => by rw [eqDec]; rfl
  have hs2 : (!vs.toList.isEmpty) = true := by simpa using hs
  clear hC
  go_enter Try.func36, Try.ntmps36
  go_wp2_with (first | fail)
  go_ret
  exact ⟨congrArg (fun b => Ending.returned (.bool b)) E.out.symm, by repeat (first | exact Below.refl _ _ | apply below_alloc | apply pw_below_drewN | apply below_drew1)⟩
set_option maxRecDepth 100000 in
set_option maxHeartbeats 600000 in
theorem val_4 (w : World) (vt : Int) (A : Option Addr) (c : Nat) (ns : List Int) (vb : Bool) (tag vv : Int) (vs : ByteArray) (r : Bool) (hC : (Kd.int .i64).C w A ns.length ns) (hl : ns.length ≤ 9000000) (HE : r = false) (v0 : vt = 1) (hb : vb = false) (h0 : tag = 0) (h1 : vv = 0) (hs : vs.toList = []) (nm : 1000 < ns.length) : Calls Try.prog 36 #[.agg #[.int .i64 vt, .slice A ns.length c, .bool vb, .int .i64 tag, .int .i64 vv, .string vs]] w fun e w' => e = .returned (.bool r) ∧ Below w.heap.size w w' := by
  have E := Aside0.mk HE
  clear HE
  subst v0
  subst hb
  subst h0 h1
  have qd : ∀ w, (binOp .neq 40 (.agg #[.int .i64 0, .int .i64 0]) (.agg #[.int .i64 0, .int .i64 0])).run Try.prog w = .ok (.bool false) w := fun w => by rw [eqDec]; rfl
  have sz : ((vs.size : Nat) : Int) ≤ 65535 := by have := isEmpty_nil hs; omega
  have nm' : ¬ (ns.length : Int) ≤ 1000 := by omega
  clear hC
  go_enter Try.func36, Try.ntmps36
  go_wp2_with (first | fail)
  go_ret
  exact ⟨congrArg (fun b => Ending.returned (.bool b)) E.out.symm, by repeat (first | exact Below.refl _ _ | apply below_alloc | apply pw_below_drewN | apply below_drew1)⟩
set_option maxRecDepth 100000 in
set_option maxHeartbeats 600000 in
theorem val_5 (w : World) (vt : Int) (A : Option Addr) (c : Nat) (ns : List Int) (vb : Bool) (tag vv : Int) (vs : ByteArray) (r : Bool) (hC : (Kd.int .i64).C w A ns.length ns) (hl : ns.length ≤ 9000000) (HE : r = false) (v0 : vt = 1) (hb : vb = false) (h0 : tag = 0) (h1 : vv = 0) (hs : vs.toList = []) (nm : ns.length ≤ 1000) (bd : badB ns = true) : Calls Try.prog 36 #[.agg #[.int .i64 vt, .slice A ns.length c, .bool vb, .int .i64 tag, .int .i64 vv, .string vs]] w fun e w' => e = .returned (.bool r) ∧ Below w.heap.size w w' := by
  have E := Aside0.mk HE
  clear HE
  have C1 := Aside0.mk (fun o => contains_calls (w.alloc o) A c ns (Kd.C_alloc hC o) hl)
  subst v0
  subst hb
  subst h0 h1
  have qd : ∀ w, (binOp .neq 40 (.agg #[.int .i64 0, .int .i64 0]) (.agg #[.int .i64 0, .int .i64 0])).run Try.prog w = .ok (.bool false) w := fun w => by rw [eqDec]; rfl
  have sz : ((vs.size : Nat) : Int) ≤ 65535 := by have := isEmpty_nil hs; omega
  have nm' : (ns.length : Int) ≤ 1000 := by omega
  rw [bd] at C1
  clear hC
  go_enter Try.func36, Try.ntmps36
  go_wp2_with (first | (go_at_call 45; (with_reducible refine (C1.out _).mono ?_); rintro e w1 ⟨rfl, ⟨nd, rfl⟩⟩))
  go_ret
  exact ⟨congrArg (fun b => Ending.returned (.bool b)) E.out.symm, by repeat (first | exact Below.refl _ _ | apply below_alloc | apply pw_below_drewN | apply below_drew1)⟩
set_option maxRecDepth 100000 in
set_option maxHeartbeats 600000 in
theorem val_6 (w : World) (vt : Int) (A : Option Addr) (c : Nat) (ns : List Int) (vb : Bool) (tag vv : Int) (vs : ByteArray) (r : Bool) (hC : (Kd.int .i64).C w A ns.length ns) (hl : ns.length ≤ 9000000) (HE : r = true) (v0 : vt = 1) (hb : vb = false) (h0 : tag = 0) (h1 : vv = 0) (hs : vs.toList = []) (nm : ns.length ≤ 1000) (bd : badB ns = false) : Calls Try.prog 36 #[.agg #[.int .i64 vt, .slice A ns.length c, .bool vb, .int .i64 tag, .int .i64 vv, .string vs]] w fun e w' => e = .returned (.bool r) ∧ Below w.heap.size w w' := by
  have E := Aside0.mk HE
  clear HE
  have C1 := Aside0.mk (fun o => contains_calls (w.alloc o) A c ns (Kd.C_alloc hC o) hl)
  have C2 := Aside0.mk (fun w => dec_calls w tag vv)
  subst v0
  subst hb
  subst h0 h1
  have qd : ∀ w, (binOp .neq 40 (.agg #[.int .i64 0, .int .i64 0]) (.agg #[.int .i64 0, .int .i64 0])).run Try.prog w = .ok (.bool false) w := fun w => by rw [eqDec]; rfl
  have sz : ((vs.size : Nat) : Int) ≤ 65535 := by have := isEmpty_nil hs; omega
  have nm' : (ns.length : Int) ≤ 1000 := by omega
  rw [bd] at C1
  rw [show decB 0 0 = true from by decide] at C2
  clear hC
  go_enter Try.func36, Try.ntmps36
  go_wp2_with (first | (go_at_call 45; (with_reducible refine (C1.out _).mono ?_); rintro e w1 ⟨rfl, ⟨nd, rfl⟩⟩) | (go_at_call 47; (with_reducible refine (C2.out _).mono ?_); rintro e w2 ⟨rfl, hb⟩; have hvs : w2.cell? ⟨w.heap.size, 5, none⟩ = some (.string vs) := pw_cell_below hb (by go_simp); have HB := Aside0.mk hb; clear hb))
  go_ret
  exact ⟨congrArg (fun b => Ending.returned (.bool b)) E.out.symm, below_step (by repeat (first | exact Below.refl _ _ | apply below_alloc | apply pw_below_drewN | apply below_drew1)) HB.out⟩
set_option maxRecDepth 100000 in
set_option maxHeartbeats 600000 in
theorem val_7 (w : World) (vt : Int) (A : Option Addr) (c : Nat) (ns : List Int) (vb : Bool) (tag vv : Int) (vs : ByteArray) (r : Bool) (hC : (Kd.int .i64).C w A ns.length ns) (hl : ns.length ≤ 9000000) (HE : r = false) (v0 : vt = 2) (np : 0 < ns.length) : Calls Try.prog 36 #[.agg #[.int .i64 vt, .slice A ns.length c, .bool vb, .int .i64 tag, .int .i64 vv, .string vs]] w fun e w' => e = .returned (.bool r) ∧ Below w.heap.size w w' := by
  have E := Aside0.mk HE
  clear HE
  subst v0
  have n1 : 0 < (ns.length : Int) := by omega
  clear hC
  go_enter Try.func36, Try.ntmps36
  go_wp2_with (first | fail)
  go_ret
  exact ⟨congrArg (fun b => Ending.returned (.bool b)) E.out.symm, by repeat (first | exact Below.refl _ _ | apply below_alloc | apply pw_below_drewN | apply below_drew1)⟩
set_option maxRecDepth 100000 in
set_option maxHeartbeats 600000 in
theorem val_8 (w : World) (vt : Int) (A : Option Addr) (c : Nat) (ns : List Int) (vb : Bool) (tag vv : Int) (vs : ByteArray) (r : Bool) (hC : (Kd.int .i64).C w A ns.length ns) (hl : ns.length ≤ 9000000) (HE : r = false) (v0 : vt = 2) (nz : ns.length = 0) (hz : (tag == 0 && vv == 0) = false) : Calls Try.prog 36 #[.agg #[.int .i64 vt, .slice A ns.length c, .bool vb, .int .i64 tag, .int .i64 vv, .string vs]] w fun e w' => e = .returned (.bool r) ∧ Below w.heap.size w w' := by
  have E := Aside0.mk HE
  clear HE
  subst v0
  have n1 : ¬ 0 < (ns.length : Int) := by omega
  have qd : ∀ w, (binOp .neq 40 (.agg #[.int .i64 tag, .int .i64 vv]) (.agg #[.int .i64 0, .int .i64 0])).run Try.prog w = .ok (.bool true) w := fun w => by rw [eqDec, hz]; rfl
  clear hC
  go_enter Try.func36, Try.ntmps36
  go_wp2_with (first | fail)
  go_ret
  exact ⟨congrArg (fun b => Ending.returned (.bool b)) E.out.symm, by repeat (first | exact Below.refl _ _ | apply below_alloc | apply pw_below_drewN | apply below_drew1)⟩
set_option maxRecDepth 100000 in
set_option maxHeartbeats 600000 in
theorem val_9 (w : World) (vt : Int) (A : Option Addr) (c : Nat) (ns : List Int) (vb : Bool) (tag vv : Int) (vs : ByteArray) (r : Bool) (hC : (Kd.int .i64).C w A ns.length ns) (hl : ns.length ≤ 9000000) (HE : r = false) (v0 : vt = 2) (nz : ns.length = 0) (h0 : tag = 0) (h1 : vv = 0) (hs : ¬ vs.toList = []) : Calls Try.prog 36 #[.agg #[.int .i64 vt, .slice A ns.length c, .bool vb, .int .i64 tag, .int .i64 vv, .string vs]] w fun e w' => e = .returned (.bool r) ∧ Below w.heap.size w w' := by
  have E := Aside0.mk HE
  clear HE
  subst v0
  have n1 : ¬ 0 < (ns.length : Int) := by omega
  subst h0 h1
  have qd : ∀ w, (binOp .neq 40 (.agg #[.int .i64 0, .int .i64 0]) (.agg #[.int .i64 0, .int .i64 0])).run Try.prog w = .ok (.bool false) w := fun w => by rw [eqDec]; rfl
  have hs2 : (!vs.toList.isEmpty) = true := by simpa using hs
  clear hC
  go_enter Try.func36, Try.ntmps36
  go_wp2_with (first | fail)
  go_ret
  exact ⟨congrArg (fun b => Ending.returned (.bool b)) E.out.symm, by repeat (first | exact Below.refl _ _ | apply below_alloc | apply pw_below_drewN | apply below_drew1)⟩
set_option maxRecDepth 100000 in
set_option maxHeartbeats 600000 in
theorem val_10 (w : World) (vt : Int) (A : Option Addr) (c : Nat) (ns : List Int) (vb : Bool) (tag vv : Int) (vs : ByteArray) (r : Bool) (hC : (Kd.int .i64).C w A ns.length ns) (hl : ns.length ≤ 9000000) (HE : r = true) (v0 : vt = 2) (nz : ns.length = 0) (h0 : tag = 0) (h1 : vv = 0) (hs : vs.toList = []) (bd : badB ns = false) : Calls Try.prog 36 #[.agg #[.int .i64 vt, .slice A ns.length c, .bool vb, .int .i64 tag, .int .i64 vv, .string vs]] w fun e w' => e = .returned (.bool r) ∧ Below w.heap.size w w' := by
  have E := Aside0.mk HE
  clear HE
  have C1 := Aside0.mk (fun o => contains_calls (w.alloc o) A c ns (Kd.C_alloc hC o) hl)
  have C2 := Aside0.mk (fun w => dec_calls w tag vv)
  subst v0
  have n1 : ¬ 0 < (ns.length : Int) := by omega
  subst h0 h1
  have qd : ∀ w, (binOp .neq 40 (.agg #[.int .i64 0, .int .i64 0]) (.agg #[.int .i64 0, .int .i64 0])).run Try.prog w = .ok (.bool false) w := fun w => by rw [eqDec]; rfl
  have sz : ((vs.size : Nat) : Int) ≤ 65535 := by have := isEmpty_nil hs; omega
  have nm' : (ns.length : Int) ≤ 1000 := by omega
  obtain rfl : ns = [] := List.length_eq_zero_iff.mp nz
  simp only [List.length_nil] at *
  rw [bd] at C1
  rw [show decB 0 0 = true from by decide] at C2
  clear hC
  go_enter Try.func36, Try.ntmps36
  go_wp2_with (first | (go_at_call 45; (with_reducible refine (C1.out _).mono ?_); rintro e w1 ⟨rfl, ⟨nd, rfl⟩⟩) | (go_at_call 47; (with_reducible refine (C2.out _).mono ?_); rintro e w2 ⟨rfl, hb⟩; have hvs : w2.cell? ⟨w.heap.size, 5, none⟩ = some (.string vs) := pw_cell_below hb (by go_simp); have HB := Aside0.mk hb; clear hb))
  go_ret
  exact ⟨congrArg (fun b => Ending.returned (.bool b)) E.out.symm, below_step (by repeat (first | exact Below.refl _ _ | apply below_alloc | apply pw_below_drewN | apply below_drew1)) HB.out⟩
set_option maxRecDepth 100000 in
set_option maxHeartbeats 600000 in
theorem val_11 (w : World) (vt : Int) (A : Option Addr) (c : Nat) (ns : List Int) (vb : Bool) (tag vv : Int) (vs : ByteArray) (r : Bool) (hC : (Kd.int .i64).C w A ns.length ns) (hl : ns.length ≤ 9000000) (HE : r = false) (v0 : vt = 3) (np : 0 < ns.length) : Calls Try.prog 36 #[.agg #[.int .i64 vt, .slice A ns.length c, .bool vb, .int .i64 tag, .int .i64 vv, .string vs]] w fun e w' => e = .returned (.bool r) ∧ Below w.heap.size w w' := by
  have E := Aside0.mk HE
  clear HE
  subst v0
  have n1 : 0 < (ns.length : Int) := by omega
  clear hC
  go_enter Try.func36, Try.ntmps36
  go_wp2_with (first | fail)
  go_ret
  exact ⟨congrArg (fun b => Ending.returned (.bool b)) E.out.symm, by repeat (first | exact Below.refl _ _ | apply below_alloc | apply pw_below_drewN | apply below_drew1)⟩
set_option maxRecDepth 100000 in
set_option maxHeartbeats 600000 in
theorem val_12 (w : World) (vt : Int) (A : Option Addr) (c : Nat) (ns : List Int) (vb : Bool) (tag vv : Int) (vs : ByteArray) (r : Bool) (hC : (Kd.int .i64).C w A ns.length ns) (hl : ns.length ≤ 9000000) (HE : r = false) (v0 : vt = 3) (nz : ns.length = 0) (hb : vb = true) : Calls Try.prog 36 #[.agg #[.int .i64 vt, .slice A ns.length c, .bool vb, .int .i64 tag, .int .i64 vv, .string vs]] w fun e w' => e = .returned (.bool r) ∧ Below w.heap.size w w' := by
  have E := Aside0.mk HE
  clear HE
  subst v0
  have n1 : ¬ 0 < (ns.length : Int) := by omega
  subst hb
  clear hC
  go_enter Try.func36, Try.ntmps36
  go_wp2_with (first | fail)
  go_ret
  exact ⟨congrArg (fun b => Ending.returned (.bool b)) E.out.symm, by repeat (first | exact Below.refl _ _ | apply below_alloc | apply pw_below_drewN | apply below_drew1)⟩
set_option maxRecDepth 100000 in
set_option maxHeartbeats 600000 in
theorem val_13 (w : World) (vt : Int) (A : Option Addr) (c : Nat) (ns : List Int) (vb : Bool) (tag vv : Int) (vs : ByteArray) (r : Bool) (hC : (Kd.int .i64).C w A ns.length ns) (hl : ns.length ≤ 9000000) (HE : r = false) (v0 : vt = 3) (nz : ns.length = 0) (hb : vb = false) (hs : ¬ vs.toList = []) : Calls Try.prog 36 #[.agg #[.int .i64 vt, .slice A ns.length c, .bool vb, .int .i64 tag, .int .i64 vv, .string vs]] w fun e w' => e = .returned (.bool r) ∧ Below w.heap.size w w' := by
  have E := Aside0.mk HE
  clear HE
  subst v0
  have n1 : ¬ 0 < (ns.length : Int) := by omega
  subst hb
  have hs2 : (!vs.toList.isEmpty) = true := by simpa using hs
  clear hC
  go_enter Try.func36, Try.ntmps36
  go_wp2_with (first | fail)
  go_ret
  exact ⟨congrArg (fun b => Ending.returned (.bool b)) E.out.symm, by repeat (first | exact Below.refl _ _ | apply below_alloc | apply pw_below_drewN | apply below_drew1)⟩
set_option maxRecDepth 100000 in
set_option maxHeartbeats 600000 in
theorem val_14 (w : World) (vt : Int) (A : Option Addr) (c : Nat) (ns : List Int) (vb : Bool) (tag vv : Int) (vs : ByteArray) (r : Bool) (hC : (Kd.int .i64).C w A ns.length ns) (hl : ns.length ≤ 9000000) (HE : r = false) (v0 : vt = 3) (nz : ns.length = 0) (hb : vb = false) (hs : vs.toList = []) (bd : badB ns = false) (dd : decB tag vv = false) : Calls Try.prog 36 #[.agg #[.int .i64 vt, .slice A ns.length c, .bool vb, .int .i64 tag, .int .i64 vv, .string vs]] w fun e w' => e = .returned (.bool r) ∧ Below w.heap.size w w' := by
  have E := Aside0.mk HE
  clear HE
  have C1 := Aside0.mk (fun o => contains_calls (w.alloc o) A c ns (Kd.C_alloc hC o) hl)
  have C2 := Aside0.mk (fun w => dec_calls w tag vv)
  subst v0
  have n1 : ¬ 0 < (ns.length : Int) := by omega
  subst hb
  have sz : ((vs.size : Nat) : Int) ≤ 65535 := by have := isEmpty_nil hs; omega
  have nm' : (ns.length : Int) ≤ 1000 := by omega
  obtain rfl : ns = [] := List.length_eq_zero_iff.mp nz
  simp only [List.length_nil] at *
  rw [bd] at C1
  rw [dd] at C2
  clear hC
  go_enter Try.func36, Try.ntmps36
  go_wp2_with (first | (go_at_call 45; (with_reducible refine (C1.out _).mono ?_); rintro e w1 ⟨rfl, ⟨nd, rfl⟩⟩) | (go_at_call 47; (with_reducible refine (C2.out _).mono ?_); rintro e w2 ⟨rfl, hb⟩; have hvs : w2.cell? ⟨w.heap.size, 5, none⟩ = some (.string vs) := pw_cell_below hb (by go_simp); have HB := Aside0.mk hb; clear hb))
  go_ret
  exact ⟨congrArg (fun b => Ending.returned (.bool b)) E.out.symm, below_step (by repeat (first | exact Below.refl _ _ | apply below_alloc | apply pw_below_drewN | apply below_drew1)) HB.out⟩
set_option maxRecDepth 100000 in
set_option maxHeartbeats 600000 in
theorem val_15 (w : World) (vt : Int) (A : Option Addr) (c : Nat) (ns : List Int) (vb : Bool) (tag vv : Int) (vs : ByteArray) (r : Bool) (hC : (Kd.int .i64).C w A ns.length ns) (hl : ns.length ≤ 9000000) (HE : r = true) (v0 : vt = 3) (nz : ns.length = 0) (hb : vb = false) (hs : vs.toList = []) (bd : badB ns = false) (dd : decB tag vv = true) : Calls Try.prog 36 #[.agg #[.int .i64 vt, .slice A ns.length c, .bool vb, .int .i64 tag, .int .i64 vv, .string vs]] w fun e w' => e = .returned (.bool r) ∧ Below w.heap.size w w' := by
  have E := Aside0.mk HE
  clear HE
  have C1 := Aside0.mk (fun o => contains_calls (w.alloc o) A c ns (Kd.C_alloc hC o) hl)
  have C2 := Aside0.mk (fun w => dec_calls w tag vv)
  subst v0
  have n1 : ¬ 0 < (ns.length : Int) := by omega
  subst hb
  have sz : ((vs.size : Nat) : Int) ≤ 65535 := by have := isEmpty_nil hs; omega
  have nm' : (ns.length : Int) ≤ 1000 := by omega
  obtain rfl : ns = [] := List.length_eq_zero_iff.mp nz
  simp only [List.length_nil] at *
  rw [bd] at C1
  rw [dd] at C2
  clear hC
  go_enter Try.func36, Try.ntmps36
  go_wp2_with (first | (go_at_call 45; (with_reducible refine (C1.out _).mono ?_); rintro e w1 ⟨rfl, ⟨nd, rfl⟩⟩) | (go_at_call 47; (with_reducible refine (C2.out _).mono ?_); rintro e w2 ⟨rfl, hb⟩; have hvs : w2.cell? ⟨w.heap.size, 5, none⟩ = some (.string vs) := pw_cell_below hb (by go_simp); have HB := Aside0.mk hb; clear hb))
  go_ret
  exact ⟨congrArg (fun b => Ending.returned (.bool b)) E.out.symm, below_step (by repeat (first | exact Below.refl _ _ | apply below_alloc | apply pw_below_drewN | apply below_drew1)) HB.out⟩
set_option maxRecDepth 100000 in
set_option maxHeartbeats 600000 in
theorem val_16 (w : World) (vt : Int) (A : Option Addr) (c : Nat) (ns : List Int) (vb : Bool) (tag vv : Int) (vs : ByteArray) (r : Bool) (hC : (Kd.int .i64).C w A ns.length ns) (hl : ns.length ≤ 9000000) (HE : r = false) (v0 : vt = 4) (np : 0 < ns.length) : Calls Try.prog 36 #[.agg #[.int .i64 vt, .slice A ns.length c, .bool vb, .int .i64 tag, .int .i64 vv, .string vs]] w fun e w' => e = .returned (.bool r) ∧ Below w.heap.size w w' := by
  have E := Aside0.mk HE
  clear HE
  subst v0
  have n1 : 0 < (ns.length : Int) := by omega
  clear hC
  go_enter Try.func36, Try.ntmps36
  go_wp2_with (first | fail)
  go_ret
  exact ⟨congrArg (fun b => Ending.returned (.bool b)) E.out.symm, by repeat (first | exact Below.refl _ _ | apply below_alloc | apply pw_below_drewN | apply below_drew1)⟩
set_option maxRecDepth 100000 in
set_option maxHeartbeats 600000 in
theorem val_17 (w : World) (vt : Int) (A : Option Addr) (c : Nat) (ns : List Int) (vb : Bool) (tag vv : Int) (vs : ByteArray) (r : Bool) (hC : (Kd.int .i64).C w A ns.length ns) (hl : ns.length ≤ 9000000) (HE : r = false) (v0 : vt = 4) (nz : ns.length = 0) (hb : vb = true) : Calls Try.prog 36 #[.agg #[.int .i64 vt, .slice A ns.length c, .bool vb, .int .i64 tag, .int .i64 vv, .string vs]] w fun e w' => e = .returned (.bool r) ∧ Below w.heap.size w w' := by
  have E := Aside0.mk HE
  clear HE
  subst v0
  have n1 : ¬ 0 < (ns.length : Int) := by omega
  subst hb
  clear hC
  go_enter Try.func36, Try.ntmps36
  go_wp2_with (first | fail)
  go_ret
  exact ⟨congrArg (fun b => Ending.returned (.bool b)) E.out.symm, by repeat (first | exact Below.refl _ _ | apply below_alloc | apply pw_below_drewN | apply below_drew1)⟩
set_option maxRecDepth 100000 in
set_option maxHeartbeats 600000 in
theorem val_18 (w : World) (vt : Int) (A : Option Addr) (c : Nat) (ns : List Int) (vb : Bool) (tag vv : Int) (vs : ByteArray) (r : Bool) (hC : (Kd.int .i64).C w A ns.length ns) (hl : ns.length ≤ 9000000) (HE : r = false) (v0 : vt = 4) (nz : ns.length = 0) (hb : vb = false) (hz : (tag == 0 && vv == 0) = false) : Calls Try.prog 36 #[.agg #[.int .i64 vt, .slice A ns.length c, .bool vb, .int .i64 tag, .int .i64 vv, .string vs]] w fun e w' => e = .returned (.bool r) ∧ Below w.heap.size w w' := by
  have E := Aside0.mk HE
  clear HE
  subst v0
  have n1 : ¬ 0 < (ns.length : Int) := by omega
  subst hb
  have qd : ∀ w, (binOp .neq 40 (.agg #[.int .i64 tag, .int .i64 vv]) (.agg #[.int .i64 0, .int .i64 0])).run Try.prog w = .ok (.bool true) w := fun w => by rw [eqDec, hz]; rfl
  clear hC
  go_enter Try.func36, Try.ntmps36
  go_wp2_with (first | fail)
  go_ret
  exact ⟨congrArg (fun b => Ending.returned (.bool b)) E.out.symm, by repeat (first | exact Below.refl _ _ | apply below_alloc | apply pw_below_drewN | apply below_drew1)⟩
set_option maxRecDepth 100000 in
set_option maxHeartbeats 600000 in
theorem val_19 (w : World) (vt : Int) (A : Option Addr) (c : Nat) (ns : List Int) (vb : Bool) (tag vv : Int) (vs : ByteArray) (r : Bool) (hC : (Kd.int .i64).C w A ns.length ns) (hl : ns.length ≤ 9000000) (HE : r = true) (v0 : vt = 4) (nz : ns.length = 0) (hb : vb = false) (h0 : tag = 0) (h1 : vv = 0) (bd : badB ns = false) (sl : vs.size ≤ 65535) : Calls Try.prog 36 #[.agg #[.int .i64 vt, .slice A ns.length c, .bool vb, .int .i64 tag, .int .i64 vv, .string vs]] w fun e w' => e = .returned (.bool r) ∧ Below w.heap.size w w' := by
  have E := Aside0.mk HE
  clear HE
  have C1 := Aside0.mk (fun o => contains_calls (w.alloc o) A c ns (Kd.C_alloc hC o) hl)
  have C2 := Aside0.mk (fun w => dec_calls w tag vv)
  subst v0
  have n1 : ¬ 0 < (ns.length : Int) := by omega
  subst hb
  subst h0 h1
  have qd : ∀ w, (binOp .neq 40 (.agg #[.int .i64 0, .int .i64 0]) (.agg #[.int .i64 0, .int .i64 0])).run Try.prog w = .ok (.bool false) w := fun w => by rw [eqDec]; rfl
  have nm' : (ns.length : Int) ≤ 1000 := by omega
  obtain rfl : ns = [] := List.length_eq_zero_iff.mp nz
  simp only [List.length_nil] at *
  rw [bd] at C1
  rw [show decB 0 0 = true from by decide] at C2
  have sl' : (vs.size : Int) ≤ 65535 := by omega
  clear hC
  go_enter Try.func36, Try.ntmps36
  go_wp2_with (first | (go_at_call 45; (with_reducible refine (C1.out _).mono ?_); rintro e w1 ⟨rfl, ⟨nd, rfl⟩⟩) | (go_at_call 47; (with_reducible refine (C2.out _).mono ?_); rintro e w2 ⟨rfl, hb⟩; have hvs : w2.cell? ⟨w.heap.size, 5, none⟩ = some (.string vs) := pw_cell_below hb (by go_simp); have HB := Aside0.mk hb; clear hb))
  go_ret
  exact ⟨congrArg (fun b => Ending.returned (.bool b)) E.out.symm, below_step (by repeat (first | exact Below.refl _ _ | apply below_alloc | apply pw_below_drewN | apply below_drew1)) HB.out⟩
set_option maxRecDepth 100000 in
set_option maxHeartbeats 600000 in
theorem val_20 (w : World) (vt : Int) (A : Option Addr) (c : Nat) (ns : List Int) (vb : Bool) (tag vv : Int) (vs : ByteArray) (r : Bool) (hC : (Kd.int .i64).C w A ns.length ns) (hl : ns.length ≤ 9000000) (HE : r = false) (v0 : vt = 4) (nz : ns.length = 0) (hb : vb = false) (h0 : tag = 0) (h1 : vv = 0) (bd : badB ns = false) (sl : 65535 < vs.size) : Calls Try.prog 36 #[.agg #[.int .i64 vt, .slice A ns.length c, .bool vb, .int .i64 tag, .int .i64 vv, .string vs]] w fun e w' => e = .returned (.bool r) ∧ Below w.heap.size w w' := by
  have E := Aside0.mk HE
  clear HE
  have C1 := Aside0.mk (fun o => contains_calls (w.alloc o) A c ns (Kd.C_alloc hC o) hl)
  have C2 := Aside0.mk (fun w => dec_calls w tag vv)
  subst v0
  have n1 : ¬ 0 < (ns.length : Int) := by omega
  subst hb
  subst h0 h1
  have qd : ∀ w, (binOp .neq 40 (.agg #[.int .i64 0, .int .i64 0]) (.agg #[.int .i64 0, .int .i64 0])).run Try.prog w = .ok (.bool false) w := fun w => by rw [eqDec]; rfl
  have nm' : (ns.length : Int) ≤ 1000 := by omega
  obtain rfl : ns = [] := List.length_eq_zero_iff.mp nz
  simp only [List.length_nil] at *
  rw [bd] at C1
  rw [show decB 0 0 = true from by decide] at C2
  have E := Aside0.mk (show r = decide ((vs.size : Int) ≤ 65535) by rw [E.out]; symm; simp; omega)
  clear hC
  go_enter Try.func36, Try.ntmps36
  go_wp2_with (first | (go_at_call 45; (with_reducible refine (C1.out _).mono ?_); rintro e w1 ⟨rfl, ⟨nd, rfl⟩⟩) | (go_at_call 47; (with_reducible refine (C2.out _).mono ?_); rintro e w2 ⟨rfl, hb⟩; have hvs : w2.cell? ⟨w.heap.size, 5, none⟩ = some (.string vs) := pw_cell_below hb (by go_simp); have HB := Aside0.mk hb; clear hb))
  go_ret
  exact ⟨congrArg (fun b => Ending.returned (.bool b)) E.out.symm, below_step (by repeat (first | exact Below.refl _ _ | apply below_alloc | apply pw_below_drewN | apply below_drew1)) HB.out⟩
set_option maxRecDepth 100000 in
set_option maxHeartbeats 600000 in
theorem val_21 (w : World) (vt : Int) (A : Option Addr) (c : Nat) (ns : List Int) (vb : Bool) (tag vv : Int) (vs : ByteArray) (r : Bool) (hC : (Kd.int .i64).C w A ns.length ns) (hl : ns.length ≤ 9000000) (HE : r = false) (v1 : ¬ vt = 1) (v2 : ¬ vt = 2) (v3 : ¬ vt = 3) (v4 : ¬ vt = 4) (np : 0 < ns.length) : Calls Try.prog 36 #[.agg #[.int .i64 vt, .slice A ns.length c, .bool vb, .int .i64 tag, .int .i64 vv, .string vs]] w fun e w' => e = .returned (.bool r) ∧ Below w.heap.size w w' := by
  have E := Aside0.mk HE
  clear HE
  have d1 : (vt != 1) = true := by simp; exact v1
  have d2 : (vt != 2) = true := by simp; exact v2
  have d3 : (vt != 3) = true := by simp; exact v3
  have d4 : (vt != 4) = true := by simp; exact v4
  have n1 : 0 < (ns.length : Int) := by omega
  clear hC
  go_enter Try.func36, Try.ntmps36
  go_wp2_with (first | fail)
  go_ret
  exact ⟨congrArg (fun b => Ending.returned (.bool b)) E.out.symm, by repeat (first | exact Below.refl _ _ | apply below_alloc | apply pw_below_drewN | apply below_drew1)⟩
set_option maxRecDepth 100000 in
set_option maxHeartbeats 600000 in
theorem val_22 (w : World) (vt : Int) (A : Option Addr) (c : Nat) (ns : List Int) (vb : Bool) (tag vv : Int) (vs : ByteArray) (r : Bool) (hC : (Kd.int .i64).C w A ns.length ns) (hl : ns.length ≤ 9000000) (HE : r = false) (v1 : ¬ vt = 1) (v2 : ¬ vt = 2) (v3 : ¬ vt = 3) (v4 : ¬ vt = 4) (nz : ns.length = 0) (hb : vb = true) : Calls Try.prog 36 #[.agg #[.int .i64 vt, .slice A ns.length c, .bool vb, .int .i64 tag, .int .i64 vv, .string vs]] w fun e w' => e = .returned (.bool r) ∧ Below w.heap.size w w' := by
  have E := Aside0.mk HE
  clear HE
  have d1 : (vt != 1) = true := by simp; exact v1
  have d2 : (vt != 2) = true := by simp; exact v2
  have d3 : (vt != 3) = true := by simp; exact v3
  have d4 : (vt != 4) = true := by simp; exact v4
  have n1 : ¬ 0 < (ns.length : Int) := by omega
  subst hb
  clear hC
  go_enter Try.func36, Try.ntmps36
  go_wp2_with (first | fail)
  go_ret
  exact ⟨congrArg (fun b => Ending.returned (.bool b)) E.out.symm, by repeat (first | exact Below.refl _ _ | apply below_alloc | apply pw_below_drewN | apply below_drew1)⟩
set_option maxRecDepth 100000 in
set_option maxHeartbeats 600000 in
theorem val_23 (w : World) (vt : Int) (A : Option Addr) (c : Nat) (ns : List Int) (vb : Bool) (tag vv : Int) (vs : ByteArray) (r : Bool) (hC : (Kd.int .i64).C w A ns.length ns) (hl : ns.length ≤ 9000000) (HE : r = false) (v1 : ¬ vt = 1) (v2 : ¬ vt = 2) (v3 : ¬ vt = 3) (v4 : ¬ vt = 4) (nz : ns.length = 0) (hb : vb = false) (hz : (tag == 0 && vv == 0) = false) : Calls Try.prog 36 #[.agg #[.int .i64 vt, .slice A ns.length c, .bool vb, .int .i64 tag, .int .i64 vv, .string vs]] w fun e w' => e = .returned (.bool r) ∧ Below w.heap.size w w' := by
  have E := Aside0.mk HE
  clear HE
  have d1 : (vt != 1) = true := by simp; exact v1
  have d2 : (vt != 2) = true := by simp; exact v2
  have d3 : (vt != 3) = true := by simp; exact v3
  have d4 : (vt != 4) = true := by simp; exact v4
  have n1 : ¬ 0 < (ns.length : Int) := by omega
  subst hb
  have qd : ∀ w, (binOp .neq 40 (.agg #[.int .i64 tag, .int .i64 vv]) (.agg #[.int .i64 0, .int .i64 0])).run Try.prog w = .ok (.bool true) w := fun w => by rw [eqDec, hz]; rfl
  clear hC
  go_enter Try.func36, Try.ntmps36
  go_wp2_with (first | fail)
  go_ret
  exact ⟨congrArg (fun b => Ending.returned (.bool b)) E.out.symm, by repeat (first | exact Below.refl _ _ | apply below_alloc | apply pw_below_drewN | apply below_drew1)⟩
set_option maxRecDepth 100000 in
set_option maxHeartbeats 600000 in
theorem val_24 (w : World) (vt : Int) (A : Option Addr) (c : Nat) (ns : List Int) (vb : Bool) (tag vv : Int) (vs : ByteArray) (r : Bool) (hC : (Kd.int .i64).C w A ns.length ns) (hl : ns.length ≤ 9000000) (HE : r = false) (v1 : ¬ vt = 1) (v2 : ¬ vt = 2) (v3 : ¬ vt = 3) (v4 : ¬ vt = 4) (nz : ns.length = 0) (hb : vb = false) (h0 : tag = 0) (h1 : vv = 0) (hs : ¬ vs.toList = []) : Calls Try.prog 36 #[.agg #[.int .i64 vt, .slice A ns.length c, .bool vb, .int .i64 tag, .int .i64 vv, .string vs]] w fun e w' => e = .returned (.bool r) ∧ Below w.heap.size w w' := by
  have E := Aside0.mk HE
  clear HE
  have d1 : (vt != 1) = true := by simp; exact v1
  have d2 : (vt != 2) = true := by simp; exact v2
  have d3 : (vt != 3) = true := by simp; exact v3
  have d4 : (vt != 4) = true := by simp; exact v4
  have n1 : ¬ 0 < (ns.length : Int) := by omega
  subst hb
  subst h0 h1
  have qd : ∀ w, (binOp .neq 40 (.agg #[.int .i64 0, .int .i64 0]) (.agg #[.int .i64 0, .int .i64 0])).run Try.prog w = .ok (.bool false) w := fun w => by rw [eqDec]; rfl
  have hs2 : (!vs.toList.isEmpty) = true := by simpa using hs
  clear hC
  go_enter Try.func36, Try.ntmps36
  go_wp2_with (first | fail)
  go_ret
  exact ⟨congrArg (fun b => Ending.returned (.bool b)) E.out.symm, by repeat (first | exact Below.refl _ _ | apply below_alloc | apply pw_below_drewN | apply below_drew1)⟩
set_option maxRecDepth 100000 in
set_option maxHeartbeats 600000 in
theorem val_25 (w : World) (vt : Int) (A : Option Addr) (c : Nat) (ns : List Int) (vb : Bool) (tag vv : Int) (vs : ByteArray) (r : Bool) (hC : (Kd.int .i64).C w A ns.length ns) (hl : ns.length ≤ 9000000) (HE : r = false) (v1 : ¬ vt = 1) (v2 : ¬ vt = 2) (v3 : ¬ vt = 3) (v4 : ¬ vt = 4) (nz : ns.length = 0) (hb : vb = false) (h0 : tag = 0) (h1 : vv = 0) (hs : vs.toList = []) (lo : vt < 0) : Calls Try.prog 36 #[.agg #[.int .i64 vt, .slice A ns.length c, .bool vb, .int .i64 tag, .int .i64 vv, .string vs]] w fun e w' => e = .returned (.bool r) ∧ Below w.heap.size w w' := by
  have E := Aside0.mk HE
  clear HE
  have d1 : (vt != 1) = true := by simp; exact v1
  have d2 : (vt != 2) = true := by simp; exact v2
  have d3 : (vt != 3) = true := by simp; exact v3
  have d4 : (vt != 4) = true := by simp; exact v4
  have n1 : ¬ 0 < (ns.length : Int) := by omega
  subst hb
  subst h0 h1
  have qd : ∀ w, (binOp .neq 40 (.agg #[.int .i64 0, .int .i64 0]) (.agg #[.int .i64 0, .int .i64 0])).run Try.prog w = .ok (.bool false) w := fun w => by rw [eqDec]; rfl
  have sz : ((vs.size : Nat) : Int) ≤ 65535 := by have := isEmpty_nil hs; omega
  have lo' : ¬ 0 ≤ vt := by omega
  clear lo
  clear hC
  go_enter Try.func36, Try.ntmps36
  go_wp2_with (first | fail)
  go_ret
  exact ⟨congrArg (fun b => Ending.returned (.bool b)) E.out.symm, by repeat (first | exact Below.refl _ _ | apply below_alloc | apply pw_below_drewN | apply below_drew1)⟩
set_option maxRecDepth 100000 in
set_option maxHeartbeats 600000 in
theorem val_26 (w : World) (vt : Int) (A : Option Addr) (c : Nat) (ns : List Int) (vb : Bool) (tag vv : Int) (vs : ByteArray) (r : Bool) (hC : (Kd.int .i64).C w A ns.length ns) (hl : ns.length ≤ 9000000) (HE : r = false) (v1 : ¬ vt = 1) (v2 : ¬ vt = 2) (v3 : ¬ vt = 3) (v4 : ¬ vt = 4) (nz : ns.length = 0) (hb : vb = false) (h0 : tag = 0) (h1 : vv = 0) (hs : vs.toList = []) (hi : 4 < vt) : Calls Try.prog 36 #[.agg #[.int .i64 vt, .slice A ns.length c, .bool vb, .int .i64 tag, .int .i64 vv, .string vs]] w fun e w' => e = .returned (.bool r) ∧ Below w.heap.size w w' := by
  have E := Aside0.mk HE
  clear HE
  have d1 : (vt != 1) = true := by simp; exact v1
  have d2 : (vt != 2) = true := by simp; exact v2
  have d3 : (vt != 3) = true := by simp; exact v3
  have d4 : (vt != 4) = true := by simp; exact v4
  have n1 : ¬ 0 < (ns.length : Int) := by omega
  subst hb
  subst h0 h1
  have qd : ∀ w, (binOp .neq 40 (.agg #[.int .i64 0, .int .i64 0]) (.agg #[.int .i64 0, .int .i64 0])).run Try.prog w = .ok (.bool false) w := fun w => by rw [eqDec]; rfl
  have sz : ((vs.size : Nat) : Int) ≤ 65535 := by have := isEmpty_nil hs; omega
  have hi' : ¬ vt ≤ 4 := by omega
  have lo' : 0 ≤ vt := by omega
  clear hi
  clear hC
  go_enter Try.func36, Try.ntmps36
  go_wp2_with (first | fail)
  go_ret
  exact ⟨congrArg (fun b => Ending.returned (.bool b)) E.out.symm, by repeat (first | exact Below.refl _ _ | apply below_alloc | apply pw_below_drewN | apply below_drew1)⟩
set_option maxRecDepth 100000 in
set_option maxHeartbeats 600000 in
theorem val_27 (w : World) (vt : Int) (A : Option Addr) (c : Nat) (ns : List Int) (vb : Bool) (tag vv : Int) (vs : ByteArray) (r : Bool) (hC : (Kd.int .i64).C w A ns.length ns) (hl : ns.length ≤ 9000000) (HE : r = true) (v1 : ¬ vt = 1) (v2 : ¬ vt = 2) (v3 : ¬ vt = 3) (v4 : ¬ vt = 4) (nz : ns.length = 0) (hb : vb = false) (h0 : tag = 0) (h1 : vv = 0) (hs : vs.toList = []) (lo : 0 ≤ vt) (hi : vt ≤ 4) (bd : badB ns = false) : Calls Try.prog 36 #[.agg #[.int .i64 vt, .slice A ns.length c, .bool vb, .int .i64 tag, .int .i64 vv, .string vs]] w fun e w' => e = .returned (.bool r) ∧ Below w.heap.size w w' := by
  have E := Aside0.mk HE
  clear HE
  have C1 := Aside0.mk (fun o => contains_calls (w.alloc o) A c ns (Kd.C_alloc hC o) hl)
  have C2 := Aside0.mk (fun w => dec_calls w tag vv)
  have d1 : (vt != 1) = true := by simp; exact v1
  have d2 : (vt != 2) = true := by simp; exact v2
  have d3 : (vt != 3) = true := by simp; exact v3
  have d4 : (vt != 4) = true := by simp; exact v4
  have n1 : ¬ 0 < (ns.length : Int) := by omega
  subst hb
  subst h0 h1
  have qd : ∀ w, (binOp .neq 40 (.agg #[.int .i64 0, .int .i64 0]) (.agg #[.int .i64 0, .int .i64 0])).run Try.prog w = .ok (.bool false) w := fun w => by rw [eqDec]; rfl
  have sz : ((vs.size : Nat) : Int) ≤ 65535 := by have := isEmpty_nil hs; omega
  have nm' : (ns.length : Int) ≤ 1000 := by omega
  obtain rfl : ns = [] := List.length_eq_zero_iff.mp nz
  simp only [List.length_nil] at *
  rw [bd] at C1
  rw [show decB 0 0 = true from by decide] at C2
  clear hC
  go_enter Try.func36, Try.ntmps36
  go_wp2_with (first | (go_at_call 45; (with_reducible refine (C1.out _).mono ?_); rintro e w1 ⟨rfl, ⟨nd, rfl⟩⟩) | (go_at_call 47; (with_reducible refine (C2.out _).mono ?_); rintro e w2 ⟨rfl, hb⟩; have hvs : w2.cell? ⟨w.heap.size, 5, none⟩ = some (.string vs) := pw_cell_below hb (by go_simp); have HB := Aside0.mk hb; clear hb))
  go_ret
  exact ⟨congrArg (fun b => Ending.returned (.bool b)) E.out.symm, below_step (by repeat (first | exact Below.refl _ _ | apply below_alloc | apply pw_below_drewN | apply below_drew1)) HB.out⟩
/-- What value answers. -/
def valB (vt : Int) (ns : List Int) (vb : Bool) (tag vv : Int) (vs : ByteArray) : Bool := valueB vt ns.length vb tag vv vs.size (badB ns) (decB tag vv)
theorem value_calls (w : World) (vt : Int) (A : Option Addr) (c : Nat) (ns : List Int) (vb : Bool) (tag vv : Int) (vs : ByteArray) (hC : (Kd.int .i64).C w A ns.length ns) (hl : ns.length ≤ 9000000) : Calls Try.prog 36 #[.agg #[.int .i64 vt, .slice A ns.length c, .bool vb, .int .i64 tag, .int .i64 vv, .string vs]] w fun e w' => e = .returned (.bool (valB vt ns vb tag vv vs)) ∧ Below w.heap.size w w' := by
  have hbe : ns.length = 0 → badB ns = false := fun h => by rw [List.length_eq_zero_iff.mp h]; rfl
  have hde : decB 0 0 = true := by decide
  by_cases v0 : vt = 1
  · skip
    by_cases hb : vb = true
    case pos => exact val_1 w vt A c ns vb tag vv vs _ hC hl (by simp [valB, valueB, *]) v0 hb
    have hb := eq_false_of_ne_true hb
    by_cases hz : tag = 0 ∧ vv = 0
    case neg => exact val_2 w vt A c ns vb tag vv vs _ hC hl (by simp only [valB, valueB, ]; simp [hz, *]) v0 hb (by rw [Bool.eq_false_iff]; simpa using hz)
    obtain ⟨h0, h1⟩ := hz
    by_cases hs : vs.size = 0
    case neg => exact val_3 w vt A c ns vb tag vv vs _ hC hl (by simp [valB, valueB, *]) v0 hb h0 h1 (size_ne vs hs)
    by_cases nm : 1000 < ns.length
    case pos => exact val_4 w vt A c ns vb tag vv vs _ hC hl (by simp [valB, valueB, *]) v0 hb h0 h1 (size_nil vs hs) nm
    by_cases bd : badB ns = true
    case pos => exact val_5 w vt A c ns vb tag vv vs _ hC hl (by simp [valB, valueB, *]) v0 hb h0 h1 (size_nil vs hs) (by omega) bd
    have bd := eq_false_of_ne_true bd
    exact val_6 w vt A c ns vb tag vv vs _ hC hl (by simp [valB, valueB, *]) v0 hb h0 h1 (size_nil vs hs) (by omega) bd
  have v1 := v0
  clear v0
  by_cases v0 : vt = 2
  · skip
    by_cases nz : ns.length = 0
    case neg => exact val_7 w vt A c ns vb tag vv vs _ hC hl (by simp [valB, valueB, *]) v0 (by omega)
    have bd := hbe nz
    by_cases hz : tag = 0 ∧ vv = 0
    case neg => exact val_8 w vt A c ns vb tag vv vs _ hC hl (by simp only [valB, valueB, ]; simp [hz, *]) v0 nz (by rw [Bool.eq_false_iff]; simpa using hz)
    obtain ⟨h0, h1⟩ := hz
    by_cases hs : vs.size = 0
    case neg => exact val_9 w vt A c ns vb tag vv vs _ hC hl (by simp [valB, valueB, *]) v0 nz h0 h1 (size_ne vs hs)
    exact val_10 w vt A c ns vb tag vv vs _ hC hl (by simp [valB, valueB, *]) v0 nz h0 h1 (size_nil vs hs) bd
  have v2 := v0
  clear v0
  by_cases v0 : vt = 3
  · skip
    by_cases nz : ns.length = 0
    case neg => exact val_11 w vt A c ns vb tag vv vs _ hC hl (by simp [valB, valueB, *]) v0 (by omega)
    have bd := hbe nz
    by_cases hb : vb = true
    case pos => exact val_12 w vt A c ns vb tag vv vs _ hC hl (by simp [valB, valueB, *]) v0 nz hb
    have hb := eq_false_of_ne_true hb
    by_cases hs : vs.size = 0
    case neg => exact val_13 w vt A c ns vb tag vv vs _ hC hl (by simp [valB, valueB, *]) v0 nz hb (size_ne vs hs)
    by_cases dd : decB tag vv = true
    case pos => exact val_15 w vt A c ns vb tag vv vs _ hC hl (by simp [valB, valueB, *]) v0 nz hb (size_nil vs hs) bd dd
    have dd := eq_false_of_ne_true dd
    exact val_14 w vt A c ns vb tag vv vs _ hC hl (by simp [valB, valueB, *]) v0 nz hb (size_nil vs hs) bd dd
  have v3 := v0
  clear v0
  by_cases v0 : vt = 4
  · skip
    by_cases nz : ns.length = 0
    case neg => exact val_16 w vt A c ns vb tag vv vs _ hC hl (by simp [valB, valueB, *]) v0 (by omega)
    have bd := hbe nz
    by_cases hb : vb = true
    case pos => exact val_17 w vt A c ns vb tag vv vs _ hC hl (by simp [valB, valueB, *]) v0 nz hb
    have hb := eq_false_of_ne_true hb
    by_cases hz : tag = 0 ∧ vv = 0
    case neg => exact val_18 w vt A c ns vb tag vv vs _ hC hl (by simp only [valB, valueB, ]; simp [hz, *]) v0 nz hb (by rw [Bool.eq_false_iff]; simpa using hz)
    obtain ⟨h0, h1⟩ := hz
    by_cases sl : vs.size ≤ 65535
    case pos => exact val_19 w vt A c ns vb tag vv vs _ hC hl (by simp [valB, valueB, *]) v0 nz hb h0 h1 bd sl
    exact val_20 w vt A c ns vb tag vv vs _ hC hl (by simp [valB, valueB, *]) v0 nz hb h0 h1 bd (by omega)
  have v4 := v0
  clear v0
  · skip
    by_cases nz : ns.length = 0
    case neg => exact val_21 w vt A c ns vb tag vv vs _ hC hl (by simp [valB, valueB, *]) v1 v2 v3 v4 (by omega)
    have bd := hbe nz
    by_cases hb : vb = true
    case pos => exact val_22 w vt A c ns vb tag vv vs _ hC hl (by simp [valB, valueB, *]) v1 v2 v3 v4 nz hb
    have hb := eq_false_of_ne_true hb
    by_cases hz : tag = 0 ∧ vv = 0
    case neg => exact val_23 w vt A c ns vb tag vv vs _ hC hl (by simp only [valB, valueB, ]; simp [hz, *]) v1 v2 v3 v4 nz hb (by rw [Bool.eq_false_iff]; simpa using hz)
    obtain ⟨h0, h1⟩ := hz
    by_cases hs : vs.size = 0
    case neg => exact val_24 w vt A c ns vb tag vv vs _ hC hl (by simp [valB, valueB, *]) v1 v2 v3 v4 nz hb h0 h1 (size_ne vs hs)
    by_cases lo : vt < 0
    case pos => exact val_25 w vt A c ns vb tag vv vs _ hC hl (by simp [valB, valueB, *]) v1 v2 v3 v4 nz hb h0 h1 (size_nil vs hs) lo
    by_cases hi : 4 < vt
    case pos => exact val_26 w vt A c ns vb tag vv vs _ hC hl (by simp [valB, valueB, *]) v1 v2 v3 v4 nz hb h0 h1 (size_nil vs hs) hi
    exact val_27 w vt A c ns vb tag vv vs _ hC hl (by simp [valB, valueB, *]) v1 v2 v3 v4 nz hb h0 h1 (size_nil vs hs) (by omega) (by omega) bd
end Go.Proofs.Ythkdihpbdaehbaa.Pr
namespace Go.Proofs.Ythkdihpbdaehbaa.Pr
set_option linter.unusedVariables false
set_option linter.unusedSimpArgs false
open Go.RowKit Go.Proofs.YthkdihpbdaehbaaW.PrintWords Go.Proofs.YthkdihpbdaehbaaW.PrintLast Go.Proofs.YthkdihpbdaehbaaW.PrintMore Go.Proofs.Ythkdihpbdaehbaa.Bs
/-- May a reply be? -/
def rightRepB (r : Rp) : Bool := if r.kind < 0 then false else if 6 < r.kind then false else if r.err < 0 then false else if 65535 < r.err then false else if fitsB r.txn = false then false else if fitsB r.id = false then false else if 65535 < r.s.size then false else valB r.vt r.nodes r.vb r.tag r.vv r.vs
set_option maxRecDepth 100000 in
set_option maxHeartbeats 600000 in
theorem rrep_1 (w : World) (k er tx id ti vt : Int) (A : Option Addr) (c : Nat) (ns : List Int) (vb : Bool) (tag vv : Int) (vs s : ByteArray) (r : Bool) (hC : (Kd.int .i64).C w A ns.length ns) (hl : ns.length ≤ 9000000) (HE : r = false) (k0 : k < 0) : Calls Try.prog 19 #[.agg #[.int .i64 k, .int .i64 er, .int .i64 tx, .int .i64 id, .int .u64 ti, .int .i64 vt, .slice A ns.length c, .bool vb, .int .i64 tag, .int .i64 vv, .string vs, .string s]] w fun e w' => e = .returned (.bool r) ∧ Below w.heap.size w w' := by
  have E := Aside0.mk HE
  clear HE
  have k0' : ¬ 0 ≤ k := by omega
  clear k0
  clear hC
  go_enter Try.func19, Try.ntmps19
  go_wp2_with (first | fail)
  go_ret
  exact ⟨congrArg (fun b => Ending.returned (.bool b)) E.out.symm, by repeat (first | exact Below.refl _ _ | apply below_alloc | apply pw_below_drewN | apply below_drew1)⟩
set_option maxRecDepth 100000 in
set_option maxHeartbeats 600000 in
theorem rrep_2 (w : World) (k er tx id ti vt : Int) (A : Option Addr) (c : Nat) (ns : List Int) (vb : Bool) (tag vv : Int) (vs s : ByteArray) (r : Bool) (hC : (Kd.int .i64).C w A ns.length ns) (hl : ns.length ≤ 9000000) (HE : r = false) (k0 : 0 ≤ k) (k6 : 6 < k) : Calls Try.prog 19 #[.agg #[.int .i64 k, .int .i64 er, .int .i64 tx, .int .i64 id, .int .u64 ti, .int .i64 vt, .slice A ns.length c, .bool vb, .int .i64 tag, .int .i64 vv, .string vs, .string s]] w fun e w' => e = .returned (.bool r) ∧ Below w.heap.size w w' := by
  have E := Aside0.mk HE
  clear HE
  have k6' : ¬ k ≤ 6 := by omega
  clear k6
  clear hC
  go_enter Try.func19, Try.ntmps19
  go_wp2_with (first | fail)
  go_ret
  exact ⟨congrArg (fun b => Ending.returned (.bool b)) E.out.symm, by repeat (first | exact Below.refl _ _ | apply below_alloc | apply pw_below_drewN | apply below_drew1)⟩
set_option maxRecDepth 100000 in
set_option maxHeartbeats 600000 in
theorem rrep_3 (w : World) (k er tx id ti vt : Int) (A : Option Addr) (c : Nat) (ns : List Int) (vb : Bool) (tag vv : Int) (vs s : ByteArray) (r : Bool) (hC : (Kd.int .i64).C w A ns.length ns) (hl : ns.length ≤ 9000000) (HE : r = false) (k0 : 0 ≤ k) (k6 : k ≤ 6) (e0 : er < 0) : Calls Try.prog 19 #[.agg #[.int .i64 k, .int .i64 er, .int .i64 tx, .int .i64 id, .int .u64 ti, .int .i64 vt, .slice A ns.length c, .bool vb, .int .i64 tag, .int .i64 vv, .string vs, .string s]] w fun e w' => e = .returned (.bool r) ∧ Below w.heap.size w w' := by
  have E := Aside0.mk HE
  clear HE
  have e0' : ¬ 0 ≤ er := by omega
  clear e0
  clear hC
  go_enter Try.func19, Try.ntmps19
  go_wp2_with (first | fail)
  go_ret
  exact ⟨congrArg (fun b => Ending.returned (.bool b)) E.out.symm, by repeat (first | exact Below.refl _ _ | apply below_alloc | apply pw_below_drewN | apply below_drew1)⟩
set_option maxRecDepth 100000 in
set_option maxHeartbeats 600000 in
theorem rrep_4 (w : World) (k er tx id ti vt : Int) (A : Option Addr) (c : Nat) (ns : List Int) (vb : Bool) (tag vv : Int) (vs s : ByteArray) (r : Bool) (hC : (Kd.int .i64).C w A ns.length ns) (hl : ns.length ≤ 9000000) (HE : r = false) (k0 : 0 ≤ k) (k6 : k ≤ 6) (e0 : 0 ≤ er) (e6 : 65535 < er) : Calls Try.prog 19 #[.agg #[.int .i64 k, .int .i64 er, .int .i64 tx, .int .i64 id, .int .u64 ti, .int .i64 vt, .slice A ns.length c, .bool vb, .int .i64 tag, .int .i64 vv, .string vs, .string s]] w fun e w' => e = .returned (.bool r) ∧ Below w.heap.size w w' := by
  have E := Aside0.mk HE
  clear HE
  have e6' : ¬ er ≤ 65535 := by omega
  clear e6
  clear hC
  go_enter Try.func19, Try.ntmps19
  go_wp2_with (first | fail)
  go_ret
  exact ⟨congrArg (fun b => Ending.returned (.bool b)) E.out.symm, by repeat (first | exact Below.refl _ _ | apply below_alloc | apply pw_below_drewN | apply below_drew1)⟩
set_option maxRecDepth 100000 in
set_option maxHeartbeats 600000 in
theorem rrep_5 (w : World) (k er tx id ti vt : Int) (A : Option Addr) (c : Nat) (ns : List Int) (vb : Bool) (tag vv : Int) (vs s : ByteArray) (r : Bool) (hC : (Kd.int .i64).C w A ns.length ns) (hl : ns.length ≤ 9000000) (HE : r = false) (k0 : 0 ≤ k) (k6 : k ≤ 6) (e0 : 0 ≤ er) (e6 : er ≤ 65535) (ft : fitsB tx = false) : Calls Try.prog 19 #[.agg #[.int .i64 k, .int .i64 er, .int .i64 tx, .int .i64 id, .int .u64 ti, .int .i64 vt, .slice A ns.length c, .bool vb, .int .i64 tag, .int .i64 vv, .string vs, .string s]] w fun e w' => e = .returned (.bool r) ∧ Below w.heap.size w w' := by
  have E := Aside0.mk HE
  clear HE
  have C1 := Aside0.mk (fun w => fits_calls w tx)
  rw [ft] at C1
  clear hC
  go_enter Try.func19, Try.ntmps19
  go_wp2_with (first | (go_at_call 25; (with_reducible refine (C1.out _).mono ?_); rintro e w1 ⟨rfl, ⟨nd, rfl⟩⟩))
  go_ret
  exact ⟨congrArg (fun b => Ending.returned (.bool b)) E.out.symm, by repeat (first | exact Below.refl _ _ | apply below_alloc | apply pw_below_drewN | apply below_drew1)⟩
set_option maxRecDepth 100000 in
set_option maxHeartbeats 600000 in
theorem rrep_6 (w : World) (k er tx id ti vt : Int) (A : Option Addr) (c : Nat) (ns : List Int) (vb : Bool) (tag vv : Int) (vs s : ByteArray) (r : Bool) (hC : (Kd.int .i64).C w A ns.length ns) (hl : ns.length ≤ 9000000) (HE : r = false) (k0 : 0 ≤ k) (k6 : k ≤ 6) (e0 : 0 ≤ er) (e6 : er ≤ 65535) (ft : fitsB tx = true) (fi : fitsB id = false) : Calls Try.prog 19 #[.agg #[.int .i64 k, .int .i64 er, .int .i64 tx, .int .i64 id, .int .u64 ti, .int .i64 vt, .slice A ns.length c, .bool vb, .int .i64 tag, .int .i64 vv, .string vs, .string s]] w fun e w' => e = .returned (.bool r) ∧ Below w.heap.size w w' := by
  have E := Aside0.mk HE
  clear HE
  have C1 := Aside0.mk (fun w => fits_calls w tx)
  have C2 := Aside0.mk (fun w => fits_calls w id)
  rw [ft] at C1
  rw [fi] at C2
  clear hC
  go_enter Try.func19, Try.ntmps19
  go_wp2_with (first | (go_at_call 25; (with_reducible refine (C1.out _).mono ?_); rintro e w1 ⟨rfl, ⟨nd, rfl⟩⟩) | (go_at_call 25; (with_reducible refine (C2.out _).mono ?_); rintro e w1 ⟨rfl, ⟨nd, rfl⟩⟩))
  go_ret
  exact ⟨congrArg (fun b => Ending.returned (.bool b)) E.out.symm, by repeat (first | exact Below.refl _ _ | apply below_alloc | apply pw_below_drewN | apply below_drew1)⟩
set_option maxRecDepth 100000 in
set_option maxHeartbeats 600000 in
theorem rrep_7 (w : World) (k er tx id ti vt : Int) (A : Option Addr) (c : Nat) (ns : List Int) (vb : Bool) (tag vv : Int) (vs s : ByteArray) (r : Bool) (hC : (Kd.int .i64).C w A ns.length ns) (hl : ns.length ≤ 9000000) (HE : r = false) (k0 : 0 ≤ k) (k6 : k ≤ 6) (e0 : 0 ≤ er) (e6 : er ≤ 65535) (ft : fitsB tx = true) (fi : fitsB id = true) (ss : 65535 < s.size) : Calls Try.prog 19 #[.agg #[.int .i64 k, .int .i64 er, .int .i64 tx, .int .i64 id, .int .u64 ti, .int .i64 vt, .slice A ns.length c, .bool vb, .int .i64 tag, .int .i64 vv, .string vs, .string s]] w fun e w' => e = .returned (.bool r) ∧ Below w.heap.size w w' := by
  have E := Aside0.mk HE
  clear HE
  have C1 := Aside0.mk (fun w => fits_calls w tx)
  have C2 := Aside0.mk (fun w => fits_calls w id)
  rw [ft] at C1
  rw [fi] at C2
  have ss' : ¬ (s.size : Int) ≤ 65535 := by omega
  clear hC
  go_enter Try.func19, Try.ntmps19
  go_wp2_with (first | (go_at_call 25; (with_reducible refine (C1.out _).mono ?_); rintro e w1 ⟨rfl, ⟨nd, rfl⟩⟩) | (go_at_call 25; (with_reducible refine (C2.out _).mono ?_); rintro e w1 ⟨rfl, ⟨nd, rfl⟩⟩))
  go_ret
  exact ⟨congrArg (fun b => Ending.returned (.bool b)) E.out.symm, by repeat (first | exact Below.refl _ _ | apply below_alloc | apply pw_below_drewN | apply below_drew1)⟩
set_option maxRecDepth 100000 in
set_option maxHeartbeats 600000 in
theorem rrep_8 (w : World) (k er tx id ti vt : Int) (A : Option Addr) (c : Nat) (ns : List Int) (vb : Bool) (tag vv : Int) (vs s : ByteArray) (r : Bool) (hC : (Kd.int .i64).C w A ns.length ns) (hl : ns.length ≤ 9000000) (HE : r = valB vt ns vb tag vv vs) (k0 : 0 ≤ k) (k6 : k ≤ 6) (e0 : 0 ≤ er) (e6 : er ≤ 65535) (ft : fitsB tx = true) (fi : fitsB id = true) (ss : s.size ≤ 65535) : Calls Try.prog 19 #[.agg #[.int .i64 k, .int .i64 er, .int .i64 tx, .int .i64 id, .int .u64 ti, .int .i64 vt, .slice A ns.length c, .bool vb, .int .i64 tag, .int .i64 vv, .string vs, .string s]] w fun e w' => e = .returned (.bool r) ∧ Below w.heap.size w w' := by
  have E := Aside0.mk HE
  clear HE
  have C1 := Aside0.mk (fun w => fits_calls w tx)
  have C2 := Aside0.mk (fun w => fits_calls w id)
  have C3 := Aside0.mk (fun W (hW : Below w.heap.size w W) => value_calls W vt A c ns vb tag vv vs (Kd.C_below hC hW) hl)
  rw [ft] at C1
  rw [fi] at C2
  have ss' : (s.size : Int) ≤ 65535 := by omega
  generalize valB vt ns vb tag vv vs = vB at *
  clear hC
  go_enter Try.func19, Try.ntmps19
  go_wp2_with (first | (go_at_call 25; (with_reducible refine (C1.out _).mono ?_); rintro e w1 ⟨rfl, ⟨nd, rfl⟩⟩) | (go_at_call 25; (with_reducible refine (C2.out _).mono ?_); rintro e w1 ⟨rfl, ⟨nd, rfl⟩⟩) | (go_at_call 36; (with_reducible refine (C3.out _ (by repeat (first | exact Below.refl _ _ | apply below_alloc | apply pw_below_drewN | apply below_drew1))).mono ?_); rintro e w2 ⟨rfl, hb⟩; have HB := Aside0.mk hb; clear hb))
  go_ret
  exact ⟨congrArg (fun b => Ending.returned (.bool b)) E.out.symm, below_step (by repeat (first | exact Below.refl _ _ | apply below_alloc | apply pw_below_drewN | apply below_drew1)) HB.out⟩
theorem rightRep_calls (w : World) (q : Rp) (A : Option Addr) (c : Nat) (hC : (Kd.int .i64).C w A q.nodes.length q.nodes) (hl : q.nodes.length ≤ 9000000) : Calls Try.prog 19 #[.agg (q.cells (.slice A q.nodes.length c))] w fun e w' => e = .returned (.bool (rightRepB q)) ∧ Below w.heap.size w w' := by
  obtain ⟨k, er, tx, id, ti, vt, ns, vb, tag, vv, vs, s⟩ := q
  simp only [Rp.cells] at *
  by_cases k0 : k < 0
  case pos => exact rrep_1 w k er tx id ti vt A c ns vb tag vv vs s _ hC hl (by simp [rightRepB, *]) k0
  by_cases k6 : 6 < k
  case pos => exact rrep_2 w k er tx id ti vt A c ns vb tag vv vs s _ hC hl (by simp [rightRepB, *]) (by omega) k6
  by_cases e0 : er < 0
  case pos => exact rrep_3 w k er tx id ti vt A c ns vb tag vv vs s _ hC hl (by simp [rightRepB, *]) (by omega) (by omega) e0
  by_cases e6 : 65535 < er
  case pos => exact rrep_4 w k er tx id ti vt A c ns vb tag vv vs s _ hC hl (by simp [rightRepB, *]) (by omega) (by omega) (by omega) e6
  by_cases ft : fitsB tx = false
  case pos => exact rrep_5 w k er tx id ti vt A c ns vb tag vv vs s _ hC hl (by simp [rightRepB, *]) (by omega) (by omega) (by omega) (by omega) ft
  by_cases fi : fitsB id = false
  case pos => exact rrep_6 w k er tx id ti vt A c ns vb tag vv vs s _ hC hl (by simp [rightRepB, *]) (by omega) (by omega) (by omega) (by omega) (by simpa using ft) fi
  by_cases ss : 65535 < s.size
  case pos => exact rrep_7 w k er tx id ti vt A c ns vb tag vv vs s _ hC hl (by simp [rightRepB, *]) (by omega) (by omega) (by omega) (by omega) (by simpa using ft) (by simpa using fi) ss
  exact rrep_8 w k er tx id ti vt A c ns vb tag vv vs s _ hC hl (by simp [rightRepB, *]) (by omega) (by omega) (by omega) (by omega) (by simpa using ft) (by simpa using fi) (by omega) 
end Go.Proofs.Ythkdihpbdaehbaa.Pr
namespace Go.Proofs.Ythkdihpbdaehbaa.Pr
set_option linter.unusedVariables false
set_option linter.unusedSimpArgs false
open Go.RowKit Go.Proofs.YthkdihpbdaehbaaW.PrintWords Go.Proofs.YthkdihpbdaehbaaW.PrintLast Go.Proofs.YthkdihpbdaehbaaW.PrintMore Go.Proofs.Ythkdihpbdaehbaa.Bs
/-- Numbers of their kinds. -/
structure Rp.kinds (r : Rp) : Prop where
  t : 0 ≤ r.time ∧ r.time ≤ 18446744073709551615
  v : -9223372036854775808 ≤ r.vv ∧ r.vv ≤ 9223372036854775807
theorem rightRep_parts (r : Rp) (h : rightRepB r = true) : (0 ≤ r.kind ∧ r.kind ≤ 6) ∧ (0 ≤ r.err ∧ r.err ≤ 65535) ∧ fitsB r.txn = true ∧ fitsB r.id = true ∧ r.s.size ≤ 65535 ∧ valB r.vt r.nodes r.vb r.tag r.vv r.vs = true := by
  unfold rightRepB at h
  split at h
  · cases h
  split at h
  · cases h
  split at h
  · cases h
  split at h
  · cases h
  split at h
  · cases h
  split at h
  · cases h
  split at h
  · cases h
  rename_i h1 h2 h3 h4 h5 h6 h7
  exact ⟨⟨by omega, by omega⟩, ⟨by omega, by omega⟩, by simpa using h5, by simpa using h6, by omega, h⟩
theorem val_parts (vt : Int) (ns : List Int) (vb : Bool) (tag vv : Int) (vs : ByteArray) (h : valB vt ns vb tag vv vs = true) : (¬ vt = 1 → ns.length = 0) ∧ (¬ vt = 2 → vb = false) ∧ (¬ vt = 3 → tag = 0 ∧ vv = 0) ∧ (¬ vt = 4 → vs.size = 0) ∧ (0 ≤ vt ∧ vt ≤ 4) ∧ ns.length ≤ 1000 ∧ badB ns = false ∧ decB tag vv = true ∧ vs.size ≤ 65535 := by
  unfold valB valueB at h
  split at h
  · cases h
  split at h
  · cases h
  split at h
  · cases h
  split at h
  · cases h
  split at h
  · cases h
  split at h
  · cases h
  split at h
  · cases h
  split at h
  · cases h
  split at h
  · cases h
  rename_i h1 h2 h3 h4 h5 h6 h7 h8 h9
  refine ⟨fun e => ?_, fun e => ?_, fun e => ?_, fun e => ?_, ⟨by omega, by omega⟩, by omega, by simpa using h8, by simpa using h9, of_decide_eq_true h⟩
  · have := fun h => h1 ⟨e, h⟩; omega
  · have := fun h => h2 ⟨e, h⟩; simpa using this
  · exact Classical.byContradiction fun h => h3 ⟨e, h⟩
  · exact Classical.byContradiction fun h => h4 ⟨e, h⟩
theorem fits_bounds {n : Int} (h : fitsB n = true) : 0 ≤ n ∧ n ≤ 2147483647 := by
  simp only [fitsB, Bool.and_eq_true, decide_eq_true_eq] at h
  exact h
theorem bad_fits {ns : List Int} (h : badB ns = false) : ∀ x ∈ ns, 0 ≤ x ∧ x ≤ 2147483647 := by
  intro x hx
  have := (List.any_eq_false.mp h) x hx
  exact fits_bounds (by simpa using this)
theorem dec_tag {tag vv : Int} (h : decB tag vv = true) : 0 ≤ tag ∧ tag ≤ 3 := by
  unfold decB at h
  split at h
  · omega
  split at h
  · omega
  split at h
  · omega
  split at h
  · omega
  · cases h
theorem rightRep_small (r : Rp) (h : rightRepB r = true) (hk : r.kinds) : r.small := by
  obtain ⟨h1, h2, h3, h4, h5, h6⟩ := rightRep_parts r h
  obtain ⟨_, _, _, _, v1, v2, v3, v4, v5⟩ := val_parts _ _ _ _ _ _ h6
  have hd := dec_tag v4
  exact ⟨h1, h2, fits_bounds h3, fits_bounds h4, hk.t.1, h5, v1, v2, bad_fits v3, ⟨hd.1, by omega⟩, hk.v, v5⟩
/-- A reply's bytes, and why there are none. -/
def putRep (q : Rp) : List Int × Int := if rightRepB q = false then ([], 2) else if 4200 < q.bytes.length then ([], 3) else (q.bytes, 0)
set_option maxRecDepth 100000 in
set_option maxHeartbeats 400000 in
theorem putRep_calls (w : World) (q : Rp) (A0 : Option Addr) (c0 : Nat) (hC : (Kd.int .i64).C w A0 q.nodes.length q.nodes) (hl : q.nodes.length ≤ 9000000) (hk : q.kinds) : Calls Try.prog 17 #[.agg (q.cells (.slice A0 q.nodes.length c0))] w (Puts w (putRep q).1 (putRep q).2) := by
  have C1 := Aside0.mk (fun o => rightRep_calls (w.alloc o) q A0 c0 (Kd.C_alloc hC o) hl)
  cases hr : rightRepB q with
  | false =>
    rw [hr] at C1
    have E := Aside0.mk (show putRep q = ([], 2) by simp [putRep, hr])
    obtain ⟨k, er, tx, id, ti, vt, ns, vb, tag, vv, vs, s⟩ := q
    simp only [Rp.cells] at *
    clear hC
    go_enter Try.func17, Try.ntmps17
    go_wp2_with (first | (go_at_call 19; (with_reducible refine (C1.out _).mono ?_); rintro e w1 ⟨rfl, hb⟩; have HB := Aside0.mk hb; clear hb))
    go_ret2
    rw [E.out]
    exact ⟨⟨none, 0, rfl, Kd.R_nil _ _ _ _ _⟩, below_step (below_alloc (Below.refl _ _) _) HB.out⟩
  | true =>
    have hs := Aside0.mk (rightRep_small q hr hk)
    rw [hr] at C1
    have E := Aside0.mk (show putRep q = if 4200 < q.bytes.length then ([], 3) else (q.bytes, 0) by simp [putRep, hr])
    have C2 := Aside0.mk (fun B w p qb bv h h2 h3 h4 h5 h6 => reply_put B w p qb bv q A0 c0 h h2 h3 h4 h5 h6 hs.out)
    have HC := Aside0.mk hC
    generalize hbs : q.bytes = bs at *
    generalize hpq : putRep q = pq at *
    obtain ⟨k, er, tx, id, ti, vt, ns, vb, tag, vv, vs, s⟩ := q
    simp only [Rp.cells] at *
    clear hr hbs hpq hC hl hk
    go_enter Try.func17, Try.ntmps17
    go_wp2_with (first | (go_at_call 19; (with_reducible refine (C1.out _).mono ?_); rintro e w1 ⟨rfl, hb⟩; have hq1 := (hb.block w.heap.size (by simp)).trans (heap_alloc_new w _); have HQ := Aside0.mk hq1; have HB := Aside0.mk (below_step (below_alloc (Below.refl _ _) _) hb); clear hb hq1) | fail)
    have hz1 : w.heap.size + 1 ≤ w1.heap.size := blk_lt HQ.out
    have hqb := (below_alloc (Below.refl w1.heap.size w1) (.cells #[.slice none 0 0, .bool false] 56)).block _ hz1 |>.trans HQ.out
    have HB1 := below_step HB.out (below_alloc (Below.refl w1.heap.size w1) (.cells #[.slice none 0 0, .bool false] 56))
    refine (C2.out (w.heap.size + 1) (w1.alloc (.cells #[.slice none 0 0, .bool false] 56)) w1.heap.size w.heap.size (.slice none 0 0) ⟨⟨⟨_, And.intro ⟨hz1, heap_alloc_new w1 _, Kd.R_nil _ _ _ _ _⟩ (fun k hk => .inl hk)⟩, Ch.refl _ _⟩, hqb⟩ (by omega) (by simp; omega) (by omega) (fun k hk => by simp [Value.ownBlock] at hk) (fun W hW => Kd.C_below HC.out (HB1.trans (hW.mono (Nat.le_succ _))))).mono ?_
    rintro e w2 ⟨rfl, ⟨bv', hp⟩, hch⟩
    obtain ⟨A, c, rfl⟩ := Kd.R_slice hp.row
    obtain ⟨k0, k1, k2⟩ := blk2 hp.cells
    have HB3 := Aside0.mk (HB1.trans (Ch.to_below hch (B := w.heap.size) (fun k hk => by rcases hk with (hk | hk) | hk; omega; simp [Value.ownBlock] at hk; omega) (by simp; omega)))
    have HR := Aside0.mk (Kd.R_mono (Kd.R_lower hp.row (Nat.le_succ w.heap.size)) (fun _ _ => trivial))
    have C3 := laid_calls w2 A bs.length c
    clear HB HB1 hch hp HQ C2 C1 hs hqb HC
    by_cases hlen : 4200 < bs.length
    · rw [if_pos hlen] at C3
      have E2 := E.out
      rw [if_pos hlen] at E2
      have E3 := Aside0.mk E2
      clear hlen E2 E
      go_wp2_with fail
      refine C3.mono ?_
      rintro e w3 ⟨rfl, rfl⟩
      go_wp2
      go_ret2
      rw [E3.out]
      exact ⟨⟨none, 0, rfl, Kd.R_nil _ _ _ _ _⟩, HB3.out⟩
    · rw [if_neg hlen] at C3
      have E2 := E.out
      rw [if_neg hlen] at E2
      have E3 := Aside0.mk E2
      clear hlen E2 E
      go_wp2_with fail
      refine C3.mono ?_
      rintro e w3 ⟨rfl, rfl⟩
      go_wp2
      go_ret2
      rw [E3.out]
      exact ⟨⟨A, c, rfl, HR.out⟩, HB3.out⟩
end Go.Proofs.Ythkdihpbdaehbaa.Pr
namespace Go.Proofs.Ythkdihpbdaehbaa.Pr
set_option linter.unusedVariables false
set_option linter.unusedSimpArgs false
open Go.RowKit Go.Proofs.YthkdihpbdaehbaaW.PrintWords Go.Proofs.YthkdihpbdaehbaaW.PrintLast Go.Proofs.YthkdihpbdaehbaaW.PrintMore Go.Proofs.Ythkdihpbdaehbaa.Bs
def getRepOf (r : Option Rp) : Rp × Int := match r with | some q => if rightRepB q = true then (q, 0) else (zeroRep, 61) | none => (zeroRep, 61)
def getRep (xs : List Int) : Rp × Int := getRepOf (readRep xs)
def set12 (w : World) (g : Nat) (b0 b1 b2 b3 b4 b5 b6 b7 b8 b9 b10 b11 : Value) : World := ((((((((((((w.setCell ⟨g, 0, none⟩ b0).setCell ⟨g, 1, none⟩ b1).setCell ⟨g, 2, none⟩ b2).setCell ⟨g, 3, none⟩ b3).setCell ⟨g, 4, none⟩ b4).setCell ⟨g, 5, none⟩ b5).setCell ⟨g, 6, none⟩ b6).setCell ⟨g, 7, none⟩ b7).setCell ⟨g, 8, none⟩ b8).setCell ⟨g, 9, none⟩ b9).setCell ⟨g, 10, none⟩ b10).setCell ⟨g, 11, none⟩ b11)
theorem set12_q {w : World} {g t : Nat} {a0 a1 a2 a3 a4 a5 a6 a7 a8 a9 a10 a11 : Value} (h : w.heap[g]? = some (.cells #[a0, a1, a2, a3, a4, a5, a6, a7, a8, a9, a10, a11] t (0, 0))) (b0 b1 b2 b3 b4 b5 b6 b7 b8 b9 b10 b11 : Value) : (set12 w g b0 b1 b2 b3 b4 b5 b6 b7 b8 b9 b10 b11).heap[g]? = some (.cells #[b0, b1, b2, b3, b4, b5, b6, b7, b8, b9, b10, b11] t (0, 0)) := by
  have h0 : (w.setCell ⟨g, 0, none⟩ b0).heap[g]? = some (.cells #[b0, a1, a2, a3, a4, a5, a6, a7, a8, a9, a10, a11] t (0, 0)) := blk_upd 0 b0 h rfl
  have h1 : ((w.setCell ⟨g, 0, none⟩ b0).setCell ⟨g, 1, none⟩ b1).heap[g]? = some (.cells #[b0, b1, a2, a3, a4, a5, a6, a7, a8, a9, a10, a11] t (0, 0)) := blk_upd 1 b1 h0 rfl
  have h2 : (((w.setCell ⟨g, 0, none⟩ b0).setCell ⟨g, 1, none⟩ b1).setCell ⟨g, 2, none⟩ b2).heap[g]? = some (.cells #[b0, b1, b2, a3, a4, a5, a6, a7, a8, a9, a10, a11] t (0, 0)) := blk_upd 2 b2 h1 rfl
  have h3 : ((((w.setCell ⟨g, 0, none⟩ b0).setCell ⟨g, 1, none⟩ b1).setCell ⟨g, 2, none⟩ b2).setCell ⟨g, 3, none⟩ b3).heap[g]? = some (.cells #[b0, b1, b2, b3, a4, a5, a6, a7, a8, a9, a10, a11] t (0, 0)) := blk_upd 3 b3 h2 rfl
  have h4 : (((((w.setCell ⟨g, 0, none⟩ b0).setCell ⟨g, 1, none⟩ b1).setCell ⟨g, 2, none⟩ b2).setCell ⟨g, 3, none⟩ b3).setCell ⟨g, 4, none⟩ b4).heap[g]? = some (.cells #[b0, b1, b2, b3, b4, a5, a6, a7, a8, a9, a10, a11] t (0, 0)) := blk_upd 4 b4 h3 rfl
  have h5 : ((((((w.setCell ⟨g, 0, none⟩ b0).setCell ⟨g, 1, none⟩ b1).setCell ⟨g, 2, none⟩ b2).setCell ⟨g, 3, none⟩ b3).setCell ⟨g, 4, none⟩ b4).setCell ⟨g, 5, none⟩ b5).heap[g]? = some (.cells #[b0, b1, b2, b3, b4, b5, a6, a7, a8, a9, a10, a11] t (0, 0)) := blk_upd 5 b5 h4 rfl
  have h6 : (((((((w.setCell ⟨g, 0, none⟩ b0).setCell ⟨g, 1, none⟩ b1).setCell ⟨g, 2, none⟩ b2).setCell ⟨g, 3, none⟩ b3).setCell ⟨g, 4, none⟩ b4).setCell ⟨g, 5, none⟩ b5).setCell ⟨g, 6, none⟩ b6).heap[g]? = some (.cells #[b0, b1, b2, b3, b4, b5, b6, a7, a8, a9, a10, a11] t (0, 0)) := blk_upd 6 b6 h5 rfl
  have h7 : ((((((((w.setCell ⟨g, 0, none⟩ b0).setCell ⟨g, 1, none⟩ b1).setCell ⟨g, 2, none⟩ b2).setCell ⟨g, 3, none⟩ b3).setCell ⟨g, 4, none⟩ b4).setCell ⟨g, 5, none⟩ b5).setCell ⟨g, 6, none⟩ b6).setCell ⟨g, 7, none⟩ b7).heap[g]? = some (.cells #[b0, b1, b2, b3, b4, b5, b6, b7, a8, a9, a10, a11] t (0, 0)) := blk_upd 7 b7 h6 rfl
  have h8 : (((((((((w.setCell ⟨g, 0, none⟩ b0).setCell ⟨g, 1, none⟩ b1).setCell ⟨g, 2, none⟩ b2).setCell ⟨g, 3, none⟩ b3).setCell ⟨g, 4, none⟩ b4).setCell ⟨g, 5, none⟩ b5).setCell ⟨g, 6, none⟩ b6).setCell ⟨g, 7, none⟩ b7).setCell ⟨g, 8, none⟩ b8).heap[g]? = some (.cells #[b0, b1, b2, b3, b4, b5, b6, b7, b8, a9, a10, a11] t (0, 0)) := blk_upd 8 b8 h7 rfl
  have h9 : ((((((((((w.setCell ⟨g, 0, none⟩ b0).setCell ⟨g, 1, none⟩ b1).setCell ⟨g, 2, none⟩ b2).setCell ⟨g, 3, none⟩ b3).setCell ⟨g, 4, none⟩ b4).setCell ⟨g, 5, none⟩ b5).setCell ⟨g, 6, none⟩ b6).setCell ⟨g, 7, none⟩ b7).setCell ⟨g, 8, none⟩ b8).setCell ⟨g, 9, none⟩ b9).heap[g]? = some (.cells #[b0, b1, b2, b3, b4, b5, b6, b7, b8, b9, a10, a11] t (0, 0)) := blk_upd 9 b9 h8 rfl
  have h10 : (((((((((((w.setCell ⟨g, 0, none⟩ b0).setCell ⟨g, 1, none⟩ b1).setCell ⟨g, 2, none⟩ b2).setCell ⟨g, 3, none⟩ b3).setCell ⟨g, 4, none⟩ b4).setCell ⟨g, 5, none⟩ b5).setCell ⟨g, 6, none⟩ b6).setCell ⟨g, 7, none⟩ b7).setCell ⟨g, 8, none⟩ b8).setCell ⟨g, 9, none⟩ b9).setCell ⟨g, 10, none⟩ b10).heap[g]? = some (.cells #[b0, b1, b2, b3, b4, b5, b6, b7, b8, b9, b10, a11] t (0, 0)) := blk_upd 10 b10 h9 rfl
  have h11 : ((((((((((((w.setCell ⟨g, 0, none⟩ b0).setCell ⟨g, 1, none⟩ b1).setCell ⟨g, 2, none⟩ b2).setCell ⟨g, 3, none⟩ b3).setCell ⟨g, 4, none⟩ b4).setCell ⟨g, 5, none⟩ b5).setCell ⟨g, 6, none⟩ b6).setCell ⟨g, 7, none⟩ b7).setCell ⟨g, 8, none⟩ b8).setCell ⟨g, 9, none⟩ b9).setCell ⟨g, 10, none⟩ b10).setCell ⟨g, 11, none⟩ b11).heap[g]? = some (.cells #[b0, b1, b2, b3, b4, b5, b6, b7, b8, b9, b10, b11] t (0, 0)) := blk_upd 11 b11 h10 rfl
  exact h11
theorem set12_ch (w : World) (g : Nat) (b0 b1 b2 b3 b4 b5 b6 b7 b8 b9 b10 b11 : Value) : Ch (fun k => k = g) w (set12 w g b0 b1 b2 b3 b4 b5 b6 b7 b8 b9 b10 b11) :=
  (((((((((((((Ch.refl (fun k => k = g) w).setCell (p := ⟨g, 0, none⟩) (.inl rfl) b0).setCell (p := ⟨g, 1, none⟩) (.inl rfl) b1).setCell (p := ⟨g, 2, none⟩) (.inl rfl) b2).setCell (p := ⟨g, 3, none⟩) (.inl rfl) b3).setCell (p := ⟨g, 4, none⟩) (.inl rfl) b4).setCell (p := ⟨g, 5, none⟩) (.inl rfl) b5).setCell (p := ⟨g, 6, none⟩) (.inl rfl) b6).setCell (p := ⟨g, 7, none⟩) (.inl rfl) b7).setCell (p := ⟨g, 8, none⟩) (.inl rfl) b8).setCell (p := ⟨g, 9, none⟩) (.inl rfl) b9).setCell (p := ⟨g, 10, none⟩) (.inl rfl) b10).setCell (p := ⟨g, 11, none⟩) (.inl rfl) b11)
theorem R_ch {w w' : World} {g base t : Nat} {ok : Nat → Prop} {v : Value} {ns : List Int} {cs : Array Value} (h : (Kd.int .i64).R 3 w base ok v ns) (hg : w.heap[g]? = some (.cells cs t (0, 0))) (ht : t ≠ 3) (hch : Ch (fun k => k = g) w w') : (Kd.int .i64).R 3 w' base (fun _ => True) v ns := by
  have hn := Kd.R_ne h hg (fun e => ht e.symm)
  exact Kd.R_mono (hch.R (Kd.R_of_own (ok := fun k => some k = v.ownBlock) (Kd.own_of_R h) (fun k hk => hk.symm)) (fun k hk e => hn (e ▸ hk))) (fun _ _ => trivial)
/-- What GetRep leaves. -/
def RepPost (w : World) (r : Rp × Int) (e : Ending) (w' : World) : Prop := ∃ A c, e = .returned (.tuple #[.agg (r.1.cells (.slice A r.1.nodes.length c)), .int .i64 r.2]) ∧ (Kd.int .i64).R 3 w' w.heap.size (fun _ => True) (.slice A r.1.nodes.length c) r.1.nodes ∧ Below w.heap.size w w'
theorem RepPost.zero {w w' : World} (h : Below w.heap.size w w') : RepPost w (zeroRep, 61) (.returned (.tuple #[.agg zrep, .int .i64 61])) w' := ⟨none, 0, rfl, Kd.R_nil _ _ _ _ _, h⟩
set_option maxRecDepth 100000 in
set_option maxHeartbeats 1000000 in
theorem getRep_calls (w : World) (A : Option Addr) (c : Nat) (xs : List Int) (hC : (Kd.int .u8).C w A xs.length xs) (hl : xs.length ≤ c) (hby : Bys xs) (hsm : ∀ q, readRep xs = some q → q.nodes.length ≤ 9000000) :
    Calls Try.prog 14 #[.slice A xs.length c] w (RepPost w (getRep xs)) := by
  have hmf : ∀ (fn : Fn) (first cap : Array Value) (w : World), (Instr.makeFunc fn first cap).run Try.prog w = .ok (.func fn first cap) w := fun _ _ _ _ => rfl
  obtain ⟨W, hW⟩ : ∃ W, W = (w.alloc (.cells #[.int .i64 0, .int .i64 0, .int .i64 0, .int .i64 0, .int .u64 0, .int .i64 0, .slice none 0 0, .bool false, .int .i64 0, .int .i64 0, .string ⟨#[]⟩, .string ⟨#[]⟩] 44)).alloc (.cells #[.int .i64 0, .int .i64 0, .int .i64 0, .int .i64 0, .int .u64 0, .int .i64 0, .slice none 0 0, .bool false, .int .i64 0, .int .i64 0, .string ⟨#[]⟩, .string ⟨#[]⟩] 44) := ⟨_, rfl⟩
  have hWch : Ch (fun _ => False) w W := by rw [hW]; exact ((Ch.refl _ w).alloc _).alloc _
  have hWp : W.heap[w.heap.size + 1]? = some (.cells zrep 44 (0, 0)) := by
    have h := heap_alloc_new (w.alloc (.cells #[.int .i64 0, .int .i64 0, .int .i64 0, .int .i64 0, .int .u64 0, .int .i64 0, .slice none 0 0, .bool false, .int .i64 0, .int .i64 0, .string ⟨#[]⟩, .string ⟨#[]⟩] 44)) (.cells #[.int .i64 0, .int .i64 0, .int .i64 0, .int .i64 0, .int .u64 0, .int .i64 0, .slice none 0 0, .bool false, .int .i64 0, .int .i64 0, .string ⟨#[]⟩, .string ⟨#[]⟩] 44)
    rw [show (w.alloc (.cells #[.int .i64 0, .int .i64 0, .int .i64 0, .int .i64 0, .int .u64 0, .int .i64 0, .slice none 0 0, .bool false, .int .i64 0, .int .i64 0, .string ⟨#[]⟩, .string ⟨#[]⟩] 44)).heap.size = w.heap.size + 1 by simp, ← hW] at h
    exact h
  have hWr : W.heap[w.heap.size]? = some (.cells zrep 44 (0, 0)) := by
    rw [hW]
    exact (Below.heap_alloc _ _ _ (by simp)).trans (heap_alloc_new w _)
  have C1 := read_rep w W (w.heap.size + 1) A c xs hC hl hby (Ch.to_below hWch (fun _ h => h.elim) (Nat.le_refl _)) hWp (by omega)
  have HW := Aside0.mk hW
  have HR := Aside0.mk hWr
  have HWch := Aside0.mk (hWch.mono (S' := fun k => k = w.heap.size + 1) (fun _ h _ => h.elim))
  rw [hW] at C1
  clear hC hl hby hWch hWp hWr hW
  go_enter Try.func14, Try.ntmps14
  go_wp2_with fail
  refine C1.mono ?_
  rintro e w1 ⟨rfl, hch, hq⟩
  rw [← HW.out] at hch hq
  have hr1 : w1.heap[w.heap.size]? = some (.cells #[.int .i64 0, .int .i64 0, .int .i64 0, .int .i64 0, .int .u64 0, .int .i64 0, .slice none 0 0, .bool false, .int .i64 0, .int .i64 0, .string ⟨#[]⟩, .string ⟨#[]⟩] 44 (0, 0)) := hch.heap HR.out (by omega)
  obtain ⟨m0, m1, m2, m3, m4, m5, m6, m7, m8, m9, m10, m11, m12⟩ := blk12 hr1
  have hch1 : Ch (fun k => k = w.heap.size + 1) w w1 := HWch.out.trans (hch.mono (fun k hk _ => .inl hk))
  have hb1 : Below w.heap.size w w1 := Ch.to_below hch1 (fun k hk => by omega) (Nat.le_refl _)
  have HB := Aside0.mk hb1
  have HWS := Aside0.mk HWch.out.size
  have hlt := blk_lt hr1
  clear C1 hch hch1 hb1
  have E0 : getRep xs = getRepOf (readRep xs) := rfl
  generalize readRep xs = R at *
  have E := Aside0.mk E0
  clear E0
  cases R with
  | none =>
    have E2 := Aside0.mk (show getRep xs = (zeroRep, 61) from E.out)
    clear hq E hsm
    go_wp2_with fail
    have S := set12_q hr1 (.int .i64 0) (.int .i64 0) (.int .i64 0) (.int .i64 0) (.int .u64 0) (.int .i64 0) (.slice none 0 0) (.bool false) (.int .i64 0) (.int .i64 0) (.string ⟨#[]⟩) (.string ⟨#[]⟩)
    have SB := Aside0.mk (HB.out.trans (Ch.to_below (set12_ch w1 w.heap.size (.int .i64 0) (.int .i64 0) (.int .i64 0) (.int .i64 0) (.int .u64 0) (.int .i64 0) (.slice none 0 0) (.bool false) (.int .i64 0) (.int .i64 0) (.string ⟨#[]⟩) (.string ⟨#[]⟩)) (B := w.heap.size) (fun k hk => by omega) (by omega)))
    rw [E2.out]
    change bodyPost Try.prog Try.f14 _ Exit.ret _ (set12 w1 w.heap.size (.int .i64 0) (.int .i64 0) (.int .i64 0) (.int .i64 0) (.int .u64 0) (.int .i64 0) (.slice none 0 0) (.bool false) (.int .i64 0) (.int .i64 0) (.string ⟨#[]⟩) (.string ⟨#[]⟩))
    clear m0 m1 m2 m3 m4 m5 m6 m7 m8 m9 m10 m11 m12
    generalize set12 w1 w.heap.size (.int .i64 0) (.int .i64 0) (.int .i64 0) (.int .i64 0) (.int .u64 0) (.int .i64 0) (.slice none 0 0) (.bool false) (.int .i64 0) (.int .i64 0) (.string ⟨#[]⟩) (.string ⟨#[]⟩) = w2 at *
    obtain ⟨d0, d1, d2, d3, d4, d5, d6, d7, d8, d9, d10, d11, d12⟩ := blk12 S
    refine bodyPost_ret (v := .tuple #[.agg zrep, .int .i64 61]) (by simp [results, Try.results14, go_sem, d0, d1, d2, d3, d4, d5, d6, d7, d8, d9, d10, d11, zrep, zeroRep, Rp.cells, nil8]) rfl (RepPost.zero SB.out)
  | some q =>
    obtain ⟨A1, c1, hq1, hrw⟩ := hq q rfl
    have hrow := Kd.R_lower hrw HWS.out
    have C19 := rightRep_calls w1 q A1 c1 (Kd.R_reads' hrow).2.2 (hsm q rfl)
    clear hq hrw hsm
    obtain ⟨k, er, tx, id, ti, vt, ns, vb, tag, vv, vs, s⟩ := q
    simp only [Rp.cells] at hq1 C19 hrow
    obtain ⟨e0, e1, e2, e3, e4, e5, e6, e7, e8, e9, e10, e11, e12⟩ := blk12 hq1
    have HQ1 := Aside0.mk hq1
    have HR1 := Aside0.mk hr1
    have HRW := Aside0.mk hrow
    clear hq1 hr1 hrow m0 m1 m2 m3 m4 m5 m6 m7 m8 m9 m10 m11 m12
    generalize hrb : rightRepB ⟨k, er, tx, id, ti, vt, ns, vb, tag, vv, vs, s⟩ = rb at *
    have E2 : getRep xs = if rb = true then (⟨k, er, tx, id, ti, vt, ns, vb, tag, vv, vs, s⟩, 0) else (zeroRep, 61) := by rw [E.out, getRepOf, hrb]
    have E3 := Aside0.mk E2
    clear hrb E2 E
    cases rb with
    | false =>
      go_wp2_with fail
      refine C19.mono ?_
      rintro e w3 ⟨rfl, hb3⟩
      have hr3 := (hb3.block w.heap.size (blk_lt HR1.out)).trans HR1.out
      have HB3 := Aside0.mk (below_step HB.out hb3)
      obtain ⟨m0, m1, m2, m3, m4, m5, m6, m7, m8, m9, m10, m11, m12⟩ := blk12 hr3
      have S := Aside0.mk (set12_q hr3 (.int .i64 0) (.int .i64 0) (.int .i64 0) (.int .i64 0) (.int .u64 0) (.int .i64 0) (.slice none 0 0) (.bool false) (.int .i64 0) (.int .i64 0) (.string ⟨#[]⟩) (.string ⟨#[]⟩))
      have SB := Aside0.mk (HB3.out.trans (Ch.to_below (set12_ch w3 w.heap.size (.int .i64 0) (.int .i64 0) (.int .i64 0) (.int .i64 0) (.int .u64 0) (.int .i64 0) (.slice none 0 0) (.bool false) (.int .i64 0) (.int .i64 0) (.string ⟨#[]⟩) (.string ⟨#[]⟩)) (B := w.heap.size) (fun k hk => by omega) (by have := HB3.out.size; omega)))
      clear hb3 hr3 e0 e1 e2 e3 e4 e5 e6 e7 e8 e9 e10 e11 e12 C19
      go_wp2_with fail
      rw [E3.out]
      change bodyPost Try.prog Try.f14 _ Exit.ret _ (set12 w3 w.heap.size (.int .i64 0) (.int .i64 0) (.int .i64 0) (.int .i64 0) (.int .u64 0) (.int .i64 0) (.slice none 0 0) (.bool false) (.int .i64 0) (.int .i64 0) (.string ⟨#[]⟩) (.string ⟨#[]⟩))
      clear m0 m1 m2 m3 m4 m5 m6 m7 m8 m9 m10 m11 m12
      generalize set12 w3 w.heap.size (.int .i64 0) (.int .i64 0) (.int .i64 0) (.int .i64 0) (.int .u64 0) (.int .i64 0) (.slice none 0 0) (.bool false) (.int .i64 0) (.int .i64 0) (.string ⟨#[]⟩) (.string ⟨#[]⟩) = w2 at *
      obtain ⟨d0, d1, d2, d3, d4, d5, d6, d7, d8, d9, d10, d11, d12⟩ := blk12 S.out
      refine bodyPost_ret (v := .tuple #[.agg zrep, .int .i64 61]) (by simp [results, Try.results14, go_sem, d0, d1, d2, d3, d4, d5, d6, d7, d8, d9, d10, d11, zrep, zeroRep, Rp.cells, nil8]) rfl (RepPost.zero SB.out)
    | true =>
      go_wp2_with fail
      refine C19.mono ?_
      rintro e w3 ⟨rfl, hb3⟩
      have hr3 := (hb3.block w.heap.size (blk_lt HR1.out)).trans HR1.out
      have hq3 := (hb3.block (w.heap.size + 1) (blk_lt HQ1.out)).trans HQ1.out
      have HB3 := Aside0.mk (below_step HB.out hb3)
      have hrow3 := Kd.R_below HRW.out hb3
      obtain ⟨m0, m1, m2, m3, m4, m5, m6, m7, m8, m9, m10, m11, m12⟩ := blk12 hr3
      have S := Aside0.mk (set12_q hr3 (.int .i64 k) (.int .i64 er) (.int .i64 tx) (.int .i64 id) (.int .u64 ti) (.int .i64 vt) (.slice A1 ns.length c1) (.bool vb) (.int .i64 tag) (.int .i64 vv) (.string vs) (.string s))
      have SB := Aside0.mk (HB3.out.trans (Ch.to_below (set12_ch w3 w.heap.size (.int .i64 k) (.int .i64 er) (.int .i64 tx) (.int .i64 id) (.int .u64 ti) (.int .i64 vt) (.slice A1 ns.length c1) (.bool vb) (.int .i64 tag) (.int .i64 vv) (.string vs) (.string s)) (B := w.heap.size) (fun k hk => by omega) (by have := HB3.out.size; omega)))
      have SR := Aside0.mk (R_ch hrow3 hr3 (by decide) (set12_ch w3 w.heap.size (.int .i64 k) (.int .i64 er) (.int .i64 tx) (.int .i64 id) (.int .u64 ti) (.int .i64 vt) (.slice A1 ns.length c1) (.bool vb) (.int .i64 tag) (.int .i64 vv) (.string vs) (.string s)))
      clear e0 e1 e2 e3 e4 e5 e6 e7 e8 e9 e10 e11 e12
      obtain ⟨e0, e1, e2, e3, e4, e5, e6, e7, e8, e9, e10, e11, e12⟩ := blk12 hq3
      clear hb3 hr3 hq3 C19 hrow3
      go_wp2_with fail
      rw [E3.out]
      change bodyPost Try.prog Try.f14 _ Exit.ret _ (set12 w3 w.heap.size (.int .i64 k) (.int .i64 er) (.int .i64 tx) (.int .i64 id) (.int .u64 ti) (.int .i64 vt) (.slice A1 ns.length c1) (.bool vb) (.int .i64 tag) (.int .i64 vv) (.string vs) (.string s))
      clear m0 m1 m2 m3 m4 m5 m6 m7 m8 m9 m10 m11 m12
      generalize set12 w3 w.heap.size (.int .i64 k) (.int .i64 er) (.int .i64 tx) (.int .i64 id) (.int .u64 ti) (.int .i64 vt) (.slice A1 ns.length c1) (.bool vb) (.int .i64 tag) (.int .i64 vv) (.string vs) (.string s) = w2 at *
      obtain ⟨d0, d1, d2, d3, d4, d5, d6, d7, d8, d9, d10, d11, d12⟩ := blk12 S.out
      refine bodyPost_ret (v := .tuple #[.agg #[.int .i64 k, .int .i64 er, .int .i64 tx, .int .i64 id, .int .u64 ti, .int .i64 vt, .slice A1 ns.length c1, .bool vb, .int .i64 tag, .int .i64 vv, .string vs, .string s], .int .i64 0]) (by simp [results, Try.results14, go_sem, d0, d1, d2, d3, d4, d5, d6, d7, d8, d9, d10, d11]) rfl ⟨A1, c1, rfl, SR.out, SB.out⟩
end Go.Proofs.Ythkdihpbdaehbaa.Pr
namespace Go.Proofs.Ythkdihpbdaehbaa.Pr
set_option linter.unusedVariables false
set_option linter.unusedSimpArgs false
open Go.RowKit Go.Proofs.YthkdihpbdaehbaaW.PrintWords Go.Proofs.YthkdihpbdaehbaaW.PrintLast Go.Proofs.YthkdihpbdaehbaaW.PrintMore Go.Proofs.Ythkdihpbdaehbaa.Bs
theorem be_add (s : Nat) : ∀ n m : Int, be s (n + 256 ^ s * m) = be s n := by
  induction s with
  | zero => intros; rfl
  | succ s ih =>
    intro n m
    have hp : (256 : Int) ^ s ≠ 0 := Int.pow_ne_zero (by decide)
    have e : n + 256 ^ (s + 1) * m = n + 256 ^ s * (256 * m) := by rw [Int.pow_succ, Int.mul_assoc]
    rw [be, be, e, ih, Int.add_mul_ediv_left _ _ hp]
    congr 1
    omega
theorem fold_val (l : List Int) : ∀ a : Int, l.foldl (fun a c => a * 256 + c) a = a * 256 ^ l.length + val l := by
  induction l with
  | nil => intro a; simp [val]
  | cons c l ih =>
    intro a
    rw [val, List.foldl_cons, List.foldl_cons, ih, ih (0 * 256 + c), List.length_cons, Int.pow_succ, Int.zero_mul, Int.zero_add, Int.add_mul, Int.mul_assoc, Int.mul_comm (256 : Int) (256 ^ l.length), Int.add_assoc]
theorem val_cons (c : Int) (l : List Int) : val (c :: l) = c * 256 ^ l.length + val l := by
  rw [val, List.foldl_cons, fold_val, Int.zero_mul, Int.zero_add]
theorem val_lt (l : List Int) (h : Bys l) : 0 ≤ val l ∧ val l < 256 ^ l.length := by
  induction l with
  | nil => exact ⟨by decide, by decide⟩
  | cons c l ih =>
    obtain ⟨h0, h1⟩ := ih (fun x hx => h x (List.mem_cons_of_mem _ hx))
    obtain ⟨c0, c1⟩ := h c (List.mem_cons_self ..)
    rw [val_cons, List.length_cons, Int.pow_succ]
    generalize (256 : Int) ^ l.length = P at *
    have hm : 0 ≤ c * P := Int.mul_nonneg c0 (by omega)
    have hm2 : c * P ≤ 255 * P := Int.mul_le_mul_of_nonneg_right c1 (by omega)
    exact ⟨by omega, by omega⟩
theorem be_val (l : List Int) (h : Bys l) : be l.length (val l) = l := by
  induction l with
  | nil => rfl
  | cons c l ih =>
    have hb : Bys l := fun x hx => h x (List.mem_cons_of_mem _ hx)
    obtain ⟨h0, h1⟩ := val_lt l hb
    obtain ⟨c0, c1⟩ := h c (List.mem_cons_self ..)
    have hp : (256 : Int) ^ l.length ≠ 0 := Int.pow_ne_zero (by decide)
    have e : c * 256 ^ l.length + val l = val l + 256 ^ l.length * c := by rw [Int.mul_comm, Int.add_comm]
    rw [val_cons, List.length_cons, be, e, be_add, ih hb, Int.add_mul_ediv_left _ _ hp, Int.ediv_eq_zero_of_lt h0 h1]
    congr 1
    omega
theorem bytes_str (l : List Int) (h : Bys l) : bytesOf (strOfNums l) = l := by
  rw [strOf_data, bytesOf]
  show (l.map fun n => UInt8.ofNat n.toNat).map (fun b : UInt8 => (b.toNat : Int)) = l
  rw [List.map_map]
  refine (List.map_congr_left (fun x hx => ?_)).trans (List.map_id l)
  obtain ⟨h0, h1⟩ := h x hx
  show ((UInt8.ofNat x.toNat).toNat : Int) = id x
  rw [UInt8.toNat_ofNat_of_lt' (by show x.toNat < 256; omega)]
  show ((x.toNat : Nat) : Int) = x
  omega
theorem str_size (l : List Int) : (strOfNums l).size = l.length := by
  rw [strOf_data]
  show (l.map fun n => UInt8.ofNat n.toNat).toArray.size = l.length
  simp
theorem Bys.take {l : List Int} (h : Bys l) (n : Nat) : Bys (l.take n) := fun x hx => h x (List.mem_of_mem_take hx)
theorem Bys.drop {l : List Int} (h : Bys l) (n : Nat) : Bys (l.drop n) := fun x hx => h x (List.mem_of_mem_drop hx)
theorem numP_back {k : Nat} {xs ys : List Int} {v : Int} (h : Bys xs) (e : numP k xs = some (v, ys)) : xs = be k v ++ ys ∧ 0 ≤ v ∧ v < 256 ^ k := by
  simp only [numP] at e
  split at e
  · cases e
  · cases e
    have hl : (xs.take k).length = k := by rw [List.length_take]; omega
    have h1 := be_val (xs.take k) (h.take k)
    have h2 := val_lt (xs.take k) (h.take k)
    rw [hl] at h1 h2
    exact ⟨by rw [h1, List.take_append_drop], h2.1, h2.2⟩
theorem textP_back {xs ys : List Int} {s : ByteArray} (h : Bys xs) (e : textP xs = some (s, ys)) : xs = textB s ++ ys ∧ s.size < 65536 := by
  simp only [textP] at e
  split at e
  · cases e
  · rename_i hn
    cases e
    have hl : (xs.take 2).length = 2 := by rw [List.length_take]; omega
    have h1 := be_val (xs.take 2) (h.take 2)
    have h2 := val_lt (xs.take 2) (h.take 2)
    rw [hl] at h1 h2
    generalize hv : val (xs.take 2) = v at *
    have hs : (strOfNums ((xs.drop 2).take v.toNat)).size = v.toNat := by rw [str_size, List.length_take, List.length_drop]; omega
    have hp : v < 65536 := h2.2
    refine ⟨?_, by rw [hs]; omega⟩
    rw [textB, hs, bytes_str _ ((h.drop 2).take _), show ((v.toNat : Nat) : Int) = v by omega, h1, ← List.drop_drop, List.append_assoc, List.take_append_drop, List.take_append_drop]
theorem intsP_back : ∀ (k : Nat) (xs ys l : List Int), Bys xs → intsP k xs = some (l, ys) → xs = beAll l ++ ys ∧ l.length = k
  | 0, xs, ys, l, h, e => by
    simp only [intsP] at e
    cases e
    exact ⟨rfl, rfl⟩
  | k + 1, xs, ys, l, h, e => by
    simp only [intsP] at e
    split at e
    · cases e
    · rename_i v y1 hn
      split at e
      · cases e
      · rename_i l1 zs hk
        cases e
        obtain ⟨e1, _, _⟩ := numP_back h hn
        obtain ⟨e2, e3⟩ := intsP_back k y1 ys l1 (numP_bys h hn) hk
        refine ⟨?_, by rw [List.length_cons, e3]⟩
        rw [e1, e2]
        simp [beAll]
theorem nodesP_back {xs ys l : List Int} (h : Bys xs) (e : nodesP xs = some (l, ys)) : xs = (be 2 l.length ++ beAll l) ++ ys ∧ l.length ≤ 1000 := by
  simp only [nodesP] at e
  split at e
  · cases e
  · rename_i n y1 hn
    split at e
    · cases e
    · rename_i hle
      obtain ⟨e1, h0, _⟩ := numP_back h hn
      obtain ⟨e2, e3⟩ := intsP_back n.toNat y1 ys l (numP_bys h hn) e
      have : ((l.length : Nat) : Int) = n := by omega
      refine ⟨?_, by omega⟩
      rw [this, List.append_assoc, ← e2]
      exact e1
theorem parseReq_back {xs : List Int} {q : Rq} {ys : List Int} (h : Bys xs) (e : parseReq xs = some (q, ys)) : xs = q.bytes ++ ys := by
  simp only [parseReq] at e
  split at e
  · cases e
  rename_i k x1 hk
  obtain ⟨e1, k0, _⟩ := numP_back h hk
  have b1 := numP_bys h hk
  rw [e1]
  split at e
  · rename_i k2
    split at e
    · cases e
    · rename_i s x2 hs
      cases e
      obtain ⟨e2, _⟩ := textP_back b1 hs
      rw [e2]
      simp [Rq.bytes, k2]
  split at e
  · rename_i k2 k3
    split at e
    · cases e
    rename_i o x2 ho
    split at e
    · cases e
    rename_i i x3 hi
    split at e
    · cases e
    rename_i p x4 hp
    split at e
    · cases e
    rename_i nm x5 hnm
    split at e
    · cases e
    rename_i os x6 hos
    cases e
    have b2 := numP_bys b1 ho
    have b3 := numP_bys b2 hi
    have b4 := numP_bys b3 hp
    have b5 := textP_bys b4 hnm
    rw [(numP_back b1 ho).1, (numP_back b2 hi).1, (numP_back b3 hp).1, (textP_back b4 hnm).1, (textP_back b5 hos).1]
    simp [Rq.bytes, k3]
  split at e
  · rename_i k2 k3 k6
    split at e
    · cases e
    rename_i i x2 hi
    cases e
    rw [(numP_back b1 hi).1]
    simp [Rq.bytes, k6]
  · rename_i k2 k3 k6
    cases e
    simp [Rq.bytes, k2, k3, k6]
theorem readReq_back {xs : List Int} {q : Rq} (h : Bys xs) (e : readReq xs = some q) : q.bytes = xs ∧ xs.length ≤ 4200 := by
  simp only [readReq] at e
  split at e
  · cases e
  · rename_i hl
    split at e
    · rename_i q' hp
      cases e
      have := parseReq_back h hp
      rw [List.append_nil] at this
      exact ⟨this.symm, by omega⟩
    · cases e
/-- What is read of a request is put as it was. -/
theorem req_once {xs : List Int} {q : Rq} (h : Bys xs) (e : getReq xs = (q, 0)) : putReq q = (xs, 0) := by
  rw [getReq] at e
  cases hr : readReq xs with
  | none => rw [hr] at e; simp [getOf] at e
  | some q' =>
    rw [hr] at e
    simp only [getOf] at e
    split at e
    · rename_i hb
      cases e
      obtain ⟨h1, h2⟩ := readReq_back h hr
      rw [putReq, if_neg (by rw [hb]; decide), h1, if_neg (by omega)]
    · cases e
theorem wrap_back (v : Int) (h0 : 0 ≤ v) (h1 : v < 18446744073709551616) : IntKind.u64.wrap (wrap64 v) = v := by
  rw [IntKind.wrap_u64]
  unfold wrap64
  omega
theorem wrap64_bounds (v : Int) : -9223372036854775808 ≤ wrap64 v ∧ wrap64 v ≤ 9223372036854775807 := by
  unfold wrap64
  omega
theorem parseRep_back {xs : List Int} {q : Rp} {ys : List Int} (h : Bys xs) (e : parseRep xs = some (q, true, ys)) : xs = q.bytes ++ ys ∧ q.kinds ∧ q.nodes.length ≤ 1000 := by
  simp only [parseRep] at e
  split at e
  · cases e
  rename_i k x1 hk
  split at e
  · cases e
  rename_i er x2 her
  split at e
  · cases e
  rename_i tx x3 htx
  split at e
  · cases e
  rename_i id x4 hid
  split at e
  · cases e
  rename_i ti x5 hti
  split at e
  · cases e
  rename_i s x6 hs
  split at e
  · cases e
  rename_i vt x7 hvt
  have b1 := numP_bys h hk
  have b2 := numP_bys b1 her
  have b3 := numP_bys b2 htx
  have b4 := numP_bys b3 hid
  have b5 := numP_bys b4 hti
  have b6 := textP_bys b5 hs
  have b7 := numP_bys b6 hvt
  obtain ⟨_, t0, t1⟩ := numP_back b4 hti
  have ht : 0 ≤ ti ∧ ti ≤ 18446744073709551615 := ⟨t0, by have : ti < 18446744073709551616 := t1; omega⟩
  have hz : -9223372036854775808 ≤ (0 : Int) ∧ (0 : Int) ≤ 9223372036854775807 := by decide
  rw [(numP_back h hk).1, (numP_back b1 her).1, (numP_back b2 htx).1, (numP_back b3 hid).1, (numP_back b4 hti).1, (textP_back b5 hs).1, (numP_back b6 hvt).1]
  split at e
  · rename_i v1
    split at e
    · cases e
    rename_i l y1 hl
    cases e
    obtain ⟨n1, n2⟩ := nodesP_back b7 hl
    rw [n1]
    exact ⟨by simp [Rp.bytes, Rp.head, Rp.tail, v1], ⟨ht, hz⟩, n2⟩
  split at e
  · rename_i v1 v2
    split at e
    · cases e
    rename_i v y1 hv
    obtain ⟨n1, n2, n3⟩ := numP_back b7 hv
    simp only [Option.some.injEq, Prod.mk.injEq] at e
    obtain ⟨rfl, hv1, rfl⟩ := e
    have hv2 : v ≤ 1 := of_decide_eq_true hv1
    have hf : flag (v == 1) = v := by
      by_cases hv3 : v = 1
      · subst hv3; rfl
      · have : v = 0 := by omega
        subst this; rfl
    refine ⟨?_, ⟨ht, hz⟩, Nat.zero_le _⟩
    rw [n1]
    simp [Rp.bytes, Rp.head, Rp.tail, v2, hf]
  split at e
  · rename_i v1 v2 v3
    split at e
    · cases e
    rename_i tg x8 htg
    split at e
    · cases e
    rename_i v y1 hv
    cases e
    have b8 := numP_bys b7 htg
    obtain ⟨n1, n2, n3⟩ := numP_back b8 hv
    refine ⟨?_, ⟨ht, wrap64_bounds v⟩, Nat.zero_le _⟩
    have hw := wrap_back v n2 n3
    rw [(numP_back b7 htg).1, n1]
    simp [Rp.bytes, Rp.head, Rp.tail, v3, hw]
  split at e
  · rename_i v1 v2 v3 v4
    split at e
    · cases e
    rename_i vs y1 hv
    cases e
    rw [(textP_back b7 hv).1]
    exact ⟨by simp [Rp.bytes, Rp.head, Rp.tail, v4], ⟨ht, hz⟩, Nat.zero_le _⟩
  · rename_i v1 v2 v3 v4
    cases e
    exact ⟨by simp [Rp.bytes, Rp.head, Rp.tail, v1, v2, v3, v4], ⟨ht, hz⟩, Nat.zero_le _⟩
theorem readRep_back {xs : List Int} {q : Rp} (h : Bys xs) (e : readRep xs = some q) : q.bytes = xs ∧ xs.length ≤ 4200 ∧ q.kinds ∧ q.nodes.length ≤ 1000 := by
  simp only [readRep] at e
  split at e
  · cases e
  · rename_i hl
    split at e
    · rename_i q' hp
      cases e
      obtain ⟨h1, h2, h3⟩ := parseRep_back h hp
      rw [List.append_nil] at h1
      exact ⟨h1.symm, by omega, h2, h3⟩
    · cases e
theorem rep_once {xs : List Int} {q : Rp} (h : Bys xs) (e : getRep xs = (q, 0)) : putRep q = (xs, 0) ∧ q.kinds ∧ q.nodes.length ≤ 1000 := by
  rw [getRep] at e
  cases hr : readRep xs with
  | none => rw [hr] at e; simp [getRepOf] at e
  | some q' =>
    rw [hr] at e
    simp only [getRepOf] at e
    split at e
    · rename_i hb
      cases e
      obtain ⟨h1, h2, h3, h4⟩ := readRep_back h hr
      refine ⟨?_, h3, h4⟩
      rw [putRep, if_neg (by rw [hb]; decide), h1, if_neg (by omega)]
    · cases e
end Go.Proofs.Ythkdihpbdaehbaa.Pr
namespace Go.Proofs.Ythkdihpbdaehbaa.Pr
set_option linter.unusedVariables false
set_option linter.unusedSimpArgs false
open Go.RowKit Go.Proofs.YthkdihpbdaehbaaW.PrintWords Go.Proofs.YthkdihpbdaehbaaW.PrintLast Go.Proofs.YthkdihpbdaehbaaW.PrintMore Go.Proofs.Ythkdihpbdaehbaa.Bs Go.Proofs.Ythkdihpbdaehbaa.PS
theorem rd_drop' (ns : List Int) (j : Nat) (h : j < ns.length) : ns.drop j = rd ns j :: ns.drop (j + 1) := by
  rw [List.drop_eq_getElem_cons h]; simp [rd, List.getD_eq_getElem?_getD, h]
theorem take_rd (ns : List Int) (j : Nat) (h : j < ns.length) : ns.take (j + 1) = ns.take j ++ [rd ns j] := by
  rw [List.take_succ_eq_append_getElem h]; simp [rd, List.getD_eq_getElem?_getD, h]
theorem rd_mem (ns : List Int) (j : Nat) (h : j < ns.length) : rd ns (j : Int) ∈ ns := by
  have : rd ns (j : Int) = ns[j] := by simp [rd, List.getD_eq_getElem?_getD, h]
  rw [this]; exact List.getElem_mem h
theorem pow_le8 (j : Nat) (h : j ≤ 7) : (256 : Int) ^ j ≤ 72057594037927936 := by
  have : ∀ i : Fin 8, (256 : Int) ^ i.val ≤ 72057594037927936 := by decide
  exact this ⟨j, by omega⟩
theorem wrap_succ' (j : Nat) (h : j < 9223372036854775807) : wrap64 ((j : Int) + 1) = ((j + 1 : Nat) : Int) := by
  unfold wrap64; omega
theorem value_loop (l : List Int) (hby : Bys l) (h8 : l.length ≤ 8) : ∀ (d j k : Nat), l.length - j = d → j ≤ l.length → d < k → breviaryref26_value.l0 k l (val (l.take j)) j = some (val l)
  | d, j, 0, _, _, hk => by omega
  | 0, j, k + 1, hd, hj, _ => by
    have : j = l.length := by omega
    subst this
    rw [breviaryref26_value.l0, if_neg (by omega), List.take_length]
  | d + 1, j, k + 1, hd, hj, hk => by
    have hjs : j < l.length := by omega
    obtain ⟨v0, v1⟩ := val_lt (l.take j) (hby.take j)
    rw [List.length_take, Nat.min_eq_left hj] at v1
    have hp := pow_le8 j (by omega)
    have hc := hby _ (rd_mem l j hjs)
    have e : IntKind.u64.wrap (IntKind.u64.wrap (val (l.take j) * 256) + IntKind.u64.wrap (rd l (j : Int))) = val (l.take (j + 1)) := by
      rw [take_rd l j hjs, val_snoc, IntKind.wrap_u64, IntKind.wrap_u64, IntKind.wrap_u64]
      omega
    rw [breviaryref26_value.l0, if_pos (by omega), if_pos (by omega), e, wrap_succ' j (by omega)]
    exact value_loop l hby h8 d (j + 1) k (by omega) (by omega) (by omega)
theorem value_ref (w : World) (A : Option Addr) (c : Nat) (l : List Int) (hC : (Kd.int .u8).C w A l.length l) (hc : l.length ≤ c) (hby : Bys l) (h8 : l.length ≤ 8) : Calls Try.prog 31 #[.slice A l.length c] w fun e w' => e = .returned (.int .u64 (val l)) ∧ Drawn0 w w' :=
  breviaryref26_value.calls (l.length + 1) A c l (val l) w hC hc (value_loop l hby h8 l.length 0 _ (by omega) (by omega) (by omega))
/-- Where so many bytes from a place on end. -/
def endOf (len : Nat) (at_ n : Int) : Int := if at_ < 0 then -1 else if n > len - at_ then -1 else at_ + n
theorem read_ref (w : World) (A : Option Addr) (c : Nat) (l : List Int) (hC : (Kd.int .u8).C w A l.length l) (hc : l.length ≤ c) (at_ n : Int) (h0 : 0 ≤ at_) (h1 : at_ ≤ l.length) (hl : l.length ≤ 9000000) (hn : 0 ≤ n) : Calls Try.prog 40 #[.slice A l.length c, .int .i64 at_, .int .i64 n] w fun e w' => e = .returned (.int .i64 (endOf l.length at_ n)) ∧ Drawn0 w w' := by
  refine breviaryref26_read.calls A c l at_ n _ w hC hc ?_
  unfold breviaryref26_read.f endOf
  have e : wrap64 ((l.length : Int) - at_) = l.length - at_ := by unfold wrap64; omega
  rw [if_neg (by omega), e, if_neg (show ¬ at_ < 0 by omega)]
  by_cases h : n > (l.length : Int) - at_
  · rw [if_pos h, if_pos h]
  · rw [if_neg h, if_neg h]
    have : wrap64 (at_ + n) = at_ + n := by unfold wrap64; omega
    rw [this]
/-- A piece of a list. -/
def sub (l : List Int) (a b : Nat) : List Int := (l.take b).drop a
theorem sub_length (l : List Int) (a b : Nat) (h : b ≤ l.length) : (sub l a b).length = b - a := by
  rw [sub, List.length_drop, List.length_take]; omega
theorem sub_bys {l : List Int} (h : Bys l) (a b : Nat) : Bys (sub l a b) := (h.take b).drop a
theorem sub_eq (l : List Int) (a b : Nat) (h : a ≤ b) : sub l a b = (l.drop a).take (b - a) := by
  rw [sub, List.drop_take]
theorem mid (A : Option Addr) (c : Nat) (l : List Int) (a b : Nat) (h1 : a ≤ b) (hm : b ≤ l.length) (hc : l.length ≤ c) :
    ∃ A' : Option Addr, (∀ W : World, (Instr.slice 27 (.slice A l.length c) (some (.int .i64 a)) (some (.int .i64 b)) none).run Try.prog W = .ok (.slice A' (b - a) (c - a)) W) ∧ (∀ W, (Kd.int .u8).C W A l.length l → (Kd.int .u8).C W A' (b - a) (sub l a b)) := by
  obtain ⟨i0, hi0, _, hsz, _⟩ := info_parts info5
  obtain ⟨A', h1', h2, h3⟩ := print_mid_of (P := Try.prog) (Value.int .u8) 0 27 5 .i64 .i64 Try.underlying27 hi0 hsz A c l a b (by omega) (by omega) (by omega) hc
  have e := sub_length l a b hm
  have e' : ((l.take (b : Int).toNat).drop (a : Int).toNat).length = b - a := e
  refine ⟨A', fun W => ?_, fun W hC => ?_⟩
  · have := h1' W
    rw [e'] at this
    exact this
  · have := Kd.C_of_reads (h1 := fun _ => rfl) (h2 W (Kd.reads_of_C hC))
    rw [e'] at this
    exact this
end Go.Proofs.Ythkdihpbdaehbaa.Pr
namespace Go.Proofs.Ythkdihpbdaehbaa.Pr
set_option linter.unusedVariables false
set_option linter.unusedSimpArgs false
open Go.RowKit Go.Proofs.YthkdihpbdaehbaaW.PrintWords Go.Proofs.YthkdihpbdaehbaaW.PrintLast Go.Proofs.YthkdihpbdaehbaaW.PrintMore Go.Proofs.Ythkdihpbdaehbaa.Bs
/-- The text at a place, and where it ends. -/
def wordsAt (l : List Int) (a : Nat) : ByteArray × Int := match textP (l.drop a) with | none => (nil8, -1) | some (s, r) => (s, (l.length : Int) - r.length)
theorem words_short (l : List Int) (a : Nat) (h : l.length - a < 2) : wordsAt l a = (nil8, -1) := by
  rw [wordsAt, textP, if_pos (by rw [List.length_drop]; omega)]
theorem words_lack (l : List Int) (a : Nat) (h : 2 ≤ l.length - a) (hn : l.length - a < 2 + (val (sub l a (a + 2))).toNat) : wordsAt l a = (nil8, -1) := by
  have e : sub l a (a + 2) = (l.drop a).take 2 := by rw [sub_eq l a (a + 2) (by omega)]; congr 1; omega
  rw [e] at hn
  rw [wordsAt, textP, if_pos (by rw [List.length_drop]; omega)]
theorem words_is (l : List Int) (a n : Nat) (h : 2 ≤ l.length - a) (hv : val (sub l a (a + 2)) = n) (hn : ¬ l.length - a < 2 + n) : wordsAt l a = (strOfNums (sub l (a + 2) (a + 2 + n)), ((a + 2 + n : Nat) : Int)) := by
  have e : sub l a (a + 2) = (l.drop a).take 2 := by rw [sub_eq l a (a + 2) (by omega)]; congr 1; omega
  rw [e] at hv
  have e2 : sub l (a + 2) (a + 2 + n) = ((l.drop a).drop 2).take n := by
    rw [sub_eq l (a + 2) (a + 2 + n) (by omega), List.drop_drop]; congr 1; omega
  rw [wordsAt, textP, hv, Int.toNat_natCast, if_neg (by rw [List.length_drop]; omega), e2]
  simp only [List.length_drop]
  congr 1
  omega
set_option maxRecDepth 100000 in
set_option maxHeartbeats 600000 in
theorem words_w1 (w : World) (A : Option Addr) (c : Nat) (l : List Int) (a : Nat) (hC : (Kd.int .u8).C w A l.length l) (hc : l.length ≤ c) (ha : a ≤ l.length) (hl : l.length ≤ 9000000) (h : l.length - a < 2) :
    Calls Try.prog 30 #[.slice A l.length c, .int .i64 a] w fun e w' => e = .returned (.tuple #[.string nil8, .int .i64 (-1)]) ∧ Drawn0 w w' := by
  have C1 := read_ref w A c l hC hc a 2 (by omega) (by omega) hl (by decide)
  rw [show endOf l.length a 2 = -1 by rw [endOf, if_neg (by omega), if_pos (by omega)]] at C1
  clear hC hc ha hl h
  go_enter Try.func30, Try.ntmps30
  go_wp2_with (first | (go_at_call 40; (with_reducible refine C1.mono ?_); rintro e w1 ⟨rfl, ⟨nd, rfl⟩⟩))
  go_ret2
  exact ⟨rfl, ⟨_, rfl⟩⟩
set_option maxRecDepth 100000 in
set_option maxHeartbeats 600000 in
theorem words_w2 (w : World) (A : Option Addr) (c : Nat) (l : List Int) (a t n : Nat) (hC : (Kd.int .u8).C w A l.length l) (hc : l.length ≤ c) (hby : Bys l) (hl : l.length ≤ 9000000) (ht : t = a + 2) (h : t ≤ l.length) (hv : val (sub l a t) = n) (hn : (n : Int) > (l.length : Int) - t) :
    Calls Try.prog 30 #[.slice A l.length c, .int .i64 a] w fun e w' => e = .returned (.tuple #[.string nil8, .int .i64 (-1)]) ∧ Drawn0 w w' := by
  have C1 := Aside0.mk (fun w hC => read_ref w A c l hC hc a 2 (by omega) (by omega) hl (by decide))
  rw [show endOf l.length a 2 = t by rw [endOf, if_neg (by omega), if_neg (by omega)]; omega] at C1
  obtain ⟨A', hcut, hA'⟩ := mid A c l a t (by omega) h hc
  have hsl := sub_length l a t h
  have C2 := Aside0.mk (fun w hC => value_ref w A' (c - a) (sub l a t) hC (by rw [hsl]; omega) (sub_bys hby a t) (by rw [hsl]; omega))
  rw [hsl, hv] at C2
  have C3 := Aside0.mk (fun w hC => read_ref w A c l hC hc t n (by omega) (by omega) hl (by omega))
  rw [show endOf l.length t n = -1 by rw [endOf, if_neg (by omega), if_pos hn]] at C3
  have hn2 : (n : Int) ≤ 65535 := by
    have := (val_lt (sub l a t) (sub_bys hby a t)).2
    rw [hsl, hv, show t - a = 2 by omega] at this
    have h2 : (n : Int) < 65536 := this
    omega
  have HC := Aside0.mk hC
  have HA := Aside0.mk hA'
  have hw : IntKind.i64.wrap (n : Int) = n := IntWalk.i64_in _ ⟨by omega, by omega⟩
  clear hC hA' hn hv ht hsl hby
  go_enter Try.func30, Try.ntmps30
  go_wp2_with fail
  refine (C1.out w HC.out).mono ?_
  rintro e w1 ⟨rfl, ⟨nd, rfl⟩⟩
  go_wp2_with fail
  refine (C2.out _ (HA.out _ (by repeat (first | exact HC.out | refine Kd.C_drewN ?_ _ | refine Kd.C_drew ?_)))).mono ?_
  rintro e w2 ⟨rfl, ⟨nd2, rfl⟩⟩
  go_wp2_with fail
  refine (C3.out _ (by repeat (first | exact HC.out | refine Kd.C_drewN ?_ _ | refine Kd.C_drew ?_))).mono ?_
  rintro e w3 ⟨rfl, ⟨nd3, rfl⟩⟩
  go_wp2_with fail
  go_ret2
  exact ⟨rfl, by repeat (first | exact Drawn0.refl _ | apply Drawn0.step | exact ⟨_, rfl⟩)⟩
set_option maxRecDepth 100000 in
set_option maxHeartbeats 600000 in
theorem words_w3 (w : World) (A : Option Addr) (c : Nat) (l : List Int) (a t n z : Nat) (hC : (Kd.int .u8).C w A l.length l) (hc : l.length ≤ c) (hby : Bys l) (hl : l.length ≤ 9000000) (ht : t = a + 2) (h : t ≤ l.length) (hv : val (sub l a t) = n) (hz : z = t + n) (hn : z ≤ l.length) :
    Calls Try.prog 30 #[.slice A l.length c, .int .i64 a] w fun e w' => e = .returned (.tuple #[.string (strOfNums (sub l t z)), .int .i64 z]) ∧ Drawn0 w w' := by
  have C1 := Aside0.mk (fun w hC => read_ref w A c l hC hc a 2 (by omega) (by omega) hl (by decide))
  rw [show endOf l.length a 2 = t by rw [endOf, if_neg (by omega), if_neg (by omega)]; omega] at C1
  obtain ⟨A', hcut, hA'⟩ := mid A c l a t (by omega) h hc
  obtain ⟨A2, hcut2, hA2⟩ := mid A c l t z (by omega) hn hc
  have hsl := sub_length l a t h
  have hsl2 := sub_length l t z hn
  have C2 := Aside0.mk (fun w hC => value_ref w A' (c - a) (sub l a t) hC (by rw [hsl]; omega) (sub_bys hby a t) (by rw [hsl]; omega))
  rw [hsl, hv] at C2
  have C3 := Aside0.mk (fun w hC => read_ref w A c l hC hc t n (by omega) (by omega) hl (by omega))
  rw [show endOf l.length t n = z by rw [endOf, if_neg (by omega), if_neg (by omega)]; omega] at C3
  have hn2 : (n : Int) ≤ 9000000 := by omega
  have HC := Aside0.mk hC
  have HA := Aside0.mk hA'
  have hst : ∀ W, (Kd.int .u8).C W A l.length l → (convert 27 9 (.slice A2 (z - t) (c - t))).run Try.prog W = .ok (.string (strOfNums (sub l t z))) W := fun W hW => by
    have h1 := hA2 W hW
    rw [← hsl2] at h1 ⊢
    exact Kd.C_string Try.underlying27 Try.underlying5 Try.underlying9 h1
  have HST := Aside0.mk hst
  have hw : IntKind.i64.wrap (n : Int) = n := IntWalk.i64_in _ ⟨by omega, by omega⟩
  clear hC hA' hA2 hn hv ht hsl hsl2 hby hz hst
  go_enter Try.func30, Try.ntmps30
  go_wp2_with fail
  refine (C1.out w HC.out).mono ?_
  rintro e w1 ⟨rfl, ⟨nd, rfl⟩⟩
  go_wp2_with fail
  refine (C2.out _ (HA.out _ (by repeat (first | exact HC.out | refine Kd.C_drewN ?_ _ | refine Kd.C_drew ?_)))).mono ?_
  rintro e w2 ⟨rfl, ⟨nd2, rfl⟩⟩
  go_wp2_with fail
  refine (C3.out _ (by repeat (first | exact HC.out | refine Kd.C_drewN ?_ _ | refine Kd.C_drew ?_))).mono ?_
  rintro e w3 ⟨rfl, hd⟩
  have q := HST.out w3 (by obtain ⟨nd3, rfl⟩ := hd; repeat (first | exact HC.out | refine Kd.C_drewN ?_ _ | refine Kd.C_drew ?_))
  have HD := Aside0.mk (show Drawn0 w w3 from Drawn0.two (by repeat (first | exact Drawn0.refl _ | apply Drawn0.step | exact ⟨_, rfl⟩)) hd)
  clear hd hcut
  go_wp2_with fail
  go_ret2
  exact ⟨rfl, HD.out⟩
theorem words_ref (w : World) (A : Option Addr) (c : Nat) (l : List Int) (a : Nat) (hC : (Kd.int .u8).C w A l.length l) (hc : l.length ≤ c) (hby : Bys l) (ha : a ≤ l.length) (hl : l.length ≤ 9000000) :
    Calls Try.prog 30 #[.slice A l.length c, .int .i64 a] w fun e w' => e = .returned (.tuple #[.string (wordsAt l a).1, .int .i64 (wordsAt l a).2]) ∧ Drawn0 w w' := by
  by_cases h : l.length - a < 2
  · rw [words_short l a h]
    exact words_w1 w A c l a hC hc ha hl h
  obtain ⟨n, hn⟩ : ∃ n : Nat, val (sub l a (a + 2)) = n := Int.eq_ofNat_of_zero_le (val_lt _ (sub_bys hby a (a + 2))).1
  by_cases h2 : l.length - a < 2 + n
  · rw [words_lack l a (by omega) (by rw [hn]; omega)]
    exact words_w2 w A c l a (a + 2) n hC hc hby hl rfl (by omega) hn (by omega)
  · rw [words_is l a n (by omega) hn h2]
    exact words_w3 w A c l a (a + 2) n (a + 2 + n) hC hc hby hl rfl (by omega) hn rfl (by omega)
end Go.Proofs.Ythkdihpbdaehbaa.Pr
namespace Go.Proofs.Ythkdihpbdaehbaa.Pr
set_option linter.unusedVariables false
set_option linter.unusedSimpArgs false
open Go.RowKit Go.Proofs.YthkdihpbdaehbaaW.PrintWords Go.Proofs.YthkdihpbdaehbaaW.PrintLast Go.Proofs.YthkdihpbdaehbaaW.PrintMore Go.Proofs.Ythkdihpbdaehbaa.Bs
set_option maxRecDepth 100000 in
set_option maxHeartbeats 400000 in
theorem value_still (w : World) (A : Option Addr) (c : Nat) (l : List Int) (hC : (Kd.int .u8).C w A l.length l) (hby : Bys l) (h8 : l.length ≤ 8) : Calls Try.prog 31 #[.slice A l.length c] w fun e w' => e = .returned (.int .u64 (val l)) ∧ w' = w := by
  have HC := Aside0.mk hC
  have HBY := Aside0.mk hby
  clear hC hby
  go_enter Try.func31, Try.ntmps31
  go_wp2
  go_loop [3, 4] (fun v3 v4 => ∃ j : Nat, j ≤ l.length ∧ v4 = .int .i64 j ∧ v3 = .int .u64 (val (l.take j))) (fun _ v4 => l.length - (intOf v4).toNat)
  case atStart => exact ⟨0, Nat.zero_le _, rfl, rfl⟩
  case round =>
    obtain ⟨j, hj, rfl, rfl⟩ := hrel
    by_cases hjs : j < l.length
    · have hjs' : (j : Int) < l.length := by omega
      obtain ⟨v0, v1⟩ := val_lt (l.take j) (HBY.out.take j)
      rw [List.length_take, Nat.min_eq_left hj] at v1
      have hp := pow_le8 j (by omega)
      have hc := HBY.out _ (rd_mem l j hjs)
      obtain ⟨ad, e, hcell⟩ := Kd.at_int HC.out (j : Int) (by omega) (by omega)
      cases e
      rw [Int.toNat_natCast] at hcell
      have HN := Aside0.mk (show val (l.take (j + 1)) = val (l.take j) * 256 + rd l (j : Int) by rw [take_rd l j hjs, val_snoc])
      generalize rd l (j : Int) = x at *
      generalize val (l.take j) = v at *
      obtain ⟨x0, x1⟩ := hc
      have v2 : v < 72057594037927936 := by omega
      clear v1 hp
      go_wp2
      go_round
      case rel => exact ⟨j + 1, hjs, rfl, by rw [HN.out]⟩
      case measure => simp [intOf]; omega
    · have hjs' : ¬ (j : Int) < l.length := by omega
      have HT := Aside0.mk (show l.take j = l from List.take_of_length_le (by omega))
      go_wp2
      go_ret
      exact ⟨by rw [HT.out]; rfl, rfl⟩
end Go.Proofs.Ythkdihpbdaehbaa.Pr
