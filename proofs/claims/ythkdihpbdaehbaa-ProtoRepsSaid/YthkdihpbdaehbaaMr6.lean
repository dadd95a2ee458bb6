import Derived.Test.YthkdihpbdaehbaaMr5
namespace Go.Proofs.Ythkdihpbdaehbaa.Pr
set_option linter.unusedVariables false
set_option linter.unusedSimpArgs false
open Go.RowKit Go.Proofs.YthkdihpbdaehbaaW.PrintWords Go.Proofs.YthkdihpbdaehbaaW.PrintLast Go.Proofs.YthkdihpbdaehbaaW.PrintMore Go.Proofs.Ythkdihpbdaehbaa.Bs
theorem isEmpty_nil {s : ByteArray} (h : s.toList = []) : s.size = 0 := by
  have := toList_nil s
  rw [h] at this
  simpa using this.symm
set_option maxRecDepth 100000 in
set_option maxHeartbeats 600000 in
theorem val_1 (w : World) (vt : Int) (A : Option Addr) (c : Nat) (ns : List Int) (vb : Bool) (tag vv : Int) (vs : ByteArray) (r : Bool) (hC : (Kd.int .i64).C w A ns.length ns) (hl : ns.length ≤ 9000000) (HE : r = false) (v0 : vt = 1) (hb : vb = true) : Calls Try.prog 36 #[.agg #[.int .i64 vt, .slice A ns.length c, .bool vb, .int .i64 tag, .int .i64 vv, .string vs]] w fun e w' => e = .returned (.bool r) ∧ Below w.heap.size w w' := by
  have E := Aside0.mk HE
  clear HE
  subst v0
  subst hb
  clear hC
  go_enter Try.func36, Try.ntmps36
  go_wp2_with (first | fail)
  go_ret
  exact ⟨congrArg (fun b => Ending.returned (.bool b)) E.out.symm, by repeat (first | exact Below.refl _ _ | apply below_alloc | apply pw_below_drewN | apply below_drew1)⟩
set_option maxRecDepth 100000 in
set_option maxHeartbeats 600000 in
theorem val_2 (w : World) (vt : Int) (A : Option Addr) (c : Nat) (ns : List Int) (vb : Bool) (tag vv : Int) (vs : ByteArray) (r : Bool) (hC : (Kd.int .i64).C w A ns.length ns) (hl : ns.length ≤ 9000000) (HE : r = false) (v0 : vt = 1) (hb : vb = false) (hz : (tag == 0 && vv == 0) = false) : Calls Try.prog 36 #[.agg #[.int .i64 vt, .slice A ns.length c, .bool vb, .int .i64 tag, .int .i64 vv, .string vs]] w fun e w' => e = .returned (.bool r) ∧ Below w.heap.size w w' := by
  have E := Aside0.mk HE
  clear HE
  subst v0
  subst hb
  have qd : ∀ w, (binOp .neq 40 (.agg #[.int .i64 tag, .int .i64 vv]) (.agg #[.int .i64 0, .int .i64 0])).run Try.prog w = .ok (.bool true) w := fun w => by rw [eqDec, hz]; rfl
  clear hC
  go_enter Try.func36, Try.ntmps36
  go_wp2_with (first | fail)
  go_ret
  exact ⟨congrArg (fun b => Ending.returned (.bool b)) E.out.symm, by repeat (first | exact Below.refl _ _ | apply below_alloc | apply pw_below_drewN | apply below_drew1)⟩
set_option maxRecDepth 100000 in
set_option maxHeartbeats 600000 in
theorem val_3 (w : World) (vt : Int) (A : Option Addr) (c : Nat) (ns : List Int) (vb : Bool) (tag vv : Int) (vs : ByteArray) (r : Bool) (hC : (Kd.int .i64).C w A ns.length ns) (hl : ns.length ≤ 9000000) (HE : r = false) (v0 : vt = 1) (hb : vb = false) (h0 : tag = 0) (h1 : vv = 0) (hs : ¬ vs.toList = []) : Calls Try.prog 36 #[.agg #[.int .i64 vt, .slice A ns.length c, .bool vb, .int .i64 tag, .int .i64 vv, .string vs]] w fun e w' => e = .returned (.bool r) ∧ Below w.heap.size w w' := by
  have E := Aside0.mk HE
  clear HE
  subst v0
  subst hb
  subst h0 h1
  have qd : ∀ w, (binOp .neq 40 (.agg #[.int .i64 0, .int .i64 0]) (.agg #[.int .i64 0, .int .i64 0])).run Try.prog w = .ok (.bool false) w := fun w => by rw [eqDec]; rfl
  have hs2 : (!vs.toList.isEmpty) = true := by simpa using hs
  clear hC
  go_enter Try.func36, Try.ntmps36
  go_wp2_with (first | fail)
  go_ret
  exact ⟨congrArg (fun b => Ending.returned (.bool b)) E.out.symm, by repeat (first | exact Below.refl _ _ | apply below_alloc | apply pw_below_drewN | apply below_drew1)⟩
set_option maxRecDepth 100000 in
set_option maxHeartbeats 600000 in
theorem val_4 (w : World) (vt : Int) (A : Option Addr) (c : Nat) (ns : List Int) (vb : Bool) (tag vv : Int) (vs : ByteArray) (r : Bool) (hC : (Kd.int .i64).C w A ns.length ns) (hl : ns.length ≤ 9000000) (HE : r = false) (v0 : vt = 1) (hb : vb = false) (h0 : tag = 0) (h1 : vv = 0) (hs : vs.toList = []) (nm : 1000 < ns.length) : Calls Try.prog 36 #[.agg #[.int .i64 vt, .slice A ns.length c, .bool vb, .int .i64 tag, .int .i64 vv, .string vs]] w fun e w' => e = .returned (.bool r) ∧ Below w.heap.size w w' := by
  have E := Aside0.mk HE
  clear HE
  subst v0
  subst hb
  subst h0 h1
  have qd : ∀ w, (binOp .neq 40 (.agg #[.int .i64 0, .int .i64 0]) (.agg #[.int .i64 0, .int .i64 0])).run Try.prog w = .ok (.bool false) w := fun w => by rw [eqDec]; rfl
  have sz : ((vs.size : Nat) : Int) ≤ 65535 := by have := isEmpty_nil hs; omega
  have nm' : ¬ (ns.length : Int) ≤ 1000 := by omega
  clear hC
  go_enter Try.func36, Try.ntmps36
  go_wp2_with (first | fail)
  go_ret
  exact ⟨congrArg (fun b => Ending.returned (.bool b)) E.out.symm, by repeat (first | exact Below.refl _ _ | apply below_alloc | apply pw_below_drewN | apply below_drew1)⟩
set_option maxRecDepth 100000 in
set_option maxHeartbeats 600000 in
theorem val_5 (w : World) (vt : Int) (A : Option Addr) (c : Nat) (ns : List Int) (vb : Bool) (tag vv : Int) (vs : ByteArray) (r : Bool) (hC : (Kd.int .i64).C w A ns.length ns) (hl : ns.length ≤ 9000000) (HE : r = false) (v0 : vt = 1) (hb : vb = false) (h0 : tag = 0) (h1 : vv = 0) (hs : vs.toList = []) (nm : ns.length ≤ 1000) (bd : badB ns = true) : Calls Try.prog 36 #[.agg #[.int .i64 vt, .slice A ns.length c, .bool vb, .int .i64 tag, .int .i64 vv, .string vs]] w fun e w' => e = .returned (.bool r) ∧ Below w.heap.size w w' := by
  have E := Aside0.mk HE
  clear HE
  have C1 := Aside0.mk (fun o => contains_calls (w.alloc o) A c ns (Kd.C_alloc hC o) hl)
  subst v0
  subst hb
  subst h0 h1
  have qd : ∀ w, (binOp .neq 40 (.agg #[.int .i64 0, .int .i64 0]) (.agg #[.int .i64 0, .int .i64 0])).run Try.prog w = .ok (.bool false) w := fun w => by rw [eqDec]; rfl
  have sz : ((vs.size : Nat) : Int) ≤ 65535 := by have := isEmpty_nil hs; omega
  have nm' : (ns.length : Int) ≤ 1000 := by omega
  rw [bd] at C1
  clear hC
  go_enter Try.func36, Try.ntmps36
  go_wp2_with (first | (go_at_call 45; (with_reducible refine (C1.out _).mono ?_); rintro e w1 ⟨rfl, ⟨nd, rfl⟩⟩))
  go_ret
  exact ⟨congrArg (fun b => Ending.returned (.bool b)) E.out.symm, by repeat (first | exact Below.refl _ _ | apply below_alloc | apply pw_below_drewN | apply below_drew1)⟩
set_option maxRecDepth 100000 in
set_option maxHeartbeats 600000 in
theorem val_6 (w : World) (vt : Int) (A : Option Addr) (c : Nat) (ns : List Int) (vb : Bool) (tag vv : Int) (vs : ByteArray) (r : Bool) (hC : (Kd.int .i64).C w A ns.length ns) (hl : ns.length ≤ 9000000) (HE : r = true) (v0 : vt = 1) (hb : vb = false) (h0 : tag = 0) (h1 : vv = 0) (hs : vs.toList = []) (nm : ns.length ≤ 1000) (bd : badB ns = false) : Calls Try.prog 36 #[.agg #[.int .i64 vt, .slice A ns.length c, .bool vb, .int .i64 tag, .int .i64 vv, .string vs]] w fun e w' => e = .returned (.bool r) ∧ Below w.heap.size w w' := by
  have E := Aside0.mk HE
  clear HE
  have C1 := Aside0.mk (fun o => contains_calls (w.alloc o) A c ns (Kd.C_alloc hC o) hl)
  have C2 := Aside0.mk (fun w => dec_calls w tag vv)
  subst v0
  subst hb
  subst h0 h1
  have qd : ∀ w, (binOp .neq 40 (.agg #[.int .i64 0, .int .i64 0]) (.agg #[.int .i64 0, .int .i64 0])).run Try.prog w = .ok (.bool false) w := fun w => by rw [eqDec]; rfl
  have sz : ((vs.size : Nat) : Int) ≤ 65535 := by have := isEmpty_nil hs; omega
  have nm' : (ns.length : Int) ≤ 1000 := by omega
  rw [bd] at C1
  rw [show decB 0 0 = true from by decide] at C2
  clear hC
  go_enter Try.func36, Try.ntmps36
  go_wp2_with (first | (go_at_call 45; (with_reducible refine (C1.out _).mono ?_); rintro e w1 ⟨rfl, ⟨nd, rfl⟩⟩) | (go_at_call 47; (with_reducible refine (C2.out _).mono ?_); rintro e w2 ⟨rfl, hb⟩; have hvs : w2.cell? ⟨w.heap.size, 5, none⟩ = some (.string vs) := pw_cell_below hb (by go_simp); have HB := Aside0.mk hb; clear hb))
  go_ret
  exact ⟨congrArg (fun b => Ending.returned (.bool b)) E.out.symm, below_step (by repeat (first | exact Below.refl _ _ | apply below_alloc | apply pw_below_drewN | apply below_drew1)) HB.out⟩
set_option maxRecDepth 100000 in
set_option maxHeartbeats 600000 in
theorem val_7 (w : World) (vt : Int) (A : Option Addr) (c : Nat) (ns : List Int) (vb : Bool) (tag vv : Int) (vs : ByteArray) (r : Bool) (hC : (Kd.int .i64).C w A ns.length ns) (hl : ns.length ≤ 9000000) (HE : r = false) (v0 : vt = 2) (np : 0 < ns.length) : Calls Try.prog 36 #[.agg #[.int .i64 vt, .slice A ns.length c, .bool vb, .int .i64 tag, .int .i64 vv, .string vs]] w fun e w' => e = .returned (.bool r) ∧ Below w.heap.size w w' := by
  have E := Aside0.mk HE
  clear HE
  subst v0
  have n1 : 0 < (ns.length : Int) := by omega
  clear hC
  go_enter Try.func36, Try.ntmps36
  go_wp2_with (first | fail)
  go_ret
  exact ⟨congrArg (fun b => Ending.returned (.bool b)) E.out.symm, by repeat (first | exact Below.refl _ _ | apply below_alloc | apply pw_below_drewN | apply below_drew1)⟩
set_option maxRecDepth 100000 in
set_option maxHeartbeats 600000 in
theorem val_8 (w : World) (vt : Int) (A : Option Addr) (c : Nat) (ns : List Int) (vb : Bool) (tag vv : Int) (vs : ByteArray) (r : Bool) (hC : (Kd.int .i64).C w A ns.length ns) (hl : ns.length ≤ 9000000) (HE : r = false) (v0 : vt = 2) (nz : ns.length = 0) (hz : (tag == 0 && vv == 0) = false) : Calls Try.prog 36 #[.agg #[.int .i64 vt, .slice A ns.length c, .bool vb, .int .i64 tag, .int .i64 vv, .string vs]] w fun e w' => e = .returned (.bool r) ∧ Below w.heap.size w w' := by
  have E := Aside0.mk HE
  clear HE
  subst v0
  have n1 : ¬ 0 < (ns.length : Int) := by omega
  have qd : ∀ w, (binOp .neq 40 (.agg #[.int .i64 tag, .int .i64 vv]) (.agg #[.int .i64 0, .int .i64 0])).run Try.prog w = .ok (.bool true) w := fun w => by rw [eqDec, hz]; rfl
  clear hC
  go_enter Try.func36, Try.ntmps36
  go_wp2_with (first | fail)
  go_ret
  exact ⟨congrArg (fun b => Ending.returned (.bool b)) E.out.symm, by repeat (first | exact Below.refl _ _ | apply below_alloc | apply pw_below_drewN | apply below_drew1)⟩
set_option maxRecDepth 100000 in
set_option maxHeartbeats 600000 in
theorem val_9 (w : World) (vt : Int) (A : Option Addr) (c : Nat) (ns : List Int) (vb : Bool) (tag vv : Int) (vs : ByteArray) (r : Bool) (hC : (Kd.int .i64).C w A ns.length ns) (hl : ns.length ≤ 9000000) (HE : r = false) (v0 : vt = 2) (nz : ns.length = 0) (h0 : tag = 0) (h1 : vv = 0) (hs : ¬ vs.toList = []) : Calls Try.prog 36 #[.agg #[.int .i64 vt, .slice A ns.length c, .bool vb, .int .i64 tag, .int .i64 vv, .string vs]] w fun e w' => e = .returned (.bool r) ∧ Below w.heap.size w w' := by
  have E := Aside0.mk HE
  clear HE
  subst v0
  have n1 : ¬ 0 < (ns.length : Int) := by omega
  subst h0 h1
  have qd : ∀ w, (binOp .neq 40 (.agg #[.int .i64 0, .int .i64 0]) (.agg #[.int .i64 0, .int .i64 0])).run Try.prog w = .ok (.bool false) w := fun w => by rw [eqDec]; rfl
  have hs2 : (!vs.toList.isEmpty) = true := by simpa using hs
  clear hC
  go_enter Try.func36, Try.ntmps36
  go_wp2_with (first | fail)
  go_ret
  exact ⟨congrArg (fun b => Ending.returned (.bool b)) E.out.symm, by repeat (first | exact Below.refl _ _ | apply below_alloc | apply pw_below_drewN | apply below_drew1)⟩
set_option maxRecDepth 100000 in
set_option maxHeartbeats 600000 in
theorem val_10 (w : World) (vt : Int) (A : Option Addr) (c : Nat) (ns : List Int) (vb : Bool) (tag vv : Int) (vs : ByteArray) (r : Bool) (hC : (Kd.int .i64).C w A ns.length ns) (hl : ns.length ≤ 9000000) (HE : r = true) (v0 : vt = 2) (nz : ns.length = 0) (h0 : tag = 0) (h1 : vv = 0) (hs : vs.toList = []) (bd : badB ns = false) : Calls Try.prog 36 #[.agg #[.int .i64 vt, .slice A ns.length c, .bool vb, .int .i64 tag, .int .i64 vv, .string vs]] w fun e w' => e = .returned (.bool r) ∧ Below w.heap.size w w' := by
  have E := Aside0.mk HE
  clear HE
  have C1 := Aside0.mk (fun o => contains_calls (w.alloc o) A c ns (Kd.C_alloc hC o) hl)
  have C2 := Aside0.mk (fun w => dec_calls w tag vv)
  subst v0
  have n1 : ¬ 0 < (ns.length : Int) := by omega
  subst h0 h1
  have qd : ∀ w, (binOp .neq 40 (.agg #[.int .i64 0, .int .i64 0]) (.agg #[.int .i64 0, .int .i64 0])).run Try.prog w = .ok (.bool false) w := fun w => by rw [eqDec]; rfl
  have sz : ((vs.size : Nat) : Int) ≤ 65535 := by have := isEmpty_nil hs; omega
  have nm' : (ns.length : Int) ≤ 1000 := by omega
  obtain rfl : ns = [] := List.length_eq_zero_iff.mp nz
  simp only [List.length_nil] at *
  rw [bd] at C1
  rw [show decB 0 0 = true from by decide] at C2
  clear hC
  go_enter Try.func36, Try.ntmps36
  go_wp2_with (first | (go_at_call 45; (with_reducible refine (C1.out _).mono ?_); rintro e w1 ⟨rfl, ⟨nd, rfl⟩⟩) | (go_at_call 47; (with_reducible refine (C2.out _).mono ?_); rintro e w2 ⟨rfl, hb⟩; have hvs : w2.cell? ⟨w.heap.size, 5, none⟩ = some (.string vs) := pw_cell_below hb (by go_simp); have HB := Aside0.mk hb; clear hb))
  go_ret
  exact ⟨congrArg (fun b => Ending.returned (.bool b)) E.out.symm, below_step (by repeat (first | exact Below.refl _ _ | apply below_alloc | apply pw_below_drewN | apply below_drew1)) HB.out⟩
set_option maxRecDepth 100000 in
set_option maxHeartbeats 600000 in
theorem val_11 (w : World) (vt : Int) (A : Option Addr) (c : Nat) (ns : List Int) (vb : Bool) (tag vv : Int) (vs : ByteArray) (r : Bool) (hC : (Kd.int .i64).C w A ns.length ns) (hl : ns.length ≤ 9000000) (HE : r = false) (v0 : vt = 3) (np : 0 < ns.length) : Calls Try.prog 36 #[.agg #[.int .i64 vt, .slice A ns.length c, .bool vb, .int .i64 tag, .int .i64 vv, .string vs]] w fun e w' => e = .returned (.bool r) ∧ Below w.heap.size w w' := by
  have E := Aside0.mk HE
  clear HE
  subst v0
  have n1 : 0 < (ns.length : Int) := by omega
  clear hC
  go_enter Try.func36, Try.ntmps36
  go_wp2_with (first | fail)
  go_ret
  exact ⟨congrArg (fun b => Ending.returned (.bool b)) E.out.symm, by repeat (first | exact Below.refl _ _ | apply below_alloc | apply pw_below_drewN | apply below_drew1)⟩
set_option maxRecDepth 100000 in
set_option maxHeartbeats 600000 in
theorem val_12 (w : World) (vt : Int) (A : Option Addr) (c : Nat) (ns : List Int) (vb : Bool) (tag vv : Int) (vs : ByteArray) (r : Bool) (hC : (Kd.int .i64).C w A ns.length ns) (hl : ns.length ≤ 9000000) (HE : r = false) (v0 : vt = 3) (nz : ns.length = 0) (hb : vb = true) : Calls Try.prog 36 #[.agg #[.int .i64 vt, .slice A ns.length c, .bool vb, .int .i64 tag, .int .i64 vv, .string vs]] w fun e w' => e = .returned (.bool r) ∧ Below w.heap.size w w' := by
  have E := Aside0.mk HE
  clear HE
  subst v0
  have n1 : ¬ 0 < (ns.length : Int) := by omega
  subst hb
  clear hC
  go_enter Try.func36, Try.ntmps36
  go_wp2_with (first | fail)
  go_ret
  exact ⟨congrArg (fun b => Ending.returned (.bool b)) E.out.symm, by repeat (first | exact Below.refl _ _ | apply below_alloc | apply pw_below_drewN | apply below_drew1)⟩
set_option maxRecDepth 100000 in
set_option maxHeartbeats 600000 in
theorem val_13 (w : World) (vt : Int) (A : Option Addr) (c : Nat) (ns : List Int) (vb : Bool) (tag vv : Int) (vs : ByteArray) (r : Bool) (hC : (Kd.int .i64).C w A ns.length ns) (hl : ns.length ≤ 9000000) (HE : r = false) (v0 : vt = 3) (nz : ns.length = 0) (hb : vb = false) (hs : ¬ vs.toList = []) : Calls Try.prog 36 #[.agg #[.int .i64 vt, .slice A ns.length c, .bool vb, .int .i64 tag, .int .i64 vv, .string vs]] w fun e w' => e = .returned (.bool r) ∧ Below w.heap.size w w' := by
  have E := Aside0.mk HE
  clear HE
  subst v0
  have n1 : ¬ 0 < (ns.length : Int) := by omega
  subst hb
  have hs2 : (!vs.toList.isEmpty) = true := by simpa using hs
  clear hC
  go_enter Try.func36, Try.ntmps36
  go_wp2_with (first | fail)
  go_ret
  exact ⟨congrArg (fun b => Ending.returned (.bool b)) E.out.symm, by repeat (first | exact Below.refl _ _ | apply below_alloc | apply pw_below_drewN | apply below_drew1)⟩
set_option maxRecDepth 100000 in
set_option maxHeartbeats 600000 in
theorem val_14 (w : World) (vt : Int) (A : Option Addr) (c : Nat) (ns : List Int) (vb : Bool) (tag vv : Int) (vs : ByteArray) (r : Bool) (hC : (Kd.int .i64).C w A ns.length ns) (hl : ns.length ≤ 9000000) (HE : r = false) (v0 : vt = 3) (nz : ns.length = 0) (hb : vb = false) (hs : vs.toList = []) (bd : badB ns = false) (dd : decB tag vv = false) : Calls Try.prog 36 #[.agg #[.int .i64 vt, .slice A ns.length c, .bool vb, .int .i64 tag, .int .i64 vv, .string vs]] w fun e w' => e = .returned (.bool r) ∧ Below w.heap.size w w' := by
  have E := Aside0.mk HE
  clear HE
  have C1 := Aside0.mk (fun o => contains_calls (w.alloc o) A c ns (Kd.C_alloc hC o) hl)
  have C2 := Aside0.mk (fun w => dec_calls w tag vv)
  subst v0
  have n1 : ¬ 0 < (ns.length : Int) := by omega
  subst hb
  have sz : ((vs.size : Nat) : Int) ≤ 65535 := by have := isEmpty_nil hs; omega
  have nm' : (ns.length : Int) ≤ 1000 := by omega
  obtain rfl : ns = [] := List.length_eq_zero_iff.mp nz
  simp only [List.length_nil] at *
  rw [bd] at C1
  rw [dd] at C2
  clear hC
  go_enter Try.func36, Try.ntmps36
  go_wp2_with (first | (go_at_call 45; (with_reducible refine (C1.out _).mono ?_); rintro e w1 ⟨rfl, ⟨nd, rfl⟩⟩) | (go_at_call 47; (with_reducible refine (C2.out _).mono ?_); rintro e w2 ⟨rfl, hb⟩; have hvs : w2.cell? ⟨w.heap.size, 5, none⟩ = some (.string vs) := pw_cell_below hb (by go_simp); have HB := Aside0.mk hb; clear hb))
  go_ret
  exact ⟨congrArg (fun b => Ending.returned (.bool b)) E.out.symm, below_step (by repeat (first | exact Below.refl _ _ | apply below_alloc | apply pw_below_drewN | apply below_drew1)) HB.out⟩
set_option maxRecDepth 100000 in
set_option maxHeartbeats 600000 in
theorem val_15 (w : World) (vt : Int) (A : Option Addr) (c : Nat) (ns : List Int) (vb : Bool) (tag vv : Int) (vs : ByteArray) (r : Bool) (hC : (Kd.int .i64).C w A ns.length ns) (hl : ns.length ≤ 9000000) (HE : r = true) (v0 : vt = 3) (nz : ns.length = 0) (hb : vb = false) (hs : vs.toList = []) (bd : badB ns = false) (dd : decB tag vv = true) : Calls Try.prog 36 #[.agg #[.int .i64 vt, .slice A ns.length c, .bool vb, .int .i64 tag, .int .i64 vv, .string vs]] w fun e w' => e = .returned (.bool r) ∧ Below w.heap.size w w' := by
  have E := Aside0.mk HE
  clear HE
  have C1 := Aside0.mk (fun o => contains_calls (w.alloc o) A c ns (Kd.C_alloc hC o) hl)
  have C2 := Aside0.mk (fun w => dec_calls w tag vv)
  subst v0
  have n1 : ¬ 0 < (ns.length : Int) := by omega
  subst hb
  have sz : ((vs.size : Nat) : Int) ≤ 65535 := by have := isEmpty_nil hs; omega
  have nm' : (ns.length : Int) ≤ 1000 := by omega
  obtain rfl : ns = [] := List.length_eq_zero_iff.mp nz
  simp only [List.length_nil] at *
  rw [bd] at C1
  rw [dd] at C2
  clear hC
  go_enter Try.func36, Try.ntmps36
  go_wp2_with (first | (go_at_call 45; (with_reducible refine (C1.out _).mono ?_); rintro e w1 ⟨rfl, ⟨nd, rfl⟩⟩) | (go_at_call 47; (with_reducible refine (C2.out _).mono ?_); rintro e w2 ⟨rfl, hb⟩; have hvs : w2.cell? ⟨w.heap.size, 5, none⟩ = some (.string vs) := pw_cell_below hb (by go_simp); have HB := Aside0.mk hb; clear hb))
  go_ret
  exact ⟨congrArg (fun b => Ending.returned (.bool b)) E.out.symm, below_step (by repeat (first | exact Below.refl _ _ | apply below_alloc | apply pw_below_drewN | apply below_drew1)) HB.out⟩
set_option maxRecDepth 100000 in
set_option maxHeartbeats 600000 in
theorem val_16 (w : World) (vt : Int) (A : Option Addr) (c : Nat) (ns : List Int) (vb : Bool) (tag vv : Int) (vs : ByteArray) (r : Bool) (hC : (Kd.int .i64).C w A ns.length ns) (hl : ns.length ≤ 9000000) (HE : r = false) (v0 : vt = 4) (np : 0 < ns.length) : Calls Try.prog 36 #[.agg #[.int .i64 vt, .slice A ns.length c, .bool vb, .int .i64 tag, .int .i64 vv, .string vs]] w fun e w' => e = .returned (.bool r) ∧ Below w.heap.size w w' := by
  have E := Aside0.mk HE
  clear HE
  subst v0
  have n1 : 0 < (ns.length : Int) := by omega
  clear hC
  go_enter Try.func36, Try.ntmps36
  go_wp2_with (first | fail)
  go_ret
  exact ⟨congrArg (fun b => Ending.returned (.bool b)) E.out.symm, by repeat (first | exact Below.refl _ _ | apply below_alloc | apply pw_below_drewN | apply below_drew1)⟩
set_option maxRecDepth 100000 in
set_option maxHeartbeats 600000 in
theorem val_17 (w : World) (vt : Int) (A : Option Addr) (c : Nat) (ns : List Int) (vb : Bool) (tag vv : Int) (vs : ByteArray) (r : Bool) (hC : (Kd.int .i64).C w A ns.length ns) (hl : ns.length ≤ 9000000) (HE : r = false) (v0 : vt = 4) (nz : ns.length = 0) (hb : vb = true) : Calls Try.prog 36 #[.agg #[.int .i64 vt, .slice A ns.length c, .bool vb, .int .i64 tag, .int .i64 vv, .string vs]] w fun e w' => e = .returned (.bool r) ∧ Below w.heap.size w w' := by
  have E := Aside0.mk HE
  clear HE
  subst v0
  have n1 : ¬ 0 < (ns.length : Int) := by omega
  subst hb
  clear hC
  go_enter Try.func36, Try.ntmps36
  go_wp2_with (first | fail)
  go_ret
  exact ⟨congrArg (fun b => Ending.returned (.bool b)) E.out.symm, by repeat (first | exact Below.refl _ _ | apply below_alloc | apply pw_below_drewN | apply below_drew1)⟩
set_option maxRecDepth 100000 in
set_option maxHeartbeats 600000 in
theorem val_18 (w : World) (vt : Int) (A : Option Addr) (c : Nat) (ns : List Int) (vb : Bool) (tag vv : Int) (vs : ByteArray) (r : Bool) (hC : (Kd.int .i64).C w A ns.length ns) (hl : ns.length ≤ 9000000) (HE : r = false) (v0 : vt = 4) (nz : ns.length = 0) (hb : vb = false) (hz : (tag == 0 && vv == 0) = false) : Calls Try.prog 36 #[.agg #[.int .i64 vt, .slice A ns.length c, .bool vb, .int .i64 tag, .int .i64 vv, .string vs]] w fun e w' => e = .returned (.bool r) ∧ Below w.heap.size w w' := by
  have E := Aside0.mk HE
  clear HE
  subst v0
  have n1 : ¬ 0 < (ns.length : Int) := by omega
  subst hb
  have qd : ∀ w, (binOp .neq 40 (.agg #[.int .i64 tag, .int .i64 vv]) (.agg #[.int .i64 0, .int .i64 0])).run Try.prog w = .ok (.bool true) w := fun w => by rw [eqDec, hz]; rfl
  clear hC
  go_enter Try.func36, Try.ntmps36
  go_wp2_with (first | fail)
  go_ret
  exact ⟨congrArg (fun b => Ending.returned (.bool b)) E.out.symm, by repeat (first | exact Below.refl _ _ | apply below_alloc | apply pw_below_drewN | apply below_drew1)⟩
set_option maxRecDepth 100000 in
set_option maxHeartbeats 600000 in
theorem val_19 (w : World) (vt : Int) (A : Option Addr) (c : Nat) (ns : List Int) (vb : Bool) (tag vv : Int) (vs : ByteArray) (r : Bool) (hC : (Kd.int .i64).C w A ns.length ns) (hl : ns.length ≤ 9000000) (HE : r = true) (v0 : vt = 4) (nz : ns.length = 0) (hb : vb = false) (h0 : tag = 0) (h1 : vv = 0) (bd : badB ns = false) (sl : vs.size ≤ 65535) : Calls Try.prog 36 #[.agg #[.int .i64 vt, .slice A ns.length c, .bool vb, .int .i64 tag, .int .i64 vv, .string vs]] w fun e w' => e = .returned (.bool r) ∧ Below w.heap.size w w' := by
  have E := Aside0.mk HE
  clear HE
  have C1 := Aside0.mk (fun o => contains_calls (w.alloc o) A c ns (Kd.C_alloc hC o) hl)
  have C2 := Aside0.mk (fun w => dec_calls w tag vv)
  subst v0
  have n1 : ¬ 0 < (ns.length : Int) := by omega
  subst hb
  subst h0 h1
  have qd : ∀ w, (binOp .neq 40 (.agg #[.int .i64 0, .int .i64 0]) (.agg #[.int .i64 0, .int .i64 0])).run Try.prog w = .ok (.bool false) w := fun w => by rw [eqDec]; rfl
  have nm' : (ns.length : Int) ≤ 1000 := by omega
  obtain rfl : ns = [] := List.length_eq_zero_iff.mp nz
  simp only [List.length_nil] at *
  rw [bd] at C1
  rw [show decB 0 0 = true from by decide] at C2
  have sl' : (vs.size : Int) ≤ 65535 := by omega
  clear hC
  go_enter Try.func36, Try.ntmps36
  go_wp2_with (first | (go_at_call 45; (with_reducible refine (C1.out _).mono ?_); rintro e w1 ⟨rfl, ⟨nd, rfl⟩⟩) | (go_at_call 47; (with_reducible refine (C2.out _).mono ?_); rintro e w2 ⟨rfl, hb⟩; have hvs : w2.cell? ⟨w.heap.size, 5, none⟩ = some (.string vs) := pw_cell_below hb (by go_simp); have HB := Aside0.mk hb; clear hb))
  go_ret
  exact ⟨congrArg (fun b => Ending.returned (.bool b)) E.out.symm, below_step (by repeat (first | exact Below.refl _ _ | apply below_alloc | apply pw_below_drewN | apply below_drew1)) HB.out⟩
set_option maxRecDepth 100000 in
set_option maxHeartbeats 600000 in
theorem val_20 (w : World) (vt : Int) (A : Option Addr) (c : Nat) (ns : List Int) (vb : Bool) (tag vv : Int) (vs : ByteArray) (r : Bool) (hC : (Kd.int .i64).C w A ns.length ns) (hl : ns.length ≤ 9000000) (HE : r = false) (v0 : vt = 4) (nz : ns.length = 0) (hb : vb = false) (h0 : tag = 0) (h1 : vv = 0) (bd : badB ns = false) (sl : 65535 < vs.size) : Calls Try.prog 36 #[.agg #[.int .i64 vt, .slice A ns.length c, .bool vb, .int .i64 tag, .int .i64 vv, .string vs]] w fun e w' => e = .returned (.bool r) ∧ Below w.heap.size w w' := by
  have E := Aside0.mk HE
  clear HE
  have C1 := Aside0.mk (fun o => contains_calls (w.alloc o) A c ns (Kd.C_alloc hC o) hl)
  have C2 := Aside0.mk (fun w => dec_calls w tag vv)
  subst v0
  have n1 : ¬ 0 < (ns.length : Int) := by omega
  subst hb
  subst h0 h1
  have qd : ∀ w, (binOp .neq 40 (.agg #[.int .i64 0, .int .i64 0]) (.agg #[.int .i64 0, .int .i64 0])).run Try.prog w = .ok (.bool false) w := fun w => by rw [eqDec]; rfl
  have nm' : (ns.length : Int) ≤ 1000 := by omega
  obtain rfl : ns = [] := List.length_eq_zero_iff.mp nz
  simp only [List.length_nil] at *
  rw [bd] at C1
  rw [show decB 0 0 = true from by decide] at C2
  have E := Aside0.mk (show r = decide ((vs.size : Int) ≤ 65535) by rw [E.out]; symm; simp; omega)
  clear hC
  go_enter Try.func36, Try.ntmps36
  go_wp2_with (first | (go_at_call 45; (with_reducible refine (C1.out _).mono ?_); rintro e w1 ⟨rfl, ⟨nd, rfl⟩⟩) | (go_at_call 47; (with_reducible refine (C2.out _).mono ?_); rintro e w2 ⟨rfl, hb⟩; have hvs : w2.cell? ⟨w.heap.size, 5, none⟩ = some (.string vs) := pw_cell_below hb (by go_simp); have HB := Aside0.mk hb; clear hb))
  go_ret
  exact ⟨congrArg (fun b => Ending.returned (.bool b)) E.out.symm, below_step (by repeat (first | exact Below.refl _ _ | apply below_alloc | apply pw_below_drewN | apply below_drew1)) HB.out⟩
set_option maxRecDepth 100000 in
set_option maxHeartbeats 600000 in
theorem val_21 (w : World) (vt : Int) (A : Option Addr) (c : Nat) (ns : List Int) (vb : Bool) (tag vv : Int) (vs : ByteArray) (r : Bool) (hC : (Kd.int .i64).C w A ns.length ns) (hl : ns.length ≤ 9000000) (HE : r = false) (v1 : ¬ vt = 1) (v2 : ¬ vt = 2) (v3 : ¬ vt = 3) (v4 : ¬ vt = 4) (np : 0 < ns.length) : Calls Try.prog 36 #[.agg #[.int .i64 vt, .slice A ns.length c, .bool vb, .int .i64 tag, .int .i64 vv, .string vs]] w fun e w' => e = .returned (.bool r) ∧ Below w.heap.size w w' := by
  have E := Aside0.mk HE
  clear HE
  have d1 : (vt != 1) = true := by simp; exact v1
  have d2 : (vt != 2) = true := by simp; exact v2
  have d3 : (vt != 3) = true := by simp; exact v3
  have d4 : (vt != 4) = true := by simp; exact v4
  have n1 : 0 < (ns.length : Int) := by omega
  clear hC
  go_enter Try.func36, Try.ntmps36
  go_wp2_with (first | fail)
  go_ret
  exact ⟨congrArg (fun b => Ending.returned (.bool b)) E.out.symm, by repeat (first | exact Below.refl _ _ | apply below_alloc | apply pw_below_drewN | apply below_drew1)⟩
set_option maxRecDepth 100000 in
set_option maxHeartbeats 600000 in
theorem val_22 (w : World) (vt : Int) (A : Option Addr) (c : Nat) (ns : List Int) (vb : Bool) (tag vv : Int) (vs : ByteArray) (r : Bool) (hC : (Kd.int .i64).C w A ns.length ns) (hl : ns.length ≤ 9000000) (HE : r = false) (v1 : ¬ vt = 1) (v2 : ¬ vt = 2) (v3 : ¬ vt = 3) (v4 : ¬ vt = 4) (nz : ns.length = 0) (hb : vb = true) : Calls Try.prog 36 #[.agg #[.int .i64 vt, .slice A ns.length c, .bool vb, .int .i64 tag, .int .i64 vv, .string vs]] w fun e w' => e = .returned (.bool r) ∧ Below w.heap.size w w' := by
  have E := Aside0.mk HE
  clear HE
  have d1 : (vt != 1) = true := by simp; exact v1
  have d2 : (vt != 2) = true := by simp; exact v2
  have d3 : (vt != 3) = true := by simp; exact v3
  have d4 : (vt != 4) = true := by simp; exact v4
  have n1 : ¬ 0 < (ns.length : Int) := by omega
  subst hb
  clear hC
  go_enter Try.func36, Try.ntmps36
  go_wp2_with (first | fail)
  go_ret
  exact ⟨congrArg (fun b => Ending.returned (.bool b)) E.out.symm, by repeat (first | exact Below.refl _ _ | apply below_alloc | apply pw_below_drewN | apply below_drew1)⟩
set_option maxRecDepth 100000 in
set_option maxHeartbeats 600000 in
theorem val_23 (w : World) (vt : Int) (A : Option Addr) (c : Nat) (ns : List Int) (vb : Bool) (tag vv : Int) (vs : ByteArray) (r : Bool) (hC : (Kd.int .i64).C w A ns.length ns) (hl : ns.length ≤ 9000000) (HE : r = false) (v1 : ¬ vt = 1) (v2 : ¬ vt = 2) (v3 : ¬ vt = 3) (v4 : ¬ vt = 4) (nz : ns.length = 0) (hb : vb = false) (hz : (tag == 0 && vv == 0) = false) : Calls Try.prog 36 #[.agg #[.int .i64 vt, .slice A ns.length c, .bool vb, .int .i64 tag, .int .i64 vv, .string vs]] w fun e w' => e = .returned (.bool r) ∧ Below w.heap.size w w' := by
  have E := Aside0.mk HE
  clear HE
  have d1 : (vt != 1) = true := by simp; exact v1
  have d2 : (vt != 2) = true := by simp; exact v2
  have d3 : (vt != 3) = true := by simp; exact v3
  have d4 : (vt != 4) = true := by simp; exact v4
  have n1 : ¬ 0 < (ns.length : Int) := by omega
  subst hb
  have qd : ∀ w, (binOp .neq 40 (.agg #[.int .i64 tag, .int .i64 vv]) (.agg #[.int .i64 0, .int .i64 0])).run Try.prog w = .ok (.bool true) w := fun w => by rw [eqDec, hz]; rfl
  clear hC
  go_enter Try.func36, Try.ntmps36
  go_wp2_with (first | fail)
  go_ret
  exact ⟨congrArg (fun b => Ending.returned (.bool b)) E.out.symm, by repeat (first | exact Below.refl _ _ | apply below_alloc | apply pw_below_drewN | apply below_drew1)⟩
set_option maxRecDepth 100000 in
set_option maxHeartbeats 600000 in
theorem val_24 (w : World) (vt : Int) (A : Option Addr) (c : Nat) (ns : List Int) (vb : Bool) (tag vv : Int) (vs : ByteArray) (r : Bool) (hC : (Kd.int .i64).C w A ns.length ns) (hl : ns.length ≤ 9000000) (HE : r = false) (v1 : ¬ vt = 1) (v2 : ¬ vt = 2) (v3 : ¬ vt = 3) (v4 : ¬ vt = 4) (nz : ns.length = 0) (hb : vb = false) (h0 : tag = 0) (h1 : vv = 0) (hs : ¬ vs.toList = []) : Calls Try.prog 36 #[.agg #[.int .i64 vt, .slice A ns.length c, .bool vb, .int .i64 tag, .int .i64 vv, .string vs]] w fun e w' => e = .returned (.bool r) ∧ Below w.heap.size w w' := by
  have E := Aside0.mk HE
  clear HE
  have d1 : (vt != 1) = true := by simp; exact v1
  have d2 : (vt != 2) = true := by simp; exact v2
  have d3 : (vt != 3) = true := by simp; exact v3
  have d4 : (vt != 4) = true := by simp; exact v4
  have n1 : ¬ 0 < (ns.length : Int) := by omega
  subst hb
  subst h0 h1
  have qd : ∀ w, (binOp .neq 40 (.agg #[.int .i64 0, .int .i64 0]) (.agg #[.int .i64 0, .int .i64 0])).run Try.prog w = .ok (.bool false) w := fun w => by rw [eqDec]; rfl
  have hs2 : (!vs.toList.isEmpty) = true := by simpa using hs
  clear hC
  go_enter Try.func36, Try.ntmps36
  go_wp2_with (first | fail)
  go_ret
  exact ⟨congrArg (fun b => Ending.returned (.bool b)) E.out.symm, by repeat (first | exact Below.refl _ _ | apply below_alloc | apply pw_below_drewN | apply below_drew1)⟩
set_option maxRecDepth 100000 in
set_option maxHeartbeats 600000 in
theorem val_25 (w : World) (vt : Int) (A : Option Addr) (c : Nat) (ns : List Int) (vb : Bool) (tag vv : Int) (vs : ByteArray) (r : Bool) (hC : (Kd.int .i64).C w A ns.length ns) (hl : ns.length ≤ 9000000) (HE : r = false) (v1 : ¬ vt = 1) (v2 : ¬ vt = 2) (v3 : ¬ vt = 3) (v4 : ¬ vt = 4) (nz : ns.length = 0) (hb : vb = false) (h0 : tag = 0) (h1 : vv = 0) (hs : vs.toList = []) (lo : vt < 0) : Calls Try.prog 36 #[.agg #[.int .i64 vt, .slice A ns.length c, .bool vb, .int .i64 tag, .int .i64 vv, .string vs]] w fun e w' => e = .returned (.bool r) ∧ Below w.heap.size w w' := by
  have E := Aside0.mk HE
  clear HE
  have d1 : (vt != 1) = true := by simp; exact v1
  have d2 : (vt != 2) = true := by simp; exact v2
  have d3 : (vt != 3) = true := by simp; exact v3
  have d4 : (vt != 4) = true := by simp; exact v4
  have n1 : ¬ 0 < (ns.length : Int) := by omega
  subst hb
  subst h0 h1
  have qd : ∀ w, (binOp .neq 40 (.agg #[.int .i64 0, .int .i64 0]) (.agg #[.int .i64 0, .int .i64 0])).run Try.prog w = .ok (.bool false) w := fun w => by rw [eqDec]; rfl
  have sz : ((vs.size : Nat) : Int) ≤ 65535 := by have := isEmpty_nil hs; omega
  have lo' : ¬ 0 ≤ vt := by omega
  clear lo
  clear hC
  go_enter Try.func36, Try.ntmps36
  go_wp2_with (first | fail)
  go_ret
  exact ⟨congrArg (fun b => Ending.returned (.bool b)) E.out.symm, by repeat (first | exact Below.refl _ _ | apply below_alloc | apply pw_below_drewN | apply below_drew1)⟩
set_option maxRecDepth 100000 in
set_option maxHeartbeats 600000 in
theorem val_26 (w : World) (vt : Int) (A : Option Addr) (c : Nat) (ns : List Int) (vb : Bool) (tag vv : Int) (vs : ByteArray) (r : Bool) (hC : (Kd.int .i64).C w A ns.length ns) (hl : ns.length ≤ 9000000) (HE : r = false) (v1 : ¬ vt = 1) (v2 : ¬ vt = 2) (v3 : ¬ vt = 3) (v4 : ¬ vt = 4) (nz : ns.length = 0) (hb : vb = false) (h0 : tag = 0) (h1 : vv = 0) (hs : vs.toList = []) (hi : 4 < vt) : Calls Try.prog 36 #[.agg #[.int .i64 vt, .slice A ns.length c, .bool vb, .int .i64 tag, .int .i64 vv, .string vs]] w fun e w' => e = .returned (.bool r) ∧ Below w.heap.size w w' := by
  have E := Aside0.mk HE
  clear HE
  have d1 : (vt != 1) = true := by simp; exact v1
  have d2 : (vt != 2) = true := by simp; exact v2
  have d3 : (vt != 3) = true := by simp; exact v3
  have d4 : (vt != 4) = true := by simp; exact v4
  have n1 : ¬ 0 < (ns.length : Int) := by omega
  subst hb
  subst h0 h1
  have qd : ∀ w, (binOp .neq 40 (.agg #[.int .i64 0, .int .i64 0]) (.agg #[.int .i64 0, .int .i64 0])).run Try.prog w = .ok (.bool false) w := fun w => by rw [eqDec]; rfl
  have sz : ((vs.size : Nat) : Int) ≤ 65535 := by have := isEmpty_nil hs; omega
  have hi' : ¬ vt ≤ 4 := by omega
  have lo' : 0 ≤ vt := by omega
  clear hi
  clear hC
  go_enter Try.func36, Try.ntmps36
  go_wp2_with (first | fail)
  go_ret
  exact ⟨congrArg (fun b => Ending.returned (.bool b)) E.out.symm, by repeat (first | exact Below.refl _ _ | apply below_alloc | apply pw_below_drewN | apply below_drew1)⟩
set_option maxRecDepth 100000 in
set_option maxHeartbeats 600000 in
theorem val_27 (w : World) (vt : Int) (A : Option Addr) (c : Nat) (ns : List Int) (vb : Bool) (tag vv : Int) (vs : ByteArray) (r : Bool) (hC : (Kd.int .i64).C w A ns.length ns) (hl : ns.length ≤ 9000000) (HE : r = true) (v1 : ¬ vt = 1) (v2 : ¬ vt = 2) (v3 : ¬ vt = 3) (v4 : ¬ vt = 4) (nz : ns.length = 0) (hb : vb = false) (h0 : tag = 0) (h1 : vv = 0) (hs : vs.toList = []) (lo : 0 ≤ vt) (hi : vt ≤ 4) (bd : badB ns = false) : Calls Try.prog 36 #[.agg #[.int .i64 vt, .slice A ns.length c, .bool vb, .int .i64 tag, .int .i64 vv, .string vs]] w fun e w' => e = .returned (.bool r) ∧ Below w.heap.size w w' := by
  have E := Aside0.mk HE
  clear HE
  have C1 := Aside0.mk (fun o => contains_calls (w.alloc o) A c ns (Kd.C_alloc hC o) hl)
  have C2 := Aside0.mk (fun w => dec_calls w tag vv)
  have d1 : (vt != 1) = true := by simp; exact v1
  have d2 : (vt != 2) = true := by simp; exact v2
  have d3 : (vt != 3) = true := by simp; exact v3
  have d4 : (vt != 4) = true := by simp; exact v4
  have n1 : ¬ 0 < (ns.length : Int) := by omega
  subst hb
  subst h0 h1
  have qd : ∀ w, (binOp .neq 40 (.agg #[.int .i64 0, .int .i64 0]) (.agg #[.int .i64 0, .int .i64 0])).run Try.prog w = .ok (.bool false) w := fun w => by rw [eqDec]; rfl
  have sz : ((vs.size : Nat) : Int) ≤ 65535 := by have := isEmpty_nil hs; omega
  have nm' : (ns.length : Int) ≤ 1000 := by omega
  obtain rfl : ns = [] := List.length_eq_zero_iff.mp nz
  simp only [List.length_nil] at *
  rw [bd] at C1
  rw [show decB 0 0 = true from by decide] at C2
  clear hC
  go_enter Try.func36, Try.ntmps36
  go_wp2_with (first | (go_at_call 45; (with_reducible refine (C1.out _).mono ?_); rintro e w1 ⟨rfl, ⟨nd, rfl⟩⟩) | (go_at_call 47; (with_reducible refine (C2.out _).mono ?_); rintro e w2 ⟨rfl, hb⟩; have hvs : w2.cell? ⟨w.heap.size, 5, none⟩ = some (.string vs) := pw_cell_below hb (by go_simp); have HB := Aside0.mk hb; clear hb))
  go_ret
  exact ⟨congrArg (fun b => Ending.returned (.bool b)) E.out.symm, below_step (by repeat (first | exact Below.refl _ _ | apply below_alloc | apply pw_below_drewN | apply below_drew1)) HB.out⟩
/-- What value answers. -/
def valB (vt : Int) (ns : List Int) (vb : Bool) (tag vv : Int) (vs : ByteArray) : Bool := valueB vt ns.length vb tag vv vs.size (badB ns) (decB tag vv)
theorem value_calls (w : World) (vt : Int) (A : Option Addr) (c : Nat) (ns : List Int) (vb : Bool) (tag vv : Int) (vs : ByteArray) (hC : (Kd.int .i64).C w A ns.length ns) (hl : ns.length ≤ 9000000) : Calls Try.prog 36 #[.agg #[.int .i64 vt, .slice A ns.length c, .bool vb, .int .i64 tag, .int .i64 vv, .string vs]] w fun e w' => e = .returned (.bool (valB vt ns vb tag vv vs)) ∧ Below w.heap.size w w' := by
  have hbe : ns.length = 0 → badB ns = false := fun h => by rw [List.length_eq_zero_iff.mp h]; rfl
  have hde : decB 0 0 = true := by decide
  by_cases v0 : vt = 1
  · skip
    by_cases hb : vb = true
    case pos => exact val_1 w vt A c ns vb tag vv vs _ hC hl (by simp [valB, valueB, *]) v0 hb
    have hb := eq_false_of_ne_true hb
    by_cases hz : tag = 0 ∧ vv = 0
    case neg => exact val_2 w vt A c ns vb tag vv vs _ hC hl (by simp only [valB, valueB, ]; simp [hz, *]) v0 hb (by rw [Bool.eq_false_iff]; simpa using hz)
    obtain ⟨h0, h1⟩ := hz
    by_cases hs : vs.size = 0
    case neg => exact val_3 w vt A c ns vb tag vv vs _ hC hl (by simp [valB, valueB, *]) v0 hb h0 h1 (size_ne vs hs)
    by_cases nm : 1000 < ns.length
    case pos => exact val_4 w vt A c ns vb tag vv vs _ hC hl (by simp [valB, valueB, *]) v0 hb h0 h1 (size_nil vs hs) nm
    by_cases bd : badB ns = true
    case pos => exact val_5 w vt A c ns vb tag vv vs _ hC hl (by simp [valB, valueB, *]) v0 hb h0 h1 (size_nil vs hs) (by omega) bd
    have bd := eq_false_of_ne_true bd
    exact val_6 w vt A c ns vb tag vv vs _ hC hl (by simp [valB, valueB, *]) v0 hb h0 h1 (size_nil vs hs) (by omega) bd
  have v1 := v0
  clear v0
  by_cases v0 : vt = 2
  · skip
    by_cases nz : ns.length = 0
    case neg => exact val_7 w vt A c ns vb tag vv vs _ hC hl (by simp [valB, valueB, *]) v0 (by omega)
    have bd := hbe nz
    by_cases hz : tag = 0 ∧ vv = 0
    case neg => exact val_8 w vt A c ns vb tag vv vs _ hC hl (by simp only [valB, valueB, ]; simp [hz, *]) v0 nz (by rw [Bool.eq_false_iff]; simpa using hz)
    obtain ⟨h0, h1⟩ := hz
    by_cases hs : vs.size = 0
    case neg => exact val_9 w vt A c ns vb tag vv vs _ hC hl (by simp [valB, valueB, *]) v0 nz h0 h1 (size_ne vs hs)
    exact val_10 w vt A c ns vb tag vv vs _ hC hl (by simp [valB, valueB, *]) v0 nz h0 h1 (size_nil vs hs) bd
  have v2 := v0
  clear v0
  by_cases v0 : vt = 3
  · skip
    by_cases nz : ns.length = 0
    case neg => exact val_11 w vt A c ns vb tag vv vs _ hC hl (by simp [valB, valueB, *]) v0 (by omega)
    have bd := hbe nz
    by_cases hb : vb = true
    case pos => exact val_12 w vt A c ns vb tag vv vs _ hC hl (by simp [valB, valueB, *]) v0 nz hb
    have hb := eq_false_of_ne_true hb
    by_cases hs : vs.size = 0
    case neg => exact val_13 w vt A c ns vb tag vv vs _ hC hl (by simp [valB, valueB, *]) v0 nz hb (size_ne vs hs)
    by_cases dd : decB tag vv = true
    case pos => exact val_15 w vt A c ns vb tag vv vs _ hC hl (by simp [valB, valueB, *]) v0 nz hb (size_nil vs hs) bd dd
    have dd := eq_false_of_ne_true dd
    exact val_14 w vt A c ns vb tag vv vs _ hC hl (by simp [valB, valueB, *]) v0 nz hb (size_nil vs hs) bd dd
  have v3 := v0
  clear v0
  by_cases v0 : vt = 4
  · skip
    by_cases nz : ns.length = 0
    case neg => exact val_16 w vt A c ns vb tag vv vs _ hC hl (by simp [valB, valueB, *]) v0 (by omega)
    have bd := hbe nz
    by_cases hb : vb = true
    case pos => exact val_17 w vt A c ns vb tag vv vs _ hC hl (by simp [valB, valueB, *]) v0 nz hb
    have hb := eq_false_of_ne_true hb
    by_cases hz : tag = 0 ∧ vv = 0
    case neg => exact val_18 w vt A c ns vb tag vv vs _ hC hl (by simp only [valB, valueB, ]; simp [hz, *]) v0 nz hb (by rw [Bool.eq_false_iff]; simpa using hz)
    obtain ⟨h0, h1⟩ := hz
    by_cases sl : vs.size ≤ 65535
    case pos => exact val_19 w vt A c ns vb tag vv vs _ hC hl (by simp [valB, valueB, *]) v0 nz hb h0 h1 bd sl
    exact val_20 w vt A c ns vb tag vv vs _ hC hl (by simp [valB, valueB, *]) v0 nz hb h0 h1 bd (by omega)
  have v4 := v0
  clear v0
  · skip
    by_cases nz : ns.length = 0
    case neg => exact val_21 w vt A c ns vb tag vv vs _ hC hl (by simp [valB, valueB, *]) v1 v2 v3 v4 (by omega)
    have bd := hbe nz
    by_cases hb : vb = true
    case pos => exact val_22 w vt A c ns vb tag vv vs _ hC hl (by simp [valB, valueB, *]) v1 v2 v3 v4 nz hb
    have hb := eq_false_of_ne_true hb
    by_cases hz : tag = 0 ∧ vv = 0
    case neg => exact val_23 w vt A c ns vb tag vv vs _ hC hl (by simp only [valB, valueB, ]; simp [hz, *]) v1 v2 v3 v4 nz hb (by rw [Bool.eq_false_iff]; simpa using hz)
    obtain ⟨h0, h1⟩ := hz
    by_cases hs : vs.size = 0
    case neg => exact val_24 w vt A c ns vb tag vv vs _ hC hl (by simp [valB, valueB, *]) v1 v2 v3 v4 nz hb h0 h1 (size_ne vs hs)
    by_cases lo : vt < 0
    case pos => exact val_25 w vt A c ns vb tag vv vs _ hC hl (by simp [valB, valueB, *]) v1 v2 v3 v4 nz hb h0 h1 (size_nil vs hs) lo
    by_cases hi : 4 < vt
    case pos => exact val_26 w vt A c ns vb tag vv vs _ hC hl (by simp [valB, valueB, *]) v1 v2 v3 v4 nz hb h0 h1 (size_nil vs hs) hi
    exact val_27 w vt A c ns vb tag vv vs _ hC hl (by simp [valB, valueB, *]) v1 v2 v3 v4 nz hb h0 h1 (size_nil vs hs) (by omega) (by omega) bd
end Go.Proofs.Ythkdihpbdaehbaa.Pr
namespace Go.Proofs.Ythkdihpbdaehbaa.Pr
set_option linter.unusedVariables false
set_option linter.unusedSimpArgs false
open Go.RowKit Go.Proofs.YthkdihpbdaehbaaW.PrintWords Go.Proofs.YthkdihpbdaehbaaW.PrintLast Go.Proofs.YthkdihpbdaehbaaW.PrintMore Go.Proofs.Ythkdihpbdaehbaa.Bs
/-- May a reply be? -/
def rightRepB (r : Rp) : Bool := if r.kind < 0 then false else if 6 < r.kind then false else if r.err < 0 then false else if 65535 < r.err then false else if fitsB r.txn = false then false else if fitsB r.id = false then false else if 65535 < r.s.size then false else valB r.vt r.nodes r.vb r.tag r.vv r.vs
set_option maxRecDepth 100000 in
set_option maxHeartbeats 600000 in
theorem rrep_1 (w : World) (k er tx id ti vt : Int) (A : Option Addr) (c : Nat) (ns : List Int) (vb : Bool) (tag vv : Int) (vs s : ByteArray) (r : Bool) (hC : (Kd.int .i64).C w A ns.length ns) (hl : ns.length ≤ 9000000) (HE : r = false) (k0 : k < 0) : Calls Try.prog 19 #[.agg #[.int .i64 k, .int .i64 er, .int .i64 tx, .int .i64 id, .int .u64 ti, .int .i64 vt, .slice A ns.length c, .bool vb, .int .i64 tag, .int .i64 vv, .string vs, .string s]] w fun e w' => e = .returned (.bool r) ∧ Below w.heap.size w w' := by
  have E := Aside0.mk HE
  clear HE
  have k0' : ¬ 0 ≤ k := by omega
  clear k0
  clear hC
  go_enter Try.func19, Try.ntmps19
  go_wp2_with (first | fail)
  go_ret
  exact ⟨congrArg (fun b => Ending.returned (.bool b)) E.out.symm, by repeat (first | exact Below.refl _ _ | apply below_alloc | apply pw_below_drewN | apply below_drew1)⟩
set_option maxRecDepth 100000 in
set_option maxHeartbeats 600000 in
theorem rrep_2 (w : World) (k er tx id ti vt : Int) (A : Option Addr) (c : Nat) (ns : List Int) (vb : Bool) (tag vv : Int) (vs s : ByteArray) (r : Bool) (hC : (Kd.int .i64).C w A ns.length ns) (hl : ns.length ≤ 9000000) (HE : r = false) (k0 : 0 ≤ k) (k6 : 6 < k) : Calls Try.prog 19 #[.agg #[.int .i64 k, .int .i64 er, .int .i64 tx, .int .i64 id, .int .u64 ti, .int .i64 vt, .slice A ns.length c, .bool vb, .int .i64 tag, .int .i64 vv, .string vs, .string s]] w fun e w' => e = .returned (.bool r) ∧ Below w.heap.size w w' := by
  have E := Aside0.mk HE
  clear HE
  have k6' : ¬ k ≤ 6 := by omega
  clear k6
  clear hC
  go_enter Try.func19, Try.ntmps19
  go_wp2_with (first | fail)
  go_ret
  exact ⟨congrArg (fun b => Ending.returned (.bool b)) E.out.symm, by repeat (first | exact Below.refl _ _ | apply below_alloc | apply pw_below_drewN | apply below_drew1)⟩
set_option maxRecDepth 100000 in
set_option maxHeartbeats 600000 in
theorem rrep_3 (w : World) (k er tx id ti vt : Int) (A : Option Addr) (c : Nat) (ns : List Int) (vb : Bool) (tag vv : Int) (vs s : ByteArray) (r : Bool) (hC : (Kd.int .i64).C w A ns.length ns) (hl : ns.length ≤ 9000000) (HE : r = false) (k0 : 0 ≤ k) (k6 : k ≤ 6) (e0 : er < 0) : Calls Try.prog 19 #[.agg #[.int .i64 k, .int .i64 er, .int .i64 tx, .int .i64 id, .int .u64 ti, .int .i64 vt, .slice A ns.length c, .bool vb, .int .i64 tag, .int .i64 vv, .string vs, .string s]] w fun e w' => e = .returned (.bool r) ∧ Below w.heap.size w w' := by
  have E := Aside0.mk HE
  clear HE
  have e0' : ¬ 0 ≤ er := by omega
  clear e0
  clear hC
  go_enter Try.func19, Try.ntmps19
  go_wp2_with (first | fail)
  go_ret
  exact ⟨congrArg (fun b => Ending.returned (.bool b)) E.out.symm, by repeat (first | exact Below.refl _ _ | apply below_alloc | apply pw_below_drewN | apply below_drew1)⟩
set_option maxRecDepth 100000 in
set_option maxHeartbeats 600000 in
theorem rrep_4 (w : World) (k er tx id ti vt : Int) (A : Option Addr) (c : Nat) (ns : List Int) (vb : Bool) (tag vv : Int) (vs s : ByteArray) (r : Bool) (hC : (Kd.int .i64).C w A ns.length ns) (hl : ns.length ≤ 9000000) (HE : r = false) (k0 : 0 ≤ k) (k6 : k ≤ 6) (e0 : 0 ≤ er) (e6 : 65535 < er) : Calls Try.prog 19 #[.agg #[.int .i64 k, .int .i64 er, .int .i64 tx, .int .i64 id, .int .u64 ti, .int .i64 vt, .slice A ns.length c, .bool vb, .int .i64 tag, .int .i64 vv, .string vs, .string s]] w fun e w' => e = .returned (.bool r) ∧ Below w.heap.size w w' := by
  have E := Aside0.mk HE
  clear HE
  have e6' : ¬ er ≤ 65535 := by omega
  clear e6
  clear hC
  go_enter Try.func19, Try.ntmps19
  go_wp2_with (first | fail)
  go_ret
  exact ⟨congrArg (fun b => Ending.returned (.bool b)) E.out.symm, by repeat (first | exact Below.refl _ _ | apply below_alloc | apply pw_below_drewN | apply below_drew1)⟩
set_option maxRecDepth 100000 in
set_option maxHeartbeats 600000 in
theorem rrep_5 (w : World) (k er tx id ti vt : Int) (A : Option Addr) (c : Nat) (ns : List Int) (vb : Bool) (tag vv : Int) (vs s : ByteArray) (r : Bool) (hC : (Kd.int .i64).C w A ns.length ns) (hl : ns.length ≤ 9000000) (HE : r = false) (k0 : 0 ≤ k) (k6 : k ≤ 6) (e0 : 0 ≤ er) (e6 : er ≤ 65535) (ft : fitsB tx = false) : Calls Try.prog 19 #[.agg #[.int .i64 k, .int .i64 er, .int .i64 tx, .int .i64 id, .int .u64 ti, .int .i64 vt, .slice A ns.length c, .bool vb, .int .i64 tag, .int .i64 vv, .string vs, .string s]] w fun e w' => e = .returned (.bool r) ∧ Below w.heap.size w w' := by
  have E := Aside0.mk HE
  clear HE
  have C1 := Aside0.mk (fun w => fits_calls w tx)
  rw [ft] at C1
  clear hC
  go_enter Try.func19, Try.ntmps19
  go_wp2_with (first | (go_at_call 25; (with_reducible refine (C1.out _).mono ?_); rintro e w1 ⟨rfl, ⟨nd, rfl⟩⟩))
  go_ret
  exact ⟨congrArg (fun b => Ending.returned (.bool b)) E.out.symm, by repeat (first | exact Below.refl _ _ | apply below_alloc | apply pw_below_drewN | apply below_drew1)⟩
set_option maxRecDepth 100000 in
set_option maxHeartbeats 600000 in
theorem rrep_6 (w : World) (k er tx id ti vt : Int) (A : Option Addr) (c : Nat) (ns : List Int) (vb : Bool) (tag vv : Int) (vs s : ByteArray) (r : Bool) (hC : (Kd.int .i64).C w A ns.length ns) (hl : ns.length ≤ 9000000) (HE : r = false) (k0 : 0 ≤ k) (k6 : k ≤ 6) (e0 : 0 ≤ er) (e6 : er ≤ 65535) (ft : fitsB tx = true) (fi : fitsB id = false) : Calls Try.prog 19 #[.agg #[.int .i64 k, .int .i64 er, .int .i64 tx, .int .i64 id, .int .u64 ti, .int .i64 vt, .slice A ns.length c, .bool vb, .int .i64 tag, .int .i64 vv, .string vs, .string s]] w fun e w' => e = .returned (.bool r) ∧ Below w.heap.size w w' := by
  have E := Aside0.mk HE
  clear HE
  have C1 := Aside0.mk (fun w => fits_calls w tx)
  have C2 := Aside0.mk (fun w => fits_calls w id)
  rw [ft] at C1
  rw [fi] at C2
  clear hC
  go_enter Try.func19, Try.ntmps19
  go_wp2_with (first | (go_at_call 25; (with_reducible refine (C1.out _).mono ?_); rintro e w1 ⟨rfl, ⟨nd, rfl⟩⟩) | (go_at_call 25; (with_reducible refine (C2.out _).mono ?_); rintro e w1 ⟨rfl, ⟨nd, rfl⟩⟩))
  go_ret
  exact ⟨congrArg (fun b => Ending.returned (.bool b)) E.out.symm, by repeat (first | exact Below.refl _ _ | apply below_alloc | apply pw_below_drewN | apply below_drew1)⟩
set_option maxRecDepth 100000 in
set_option maxHeartbeats 600000 in
theorem rrep_7 (w : World) (k er tx id ti vt : Int) (A : Option Addr) (c : Nat) (ns : List Int) (vb : Bool) (tag vv : Int) (vs s : ByteArray) (r : Bool) (hC : (Kd.int .i64).C w A ns.length ns) (hl : ns.length ≤ 9000000) (HE : r = false) (k0 : 0 ≤ k) (k6 : k ≤ 6) (e0 : 0 ≤ er) (e6 : er ≤ 65535) (ft : fitsB tx = true) (fi : fitsB id = true) (ss : 65535 < s.size) : Calls Try.prog 19 #[.agg #[.int .i64 k, .int .i64 er, .int .i64 tx, .int .i64 id, .int .u64 ti, .int .i64 vt, .slice A ns.length c, .bool vb, .int .i64 tag, .int .i64 vv, .string vs, .string s]] w fun e w' => e = .returned (.bool r) ∧ Below w.heap.size w w' := by
  have E := Aside0.mk HE
  clear HE
  have C1 := Aside0.mk (fun w => fits_calls w tx)
  have C2 := Aside0.mk (fun w => fits_calls w id)
  rw [ft] at C1
  rw [fi] at C2
  have ss' : ¬ (s.size : Int) ≤ 65535 := by omega
  clear hC
  go_enter Try.func19, Try.ntmps19
  go_wp2_with (first | (go_at_call 25; (with_reducible refine (C1.out _).mono ?_); rintro e w1 ⟨rfl, ⟨nd, rfl⟩⟩) | (go_at_call 25; (with_reducible refine (C2.out _).mono ?_); rintro e w1 ⟨rfl, ⟨nd, rfl⟩⟩))
  go_ret
  exact ⟨congrArg (fun b => Ending.returned (.bool b)) E.out.symm, by repeat (first | exact Below.refl _ _ | apply below_alloc | apply pw_below_drewN | apply below_drew1)⟩
set_option maxRecDepth 100000 in
set_option maxHeartbeats 600000 in
theorem rrep_8 (w : World) (k er tx id ti vt : Int) (A : Option Addr) (c : Nat) (ns : List Int) (vb : Bool) (tag vv : Int) (vs s : ByteArray) (r : Bool) (hC : (Kd.int .i64).C w A ns.length ns) (hl : ns.length ≤ 9000000) (HE : r = valB vt ns vb tag vv vs) (k0 : 0 ≤ k) (k6 : k ≤ 6) (e0 : 0 ≤ er) (e6 : er ≤ 65535) (ft : fitsB tx = true) (fi : fitsB id = true) (ss : s.size ≤ 65535) : Calls Try.prog 19 #[.agg #[.int .i64 k, .int .i64 er, .int .i64 tx, .int .i64 id, .int .u64 ti, .int .i64 vt, .slice A ns.length c, .bool vb, .int .i64 tag, .int .i64 vv, .string vs, .string s]] w fun e w' => e = .returned (.bool r) ∧ Below w.heap.size w w' := by
  have E := Aside0.mk HE
  clear HE
  have C1 := Aside0.mk (fun w => fits_calls w tx)
  have C2 := Aside0.mk (fun w => fits_calls w id)
  have C3 := Aside0.mk (fun W (hW : Below w.heap.size w W) => value_calls W vt A c ns vb tag vv vs (Kd.C_below hC hW) hl)
  rw [ft] at C1
  rw [fi] at C2
  have ss' : (s.size : Int) ≤ 65535 := by omega
  generalize valB vt ns vb tag vv vs = vB at *
  clear hC
  go_enter Try.func19, Try.ntmps19
  go_wp2_with (first | (go_at_call 25; (with_reducible refine (C1.out _).mono ?_); rintro e w1 ⟨rfl, ⟨nd, rfl⟩⟩) | (go_at_call 25; (with_reducible refine (C2.out _).mono ?_); rintro e w1 ⟨rfl, ⟨nd, rfl⟩⟩) | (go_at_call 36; (with_reducible refine (C3.out _ (by repeat (first | exact Below.refl _ _ | apply below_alloc | apply pw_below_drewN | apply below_drew1))).mono ?_); rintro e w2 ⟨rfl, hb⟩; have HB := Aside0.mk hb; clear hb))
  go_ret
  exact ⟨congrArg (fun b => Ending.returned (.bool b)) E.out.symm, below_step (by repeat (first | exact Below.refl _ _ | apply below_alloc | apply pw_below_drewN | apply below_drew1)) HB.out⟩
theorem rightRep_calls (w : World) (q : Rp) (A : Option Addr) (c : Nat) (hC : (Kd.int .i64).C w A q.nodes.length q.nodes) (hl : q.nodes.length ≤ 9000000) : Calls Try.prog 19 #[.agg (q.cells (.slice A q.nodes.length c))] w fun e w' => e = .returned (.bool (rightRepB q)) ∧ Below w.heap.size w w' := by
  obtain ⟨k, er, tx, id, ti, vt, ns, vb, tag, vv, vs, s⟩ := q
  simp only [Rp.cells] at *
  by_cases k0 : k < 0
  case pos => exact rrep_1 w k er tx id ti vt A c ns vb tag vv vs s _ hC hl (by simp [rightRepB, *]) k0
  by_cases k6 : 6 < k
  case pos => exact rrep_2 w k er tx id ti vt A c ns vb tag vv vs s _ hC hl (by simp [rightRepB, *]) (by omega) k6
  by_cases e0 : er < 0
  case pos => exact rrep_3 w k er tx id ti vt A c ns vb tag vv vs s _ hC hl (by simp [rightRepB, *]) (by omega) (by omega) e0
  by_cases e6 : 65535 < er
  case pos => exact rrep_4 w k er tx id ti vt A c ns vb tag vv vs s _ hC hl (by simp [rightRepB, *]) (by omega) (by omega) (by omega) e6
  by_cases ft : fitsB tx = false
  case pos => exact rrep_5 w k er tx id ti vt A c ns vb tag vv vs s _ hC hl (by simp [rightRepB, *]) (by omega) (by omega) (by omega) (by omega) ft
  by_cases fi : fitsB id = false
  case pos => exact rrep_6 w k er tx id ti vt A c ns vb tag vv vs s _ hC hl (by simp [rightRepB, *]) (by omega) (by omega) (by omega) (by omega) (by simpa using ft) fi
  by_cases ss : 65535 < s.size
  case pos => exact rrep_7 w k er tx id ti vt A c ns vb tag vv vs s _ hC hl (by simp [rightRepB, *]) (by omega) (by omega) (by omega) (by omega) (by simpa using ft) (by simpa using fi) ss
  exact rrep_8 w k er tx id ti vt A c ns vb tag vv vs s _ hC hl (by simp [rightRepB, *]) (by omega) (by omega) (by omega) (by omega) (by simpa using ft) (by simpa using fi) (by omega) 
end Go.Proofs.Ythkdihpbdaehbaa.Pr
namespace Go.Proofs.Ythkdihpbdaehbaa.Pr
set_option linter.unusedVariables false
set_option linter.unusedSimpArgs false
open Go.RowKit Go.Proofs.YthkdihpbdaehbaaW.PrintWords Go.Proofs.YthkdihpbdaehbaaW.PrintLast Go.Proofs.YthkdihpbdaehbaaW.PrintMore Go.Proofs.Ythkdihpbdaehbaa.Bs
/-- Numbers of their kinds. -/
structure Rp.kinds (r : Rp) : Prop where
  t : 0 ≤ r.time ∧ r.time ≤ 18446744073709551615
  v : -9223372036854775808 ≤ r.vv ∧ r.vv ≤ 9223372036854775807
theorem rightRep_parts (r : Rp) (h : rightRepB r = true) : (0 ≤ r.kind ∧ r.kind ≤ 6) ∧ (0 ≤ r.err ∧ r.err ≤ 65535) ∧ fitsB r.txn = true ∧ fitsB r.id = true ∧ r.s.size ≤ 65535 ∧ valB r.vt r.nodes r.vb r.tag r.vv r.vs = true := by
  unfold rightRepB at h
  split at h
  · cases h
  split at h
  · cases h
  split at h
  · cases h
  split at h
  · cases h
  split at h
  · cases h
  split at h
  · cases h
  split at h
  · cases h
  rename_i h1 h2 h3 h4 h5 h6 h7
  exact ⟨⟨by omega, by omega⟩, ⟨by omega, by omega⟩, by simpa using h5, by simpa using h6, by omega, h⟩
theorem val_parts (vt : Int) (ns : List Int) (vb : Bool) (tag vv : Int) (vs : ByteArray) (h : valB vt ns vb tag vv vs = true) : (¬ vt = 1 → ns.length = 0) ∧ (¬ vt = 2 → vb = false) ∧ (¬ vt = 3 → tag = 0 ∧ vv = 0) ∧ (¬ vt = 4 → vs.size = 0) ∧ (0 ≤ vt ∧ vt ≤ 4) ∧ ns.length ≤ 1000 ∧ badB ns = false ∧ decB tag vv = true ∧ vs.size ≤ 65535 := by
  unfold valB valueB at h
  split at h
  · cases h
  split at h
  · cases h
  split at h
  · cases h
  split at h
  · cases h
  split at h
  · cases h
  split at h
  · cases h
  split at h
  · cases h
  split at h
  · cases h
  split at h
  · cases h
  rename_i h1 h2 h3 h4 h5 h6 h7 h8 h9
  refine ⟨fun e => ?_, fun e => ?_, fun e => ?_, fun e => ?_, ⟨by omega, by omega⟩, by omega, by simpa using h8, by simpa using h9, of_decide_eq_true h⟩
  · have := fun h => h1 ⟨e, h⟩; omega
  · have := fun h => h2 ⟨e, h⟩; simpa using this
  · exact Classical.byContradiction fun h => h3 ⟨e, h⟩
  · exact Classical.byContradiction fun h => h4 ⟨e, h⟩
theorem fits_bounds {n : Int} (h : fitsB n = true) : 0 ≤ n ∧ n ≤ 2147483647 := by
  simp only [fitsB, Bool.and_eq_true, decide_eq_true_eq] at h
  exact h
theorem bad_fits {ns : List Int} (h : badB ns = false) : ∀ x ∈ ns, 0 ≤ x ∧ x ≤ 2147483647 := by
  intro x hx
  have := (List.any_eq_false.mp h) x hx
  exact fits_bounds (by simpa using this)
theorem dec_tag {tag vv : Int} (h : decB tag vv = true) : 0 ≤ tag ∧ tag ≤ 3 := by
  unfold decB at h
  split at h
  · omega
  split at h
  · omega
  split at h
  · omega
  split at h
  · omega
  · cases h
theorem rightRep_small (r : Rp) (h : rightRepB r = true) (hk : r.kinds) : r.small := by
  obtain ⟨h1, h2, h3, h4, h5, h6⟩ := rightRep_parts r h
  obtain ⟨_, _, _, _, v1, v2, v3, v4, v5⟩ := val_parts _ _ _ _ _ _ h6
  have hd := dec_tag v4
  exact ⟨h1, h2, fits_bounds h3, fits_bounds h4, hk.t.1, h5, v1, v2, bad_fits v3, ⟨hd.1, by omega⟩, hk.v, v5⟩
/-- A reply's bytes, and why there are none. -/
def putRep (q : Rp) : List Int × Int := if rightRepB q = false then ([], 2) else if 4200 < q.bytes.length then ([], 3) else (q.bytes, 0)
set_option maxRecDepth 100000 in
set_option maxHeartbeats 400000 in
theorem putRep_calls (w : World) (q : Rp) (A0 : Option Addr) (c0 : Nat) (hC : (Kd.int .i64).C w A0 q.nodes.length q.nodes) (hl : q.nodes.length ≤ 9000000) (hk : q.kinds) : Calls Try.prog 17 #[.agg (q.cells (.slice A0 q.nodes.length c0))] w (Puts w (putRep q).1 (putRep q).2) := by
  have C1 := Aside0.mk (fun o => rightRep_calls (w.alloc o) q A0 c0 (Kd.C_alloc hC o) hl)
  cases hr : rightRepB q with
  | false =>
    rw [hr] at C1
    have E := Aside0.mk (show putRep q = ([], 2) by simp [putRep, hr])
    obtain ⟨k, er, tx, id, ti, vt, ns, vb, tag, vv, vs, s⟩ := q
    simp only [Rp.cells] at *
    clear hC
    go_enter Try.func17, Try.ntmps17
    go_wp2_with (first | (go_at_call 19; (with_reducible refine (C1.out _).mono ?_); rintro e w1 ⟨rfl, hb⟩; have HB := Aside0.mk hb; clear hb))
    go_ret2
    rw [E.out]
    exact ⟨⟨none, 0, rfl, Kd.R_nil _ _ _ _ _⟩, below_step (below_alloc (Below.refl _ _) _) HB.out⟩
  | true =>
    have hs := Aside0.mk (rightRep_small q hr hk)
    rw [hr] at C1
    have E := Aside0.mk (show putRep q = if 4200 < q.bytes.length then ([], 3) else (q.bytes, 0) by simp [putRep, hr])
    have C2 := Aside0.mk (fun B w p qb bv h h2 h3 h4 h5 h6 => reply_put B w p qb bv q A0 c0 h h2 h3 h4 h5 h6 hs.out)
    have HC := Aside0.mk hC
    generalize hbs : q.bytes = bs at *
    generalize hpq : putRep q = pq at *
    obtain ⟨k, er, tx, id, ti, vt, ns, vb, tag, vv, vs, s⟩ := q
    simp only [Rp.cells] at *
    clear hr hbs hpq hC hl hk
    go_enter Try.func17, Try.ntmps17
    go_wp2_with (first | (go_at_call 19; (with_reducible refine (C1.out _).mono ?_); rintro e w1 ⟨rfl, hb⟩; have hq1 := (hb.block w.heap.size (by simp)).trans (heap_alloc_new w _); have HQ := Aside0.mk hq1; have HB := Aside0.mk (below_step (below_alloc (Below.refl _ _) _) hb); clear hb hq1) | fail)
    have hz1 : w.heap.size + 1 ≤ w1.heap.size := blk_lt HQ.out
    have hqb := (below_alloc (Below.refl w1.heap.size w1) (.cells #[.slice none 0 0, .bool false] 56)).block _ hz1 |>.trans HQ.out
    have HB1 := below_step HB.out (below_alloc (Below.refl w1.heap.size w1) (.cells #[.slice none 0 0, .bool false] 56))
    refine (C2.out (w.heap.size + 1) (w1.alloc (.cells #[.slice none 0 0, .bool false] 56)) w1.heap.size w.heap.size (.slice none 0 0) ⟨⟨⟨_, And.intro ⟨hz1, heap_alloc_new w1 _, Kd.R_nil _ _ _ _ _⟩ (fun k hk => .inl hk)⟩, Ch.refl _ _⟩, hqb⟩ (by omega) (by simp; omega) (by omega) (fun k hk => by simp [Value.ownBlock] at hk) (fun W hW => Kd.C_below HC.out (HB1.trans (hW.mono (Nat.le_succ _))))).mono ?_
    rintro e w2 ⟨rfl, ⟨bv', hp⟩, hch⟩
    obtain ⟨A, c, rfl⟩ := Kd.R_slice hp.row
    obtain ⟨k0, k1, k2⟩ := blk2 hp.cells
    have HB3 := Aside0.mk (HB1.trans (Ch.to_below hch (B := w.heap.size) (fun k hk => by rcases hk with (hk | hk) | hk; omega; simp [Value.ownBlock] at hk; omega) (by simp; omega)))
    have HR := Aside0.mk (Kd.R_mono (Kd.R_lower hp.row (Nat.le_succ w.heap.size)) (fun _ _ => trivial))
    have C3 := laid_calls w2 A bs.length c
    clear HB HB1 hch hp HQ C2 C1 hs hqb HC
    by_cases hlen : 4200 < bs.length
    · rw [if_pos hlen] at C3
      have E2 := E.out
      rw [if_pos hlen] at E2
      have E3 := Aside0.mk E2
      clear hlen E2 E
      go_wp2_with fail
      refine C3.mono ?_
      rintro e w3 ⟨rfl, rfl⟩
      go_wp2
      go_ret2
      rw [E3.out]
      exact ⟨⟨none, 0, rfl, Kd.R_nil _ _ _ _ _⟩, HB3.out⟩
    · rw [if_neg hlen] at C3
      have E2 := E.out
      rw [if_neg hlen] at E2
      have E3 := Aside0.mk E2
      clear hlen E2 E
      go_wp2_with fail
      refine C3.mono ?_
      rintro e w3 ⟨rfl, rfl⟩
      go_wp2
      go_ret2
      rw [E3.out]
      exact ⟨⟨A, c, rfl, HR.out⟩, HB3.out⟩
end Go.Proofs.Ythkdihpbdaehbaa.Pr
