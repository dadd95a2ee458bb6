import Derived.Test.YtpmnjeiemocbbaaFrI
namespace Go.Proofs.Ytpmnjeiemocbbaa.Fr
set_option linter.unusedVariables false
set_option linter.unusedSimpArgs false
open Go.RowKit Go.Proofs.YtpmnjeiemocbbaaW.PrintWords Go.Proofs.Ytpmnjeiemocbbaa.FrK Go.Proofs.Ytpmnjeiemocbbaa.Bs Go.Proofs.YtpmnjeiemocbbaaW.PrintMore Go.Proofs.YtpmnjeiemocbbaaW.PrintLast

theorem F_came {α : Type} {d : Kd α} (hd : Kd.Heap d) {w : World} {A : Option Addr} {n : Nat} {xs : List α} (h : d.C w A n xs) : Kd.F d w (fun k => k < w.heap.size) A n xs := fun _ hW => hd.C (fun k hk => hW k hk hk) h

set_option maxHeartbeats 1000000 in
theorem feed_none (w : World) (v : Value) : Calls Try.prog 10 #[.pointer none, v] w fun e w' => e = .returned (.slice none 0 0) ∧ w = w' := by
  go_enter Try.func10, Try.ntmps10
  go_wp2
  refine bodyPost_ret (results_tmp rfl _ _ _) rfl ?_
  exact ⟨rfl, rfl⟩
theorem rest_none (w : World) : Calls Try.prog 14 #[.pointer none] w fun e w' => e = .returned (.int .i64 0) ∧ w = w' := by
  go_enter Try.func14, Try.ntmps14
  go_wp2
  refine bodyPost_ret (results_tmp rfl _ _ _) rfl ?_
  exact ⟨rfl, rfl⟩
theorem skips_none (w : World) : Calls Try.prog 15 #[.pointer none] w fun e w' => e = .returned (.int .i64 0) ∧ w = w' := by
  go_enter Try.func15, Try.ntmps15
  go_wp2
  refine bodyPost_ret (results_tmp rfl _ _ _) rfl ?_
  exact ⟨rfl, rfl⟩
def Zero (w : World) (p : Nat) : Prop := w.heap[p]? = some (.cells #[.nilFunc, .int .i64 0, .int .i64 0, .int .i64 0, .slice none 0 0, .slice none 0 0] 46 (0, 0))
set_option maxHeartbeats 1000000 in
theorem feed_zero (w : World) (p : Nat) (h : Zero w p) (v : Value) : Calls Try.prog 10 #[.pointer (some ⟨p, 0, none⟩), v] w fun e w' => e = .returned (.slice none 0 0) ∧ w = w' := by
  have qf : ∀ (w : World), (binOp .eql 44 .nilFunc .nilFunc).run Try.prog w = .ok (.bool true) w := by intro w; kernel_rfl
  obtain ⟨k0, k1, k2, k3, k4, k5, k6⟩ := blk6 h
  clear h
  go_enter Try.func10, Try.ntmps10
  go_wp2
  refine bodyPost_ret (results_tmp rfl _ _ _) rfl ?_
  exact ⟨rfl, rfl⟩
set_option maxHeartbeats 1000000 in
theorem rest_zero (w : World) (p : Nat) (h : Zero w p) : Calls Try.prog 14 #[.pointer (some ⟨p, 0, none⟩)] w fun e w' => e = .returned (.int .i64 0) ∧ ∃ n, w' = w.drewN n := by
  obtain ⟨k0, k1, k2, k3, k4, k5, k6⟩ := blk6 h
  clear h
  go_enter Try.func14, Try.ntmps14
  go_wp2
  go_quiet (fail)
  go_wp2
  go_ret
  exact ⟨rfl, _, rfl⟩
theorem skips_zero (w : World) (p : Nat) (h : Zero w p) : Calls Try.prog 15 #[.pointer (some ⟨p, 0, none⟩)] w fun e w' => e = .returned (.int .i64 0) ∧ w = w' := by
  obtain ⟨k0, k1, k2, k3, k4, k5, k6⟩ := blk6 h
  clear h
  go_enter Try.func15, Try.ntmps15
  go_wp2
  go_ret
  exact ⟨rfl, rfl⟩
structure NoneRel (w : World) (k : Nat) (wr : World) : Prop where
  hk : k ≤ 2
  l : wr.heap[w.heap.size + 1]? = some (.cells #[.pointer none, .pointer (some ⟨w.heap.size, 0, none⟩)] 29 (0, 0))
  z : Zero wr w.heap.size
  b : Below w.heap.size w wr
theorem NoneRel.drewN {w wr : World} {k k' : Nat} (h : NoneRel w k wr) (hk : k' ≤ 2) (n : Nat) : NoneRel w k' (wr.drewN n) := ⟨hk, h.l, h.z, pw_below_drewN h.b n⟩
set_option maxRecDepth 100000 in
set_option maxHeartbeats 2000000 in
theorem none_any (w : World) (v : Value) : Calls Try.prog 6 #[v] w fun e w' => e = .returned (.bool true) ∧ Below w.heap.size w w' := by
  go_enter Try.func6, Try.ntmps6
  go_wp2
  go_loopw [5] (fun i wr => ∃ k : Nat, i = .int .i64 k ∧ NoneRel w k wr) (fun i _ => 2 - (intOf i).toNat)
  case atStart =>
    refine ⟨0, rfl, by omega, ?_, ?_, below_alloc (below_alloc (Below.refl _ _) _) _⟩
    · have := heap_alloc_new (w.alloc (.cells #[.nilFunc, .int .i64 0, .int .i64 0, .int .i64 0, .slice none 0 0, .slice none 0 0] 46)) (.cells #[.pointer none, .pointer (some ⟨w.heap.size, 0, none⟩)] 29)
      simpa using this
    · refine (below_alloc (Below.refl _ _) _).block _ ?_ |>.trans (heap_alloc_new w _)
      simp
  case round =>
    obtain ⟨k, rfl, HR⟩ := hrel
    obtain ⟨l0, l1, l2⟩ := blk2 HR.l
    have HK := HR.hk
    have H := Aside0.mk HR
    have H1 := Aside0.mk (rest_zero wr _ HR.z)
    clear HR
    match k, HK with
    | 0, _ =>
      go_wp2_with (first | (go_at_call 10; refine (feed_none _ _).mono ?_; rintro e w' ⟨rfl, rfl⟩) | (go_at_call 14; refine (rest_none _).mono ?_; rintro e w' ⟨rfl, rfl⟩) | (go_at_call 15; refine (skips_none _).mono ?_; rintro e w' ⟨rfl, rfl⟩))
      go_roundw
      case rel => exact ⟨1, rfl, H.out.drewN (n := 0) (by omega)⟩
      case measure => simp [intOf]
    | 1, _ =>
      go_wp2_with (first | (go_at_call 10; refine (feed_zero _ _ H.out.z _).mono ?_; rintro e w' ⟨rfl, rfl⟩) | (go_at_call 14; refine H1.out.mono ?_; rintro e w' ⟨rfl, n, rfl⟩) | (go_at_call 15; refine (skips_zero _ _ (H.out.drewN (k' := 0) (by omega) _).z).mono ?_; rintro e w' ⟨rfl, rfl⟩))
      go_roundw
      case rel => exact ⟨2, rfl, H.out.drewN (by omega) _⟩
      case measure => simp [intOf]
    | 2, _ =>
      go_wp2_with (go_at_call 11; refine (works_any _).mono ?_; rintro e w' ⟨rfl, hb⟩)
      go_ret
      exact ⟨rfl, below_step H.out.b hb⟩
end Go.Proofs.Ytpmnjeiemocbbaa.Fr
