import Derived.Test.YthkdihpbdaehbaaPrH
namespace Go.Proofs.Ythkdihpbdaehbaa.Pr
set_option linter.unusedVariables false
set_option linter.unusedSimpArgs false
open Go.RowKit Go.Proofs.YthkdihpbdaehbaaW.PrintWords Go.Proofs.YthkdihpbdaehbaaW.PrintLast Go.Proofs.YthkdihpbdaehbaaW.PrintMore Go.Proofs.Ythkdihpbdaehbaa.Bs
theorem laid_calls (w : World) (A : Option Addr) (n c : Nat) : Calls Try.prog 22 #[.slice A n c] w fun e w' => e = .returned (if 4200 < n then .tuple #[.slice none 0 0, .int .i64 3] else .tuple #[.slice A n c, .int .i64 0]) ∧ w' = w := by
  by_cases h : 4200 < n
  · have h' : 4200 < (n : Int) := by omega
    go_enter Try.func22, Try.ntmps22
    go_wp2
    go_ret2
    exact ⟨rfl, rfl⟩
  · have h' : ¬ 4200 < (n : Int) := by omega
    go_enter Try.func22, Try.ntmps22
    go_wp2
    go_ret2
    exact ⟨rfl, rfl⟩
/-- A request's bytes, and why there are none. -/
def putReq (q : Rq) : List Int × Int := if rightB q = false then ([], 2) else if 4200 < q.bytes.length then ([], 3) else (q.bytes, 0)
structure Puts (w : World) (l : List Int) (c : Int) (e : Ending) (w' : World) : Prop where
  r : ∃ A k, e = .returned (.tuple #[.slice A l.length k, .int .i64 c]) ∧ (Kd.int .u8).R 5 w' w.heap.size (fun _ => True) (.slice A l.length k) l
  b : Below w.heap.size w w'
set_option maxRecDepth 100000 in
set_option maxHeartbeats 400000 in
theorem putReq_calls (w : World) (q : Rq) : Calls Try.prog 8 #[.agg q.cells] w (Puts w (putReq q).1 (putReq q).2) := by
  have C1 := Aside0.mk (fun w => right_calls w q)
  cases hr : rightB q with
  | false =>
    rw [hr] at C1
    have E := Aside0.mk (show putReq q = ([], 2) by simp [putReq, hr])
    obtain ⟨k, s, o, i, p, nm, os⟩ := q
    simp only [Rq.cells] at *
    go_enter Try.func8, Try.ntmps8
    go_wp2_with (first | (go_at_call 10; (with_reducible refine (C1.out _).mono ?_); rintro e w1 ⟨rfl, hb⟩; have HB := Aside0.mk hb; clear hb))
    go_ret2
    rw [E.out]
    exact ⟨⟨none, 0, rfl, Kd.R_nil _ _ _ _ _⟩, below_step (below_alloc (Below.refl _ _) _) HB.out⟩
  | true =>
    have hs := Aside0.mk (right_small q hr)
    rw [hr] at C1
    have E := Aside0.mk (show putReq q = if 4200 < q.bytes.length then ([], 3) else (q.bytes, 0) by simp [putReq, hr])
    have C2 := Aside0.mk (fun B w p qb bv => request_put B w p qb bv q)
    generalize hbs : q.bytes = bs at *
    generalize hpq : putReq q = pq at *
    obtain ⟨k, s, o, i, p, nm, os⟩ := q
    simp only [Rq.cells] at *
    clear hr hbs hpq
    go_enter Try.func8, Try.ntmps8
    go_wp2_with (first | (go_at_call 10; (with_reducible refine (C1.out _).mono ?_); rintro e w1 ⟨rfl, hb⟩; have hq1 := (hb.block w.heap.size (by simp)).trans (heap_alloc_new w _); have HQ := Aside0.mk hq1; have HB := Aside0.mk (below_step (below_alloc (Below.refl _ _) _) hb); clear hb hq1) | fail)
    have hz1 : w.heap.size + 1 ≤ w1.heap.size := blk_lt HQ.out
    refine (C2.out (w.heap.size + 1) _ w1.heap.size w.heap.size (.slice none 0 0) ⟨hz1, heap_alloc_new w1 _, Kd.R_nil _ _ _ _ _⟩ ((below_alloc (Below.refl w1.heap.size w1) _).block _ hz1 |>.trans HQ.out) (by omega) (by simp; omega) hs.out).mono ?_
    rintro e w2 ⟨rfl, o2⟩
    obtain ⟨⟨⟨bv', ⟨hp, hat⟩⟩, hch⟩, hq⟩ := o2
    obtain ⟨A, c, rfl⟩ := Kd.R_slice hp.row
    obtain ⟨k0, k1, k2⟩ := blk2 hp.cells
    have HB2 : Below w1.heap.size w1 w2 := (below_alloc (Below.refl w1.heap.size w1) _).trans (Ch.to_below hch (fun k hk => by rcases hk with hk | hk; omega; simp [Value.ownBlock] at hk) (by simp))
    have HB3 := Aside0.mk (below_step HB.out HB2)
    have HR := Aside0.mk (Kd.R_mono (Kd.R_lower hp.row (Nat.le_succ w.heap.size)) (fun _ _ => trivial))
    have C3 := laid_calls w2 A bs.length c
    clear HB HB2 hch hq hp hat HQ C2 C1 hs
    by_cases hlen : 4200 < bs.length
    · rw [if_pos hlen] at C3
      have E2 := E.out
      rw [if_pos hlen] at E2
      have E3 := Aside0.mk E2
      clear hlen E2 E
      go_wp2_with fail
      refine C3.mono ?_
      rintro e w3 ⟨rfl, rfl⟩
      go_wp2
      go_ret2
      rw [E3.out]
      exact ⟨⟨none, 0, rfl, Kd.R_nil _ _ _ _ _⟩, HB3.out⟩
    · rw [if_neg hlen] at C3
      have E2 := E.out
      rw [if_neg hlen] at E2
      have E3 := Aside0.mk E2
      clear hlen E2 E
      go_wp2_with fail
      refine C3.mono ?_
      rintro e w3 ⟨rfl, rfl⟩
      go_wp2
      go_ret2
      rw [E3.out]
      exact ⟨⟨A, c, rfl, HR.out⟩, HB3.out⟩
end Go.Proofs.Ythkdihpbdaehbaa.Pr
