import Derived.Test.YthkdihpbdaehbaaPrJ
namespace Go.Proofs.Ythkdihpbdaehbaa.Pr
set_option linter.unusedVariables false
set_option linter.unusedSimpArgs false
open Go.RowKit Go.Proofs.YthkdihpbdaehbaaW.PrintWords Go.Proofs.YthkdihpbdaehbaaW.PrintLast Go.Proofs.YthkdihpbdaehbaaW.PrintMore Go.Proofs.Ythkdihpbdaehbaa.Bs
/-- A walk that reads: what is left to read lies in what was there at w0. -/
structure Src (w0 w : World) (p : Nat) (xs : List Int) : Prop where
  r : ∃ A c, w.heap[p]? = some (.cells #[.slice A xs.length c, .bool true] 56 (0, 0)) ∧ xs.length ≤ c ∧ (Kd.int .u8).C w0 A xs.length xs
  old : Below w0.heap.size w0 w
  hp : w0.heap.size ≤ p
/-- The reader gives up. -/
def Gone (e : Ending) : Prop := e = .panicked [{ v := .iface 79 (.agg #[]), recovered := false }]
def Lost (w : World) (e : Ending) (w' : World) : Prop := Gone e ∧ w' = w
structure Took (w0 w : World) (p : Nat) (xs : List Int) (n : Nat) (e : Ending) (w' : World) : Prop where
  r : ∃ A c, e = .returned (.slice A n c) ∧ (Kd.int .u8).C w0 A n (xs.take n)
  s : Src w0 w' p (xs.drop n)
  ch : Ch (fun k => k = p) w w'
theorem Took.mk_ {w0 w : World} {p n : Nat} {xs : List Int} {A : Option Addr} {c : Nat} (ho : Below w0.heap.size w0 w) (hp : w0.heap.size ≤ p) (hc : w.heap[p]? = some (.cells #[.slice A xs.length c, .bool true] 56 (0, 0))) (hl : xs.length ≤ c) (hC : (Kd.int .u8).C w0 A xs.length xs) (hn : n ≤ xs.length) (A' : Option Addr) (m d : Nat) (hm : m = xs.length - n) (hA : A' = if c = n then A else A.map (fun x => x.add n)) (hd : d = c - n) : Took w0 w p xs n (.returned (.slice A n c)) (w.setCell ⟨p, 0, none⟩ (.slice A' m d)) := by
  subst hm
  have hlt : (xs.take n).length = n := by rw [List.length_take]; omega
  have hld : (xs.drop n).length = xs.length - n := List.length_drop
  have h1 := Kd.C_take (m := n) hC hn
  have h2 := Kd.C_drop (m := n) (c := c) hC hn hl
  rw [hlt] at h1
  refine ⟨⟨A, c, rfl, h1⟩, ⟨⟨A', d, ?_, by omega, ?_⟩, Below.setCell ho hp _, hp⟩, (Ch.refl (fun k => k = p) w).setCell (p := ⟨p, 0, none⟩) (.inl rfl) _⟩
  · rw [hld]; exact blk_upd 0 _ hc rfl
  · have e : (if c = n then A else A.map (·.add (n * (Kd.int .u8).sz))) = A' := by
      rw [hA]; split
      · rfl
      · rw [show n * (Kd.int .u8).sz = n from Nat.mul_one n]
    rw [← e]; exact h2
set_option maxRecDepth 100000 in
set_option maxHeartbeats 400000 in
theorem take_short (w0 w : World) (p n : Nat) (xs : List Int) (h : Src w0 w p xs) (hn : xs.length < n) : Calls Try.prog 48 #[.pointer (some ⟨p, 0, none⟩), .int .i64 n] w (Lost w) := by
  obtain ⟨⟨A, c, hc, hl, hC⟩, ho, hp⟩ := h
  obtain ⟨k0, k1, k2⟩ := blk2 hc
  have hn' : (xs.length : Int) < n := by omega
  clear hC hc ho hp
  go_enter Try.func48, Try.ntmps48
  go_wp2_with fail
  exact ⟨rfl, ⟨rfl, rfl⟩⟩
theorem take_ok (w0 w : World) (p n : Nat) (xs : List Int) (h : Src w0 w p xs) (hn : n ≤ xs.length) : Calls Try.prog 48 #[.pointer (some ⟨p, 0, none⟩), .int .i64 n] w (Took w0 w p xs n) := by
  obtain ⟨⟨A, c, hc, hl, hC⟩, ho, hp⟩ := h
  obtain ⟨k0, k1, k2⟩ := blk2 hc
  have hn' : ¬ (xs.length : Int) < n := by omega
  have hn2 : n ≤ c := by omega
  have HC := Aside0.mk hC
  have HH := Aside0.mk hc
  have HO := Aside0.mk ho
  have HP := Aside0.mk hp
  clear hC hc ho hp
  by_cases hcn : c = n
  · subst hcn
    go_enter Try.func48, Try.ntmps48
    go_wp2_with fail
    go_ret
    exact Took.mk_ HO.out HP.out HH.out hl HC.out hn _ _ _ (by omega) (if_pos rfl).symm (Nat.sub_self _).symm
  · go_enter Try.func48, Try.ntmps48
    go_wp2_with fail
    go_ret
    exact Took.mk_ HO.out HP.out HH.out hl HC.out hn _ _ _ rfl (if_neg hcn).symm rfl
end Go.Proofs.Ythkdihpbdaehbaa.Pr
