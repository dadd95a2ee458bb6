import Derived.Test.YtagihjlklbckmaaGreatDoorProg
import Derived.WalkKit
import Derived.WalkSpells
import Derived.KernelRfl
import Derived.Laws.EntriesVeiled
import Derived.WalkLawsBesides
import Derived.Deep.RegionLaw
import Derived.Deep.DeepFit
import Derived.Test.YtagihjlklbckmaaGreatDoorWShare
import Derived.Test.YtagihjlklbckmaaGreatDoorWMore
import Derived.Test.YtagihjlklbckmaaGreatDoorWNEv
namespace Go.Proofs.YtagihjlklbckmaaGreatDoor.Bs
set_option linter.unusedVariables false
set_option linter.unusedSimpArgs false
open Go.RowKit Go.Proofs.YtagihjlklbckmaaGreatDoorW.PrintWords
/-- What has changed from w to w' lies in the blocks of S, or is new. -/
structure Ch (S : Nat → Prop) (w w' : World) : Prop where
  os : w'.os = w.os
  tape : w'.tape = w.tape
  output : w'.output = w.output
  size : w.heap.size ≤ w'.heap.size
  block : ∀ k, k < w.heap.size → ¬ S k → w'.heap[k]? = w.heap[k]?
theorem Ch.refl (S : Nat → Prop) (w : World) : Ch S w w := ⟨rfl, rfl, rfl, Nat.le_refl _, fun _ _ _ => rfl⟩
theorem Ch.trans {S : Nat → Prop} {a b c : World} (h : Ch S a b) (k : Ch (fun i => S i ∨ a.heap.size ≤ i) b c) : Ch S a c :=
  ⟨k.os.trans h.os, k.tape.trans h.tape, k.output.trans h.output, Nat.le_trans h.size k.size, fun i hi hs => (k.block i (Nat.lt_of_lt_of_le hi h.size) (by rintro (h1 | h1); exact hs h1; omega)).trans (h.block i hi hs)⟩
theorem Ch.mono {S S' : Nat → Prop} {a b : World} (h : Ch S a b) (hs : ∀ k, S k → k < a.heap.size → S' k) : Ch S' a b :=
  ⟨h.os, h.tape, h.output, h.size, fun k hk hn => h.block k hk (fun hS => hn (hs k hS hk))⟩
theorem Ch.drew {S : Nat → Prop} {a b : World} (h : Ch S a b) : Ch S a b.drew := ⟨h.os, h.tape, h.output, h.size, h.block⟩
theorem Ch.drewN {S : Nat → Prop} {a b : World} (h : Ch S a b) (n : Nat) : Ch S a (b.drewN n) := ⟨h.os, h.tape, h.output, h.size, h.block⟩
theorem Ch.alloc {S : Nat → Prop} {a b : World} (h : Ch S a b) (o : Obj) : Ch S a (b.alloc o) :=
  h.trans ⟨rfl, rfl, rfl, by simp, fun k hk _ => Below.heap_alloc _ _ _ hk⟩
theorem Ch.setCell {S : Nat → Prop} {a b : World} (h : Ch S a b) {p : Addr} (hp : S p.block ∨ a.heap.size ≤ p.block) (u : Value) : Ch S a (b.setCell p u) :=
  h.trans ⟨rfl, rfl, rfl, by simp [World.setCell], fun k _ hn => Below.heap_setCell _ _ _ _ (by rintro rfl; exact hn hp)⟩
theorem Ch.grown {S : Nat → Prop} {a b c : World} (h : Ch S a b) {row : Option Nat} (hg : b.grownBy c row) (hr : ∀ k, row = some k → S k ∨ a.heap.size ≤ k) : Ch S a c :=
  h.trans ⟨hg.os, hg.tape, hg.output, hg.size, fun k hk hn => hg.block k hk (fun e => hn (hr k e.symm))⟩
theorem Ch.below {S : Nat → Prop} {a b c : World} (h : Ch S a b) (hb : Below b.heap.size b c) : Ch S a c :=
  h.trans ⟨hb.os, hb.tape, hb.output, hb.size, fun k hk _ => hb.block k hk⟩
theorem Ch.to_below {S : Nat → Prop} {a b : World} (h : Ch S a b) {B : Nat} (hs : ∀ k, S k → B ≤ k) (hB : B ≤ a.heap.size) : Below B a b :=
  ⟨h.os, h.tape, h.output, h.size, fun k hk => h.block k (by omega) (fun hS => by have := hs k hS; omega)⟩
theorem Ch.heap {S : Nat → Prop} {a b : World} (h : Ch S a b) {k : Nat} {o : Obj} (ho : a.heap[k]? = some o) (hn : ¬ S k) : b.heap[k]? = some o := (h.block k (blk_lt ho) hn).trans ho
theorem Ch.cell {S : Nat → Prop} {a b : World} (h : Ch S a b) {p : Addr} {v : Value} (hc : a.cell? p = some v) (hn : ¬ S p.block) : b.cell? p = some v :=
  (World.cell?_of_block (w := a) (h.block p.block (World.block_lt_of_cell? a p hc) hn)).trans hc
theorem Ch.R {α : Type} {d : Kd α} {e base : Nat} {ok S : Nat → Prop} {v : Value} {xs : List α} {a b : World} (h : Ch S a b) (hr : d.R e a base ok v xs) (hn : ∀ k, ok k → ¬ S k) : d.R e b base ok v xs :=
  Kd.R_step hr (fun k hk hlt => h.block k hlt (hn k hk))
theorem Ch.C {α : Type} {d : Kd α} (hd : Kd.Heap d) {S : Nat → Prop} {A : Option Addr} {n : Nat} {xs : List α} {w0 a b : World} (h : Ch S a b) (hb : Below w0.heap.size w0 a) (hr : d.C w0 A n xs) (hs : ∀ k, S k → w0.heap.size ≤ k) : d.C b A n xs :=
  hd.C (fun k hk => (h.block k (Nat.lt_of_lt_of_le hk hb.size) (fun hS => by have := hs k hS; omega)).trans (hb.block k hk)) hr
theorem blk1 {w : World} {g t : Nat} {a : Value} (h : w.heap[g]? = some (.cells #[a] t (0, 0))) : w.cell? ⟨g, 0, none⟩ = some a ∧ ∀ i, w.frozen? ⟨g, i, none⟩ = false := ⟨blk_cell h 0, fun i => blk_frozen h i⟩
theorem blk2 {w : World} {g t : Nat} {a b : Value} (h : w.heap[g]? = some (.cells #[a, b] t (0, 0))) : w.cell? ⟨g, 0, none⟩ = some a ∧ w.cell? ⟨g, 1, none⟩ = some b ∧ ∀ i, w.frozen? ⟨g, i, none⟩ = false := ⟨blk_cell h 0, blk_cell h 1, fun i => blk_frozen h i⟩
theorem blk_upd {w : World} {g t : Nat} {cs cs' : Array Value} (i : Nat) (u : Value) (h : w.heap[g]? = some (.cells cs t (0, 0))) (e : cs.setIfInBounds i u = cs') : (w.setCell ⟨g, i, none⟩ u).heap[g]? = some (.cells cs' t (0, 0)) := blk_put h i u e
theorem blk_new (w : World) (o : Obj) : (w.alloc o).heap[w.heap.size]? = some o := heap_alloc_new w o
section
variable {P : Program} {ops : Array Oper} {rest : List Oper} {o : Oper} {a : Act} {Q : Exit → Act → World → Prop} {Kc : Act → World → Prop} {α : Type}
/-- append(v, x) as a step of a region: only the row's own block changes. -/
theorem app_step (d : Kd α) {W : World} (base : Nat) (hw : Region.wanted o (yielded ops a.tmps) = true) (s x : Operand) (t e : TypeId) (z : Value) (bytes : Nat)
    (ho : o.op = .call { callee := .builtin .append, args := #[s, x], argTypes := #[t, t] })
    (ht : P.underlying t = some (.slice e)) (hinfo : (P.info? e).map (fun i => (i.zero, i.size, i.bytes)) = some (some z, d.sz, bytes)) (hz : z.cells.size = d.sz ∧ 0 < d.sz ∧ 0 < bytes)
    (v : Value) (xs : List α) (p : α) (cs : List Value) (ok okp : Nat → Prop) (hs : a.eval s = v) (hx : a.eval x = .slice (some ⟨W.heap.size, 0, none⟩) 1 1) (hp : d.M W base okp p cs) (hokp : ∀ k, okp k → ok k ∧ some k ≠ v.ownBlock)
    (HO : d.R e W base ok v xs) (hbase : base ≤ W.heap.size) (hl : (xs.length + 1) * bytes ≤ 140737488355328)
    (h : ∀ A c w1, d.R e w1 base (fun k => ok k ∨ W.heap.size ≤ k) (.slice A (xs.length + 1) c) (xs ++ [p]) → Ch (fun k => some k = v.ownBlock) W w1 → (∀ k, (Value.slice A (xs.length + 1) c).ownBlock = some k → some k = v.ownBlock ∨ W.heap.size ≤ k) → Kc (a.put o.dst (.slice A (xs.length + 1) c)) w1) :
    if Region.wanted o (yielded ops a.tmps) = true then Oper.wp P o a (W.alloc (.cells cs.toArray e)) Kc Q else Kc (a.put o.dst undef) (W.alloc (.cells cs.toArray e)) := by
  refine Kd.R_append_step d (w0 := W) (W := W) base hw s x t e z bytes ho ht hinfo hz.1 hz.2.1 hz.2.2 v xs p cs (fun k => ok k ∨ W.heap.size ≤ k) okp hs hx hp (fun k hk => ⟨.inl (hokp k hk).1, (hokp k hk).2⟩) (fun _ hk => .inr hk) (Kd.R_mono HO (fun _ hk => .inl hk)) (Below.refl base W) hbase hl ?_
  intro v1 w1 hr hb hg hat
  obtain ⟨A, c, rfl⟩ := Kd.R_slice hr
  rw [List.length_append, List.length_singleton] at hr hat ⊢
  refine h A c w1 hr ⟨hg.os, hg.tape, hg.output, hg.size, fun k hk hn => hg.block k hk (fun e => hn e)⟩ (fun k hk => ?_)
  rcases hat with hat | ⟨b, hb1, hb2⟩
  · exact .inl (hat ▸ hk).symm
  · rw [hb1] at hk; injection hk with hk; exact .inr (by omega)
/-- The same in a region of the text's order. -/
theorem app_list (d : Kd α) {W : World} (base : Nat) (hgd : o.guard = none) (s x : Operand) (t e : TypeId) (z : Value) (bytes : Nat)
    (ho : o.op = .call { callee := .builtin .append, args := #[s, x], argTypes := #[t, t] })
    (ht : P.underlying t = some (.slice e)) (hinfo : (P.info? e).map (fun i => (i.zero, i.size, i.bytes)) = some (some z, d.sz, bytes)) (hz : z.cells.size = d.sz ∧ 0 < d.sz ∧ 0 < bytes)
    (v : Value) (xs : List α) (p : α) (cs : List Value) (ok okp : Nat → Prop) (hs : a.eval s = v) (hx : a.eval x = .slice (some ⟨W.heap.size, 0, none⟩) 1 1) (hp : d.M W base okp p cs) (hokp : ∀ k, okp k → ok k ∧ some k ≠ v.ownBlock)
    (HO : d.R e W base ok v xs) (hbase : base ≤ W.heap.size) (hl : (xs.length + 1) * bytes ≤ 140737488355328)
    (h : ∀ A c w1, d.R e w1 base (fun k => ok k ∨ W.heap.size ≤ k) (.slice A (xs.length + 1) c) (xs ++ [p]) → Ch (fun k => some k = v.ownBlock) W w1 → (∀ k, (Value.slice A (xs.length + 1) c).ownBlock = some k → some k = v.ownBlock ∨ W.heap.size ≤ k) → wpList P ops Q rest (a.put o.dst (.slice A (xs.length + 1) c)) w1) :
    wpList P ops Q (o :: rest) a (W.alloc (.cells cs.toArray e)) := by
  refine Kd.R_append d (w0 := W) (W := W) base hgd s x t e z bytes ho ht hinfo hz.1 hz.2.1 hz.2.2 v xs p cs (fun k => ok k ∨ W.heap.size ≤ k) okp hs hx hp (fun k hk => ⟨.inl (hokp k hk).1, (hokp k hk).2⟩) (fun _ hk => .inr hk) (Kd.R_mono HO (fun _ hk => .inl hk)) (Below.refl base W) hbase hl ?_
  intro v1 w1 hr hb hg hat
  obtain ⟨A, c, rfl⟩ := Kd.R_slice hr
  rw [List.length_append, List.length_singleton] at hr hat ⊢
  refine h A c w1 hr ⟨hg.os, hg.tape, hg.output, hg.size, fun k hk hn => hg.block k hk (fun e => hn e)⟩ (fun k hk => ?_)
  rcases hat with hat | ⟨b, hb1, hb2⟩
  · exact .inl (hat ▸ hk).symm
  · rw [hb1] at hk; injection hk with hk; exact .inr (by omega)
end
end Go.Proofs.YtagihjlklbckmaaGreatDoor.Bs
