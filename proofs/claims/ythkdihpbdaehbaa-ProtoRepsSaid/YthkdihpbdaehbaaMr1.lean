import Derived.Test.YthkdihpbdaehbaaProg
import Derived.WalkKit
import Derived.WalkSpells
import Derived.KernelRfl
import Derived.Laws.EntriesVeiled
import Derived.WalkLawsBesides
import Derived.Deep.RegionLaw
import Derived.Deep.DeepFit
import Derived.Test.YthkdihpbdaehbaaWShare
import Derived.Test.YthkdihpbdaehbaaWMore
import Derived.Test.YthkdihpbdaehbaaWNEv
import Derived.Lib.AppendStr
import Derived.Test.YthkdihpbdaehbaaWEqStruct
import Derived.Below
import Derived.Deep.Draws
import Derived.Deep.AppendLies
import Derived.Maps.AppendAt
import Derived.OwnWalk
import Derived.Laws.BytesArg
import Derived.Laws.MakeOwn
import Derived.Laws.OwnMore
import Derived.Deep.OwnRows
import Derived.Tactics
import Derived.Lib.ConvBytes
import Derived.Laws.Slices
import Derived.RowKit3
import Derived.Deep.LoopGhost
import Derived.Deep.QuietTactic
import Derived.BigQuiet
import Derived.WideLaws
import Derived.Deep.DeepCutAuto
import Derived.Deep.CutBlock
import Derived.Deep.RegionHeld3
import Derived.Laws.Rows
import Derived.ArgAppend
import Derived.Laws.IdiomCopy
import Derived.OrdersHeld
import Derived.Laws.BitsLemmas
import Derived.RowKit
import Derived.Test.YthkdihpbdaehbaaWWords
import Derived.Test.YthkdihpbdaehbaaWLast
import Derived.Test.YthkdihpbdaehbaaWTab
import Derived.Test.YthkdihpbdaehbaaWFour
import Derived.Test.YthkdihpbdaehbaaWQPut
import Derived.Test.YthkdihpbdaehbaaWApart
import Derived.Test.YthkdihpbdaehbaaWArr
import Derived.Test.YthkdihpbdaehbaaWZeros
import Derived.Test.YthkdihpbdaehbaaWFoot
import Derived.Test.YthkdihpbdaehbaaWKept
import Derived.Test.YthkdihpbdaehbaaWN
import Derived.Test.YthkdihpbdaehbaaWFootNe
import Derived.Test.YthkdihpbdaehbaaWAt
import Derived.Test.YthkdihpbdaehbaaWRepsOne
import Derived.Test.YthkdihpbdaehbaaWInv
import Derived.Test.YthkdihpbdaehbaaWInvWords
import Derived.Test.YthkdihpbdaehbaaWGuard
namespace Go.Proofs.Ythkdihpbdaehbaa.Bs
set_option linter.unusedVariables false
set_option linter.unusedSimpArgs false
open Go.RowKit Go.Proofs.YthkdihpbdaehbaaW.PrintWords

/-- What has changed from w to w' lies in the blocks of S, or is new. -/
structure Ch (S : Nat → Prop) (w w' : World) : Prop where
  os : w'.os = w.os
  tape : w'.tape = w.tape
  output : w'.output = w.output
  size : w.heap.size ≤ w'.heap.size
  block : ∀ k, k < w.heap.size → ¬ S k → w'.heap[k]? = w.heap[k]?
theorem Ch.refl (S : Nat → Prop) (w : World) : Ch S w w := ⟨rfl, rfl, rfl, Nat.le_refl _, fun _ _ _ => rfl⟩
theorem Ch.trans {S : Nat → Prop} {a b c : World} (h : Ch S a b) (k : Ch (fun i => S i ∨ a.heap.size ≤ i) b c) : Ch S a c :=
  ⟨k.os.trans h.os, k.tape.trans h.tape, k.output.trans h.output, Nat.le_trans h.size k.size, fun i hi hs => (k.block i (Nat.lt_of_lt_of_le hi h.size) (by rintro (h1 | h1); exact hs h1; omega)).trans (h.block i hi hs)⟩
theorem Ch.mono {S S' : Nat → Prop} {a b : World} (h : Ch S a b) (hs : ∀ k, S k → k < a.heap.size → S' k) : Ch S' a b :=
  ⟨h.os, h.tape, h.output, h.size, fun k hk hn => h.block k hk (fun hS => hn (hs k hS hk))⟩
theorem Ch.drew {S : Nat → Prop} {a b : World} (h : Ch S a b) : Ch S a b.drew := ⟨h.os, h.tape, h.output, h.size, h.block⟩
theorem Ch.drewN {S : Nat → Prop} {a b : World} (h : Ch S a b) (n : Nat) : Ch S a (b.drewN n) := ⟨h.os, h.tape, h.output, h.size, h.block⟩
theorem Ch.alloc {S : Nat → Prop} {a b : World} (h : Ch S a b) (o : Obj) : Ch S a (b.alloc o) :=
  h.trans ⟨rfl, rfl, rfl, by simp, fun k hk _ => Below.heap_alloc _ _ _ hk⟩
theorem Ch.setCell {S : Nat → Prop} {a b : World} (h : Ch S a b) {p : Addr} (hp : S p.block ∨ a.heap.size ≤ p.block) (u : Value) : Ch S a (b.setCell p u) :=
  h.trans ⟨rfl, rfl, rfl, by simp [World.setCell], fun k _ hn => Below.heap_setCell _ _ _ _ (by rintro rfl; exact hn hp)⟩
theorem Ch.grown {S : Nat → Prop} {a b c : World} (h : Ch S a b) {row : Option Nat} (hg : b.grownBy c row) (hr : ∀ k, row = some k → S k ∨ a.heap.size ≤ k) : Ch S a c :=
  h.trans ⟨hg.os, hg.tape, hg.output, hg.size, fun k hk hn => hg.block k hk (fun e => hn (hr k e.symm))⟩
theorem Ch.below {S : Nat → Prop} {a b c : World} (h : Ch S a b) (hb : Below b.heap.size b c) : Ch S a c :=
  h.trans ⟨hb.os, hb.tape, hb.output, hb.size, fun k hk _ => hb.block k hk⟩
theorem Ch.to_below {S : Nat → Prop} {a b : World} (h : Ch S a b) {B : Nat} (hs : ∀ k, S k → B ≤ k) (hB : B ≤ a.heap.size) : Below B a b :=
  ⟨h.os, h.tape, h.output, h.size, fun k hk => h.block k (by omega) (fun hS => by have := hs k hS; omega)⟩
theorem Ch.heap {S : Nat → Prop} {a b : World} (h : Ch S a b) {k : Nat} {o : Obj} (ho : a.heap[k]? = some o) (hn : ¬ S k) : b.heap[k]? = some o := (h.block k (blk_lt ho) hn).trans ho
theorem Ch.cell {S : Nat → Prop} {a b : World} (h : Ch S a b) {p : Addr} {v : Value} (hc : a.cell? p = some v) (hn : ¬ S p.block) : b.cell? p = some v :=
  (World.cell?_of_block (w := a) (h.block p.block (World.block_lt_of_cell? a p hc) hn)).trans hc
theorem Ch.R {α : Type} {d : Kd α} {e base : Nat} {ok S : Nat → Prop} {v : Value} {xs : List α} {a b : World} (h : Ch S a b) (hr : d.R e a base ok v xs) (hn : ∀ k, ok k → ¬ S k) : d.R e b base ok v xs :=
  Kd.R_step hr (fun k hk hlt => h.block k hlt (hn k hk))
theorem Ch.F {α : Type} {d : Kd α} {ok S : Nat → Prop} {A : Option Addr} {n : Nat} {xs : List α} {a b : World} (h : Ch S a b) (hr : d.F a ok A n xs) (hn : ∀ k, ok k → ¬ S k) : d.F b ok A n xs :=
  Kd.F_step hr (fun k hk hlt => h.block k hlt (hn k hk))
theorem Ch.C {α : Type} {d : Kd α} (hd : Kd.Heap d) {S : Nat → Prop} {A : Option Addr} {n : Nat} {xs : List α} {w0 a b : World} (h : Ch S a b) (hb : Below w0.heap.size w0 a) (hr : d.C w0 A n xs) (hs : ∀ k, S k → w0.heap.size ≤ k) : d.C b A n xs :=
  hd.C (fun k hk => (h.block k (Nat.lt_of_lt_of_le hk hb.size) (fun hS => by have := hs k hS; omega)).trans (hb.block k hk)) hr

theorem blk1 {w : World} {g t : Nat} {a : Value} (h : w.heap[g]? = some (.cells #[a] t (0, 0))) : w.cell? ⟨g, 0, none⟩ = some a ∧ ∀ i, w.frozen? ⟨g, i, none⟩ = false := ⟨blk_cell h 0, fun i => blk_frozen h i⟩
theorem blk2 {w : World} {g t : Nat} {a b : Value} (h : w.heap[g]? = some (.cells #[a, b] t (0, 0))) : w.cell? ⟨g, 0, none⟩ = some a ∧ w.cell? ⟨g, 1, none⟩ = some b ∧ ∀ i, w.frozen? ⟨g, i, none⟩ = false := ⟨blk_cell h 0, blk_cell h 1, fun i => blk_frozen h i⟩
theorem blk6 {w : World} {g t : Nat} {a b c d e f : Value} (h : w.heap[g]? = some (.cells #[a, b, c, d, e, f] t (0, 0))) : w.cell? ⟨g, 0, none⟩ = some a ∧ w.cell? ⟨g, 1, none⟩ = some b ∧ w.cell? ⟨g, 2, none⟩ = some c ∧ w.cell? ⟨g, 3, none⟩ = some d ∧ w.cell? ⟨g, 4, none⟩ = some e ∧ w.cell? ⟨g, 5, none⟩ = some f ∧ ∀ i, w.frozen? ⟨g, i, none⟩ = false :=
  ⟨blk_cell h 0, blk_cell h 1, blk_cell h 2, blk_cell h 3, blk_cell h 4, blk_cell h 5, fun i => blk_frozen h i⟩
theorem blk_upd {w : World} {g t : Nat} {cs cs' : Array Value} (i : Nat) (u : Value) (h : w.heap[g]? = some (.cells cs t (0, 0))) (e : cs.setIfInBounds i u = cs') : (w.setCell ⟨g, i, none⟩ u).heap[g]? = some (.cells cs' t (0, 0)) := blk_put h i u e
theorem blk_new (w : World) (o : Obj) : (w.alloc o).heap[w.heap.size]? = some o := heap_alloc_new w o

section
variable {P : Program} {ops : Array Oper} {rest : List Oper} {o : Oper} {a : Act} {Q : Exit → Act → World → Prop} {Kc : Act → World → Prop} {α : Type}
/-- append(v, x) as a step of a region: only the row's own block changes. -/
theorem app_step (d : Kd α) {W : World} (base : Nat) (hw : Region.wanted o (yielded ops a.tmps) = true) (s x : Operand) (t e : TypeId) (z : Value) (bytes : Nat)
    (ho : o.op = .call { callee := .builtin .append, args := #[s, x], argTypes := #[t, t] })
    (ht : P.underlying t = some (.slice e)) (hinfo : (P.info? e).map (fun i => (i.zero, i.size, i.bytes)) = some (some z, d.sz, bytes)) (hz : z.cells.size = d.sz ∧ 0 < d.sz ∧ 0 < bytes)
    (v : Value) (xs : List α) (p : α) (cs : List Value) (ok okp : Nat → Prop) (hs : a.eval s = v) (hx : a.eval x = .slice (some ⟨W.heap.size, 0, none⟩) 1 1) (hp : d.M W base okp p cs) (hokp : ∀ k, okp k → ok k ∧ some k ≠ v.ownBlock)
    (HO : d.R e W base ok v xs) (hbase : base ≤ W.heap.size) (hl : (xs.length + 1) * bytes ≤ 140737488355328)
    (h : ∀ A c w1, d.R e w1 base (fun k => ok k ∨ W.heap.size ≤ k) (.slice A (xs.length + 1) c) (xs ++ [p]) → Ch (fun k => some k = v.ownBlock) W w1 → (∀ k, (Value.slice A (xs.length + 1) c).ownBlock = some k → some k = v.ownBlock ∨ W.heap.size ≤ k) → Kc (a.put o.dst (.slice A (xs.length + 1) c)) w1) :
    if Region.wanted o (yielded ops a.tmps) = true then Oper.wp P o a (W.alloc (.cells cs.toArray e)) Kc Q else Kc (a.put o.dst undef) (W.alloc (.cells cs.toArray e)) := by
  refine Kd.R_append_step d (w0 := W) (W := W) base hw s x t e z bytes ho ht hinfo hz.1 hz.2.1 hz.2.2 v xs p cs (fun k => ok k ∨ W.heap.size ≤ k) okp hs hx hp (fun k hk => ⟨.inl (hokp k hk).1, (hokp k hk).2⟩) (fun _ hk => .inr hk) (Kd.R_mono HO (fun _ hk => .inl hk)) (Below.refl base W) hbase hl ?_
  intro v1 w1 hr hb hg hat
  obtain ⟨A, c, rfl⟩ := Kd.R_slice hr
  rw [List.length_append, List.length_singleton] at hr hat ⊢
  refine h A c w1 hr ⟨hg.os, hg.tape, hg.output, hg.size, fun k hk hn => hg.block k hk (fun e => hn e)⟩ (fun k hk => ?_)
  rcases hat with hat | ⟨b, hb1, hb2⟩
  · exact .inl (hat ▸ hk).symm
  · rw [hb1] at hk; injection hk with hk; exact .inr (by omega)
/-- The same in a region of the text's order. -/
theorem app_list (d : Kd α) {W : World} (base : Nat) (hgd : o.guard = none) (s x : Operand) (t e : TypeId) (z : Value) (bytes : Nat)
    (ho : o.op = .call { callee := .builtin .append, args := #[s, x], argTypes := #[t, t] })
    (ht : P.underlying t = some (.slice e)) (hinfo : (P.info? e).map (fun i => (i.zero, i.size, i.bytes)) = some (some z, d.sz, bytes)) (hz : z.cells.size = d.sz ∧ 0 < d.sz ∧ 0 < bytes)
    (v : Value) (xs : List α) (p : α) (cs : List Value) (ok okp : Nat → Prop) (hs : a.eval s = v) (hx : a.eval x = .slice (some ⟨W.heap.size, 0, none⟩) 1 1) (hp : d.M W base okp p cs) (hokp : ∀ k, okp k → ok k ∧ some k ≠ v.ownBlock)
    (HO : d.R e W base ok v xs) (hbase : base ≤ W.heap.size) (hl : (xs.length + 1) * bytes ≤ 140737488355328)
    (h : ∀ A c w1, d.R e w1 base (fun k => ok k ∨ W.heap.size ≤ k) (.slice A (xs.length + 1) c) (xs ++ [p]) → Ch (fun k => some k = v.ownBlock) W w1 → (∀ k, (Value.slice A (xs.length + 1) c).ownBlock = some k → some k = v.ownBlock ∨ W.heap.size ≤ k) → wpList P ops Q rest (a.put o.dst (.slice A (xs.length + 1) c)) w1) :
    wpList P ops Q (o :: rest) a (W.alloc (.cells cs.toArray e)) := by
  refine Kd.R_append d (w0 := W) (W := W) base hgd s x t e z bytes ho ht hinfo hz.1 hz.2.1 hz.2.2 v xs p cs (fun k => ok k ∨ W.heap.size ≤ k) okp hs hx hp (fun k hk => ⟨.inl (hokp k hk).1, (hokp k hk).2⟩) (fun _ hk => .inr hk) (Kd.R_mono HO (fun _ hk => .inl hk)) (Below.refl base W) hbase hl ?_
  intro v1 w1 hr hb hg hat
  obtain ⟨A, c, rfl⟩ := Kd.R_slice hr
  rw [List.length_append, List.length_singleton] at hr hat ⊢
  refine h A c w1 hr ⟨hg.os, hg.tape, hg.output, hg.size, fun k hk hn => hg.block k hk (fun e => hn e)⟩ (fun k hk => ?_)
  rcases hat with hat | ⟨b, hb1, hb2⟩
  · exact .inl (hat ▸ hk).symm
  · rw [hb1] at hk; injection hk with hk; exact .inr (by omega)
theorem napp_list (d : Kd α) {W : World} (base : Nat) (hgd : o.guard = none) (s x : Operand) (t e : TypeId) (z : Value) (bytes : Nat)
    (ho : o.op = .call { callee := .builtin .append, args := #[s, x], argTypes := #[t, t] })
    (ht : P.underlying t = some (.slice e)) (hinfo : (P.info? e).map (fun i => (i.zero, i.size, i.bytes)) = some (some z, d.sz, bytes)) (hz : z.cells.size = d.sz ∧ 0 < d.sz ∧ 0 < bytes)
    (v : Value) (xs : List α) (p : α) (cs : List Value) (ok okp : Nat → Prop) (hs : a.eval s = v) (hx : a.eval x = .slice (some ⟨W.heap.size, 0, none⟩) 1 1) (hp : Kd.FK d W okp p cs) (hokp : ∀ k, okp k → ok k ∧ some k ≠ v.ownBlock)
    (HO : Kd.N d e W base ok v xs) (hbase : base ≤ W.heap.size) (hl : (xs.length + 1) * bytes ≤ 140737488355328)
    (h : ∀ A c w1, Kd.N d e w1 base (fun k => ok k ∨ W.heap.size ≤ k) (.slice A (xs.length + 1) c) (xs ++ [p]) → Ch (fun k => some k = v.ownBlock) W w1 → (∀ k, (Value.slice A (xs.length + 1) c).ownBlock = some k → some k = v.ownBlock ∨ W.heap.size ≤ k) → wpList P ops Q rest (a.put o.dst (.slice A (xs.length + 1) c)) w1) :
    wpList P ops Q (o :: rest) a (W.alloc (.cells cs.toArray e)) := by
  refine Kd.N_append d (w0 := W) (W := W) base hgd s x t e z bytes ho ht hinfo hz.1 hz.2.1 hz.2.2 v xs p cs (fun k => ok k ∨ W.heap.size ≤ k) okp hs hx hp (fun k hk => ⟨.inl (hokp k hk).1, (hokp k hk).2⟩) (fun _ hk => .inr hk) (Kd.N_mono HO (fun _ hk => .inl hk)) (Below.refl base W) hbase hl ?_
  intro v1 w1 hr hb hg hat
  obtain ⟨A, c, rfl⟩ := Kd.N_slice hr
  have hl2 : (xs ++ [p]).length = (xs.length + 1) := by simp
  rw [hl2] at hr hat ⊢
  refine h A c w1 hr ⟨hg.os, hg.tape, hg.output, hg.size, fun k hk hn => hg.block k hk (fun e => hn e)⟩ (fun k hk => ?_)
  rcases hat with hat | ⟨b, hb1, hb2⟩
  · exact .inl (hat ▸ hk).symm
  · rw [hb1] at hk; injection hk with hk; exact .inr (by omega)
theorem napp_step (d : Kd α) {W : World} (base : Nat) (hw : Region.wanted o (yielded ops a.tmps) = true) (s x : Operand) (t e : TypeId) (z : Value) (bytes : Nat)
    (ho : o.op = .call { callee := .builtin .append, args := #[s, x], argTypes := #[t, t] })
    (ht : P.underlying t = some (.slice e)) (hinfo : (P.info? e).map (fun i => (i.zero, i.size, i.bytes)) = some (some z, d.sz, bytes)) (hz : z.cells.size = d.sz ∧ 0 < d.sz ∧ 0 < bytes)
    (v : Value) (xs : List α) (p : α) (cs : List Value) (ok okp : Nat → Prop) (hs : a.eval s = v) (hx : a.eval x = .slice (some ⟨W.heap.size, 0, none⟩) 1 1) (hp : Kd.FK d W okp p cs) (hokp : ∀ k, okp k → ok k ∧ some k ≠ v.ownBlock)
    (HO : Kd.N d e W base ok v xs) (hbase : base ≤ W.heap.size) (hl : (xs.length + 1) * bytes ≤ 140737488355328)
    (h : ∀ A c w1, Kd.N d e w1 base (fun k => ok k ∨ W.heap.size ≤ k) (.slice A (xs.length + 1) c) (xs ++ [p]) → Ch (fun k => some k = v.ownBlock) W w1 → (∀ k, (Value.slice A (xs.length + 1) c).ownBlock = some k → some k = v.ownBlock ∨ W.heap.size ≤ k) → Kc (a.put o.dst (.slice A (xs.length + 1) c)) w1) :
    if Region.wanted o (yielded ops a.tmps) = true then Oper.wp P o a (W.alloc (.cells cs.toArray e)) Kc Q else Kc (a.put o.dst undef) (W.alloc (.cells cs.toArray e)) := by
  refine Kd.N_append_step d (w0 := W) (W := W) base hw s x t e z bytes ho ht hinfo hz.1 hz.2.1 hz.2.2 v xs p cs (fun k => ok k ∨ W.heap.size ≤ k) okp hs hx hp (fun k hk => ⟨.inl (hokp k hk).1, (hokp k hk).2⟩) (fun _ hk => .inr hk) (Kd.N_mono HO (fun _ hk => .inl hk)) (Below.refl base W) hbase hl ?_
  intro v1 w1 hr hb hg hat
  obtain ⟨A, c, rfl⟩ := Kd.N_slice hr
  have hl2 : (xs ++ [p]).length = (xs.length + 1) := by simp
  rw [hl2] at hr hat ⊢
  refine h A c w1 hr ⟨hg.os, hg.tape, hg.output, hg.size, fun k hk hn => hg.block k hk (fun e => hn e)⟩ (fun k hk => ?_)
  rcases hat with hat | ⟨b, hb1, hb2⟩
  · exact .inl (hat ▸ hk).symm
  · rw [hb1] at hk; injection hk with hk; exact .inr (by omega)
theorem nrow_list (d : Kd α) {W : World} (base : Nat) (hgd : o.guard = none) (s x : Operand) (t e : TypeId) (z : Value) (bytes : Nat)
    (ho : o.op = .call { callee := .builtin .append, args := #[s, x], argTypes := #[t, t] })
    (ht : P.underlying t = some (.slice e)) (hinfo : (P.info? e).map (fun i => (i.zero, i.size, i.bytes)) = some (some z, d.sz, bytes)) (hz : z.cells.size = d.sz ∧ 0 < d.sz ∧ 0 < bytes)
    (v : Value) (xs ys : List α) (A' : Option Addr) (m c' : Nat) (ok okp : Nat → Prop) (hs : a.eval s = v) (hx : a.eval x = .slice A' m c') (HR : Kd.F d W okp A' m ys) (hokp : ∀ k, okp k → ok k ∧ some k ≠ v.ownBlock)
    (HO : Kd.N d e W base ok v xs) (hbase : base ≤ W.heap.size) (hl : (xs.length + m) * bytes ≤ 140737488355328)
    (h : ∀ A c w1, Kd.N d e w1 base (fun k => ok k ∨ W.heap.size ≤ k) (.slice A (xs.length + m) c) (xs ++ ys) → Ch (fun k => some k = v.ownBlock) W w1 → (∀ k, (Value.slice A (xs.length + m) c).ownBlock = some k → some k = v.ownBlock ∨ W.heap.size ≤ k) → wpList P ops Q rest (a.put o.dst (.slice A (xs.length + m) c)) w1) :
    wpList P ops Q (o :: rest) a W := by
  refine Kd.N_append_rows d (w0 := W) (W := W) base hgd s x t e z bytes ho ht hinfo hz.1 hz.2.1 hz.2.2 v xs ys A' m c' (fun k => ok k ∨ W.heap.size ≤ k) okp hs hx (Kd.N_mono HO (fun _ hk => .inl hk)) HR (fun k hk => ⟨.inl (hokp k hk).1, (hokp k hk).2⟩) (fun _ hk => .inr hk) (Below.refl base W) hbase hl ?_
  intro v1 w1 hr hb hg hat
  obtain ⟨A, c, rfl⟩ := Kd.N_slice hr
  have hl2 : (xs ++ ys).length = (xs.length + m) := by simp; exact Kd.F_len HR
  rw [hl2] at hr hat ⊢
  refine h A c w1 hr ⟨hg.os, hg.tape, hg.output, hg.size, fun k hk hn => hg.block k hk (fun e => hn e)⟩ (fun k hk => ?_)
  rcases hat with hat | ⟨b, hb1, hb2⟩
  · exact .inl (hat ▸ hk).symm
  · rw [hb1] at hk; injection hk with hk; exact .inr (by omega)
theorem nrow_step (d : Kd α) {W : World} (base : Nat) (hw : Region.wanted o (yielded ops a.tmps) = true) (s x : Operand) (t e : TypeId) (z : Value) (bytes : Nat)
    (ho : o.op = .call { callee := .builtin .append, args := #[s, x], argTypes := #[t, t] })
    (ht : P.underlying t = some (.slice e)) (hinfo : (P.info? e).map (fun i => (i.zero, i.size, i.bytes)) = some (some z, d.sz, bytes)) (hz : z.cells.size = d.sz ∧ 0 < d.sz ∧ 0 < bytes)
    (v : Value) (xs ys : List α) (A' : Option Addr) (m c' : Nat) (ok okp : Nat → Prop) (hs : a.eval s = v) (hx : a.eval x = .slice A' m c') (HR : Kd.F d W okp A' m ys) (hokp : ∀ k, okp k → ok k ∧ some k ≠ v.ownBlock)
    (HO : Kd.N d e W base ok v xs) (hbase : base ≤ W.heap.size) (hl : (xs.length + m) * bytes ≤ 140737488355328)
    (h : ∀ A c w1, Kd.N d e w1 base (fun k => ok k ∨ W.heap.size ≤ k) (.slice A (xs.length + m) c) (xs ++ ys) → Ch (fun k => some k = v.ownBlock) W w1 → (∀ k, (Value.slice A (xs.length + m) c).ownBlock = some k → some k = v.ownBlock ∨ W.heap.size ≤ k) → Kc (a.put o.dst (.slice A (xs.length + m) c)) w1) :
    if Region.wanted o (yielded ops a.tmps) = true then Oper.wp P o a W Kc Q else Kc (a.put o.dst undef) W := by
  refine Kd.N_append_rows_step d (w0 := W) (W := W) base hw s x t e z bytes ho ht hinfo hz.1 hz.2.1 hz.2.2 v xs ys A' m c' (fun k => ok k ∨ W.heap.size ≤ k) okp hs hx (Kd.N_mono HO (fun _ hk => .inl hk)) HR (fun k hk => ⟨.inl (hokp k hk).1, (hokp k hk).2⟩) (fun _ hk => .inr hk) (Below.refl base W) hbase hl ?_
  intro v1 w1 hr hb hg hat
  obtain ⟨A, c, rfl⟩ := Kd.N_slice hr
  have hl2 : (xs ++ ys).length = (xs.length + m) := by simp; exact Kd.F_len HR
  rw [hl2] at hr hat ⊢
  refine h A c w1 hr ⟨hg.os, hg.tape, hg.output, hg.size, fun k hk hn => hg.block k hk (fun e => hn e)⟩ (fun k hk => ?_)
  rcases hat with hat | ⟨b, hb1, hb2⟩
  · exact .inl (hat ▸ hk).symm
  · rw [hb1] at hk; injection hk with hk; exact .inr (by omega)
end
end Go.Proofs.Ythkdihpbdaehbaa.Bs
namespace Go.Proofs.Ythkdihpbdaehbaa.Bs
set_option linter.unusedVariables false
set_option linter.unusedSimpArgs false
open Go.RowKit Go.Proofs.YthkdihpbdaehbaaW.PrintWords
/-- A row that is owned, its elements' cells known with their footprint: it is read, and what it leads to lies in ok or in its own block. -/
theorem F_of_ownsRow {α : Type} {d : Kd α} {e : Nat} {w : World} {base : Nat} {ok : Nat → Prop} {A : Option Addr} {n c : Nat} {xs : List α} {inner : List Value}
    (ho : w.ownsRow base e d.sz (.slice A n c) n inner) (hn : xs.length = n) (hr : Reps (fun x cs => Kd.FK d w ok x cs) d.sz xs inner) : Kd.F d w (fun k => ok k ∨ some k = (Value.slice A n c).ownBlock) A n xs := fun W' hW => by
  have h1 : W'.ownsRow base e d.sz (.slice A n c) n inner := own_move ho (fun k hk => hW k (.inr hk.symm) (own_lt ho k hk))
  have h2 : Reps (d.K W') d.sz xs inner := hr.imp_ (fun x cs hx => hx W' (fun k hk hlt => hW k (.inl hk) hlt))
  obtain ⟨A2, c2, e2, h3⟩ := own_reads_row h1 h2 hn
  injection e2 with e2
  subst e2
  exact h3
/-- append(v, ys...) where v has no room left: a new row, or v itself. -/
theorem run_cat {P : Program} {α : Type} (d : Kd α) (t ty e : TypeId) (z : Value) (bytes : Nat)
    (ht : P.underlying t = some (.slice e)) (hinfo : (P.info? e).map (fun i => (i.zero, i.size, i.bytes)) = some (some z, d.sz, bytes)) (hz : z.cells.size = d.sz ∧ 0 < d.sz ∧ 0 < bytes)
    {W : World} {okx oky : Nat → Prop} {A A' : Option Addr} {n m c : Nat} {xs ys : List α} (HX : Kd.F d W okx A n xs) (HY : Kd.F d W oky A' m ys) (hmc : m ≤ c) (hl : (n + m) * bytes ≤ 140737488355328) :
    ∃ A1 c1 W1, (Builtin.append_ #[t, t] ty #[.slice A n n, .slice A' m c]).run P W = .ok (.slice A1 (n + m) c1) W1 ∧ n + m ≤ c1 ∧ Kd.F d W1 (fun k => okx k ∨ oky k ∨ W.heap.size ≤ k) A1 (n + m) (xs ++ ys) ∧ Below W.heap.size W W1 := by
  obtain ⟨i0, hi, hzz⟩ := Option.map_eq_some_iff.1 hinfo
  simp only [Prod.mk.injEq] at hzz
  obtain ⟨hz0, hz1, hz2⟩ := hzz
  have hnx := Kd.F_len HX
  have hmy := Kd.F_len HY
  rcases Nat.eq_zero_or_pos m with h0 | hp
  · subst h0
    obtain rfl : ys = [] := List.eq_nil_of_length_eq_zero hmy
    refine ⟨A, n, W, ?_, Nat.le_refl _, by rw [List.append_nil]; exact Kd.F_mono HX (fun k hk => .inl hk), Below.refl _ _⟩
    cases A <;> cases A' <;> simp [Builtin.append_, run_underlying ht, sizeOf, typeInfo, hi, Builtin.lenOf, Builtin.firstCells, storeCells, loadCells, loadCellsFrom]
  · have hRY := Kd.F_rows HY
    obtain ⟨ad, rfl, _⟩ := hRY.2.2 hp
    obtain ⟨news, hnr, hnc⟩ := ReadsRow.inner_ hRY
    have hone : ∀ u ∈ news, u.oneCell' = true := by
      intro u hu
      obtain ⟨q, hq, rfl⟩ := List.mem_iff_getElem.1 hu
      have hql : q / d.sz < ys.length := by
        rw [Nat.div_lt_iff_lt_mul hz.2.1, ← hnr.1]; exact hq
      have hc := hnr.2 (q / d.sz) _ (List.getElem?_eq_getElem hql)
      refine d.K_one (Kd.FK_now hc) _ ?_
      rw [List.mem_iff_getElem?]
      refine ⟨q % d.sz, ?_⟩
      rw [List.getElem?_take, if_pos (Nat.mod_lt _ hz.2.1), List.getElem?_drop, Nat.mul_comm, Nat.div_add_mod, List.getElem?_eq_getElem hq]
    have hlen : n + m ≤ 140737488355328 := Nat.le_trans (Nat.le_mul_of_pos_right _ hz.2.2) hl
    have hml : n + m ≤ maxLen := by simp only [maxLen]; omega
    have fin : ∀ olds v1 W1, Reps (fun x cs => Kd.FK d W okx x cs) d.sz xs olds → W1.ownsRow W.heap.size e d.sz v1 (n + m) (olds ++ news) → Below W.heap.size W W1 → (Builtin.append_ #[t, t] ty #[.slice A n n, .slice (some ad) m c]).run P W = .ok v1 W1 →
        ∃ A1 c1 W1, (Builtin.append_ #[t, t] ty #[.slice A n n, .slice (some ad) m c]).run P W = .ok (.slice A1 (n + m) c1) W1 ∧ n + m ≤ c1 ∧ Kd.F d W1 (fun k => okx k ∨ oky k ∨ W.heap.size ≤ k) A1 (n + m) (xs ++ ys) ∧ Below W.heap.size W W1 := by
      intro olds v1 W1 hor ho hb hrun
      obtain ⟨A1, c1, rfl⟩ := own_slice ho
      refine ⟨A1, c1, W1, hrun, own_le ho, ?_, hb⟩
      have hre : Reps (fun x cs => Kd.FK d W1 (fun k => okx k ∨ oky k) x cs) d.sz (xs ++ ys) (olds ++ news) := Kd.reps_append (hor.imp_ (fun x cs h => Kd.FK_below (Kd.FK_mono h (fun k hk => .inl hk)) hb)) (hnr.imp_ (fun x cs h => Kd.FK_below (Kd.FK_mono h (fun k hk => .inr hk)) hb))
      refine Kd.F_mono (F_of_ownsRow ho (by rw [List.length_append, hnx, hmy]) hre) (fun k hk => ?_)
      rcases hk with (hk | hk) | hk
      · exact .inl hk
      · exact .inr (.inl hk)
      · exact .inr (.inr (own_base ho k hk.symm))
    rcases A with _ | b
    · have h0 : n = 0 := by
        rcases Nat.eq_zero_or_pos n with h0 | h0
        · exact h0
        · obtain ⟨_, h, _⟩ := (Kd.F_now HX).2.2 h0; cases h
      subst h0
      obtain rfl : xs = [] := List.eq_nil_of_length_eq_zero hnx
      obtain ⟨v1, W1, hrun, ho, hg, _⟩ := run_append_own (P := P) (w := W) W.heap.size t ty e i0 z d.sz bytes ht hi hz0 hz1 hz2 hz.1 hz.2.1 (.slice none 0 0) 0 [] (own_nil _ _ _ _) ad m c news (by rw [hnr.1, hmy]) hnc hone hml hl (Nat.le_refl _)
      exact fin [] v1 W1 (Reps.none _ _) ho ⟨hg.os, hg.tape, hg.output, hg.size, fun k hk => hg.block k hk (by simp [Value.ownBlock])⟩ hrun
    · have holds : ∃ olds, Reps (fun x cs => Kd.FK d W okx x cs) d.sz xs olds ∧ ∀ j u, olds[j]? = some u → W.cell? (b.add j) = some u := ReadsRow.inner_ (Kd.F_rows HX)
      obtain ⟨olds, hor, hoc⟩ := holds
      obtain ⟨v1, W1, hrun, ho, hg⟩ := run_append_arg_grows (P := P) (w := W) t ty e i0 z d.sz bytes ht hi hz0 hz1 hz2 hz.1 hz.2.1 b n n olds (by rw [hor.1, hnx]) hoc ad m c news (by rw [hnr.1, hmy]) hnc (by omega) hml hl
      exact fin olds v1 W1 hor ho ⟨hg.os, hg.tape, hg.output, hg.size, fun k hk => hg.block k hk (by simp)⟩ hrun
section
variable {P : Program} {ops : Array Oper} {rest : List Oper} {o : Oper} {a : Act} {Q : Exit → Act → World → Prop} {Kc : Act → World → Prop} {α : Type}
theorem cat_step (d : Kd α) {W : World} (hw : Region.wanted o (yielded ops a.tmps) = true) (s x : Operand) (t e : TypeId) (z : Value) (bytes : Nat)
    (ho : o.op = .call { callee := .builtin .append, args := #[s, x], argTypes := #[t, t] })
    (ht : P.underlying t = some (.slice e)) (hinfo : (P.info? e).map (fun i => (i.zero, i.size, i.bytes)) = some (some z, d.sz, bytes)) (hz : z.cells.size = d.sz ∧ 0 < d.sz ∧ 0 < bytes)
    (xs ys : List α) (A A' : Option Addr) (n m c : Nat) (okx oky : Nat → Prop) (hs : a.eval s = .slice A n n) (hx : a.eval x = .slice A' m c) (HX : Kd.F d W okx A n xs) (HY : Kd.F d W oky A' m ys) (hmc : m ≤ c) (hl : (n + m) * bytes ≤ 140737488355328)
    (h : ∀ A1 c1 W1, n + m ≤ c1 → Kd.F d W1 (fun k => okx k ∨ oky k ∨ W.heap.size ≤ k) A1 (n + m) (xs ++ ys) → Below W.heap.size W W1 → Kc (a.put o.dst (.slice A1 (n + m) c1)) W1) :
    if Region.wanted o (yielded ops a.tmps) = true then Oper.wp P o a W Kc Q else Kc (a.put o.dst undef) W := by
  obtain ⟨A1, c1, W1, hrun, h1, h2, h3⟩ := run_cat (P := P) d t o.type e z bytes ht hinfo hz HX HY hmc hl
  rw [if_pos hw]
  unfold Oper.wp execOp
  simp only [ho, resolve, invoke, builtin, Sem.run_bind, Sem.run_pure, Result.andThen_ok, List.map_toArray, List.map_cons, List.map_nil, hs, hx, hrun]
  exact h A1 c1 W1 h1 h2 h3
theorem cat_list (d : Kd α) {W : World} (hgd : o.guard = none) (s x : Operand) (t e : TypeId) (z : Value) (bytes : Nat)
    (ho : o.op = .call { callee := .builtin .append, args := #[s, x], argTypes := #[t, t] })
    (ht : P.underlying t = some (.slice e)) (hinfo : (P.info? e).map (fun i => (i.zero, i.size, i.bytes)) = some (some z, d.sz, bytes)) (hz : z.cells.size = d.sz ∧ 0 < d.sz ∧ 0 < bytes)
    (xs ys : List α) (A A' : Option Addr) (n m c : Nat) (okx oky : Nat → Prop) (hs : a.eval s = .slice A n n) (hx : a.eval x = .slice A' m c) (HX : Kd.F d W okx A n xs) (HY : Kd.F d W oky A' m ys) (hmc : m ≤ c) (hl : (n + m) * bytes ≤ 140737488355328)
    (h : ∀ A1 c1 W1, n + m ≤ c1 → Kd.F d W1 (fun k => okx k ∨ oky k ∨ W.heap.size ≤ k) A1 (n + m) (xs ++ ys) → Below W.heap.size W W1 → wpList P ops Q rest (a.put o.dst (.slice A1 (n + m) c1)) W1) :
    wpList P ops Q (o :: rest) a W := by
  refine wpList_plain hgd fun K hK => ?_
  have hw : Region.wanted o (yielded ops a.tmps) = true := by simp [Region.wanted, hgd]
  have := cat_step (ops := ops) (Q := Q) (Kc := K) d hw s x t e z bytes ho ht hinfo hz xs ys A A' n m c okx oky hs hx HX HY hmc hl (fun A1 c1 W1 h1 h2 h3 => hK _ _ (h A1 c1 W1 h1 h2 h3))
  rwa [if_pos hw] at this
end
/-- append(b, s...), s a string: only the row's own block changes; the row left is the same block or a new one. -/
theorem run_str_at {P : Program} {W : World} (base : Nat) (t u ty e : TypeId) (ht : P.underlying t = some (.slice e)) (hu : P.underlying u = some .string) (hinfo : (P.info? e).map (fun i => (i.zero, i.size, i.bytes)) = some (some (.int .u8 0), 1, 1))
    (v : Value) (xs : List Int) (y : ByteArray) (ok : Nat → Prop) (HO : (Kd.int .u8).R e W base ok v xs) (hbase : base ≤ W.heap.size) (hl : xs.length + y.size ≤ 140737488355328) :
    ∃ A c W1, (Builtin.append_ #[t, u] ty #[v, .string y]).run P W = .ok (.slice A (xs.length + y.size) c) W1 ∧ (Kd.int .u8).R e W1 base (fun _ => True) (.slice A (xs.length + y.size) c) (xs ++ bytesOf y) ∧ Ch (fun k => some k = v.ownBlock) W W1 ∧
      (∀ k, (Value.slice A (xs.length + y.size) c).ownBlock = some k → some k = v.ownBlock ∨ W.heap.size ≤ k) := by
  obtain ⟨i, hi, hzz⟩ := Option.map_eq_some_iff.1 hinfo
  simp only [Prod.mk.injEq] at hzz
  obtain ⟨hz0, hz1, hz2⟩ := hzz
  have hown := Kd.own_of_R HO
  have hxl : (encs (Value.int .u8) xs).length = xs.length := by simp [encs]
  obtain ⟨v1, W1, hrun, ho, hg, _⟩ := Lib.run_append_own_string (P := P) (w := W) base t u ty e i ht hu hi hz0 hz1 hz2 v xs.length (encs (Value.int .u8) xs) hown y (by simp only [maxLen]; omega) hl hbase
  obtain ⟨A, c, rfl⟩ := own_slice ho
  refine ⟨A, c, W1, hrun, ?_, ⟨hg.os, hg.tape, hg.output, hg.size, fun k hk hn => hg.block k hk (fun e => hn e)⟩, ?_⟩
  · have hl2 : (xs ++ bytesOf y).length = xs.length + y.size := by rw [List.length_append, bytesOf_length]
    have hc : encs (Value.int .u8) (xs ++ bytesOf y) = encs (Value.int .u8) xs ++ Lib.strCells y := by
      rw [encs_append]; congr 1; simp [encs, bytesOf, Lib.strCells]
    refine Kd.R_of_own ?_ (fun _ _ => trivial)
    rw [hl2, hc]; exact ho
  · intro k hk
    rcases hown.2 with ⟨rfl, hx⟩ | ⟨g, cap, cur, rfl, hbg, hgg, hnc, hcm, hcs, htake⟩
    · by_cases hm : y.size = 0
      · have hf := Lib.run_firstCells_string (P := P) (w := W) 1 y
        rw [hm] at hf
        have h2 : (Builtin.append_ #[t, u] ty #[.slice none 0 0, .string y]).run P W = .ok (.slice none 0 0) W := by
          simp [Builtin.append_, run_underlying ht, run_underlying hu, sizeOf, typeInfo, hi, hz1, Builtin.lenOf, hm, hf]
        rw [h2] at hrun
        injection hrun with h3 _
        rw [← h3] at hk
        simp [Value.ownBlock] at hk
      · have h2 := run_append_nil_string (P := P) W t u ty e i (.int .u8 0) ht hu hi hz0 y (by omega) (by omega) (by rw [hz2]; omega)
        rw [h2] at hrun
        injection hrun with h3 _
        rw [← h3] at hk
        simp [Value.ownBlock] at hk
        exact .inr (by omega)
    · by_cases hroom : xs.length + y.size ≤ cap
      · have hcs' : cur.size = cap := by simpa using hcs
        have h2 := Lib.run_append_room_string (P := P) (w := W) t u ty e i ht hu hi hz1 g xs.length cap cur hgg y hroom (by omega)
        rw [h2] at hrun
        injection hrun with h3 _
        rw [← h3] at hk
        exact .inl hk.symm
      · have holds : ∀ j u, (encs (Value.int .u8) xs)[j]? = some u → W.cell? ((⟨g, 0, none⟩ : Addr).add j) = some u := hown.cells (g := g) rfl
        have h2 := Lib.run_append_grow_string (P := P) (w := W) t u ty e i (.int .u8 0) ht hu hi hz0 ⟨g, 0, none⟩ xs.length cap (encs (Value.int .u8) xs) (by rw [hz1, hxl, Nat.mul_one]) holds y (by omega) (by omega) (by rw [hz2]; exact growslice_fits (by omega) (by omega))
        rw [h2] at hrun
        injection hrun with h3 _
        rw [← h3] at hk
        simp [Value.ownBlock] at hk
        exact .inr (by omega)
section
variable {P : Program} {ops : Array Oper} {rest : List Oper} {o : Oper} {a : Act} {Q : Exit → Act → World → Prop} {Kc : Act → World → Prop}
theorem str_step {W : World} (base : Nat) (hw : Region.wanted o (yielded ops a.tmps) = true) (s x : Operand) (t u e : TypeId)
    (ho : o.op = .call { callee := .builtin .append, args := #[s, x], argTypes := #[t, u] })
    (ht : P.underlying t = some (.slice e)) (hu : P.underlying u = some .string) (hinfo : (P.info? e).map (fun i => (i.zero, i.size, i.bytes)) = some (some (.int .u8 0), 1, 1))
    (v : Value) (xs : List Int) (y : ByteArray) (ok : Nat → Prop) (hs : a.eval s = v) (hx : a.eval x = .string y) (HO : (Kd.int .u8).R e W base ok v xs) (hbase : base ≤ W.heap.size) (hl : xs.length + y.size ≤ 140737488355328)
    (h : ∀ A c W1, (Kd.int .u8).R e W1 base (fun _ => True) (.slice A (xs.length + y.size) c) (xs ++ bytesOf y) → Ch (fun k => some k = v.ownBlock) W W1 → (∀ k, (Value.slice A (xs.length + y.size) c).ownBlock = some k → some k = v.ownBlock ∨ W.heap.size ≤ k) → Kc (a.put o.dst (.slice A (xs.length + y.size) c)) W1) :
    if Region.wanted o (yielded ops a.tmps) = true then Oper.wp P o a W Kc Q else Kc (a.put o.dst undef) W := by
  obtain ⟨A, c, W1, hrun, h1, h2, h3⟩ := run_str_at (P := P) base t u o.type e ht hu hinfo v xs y ok HO hbase hl
  rw [if_pos hw]
  unfold Oper.wp execOp
  simp only [ho, resolve, invoke, builtin, Sem.run_bind, Sem.run_pure, Result.andThen_ok, List.map_toArray, List.map_cons, List.map_nil, hs, hx, hrun]
  exact h A c W1 h1 h2 h3
end
/-- A store of what is there already changes nothing. -/
theorem Ch.same {S : Nat → Prop} {w w1 : World} (h : Ch S w w1) {a : Addr} {v : Value} (hc : w1.cell? a = some v) : Ch S w (w1.setCell a v) := by
  refine h.trans ⟨rfl, rfl, rfl, by simp [World.setCell], fun k _ _ => ?_⟩
  by_cases hk : k = a.block
  · subst hk
    simp only [World.setCell, Array.getElem?_modify, if_pos rfl]
    unfold World.cell? at hc
    split at hc
    · rename_i cs t fr heq
      rw [heq]
      split at hc
      · cases hc
      · rename_i hs
        have he : cs.setIfInBounds a.off v = cs := by
          apply Array.ext_getElem?
          intro i
          rw [Array.getElem?_setIfInBounds]
          split
          · rename_i hi; subst hi
            split
            · exact hc.symm
            · rename_i h2; rw [Array.getElem?_eq_none (by omega)] at hc; cases hc
          · rfl
        simp [hs, he]
    · cases hc
  · exact Below.heap_setCell _ _ _ _ hk
end Go.Proofs.Ythkdihpbdaehbaa.Bs
namespace Go.Proofs.Ythkdihpbdaehbaa.Pr
set_option linter.unusedVariables false
set_option linter.unusedSimpArgs false
open Go.RowKit Go.Proofs.YthkdihpbdaehbaaW.PrintWords Go.Proofs.Ythkdihpbdaehbaa.Bs

/-- A number's bytes, the greatest first. -/
def be : Nat → Int → List Int
  | 0, _ => []
  | s + 1, n => n / 256 ^ s % 256 :: be s n
def val (l : List Int) : Int := l.foldl (fun a c => a * 256 + c) 0
theorem be_length (s : Nat) (n : Int) : (be s n).length = s := by
  induction s with
  | zero => rfl
  | succ s ih => simp [be, ih]
theorem be_bytes (s : Nat) (n : Int) : ∀ c ∈ be s n, 0 ≤ c ∧ c ≤ 255 := by
  induction s with
  | zero => simp [be]
  | succ s ih =>
    intro c hc
    simp only [be, List.mem_cons] at hc
    rcases hc with rfl | hc
    · omega
    · exact ih c hc
theorem info5 : (Try.prog.info? 5).map (fun i => (i.zero, i.size, i.bytes)) = some (some (.int .u8 0), 1, 1) := by kernel_rfl
theorem z5ok : (Value.int .u8 0).cells.size = (Kd.int .u8).sz ∧ 0 < (Kd.int .u8).sz ∧ 0 < 1 := ⟨rfl, by decide, by decide⟩
/-- A walk that lays bytes: its own row holds xs. -/
structure Put (B : Nat) (w : World) (p : Nat) (bv : Value) (xs : List Int) : Prop where
  hB : B ≤ p
  cells : w.heap[p]? = some (.cells #[bv, .bool false] 56 (0, 0))
  row : (Kd.int .u8).R 5 w B (fun _ => True) bv xs
theorem pow_bytes (n : Int) (j : Nat) (hj : 1 ≤ j) : n / 2 ^ (8 * ((j : Int) - 1)).toNat = n / 256 ^ (j - 1) := by
  rw [show (8 * ((j : Int) - 1)).toNat = 8 * (j - 1) by omega, Int.pow_mul]; rfl
theorem int_eq {k : IntKind} {a b : Int} (h : a = b) : Value.int k a = Value.int k b := by rw [h]
/-- What a call that lays leaves. -/
structure Laid (B : Nat) (w : World) (p : Nat) (bv : Value) (xs : List Int) (w' : World) : Prop where
  r : ∃ bv', Put B w' p bv' xs ∧ ∀ k, some k = bv'.ownBlock → some k = bv.ownBlock ∨ w.heap.size ≤ k
  ch : Ch (fun k => k = p ∨ some k = bv.ownBlock) w w'
structure LayRel (B : Nat) (w : World) (p : Nat) (bv : Value) (xs : List Int) (n : Int) (size j : Nat) (wr : World) : Prop where
  hj : j ≤ size
  r : ∃ bv' ys l, Put B wr p bv' ys ∧ Aside0 (ys = xs ++ l) ∧ l ++ be j n = be size n ∧ (∀ k, some k = bv'.ownBlock → some k = bv.ownBlock ∨ w.heap.size ≤ k)
  ch : Ch (fun k => k = p ∨ some k = bv.ownBlock) w wr
theorem LayRel.next {B : Nat} {w wr w1 : World} {p : Nat} {bv bv' : Value} {xs ys l : List Int} {n : Int} {size j : Nat} {A : Option Addr} {m c : Nat} (hj1 : 1 ≤ j) (hj : j ≤ size) (hch : Ch (fun k => k = p ∨ some k = bv.ownBlock) w wr)
    (hp : Put B wr p bv' ys) (hys : ys = xs ++ l) (hle : l ++ be j n = be size n) (hat : ∀ k, some k = bv'.ownBlock → some k = bv.ownBlock ∨ w.heap.size ≤ k)
    (h1 : w1.heap[p]? = some (.cells #[bv', .bool false] 56 (0, 0))) (hr : (Kd.int .u8).R 5 w1 B (fun k => True ∨ wr.drew.heap.size ≤ k) (.slice A m c) (ys ++ [IntKind.u8.wrap (n / 2 ^ (8 * ((j : Int) - 1)).toNat)]))
    (hc1 : Ch (fun k => some k = bv'.ownBlock) wr.drew w1) (hat1 : ∀ k, (Value.slice A m c).ownBlock = some k → some k = bv'.ownBlock ∨ wr.drew.heap.size ≤ k) :
    LayRel B w p bv xs n size (j - 1) (w1.setCell ⟨p, 0, none⟩ (.slice A m c)) := by
  have hz := hch.size
  have hset : Ch (fun k => k = p) w1 (w1.setCell ⟨p, 0, none⟩ (.slice A m c)) := (Ch.refl (fun k => k = p) w1).setCell (p := ⟨p, 0, none⟩) (.inl rfl) _
  refine ⟨by omega, ⟨.slice A m c, _, l ++ [n / 256 ^ (j - 1) % 256], ⟨hp.hB, blk_upd 0 _ h1 rfl, Kd.R_mono (hset.R (Kd.R_types hr h1 (by decide)) (fun k hk => hk.2)) (fun _ _ => trivial)⟩, ⟨?_⟩, ?_, fun k hk => ?_⟩, ?_⟩
  · rw [hys, List.append_assoc, IntKind.wrap_u8, pow_bytes n j hj1]
  · obtain ⟨j, rfl⟩ : ∃ i, j = i + 1 := ⟨j - 1, by omega⟩
    rw [← hle]; simp [be]
  · rcases hat1 k hk.symm with h | h
    · exact hat k h
    · exact .inr (Nat.le_trans hz h)
  · exact (hch.trans ((((Ch.refl (fun k => some k = bv'.ownBlock) wr).drew.trans (hc1.mono (fun k hk _ => .inl hk)))).mono (fun k hk _ => (hat k hk).elim (fun h => .inl (.inr h)) .inr))).trans (hset.mono (fun k hk _ => .inl (.inl hk)))
set_option maxRecDepth 100000 in
set_option maxHeartbeats 400000 in
theorem number_put (B : Nat) (w : World) (p : Nat) (bv : Value) (xs : List Int) (a : Addr) (n : Int) (size : Nat) (h : Put B w p bv xs) (ha : w.cell? a = some (.int .u64 n)) (hap : a.block ≠ p) (hab : some a.block ≠ bv.ownBlock) (hBw : B ≤ w.heap.size) (h0 : 0 ≤ n) (hs : size ≤ 8) (hl : xs.length ≤ 1000000) :
    Calls Try.prog 41 #[.pointer (some ⟨p, 0, none⟩), .pointer (some a), .int .i64 size] w fun e w' => e = .returned (.tuple #[]) ∧ Laid B w p bv (xs ++ be size n) w' := by
  have halt := World.block_lt_of_cell? w a ha
  obtain ⟨k0, k1, k2⟩ := blk2 h.cells
  have H := Aside0.mk h
  have HA := Aside0.mk ha
  have HAB := Aside0.mk hab
  clear h ha hab
  go_enter Try.func41, Try.ntmps41
  go_wp2
  go_loopw [6] (fun i wr => ∃ j : Nat, i = .int .i64 ((j : Int) - 1) ∧ LayRel B w p bv xs n size j wr) (fun i _ => (intOf i + 1).toNat)
  case atStart => exact ⟨size, rfl, Nat.le_refl _, ⟨bv, xs, [], H.out, ⟨by rw [List.append_nil]⟩, rfl, fun k hk => .inl hk⟩, Ch.refl _ _⟩
  case round =>
    clear k0 k1 k2
    obtain ⟨j, rfl, ⟨hj, ⟨bv', ys, l, hP, HYS, hle, hat⟩, hch⟩⟩ := hrel
    obtain ⟨A, c, rfl⟩ := Kd.R_slice hP.row
    obtain ⟨k0, k1, k2⟩ := blk2 hP.cells
    have hcell : wr.cell? a = some (.int .u64 n) := hch.cell HA.out (by rintro (e | e); exact hap e; exact HAB.out e)
    by_cases hj0 : 1 ≤ j
    · have hj1 : 0 ≤ (j : Int) - 1 := by omega
      have hka : ∀ o, (wr.alloc o).cell? ⟨p, 0, none⟩ = some (.slice A ys.length c) := fun o => pw_cell_below (below_alloc (Below.refl _ _) o) k0
      have hsw : IntKind.i64.wrap (8 * ((j : Int) - 1)) = 8 * ((j : Int) - 1) := IntWalk.i64_in _ ⟨by omega, by omega⟩
      have h8 : 0 ≤ 8 * ((j : Int) - 1) := by omega
      have h8' : 8 * ((j : Int) - 1) ≤ 56 := by omega
      have hlen : (ys.length + 1) * 1 ≤ 140737488355328 := by
        have h1 : (l ++ be j n).length = (be size n).length := by rw [hle]
        rw [List.length_append, be_length, be_length] at h1
        rw [HYS.out, List.length_append]; omega
      have HP := Aside0.mk hP
      have HLE := Aside0.mk hle
      have HAT := Aside0.mk hat
      have HCH := Aside0.mk hch
      have HL := Aside0.mk hlen
      have HR := Aside0.mk (Kd.R_drew hP.row)
      have HN := Aside0.mk (Kd.R_ne hP.row hP.cells (by decide))
      clear hP hle hat hch hlen
      go_wp2
      have HBW := Aside0.mk (show B ≤ wr.drew.heap.size from Nat.le_trans hBw HCH.out.size)
      go_region_law (refine app_step (Kd.int .u8) (W := wr.drew) B rfl (.tmp 24) (.tmp 32) 27 5 (.int .u8 0) 1 rfl Try.underlying27 info5 z5ok (.slice A ys.length c) ys (IntKind.u8.wrap (n / 2 ^ (8 * ((j : Int) - 1)).toNat)) [.int .u8 (IntKind.u8.wrap (n / 2 ^ (8 * ((j : Int) - 1)).toNat))] (fun _ => True) (fun _ => False) rfl rfl rfl (fun _ h => h.elim) HR.out HBW.out HL.out ?_; intro A1 c1 w1 HR1 HC1 HAT1; have HC2 := HC1.heap (show wr.drew.heap[p]? = _ from HP.out.cells) HN.out; obtain ⟨m0, m1, m2⟩ := blk2 HC2; have HC3 := Aside0.mk HC2; have HR2 := Aside0.mk HR1; have HC4 := Aside0.mk HC1; have HAT2 := Aside0.mk HAT1; clear HC2 HR1 HC1 HAT1)
      all_goals
        go_wp2
        go_roundw
        case rel => exact ⟨j - 1, int_eq (by omega), LayRel.next hj0 hj HCH.out HP.out HYS.out HLE.out HAT.out HC3.out HR2.out HC4.out HAT2.out⟩
        case measure => simp [intOf]; omega
    · have : j = 0 := by omega
      subst this
      have HL := Aside0.mk (show Laid B w p bv (xs ++ be size n) wr from ⟨⟨_, Eq.mp (congrArg (fun z => Put B wr p (.slice A ys.length c) z) (show ys = xs ++ be size n by rw [HYS.out, show l = be size n by rw [← hle]; simp [be]])) hP, hat⟩, hch⟩)
      clear hP hle hat hch
      go_wp2
      refine bodyPost_ret (results_none rfl _ _ _) rfl ?_
      exact ⟨rfl, HL.out⟩
end Go.Proofs.Ythkdihpbdaehbaa.Pr
namespace Go.Proofs.Ythkdihpbdaehbaa.Pr
set_option linter.unusedVariables false
set_option linter.unusedSimpArgs false
open Go.RowKit Go.Proofs.YthkdihpbdaehbaaW.PrintWords Go.Proofs.Ythkdihpbdaehbaa.Bs

theorem Laid.trans {B : Nat} {w w1 w2 : World} {p : Nat} {bv : Value} {xs ys : List Int} (h : Laid B w p bv xs w1) (k : ∀ bv', Put B w1 p bv' xs → Laid B w1 p bv' ys w2) : Laid B w p bv ys w2 := by
  obtain ⟨⟨bv', ⟨hp, hat⟩⟩, hch⟩ := h
  obtain ⟨⟨bv2, ⟨hp2, hat2⟩⟩, hch2⟩ := k bv' hp
  have hz := hch.size
  refine ⟨⟨bv2, And.intro hp2 (fun i hi => ?_)⟩, hch.trans (hch2.mono (fun i hi _ => ?_))⟩
  · rcases hat2 i hi with h | h
    · exact hat i h
    · exact .inr (Nat.le_trans hz h)
  · rcases hi with hi | hi
    · exact .inl (.inl hi)
    · exact (hat i hi).elim (fun h => .inl (.inr h)) .inr
theorem Laid.then_ {B : Nat} {w w1 w2 : World} {p : Nat} {bv bv' : Value} {ys : List Int} (hat : ∀ i, some i = bv'.ownBlock → some i = bv.ownBlock ∨ w.heap.size ≤ i) (hch : Ch (fun k => k = p ∨ some k = bv.ownBlock) w w1) (k : Laid B w1 p bv' ys w2) : Laid B w p bv ys w2 := by
  obtain ⟨⟨bv2, ⟨hp2, hat2⟩⟩, hch2⟩ := k
  have hz := hch.size
  refine ⟨⟨bv2, And.intro hp2 (fun i hi => ?_)⟩, hch.trans (hch2.mono (fun i hi _ => ?_))⟩
  · rcases hat2 i hi with h | h
    · exact hat i h
    · exact .inr (Nat.le_trans hz h)
  · rcases hi with hi | hi
    · exact .inl (.inl hi)
    · exact (hat i hi).elim (fun h => .inl (.inr h)) .inr
theorem Put.step {B : Nat} {w w1 : World} {p : Nat} {bv : Value} {xs : List Int} {S : Nat → Prop} (h : Put B w p bv xs) (hch : Ch S w w1) (hp : ¬ S p) (ho : ∀ k, some k = bv.ownBlock → ¬ S k) : Put B w1 p bv xs :=
  ⟨h.hB, hch.heap h.cells hp, Kd.R_mono (hch.R (Kd.R_of_own (ok := fun k => some k = bv.ownBlock) (Kd.own_of_R h.row) (fun k hk => hk.symm)) ho) (fun _ _ => trivial)⟩
set_option maxRecDepth 100000 in
set_option maxHeartbeats 400000 in
theorem integer_put (B : Nat) (w : World) (p : Nat) (bv : Value) (xs : List Int) (a : Addr) (n : Int) (size : Nat) (h : Put B w p bv xs) (ha : w.cell? a = some (.int .i64 n)) (hfr : w.frozen? a = false) (hap : a.block ≠ p) (hab : some a.block ≠ bv.ownBlock) (hBw : B ≤ w.heap.size) (h0 : 0 ≤ n) (h1 : n ≤ 9223372036854775807) (hs : size ≤ 8) (hl : xs.length ≤ 1000000) :
    Calls Try.prog 37 #[.pointer (some ⟨p, 0, none⟩), .pointer (some a), .int .i64 size] w fun e w' => e = .returned (.tuple #[]) ∧ Laid B w p bv (xs ++ be size n) w' := by
  have hpl := blk_lt h.cells
  have hown : ∀ k, some k = bv.ownBlock → k < w.heap.size := fun k hk => own_lt (Kd.own_of_R h.row) k hk.symm
  have HA := Aside0.mk ha
  have HAB := Aside0.mk hab
  have HO := Aside0.mk hown
  have hu : IntKind.u64.wrap n = n := by rw [IntKind.wrap_u64]; omega
  have hu2 : wrap64 n = n := IntWalk.wrap64_in n ⟨by omega, by omega⟩
  clear hown hab
  go_enter Try.func37, Try.ntmps37
  go_wp2_with fail
  have hW := below_alloc (Below.refl w.heap.size w) (.cells #[.int .u64 n] 37)
  have hq := heap_alloc_new w (.cells #[.int .u64 n] 37)
  have hz : (w.alloc (.cells #[.int .u64 n] 37)).heap.size = w.heap.size + 1 := by simp
  generalize w.alloc (.cells #[.int .u64 n] 37) = W at *
  refine (number_put B W p bv xs ⟨w.heap.size, 0, none⟩ n size (h.step (S := fun _ => False) (Ch.below (Ch.refl _ _) hW) (fun h => h) (fun _ _ h => h)) (blk_cell hq 0) (by show w.heap.size ≠ p; omega) (fun e => by have h : w.heap.size < w.heap.size := HO.out _ e; omega) (by omega) h0 hs hl).mono ?_
  rintro e w2 ⟨rfl, hL⟩
  have hq2 : w2.cell? ⟨w.heap.size, 0, none⟩ = some (.int .u64 n) := hL.ch.cell (blk_cell hq 0) (by show ¬ (w.heap.size = p ∨ some w.heap.size = bv.ownBlock); rintro (e | e); omega; have := HO.out _ e; omega)
  have halt := World.block_lt_of_cell? w a ha
  have ha2 : w2.cell? a = some (.int .i64 n) := hL.ch.cell (pw_cell_below hW ha) (by rintro (e | e); exact hap e; exact HAB.out e)
  have hf2 : w2.frozen? a = false := by
    have h1 := hL.ch.block a.block (by omega) (by rintro (e | e); exact hap e; exact HAB.out e)
    rw [World.frozen?_of_block (w := W) h1, World.frozen?_of_block (w := w) (hW.block a.block halt)]
    exact hfr
  have HL := Aside0.mk hL
  have HZ := Aside0.mk hz
  have HW := Aside0.mk hW
  clear hL hz hW h
  go_wp2_with fail
  refine bodyPost_end (results_none rfl _ _ _) rfl ?_
  obtain ⟨⟨bv', ⟨hp', hat⟩⟩, hch⟩ := HL.out
  have hz1 := HW.out.size
  have hch2 : Ch (fun k => k = p ∨ some k = bv.ownBlock) w w2 := (Ch.below (Ch.refl _ w) HW.out).trans (hch.mono (fun k hk _ => .inl hk))
  have hs2 := Ch.same (Ch.refl (fun _ => False) w2) ha2
  exact ⟨rfl, ⟨⟨bv', And.intro (hp'.step hs2 (fun h => h) (fun _ _ h => h)) (fun k hk => (hat k hk).elim .inl (fun h => .inr (by omega)))⟩, hch2.same ha2⟩⟩
theorem Laid.before {B : Nat} {w W w2 : World} {p : Nat} {bv : Value} {xs : List Int} (h : Laid B W p bv xs w2) (hW : Below w.heap.size w W) : Laid B w p bv xs w2 := by
  obtain ⟨⟨bv', ⟨hp', hat⟩⟩, hch⟩ := h
  have hz := hW.size
  exact ⟨⟨bv', And.intro hp' (fun k hk => (hat k hk).elim .inl (fun h => .inr (Nat.le_trans hz h)))⟩, (Ch.below (Ch.refl _ w) hW).trans (hch.mono (fun k hk _ => .inl hk))⟩
theorem Put.appended {B : Nat} {w2 w1 : World} {p : Nat} {bv : Value} {ys zs : List Int} {A : Option Addr} {m c : Nat} {ok : Nat → Prop} (hp : Put B w2 p bv ys) (h1 : w1.heap[p]? = some (.cells #[bv, .bool false] 56 (0, 0))) (hr : (Kd.int .u8).R 5 w1 B ok (.slice A m c) zs)
    (hc1 : Ch (fun k => some k = bv.ownBlock) w2.drew w1) (hat1 : ∀ k, (Value.slice A m c).ownBlock = some k → some k = bv.ownBlock ∨ w2.drew.heap.size ≤ k) : Laid B w2 p bv zs (w1.setCell ⟨p, 0, none⟩ (.slice A m c)) := by
  have hset : Ch (fun k => k = p) w1 (w1.setCell ⟨p, 0, none⟩ (.slice A m c)) := (Ch.refl (fun k => k = p) w1).setCell (p := ⟨p, 0, none⟩) (.inl rfl) _
  refine ⟨⟨.slice A m c, And.intro ⟨hp.hB, blk_upd 0 _ h1 rfl, Kd.R_mono (hset.R (Kd.R_types hr h1 (by decide)) (fun k hk => hk.2)) (fun _ _ => trivial)⟩ (fun k hk => hat1 k hk.symm)⟩, ?_⟩
  exact (((Ch.refl (fun k => k = p ∨ some k = bv.ownBlock) w2).drew).trans (hc1.mono (fun k hk _ => .inl (.inr hk)))).trans (hset.mono (fun k hk _ => .inl (.inl hk)))
set_option maxRecDepth 100000 in
set_option maxHeartbeats 400000 in
theorem text_put (B : Nat) (w : World) (p : Nat) (bv : Value) (xs : List Int) (a : Addr) (y : ByteArray) (h : Put B w p bv xs) (ha : w.cell? a = some (.string y)) (hap : a.block ≠ p) (hab : some a.block ≠ bv.ownBlock) (hBw : B ≤ w.heap.size) (hy : y.size ≤ 70000) (hl : xs.length ≤ 900000) :
    Calls Try.prog 38 #[.pointer (some ⟨p, 0, none⟩), .pointer (some a)] w fun e w' => e = .returned (.tuple #[]) ∧ Laid B w p bv (xs ++ be 2 y.size ++ bytesOf y) w' := by
  have hpl := blk_lt h.cells
  have hown : ∀ k, some k = bv.ownBlock → k < w.heap.size := fun k hk => own_lt (Kd.own_of_R h.row) k hk.symm
  have HA := Aside0.mk ha
  have HAB := Aside0.mk hab
  have HO := Aside0.mk hown
  have hu : IntKind.u64.wrap (y.size : Int) = y.size := by rw [IntKind.wrap_u64]; omega
  clear hown hab
  go_enter Try.func38, Try.ntmps38
  go_wp2_with fail
  have hW := below_alloc (Below.refl w.heap.size w) (.cells #[.int .u64 (y.size : Int)] 37)
  have hq := heap_alloc_new w (.cells #[.int .u64 (y.size : Int)] 37)
  have hz : (w.alloc (.cells #[.int .u64 (y.size : Int)] 37)).heap.size = w.heap.size + 1 := by simp
  generalize w.alloc (.cells #[.int .u64 (y.size : Int)] 37) = W at *
  refine (number_put B W p bv xs ⟨w.heap.size, 0, none⟩ (y.size : Int) 2 (h.step (S := fun _ => False) (Ch.below (Ch.refl _ _) hW) (fun h => h) (fun _ _ h => h)) (blk_cell hq 0) (by show w.heap.size ≠ p; omega) (fun e => by have h : w.heap.size < w.heap.size := HO.out _ e; omega) (by omega) (by omega) (by omega) (by omega)).mono ?_
  rintro e w2 ⟨rfl, hL⟩
  have ha2 : w2.cell? a = some (.string y) := hL.ch.cell (pw_cell_below hW ha) (by rintro (e | e); exact hap e; exact HAB.out e)
  have HL := Aside0.mk hL
  have HZ := Aside0.mk hz
  have HW := Aside0.mk hW
  obtain ⟨⟨bv', ⟨hp', hat⟩⟩, hch⟩ := hL
  obtain ⟨A, c, rfl⟩ := Kd.R_slice hp'.row
  obtain ⟨k0, k1, k2⟩ := blk2 hp'.cells
  have hlen : (xs ++ be 2 (y.size : Int)).length + y.size ≤ 140737488355328 := by rw [List.length_append, be_length]; omega
  generalize hys : xs ++ be 2 (y.size : Int) = ys at *
  have HP := Aside0.mk hp'
  have HR := Aside0.mk (Kd.R_drew hp'.row)
  have HN := Aside0.mk (Kd.R_ne hp'.row hp'.cells (by decide))
  have HAT := Aside0.mk hat
  have HCH := Aside0.mk hch
  have HBW := Aside0.mk (show B ≤ w2.drew.heap.size from Nat.le_trans (Nat.le_trans hBw hW.size) hch.size)
  have HLE := Aside0.mk hlen
  have HYS := Aside0.mk hys
  clear hz hW h hp' hat hch hlen hys
  go_wp2_with fail
  go_region_law (refine str_step B (W := w2.drew) rfl (.tmp 27) (.tmp 30) 27 9 5 rfl Try.underlying27 Try.underlying9 info5 (.slice A ys.length c) ys y (fun _ => True) rfl rfl HR.out HBW.out HLE.out ?_; intro A1 c1 w1 HR1 HC1 HAT1; have HC2 := HC1.heap (show w2.drew.heap[p]? = _ from HP.out.cells) HN.out; obtain ⟨m0, m1, m2⟩ := blk2 HC2; have HC3 := Aside0.mk HC2; have HR2 := Aside0.mk HR1; have HC4 := Aside0.mk HC1; have HAT2 := Aside0.mk HAT1; clear HC2 HR1 HC1 HAT1)
  all_goals
    refine bodyPost_end (results_none rfl _ _ _) rfl ?_
    refine ⟨rfl, Laid.before ?_ HW.out⟩
    rw [HYS.out]
    exact Laid.then_ HAT.out HCH.out (HP.out.appended HC3.out HR2.out HC4.out HAT2.out)
end Go.Proofs.Ythkdihpbdaehbaa.Pr
namespace Go.Proofs.Ythkdihpbdaehbaa.Pr
set_option linter.unusedVariables false
set_option linter.unusedSimpArgs false
open Go.RowKit Go.Proofs.YthkdihpbdaehbaaW.PrintWords Go.Proofs.Ythkdihpbdaehbaa.Bs

structure Rq where
  kind : Int
  s : ByteArray
  ok : Int
  id : Int
  pos : Int
  name : ByteArray
  os : ByteArray
def Rq.cells (q : Rq) : Array Value := #[.int .i64 q.kind, .string q.s, .int .i64 q.ok, .int .i64 q.id, .int .i64 q.pos, .string q.name, .string q.os]
def textB (s : ByteArray) : List Int := be 2 s.size ++ bytesOf s
def Rq.bytes (q : Rq) : List Int := be 1 q.kind ++ (if q.kind = 2 then textB q.s else if q.kind = 3 then be 1 q.ok ++ be 4 q.id ++ be 4 q.pos ++ textB q.name ++ textB q.os else if q.kind = 6 then be 4 q.id else [])
/-- Laid so far, and the thing that is laid still there. -/
structure On (B : Nat) (w : World) (p : Nat) (bv : Value) (qb : Nat) (cs : Array Value) (t : Nat) (xs : List Int) (w1 : World) : Prop where
  l : Laid B w p bv xs w1
  q : w1.heap[qb]? = some (.cells cs t (0, 0))
theorem On.next {B : Nat} {w w1 w2 : World} {p qb t : Nat} {bv : Value} {cs : Array Value} {xs ys : List Int} (h : On B w p bv qb cs t xs w1) (hne : qb ≠ p) (ht : t ≠ 5) (k : ∀ bv', Put B w1 p bv' xs → some qb ≠ bv'.ownBlock → Laid B w1 p bv' ys w2) : On B w p bv qb cs t ys w2 := by
  obtain ⟨⟨⟨bv', ⟨hp, hat⟩⟩, hch⟩, hq⟩ := h
  have hn := Kd.R_ne hp.row hq (fun e => ht e.symm)
  have hl := k bv' hp hn
  exact ⟨Laid.then_ hat hch hl, hl.ch.heap hq (by rintro (e | e); exact hne e; exact hn e)⟩
theorem On.put {B : Nat} {w w1 : World} {p qb t : Nat} {bv : Value} {cs : Array Value} {xs : List Int} (h : On B w p bv qb cs t xs w1) : ∃ bv', Put B w1 p bv' xs := let ⟨⟨⟨bv', ⟨hp, _⟩⟩, _⟩, _⟩ := h; ⟨bv', hp⟩
theorem int_on (B : Nat) (w w1 : World) (p qb t i : Nat) (bv : Value) (cs : Array Value) (xs : List Int) (n : Int) (size : Nat) (h : On B w p bv qb cs t xs w1) (hne : qb ≠ p) (ht : t ≠ 5) (hc : cs[i]? = some (.int .i64 n)) (hBw : B ≤ w.heap.size) (h0 : 0 ≤ n) (h1 : n ≤ 9223372036854775807) (hs : size ≤ 8) (hl : xs.length ≤ 1000000) :
    Calls Try.prog 37 #[.pointer (some ⟨p, 0, none⟩), .pointer (some ⟨qb, i, none⟩), .int .i64 size] w1 fun e w' => e = .returned (.tuple #[]) ∧ On B w p bv qb cs t (xs ++ be size n) w' := by
  obtain ⟨bv', hp⟩ := h.put
  have hn := Kd.R_ne hp.row h.q (fun e => ht e.symm)
  refine (integer_put B w1 p bv' xs ⟨qb, i, none⟩ n size hp ((blk_cell h.q i).trans hc) (blk_frozen h.q i) hne hn (Nat.le_trans hBw h.l.ch.size) h0 h1 hs hl).mono ?_
  rintro e w' ⟨rfl, hL⟩
  refine ⟨rfl, ?_⟩
  obtain ⟨⟨⟨bv2, ⟨hp2, hat⟩⟩, hch⟩, hq⟩ := h
  have e1 : bv2 = bv' := by
    have a := hp2.cells
    rw [hp.cells] at a
    simp at a
    exact a.symm
  subst e1
  exact ⟨Laid.then_ hat hch hL, hL.ch.heap hq (by rintro (e | e); exact hne e; exact hn e)⟩
theorem text_on (B : Nat) (w w1 : World) (p qb t i : Nat) (bv : Value) (cs : Array Value) (xs : List Int) (y : ByteArray) (h : On B w p bv qb cs t xs w1) (hne : qb ≠ p) (ht : t ≠ 5) (hc : cs[i]? = some (.string y)) (hBw : B ≤ w.heap.size) (hy : y.size ≤ 70000) (hl : xs.length ≤ 900000) :
    Calls Try.prog 38 #[.pointer (some ⟨p, 0, none⟩), .pointer (some ⟨qb, i, none⟩)] w1 fun e w' => e = .returned (.tuple #[]) ∧ On B w p bv qb cs t (xs ++ textB y) w' := by
  obtain ⟨bv', hp⟩ := h.put
  have hn := Kd.R_ne hp.row h.q (fun e => ht e.symm)
  refine (text_put B w1 p bv' xs ⟨qb, i, none⟩ y hp ((blk_cell h.q i).trans hc) hne hn (Nat.le_trans hBw h.l.ch.size) hy hl).mono ?_
  rintro e w' ⟨rfl, hL⟩
  refine ⟨rfl, ?_⟩
  obtain ⟨⟨⟨bv2, ⟨hp2, hat⟩⟩, hch⟩, hq⟩ := h
  have e1 : bv2 = bv' := by
    have a := hp2.cells
    rw [hp.cells] at a
    simp at a
    exact a.symm
  subst e1
  rw [List.append_assoc] at hL
  exact ⟨Laid.then_ hat hch hL, hL.ch.heap hq (by rintro (e | e); exact hne e; exact hn e)⟩
theorem blk7 {w : World} {g t : Nat} {a b c d e f h' : Value} (h : w.heap[g]? = some (.cells #[a, b, c, d, e, f, h'] t (0, 0))) : w.cell? ⟨g, 0, none⟩ = some a ∧ w.cell? ⟨g, 1, none⟩ = some b ∧ w.cell? ⟨g, 2, none⟩ = some c ∧ w.cell? ⟨g, 3, none⟩ = some d ∧ w.cell? ⟨g, 4, none⟩ = some e ∧ w.cell? ⟨g, 5, none⟩ = some f ∧ w.cell? ⟨g, 6, none⟩ = some h' ∧ ∀ i, w.frozen? ⟨g, i, none⟩ = false :=
  ⟨blk_cell h 0, blk_cell h 1, blk_cell h 2, blk_cell h 3, blk_cell h 4, blk_cell h 5, blk_cell h 6, fun i => blk_frozen h i⟩
/-- What RightReq lets through, as bounds. -/
structure Rq.small (q : Rq) : Prop where
  k : 1 ≤ q.kind ∧ q.kind ≤ 6
  ok : 0 ≤ q.ok ∧ q.ok ≤ 255
  id : 0 ≤ q.id ∧ q.id ≤ 2147483647
  pos : 0 ≤ q.pos ∧ q.pos ≤ 2147483647
  s : q.s.size ≤ 4000
  name : q.name.size ≤ 200
  os : q.os.size ≤ 4000
theorem textB_len (s : ByteArray) : (textB s).length = s.size + 2 := by simp [textB, be_length, bytesOf_length]; omega
set_option maxRecDepth 100000 in
set_option maxHeartbeats 400000 in
theorem request_put (B : Nat) (w : World) (p qb : Nat) (bv : Value) (q : Rq) (h : Put B w p bv []) (hq : w.heap[qb]? = some (.cells q.cells 25 (0, 0))) (hne : qb ≠ p) (hB : B ≤ w.heap.size) (hs : q.small) :
    Calls Try.prog 21 #[.pointer (some ⟨p, 0, none⟩), .pointer (some ⟨qb, 0, none⟩)] w fun e w' => e = .returned (.tuple #[]) ∧ On B w p bv qb q.cells 25 q.bytes w' := by
  obtain ⟨⟨ka, kb⟩, ⟨oa, ob⟩, ⟨ia, ib⟩, ⟨pa, pb⟩, sa, na, osa⟩ := hs
  have ON0 : On B w p bv qb q.cells 25 [] w := ⟨⟨⟨bv, And.intro h (fun k hk => .inl hk)⟩, Ch.refl _ _⟩, hq⟩
  have C1 := Aside0.mk (int_on B w w p qb 25 0 bv q.cells [] q.kind 1 ON0 hne (by decide) rfl hB (by omega) (by omega) (by decide) (by simp))
  clear h hq ON0
  go_enter Try.func21, Try.ntmps21
  go_wp2_with fail
  refine C1.out.mono ?_
  rintro e w1 ⟨rfl, o1⟩
  obtain ⟨c0, c1, c2, c3, c4, c5, c6, c7⟩ := blk7 o1.q
  have O1 := Aside0.mk o1
  clear o1 C1
  by_cases k2 : q.kind = 2
  · have e2 : (q.kind == 2) = true := by simpa using k2
    have E := Aside0.mk (show q.bytes = [] ++ be 1 q.kind ++ textB q.s by simp [Rq.bytes, k2])
    have K2 := Aside0.mk k2
    clear k2
    have C2 := Aside0.mk (text_on B w w1 p qb 25 1 bv q.cells _ q.s O1.out hne (by decide) rfl hB (by omega) (by simp [be_length]))
    go_wp2_with (go_at_call 38; (with_reducible refine C2.out.mono ?_); rintro e w2 ⟨rfl, o2⟩; have O2 := Aside0.mk o2; clear o2)
    refine bodyPost_end (results_none rfl _ _ _) rfl ?_
    exact ⟨rfl, by rw [E.out]; exact O2.out⟩
  · by_cases k3 : q.kind = 3
    · have E := Aside0.mk (show q.bytes = [] ++ be 1 q.kind ++ be 1 q.ok ++ be 4 q.id ++ be 4 q.pos ++ textB q.name ++ textB q.os by simp [Rq.bytes, k2, k3])
      have K2 := Aside0.mk k2
      have K3 := Aside0.mk k3
      clear k2
      have C2 := int_on B w w1 p qb 25 2 bv q.cells _ q.ok 1 O1.out hne (by decide) rfl hB (by omega) (by omega) (by decide) (by simp [be_length, textB_len]; try omega)
      go_wp2_with fail
      refine C2.mono ?_
      rintro e w2 ⟨rfl, o2⟩
      obtain ⟨c0, c1, c2, c3, c4, c5, c6, c7⟩ := blk7 o2.q
      have O2 := Aside0.mk o2
      clear o2 C2
      have C3 := int_on B w w2 p qb 25 3 bv q.cells _ q.id 4 O2.out hne (by decide) rfl hB (by omega) (by omega) (by decide) (by simp [be_length, textB_len]; try omega)
      go_wp2_with fail
      refine C3.mono ?_
      rintro e w3 ⟨rfl, o3⟩
      obtain ⟨c0, c1, c2, c3, c4, c5, c6, c7⟩ := blk7 o3.q
      have O3 := Aside0.mk o3
      clear o3 C3
      have C4 := int_on B w w3 p qb 25 4 bv q.cells _ q.pos 4 O3.out hne (by decide) rfl hB (by omega) (by omega) (by decide) (by simp [be_length, textB_len]; try omega)
      go_wp2_with fail
      refine C4.mono ?_
      rintro e w4 ⟨rfl, o4⟩
      obtain ⟨c0, c1, c2, c3, c4, c5, c6, c7⟩ := blk7 o4.q
      have O4 := Aside0.mk o4
      clear o4 C4
      have C5 := text_on B w w4 p qb 25 5 bv q.cells _ q.name O4.out hne (by decide) rfl hB (by omega) (by simp [be_length, textB_len]; try omega)
      go_wp2_with fail
      refine C5.mono ?_
      rintro e w5 ⟨rfl, o5⟩
      obtain ⟨c0, c1, c2, c3, c4, c5, c6, c7⟩ := blk7 o5.q
      have O5 := Aside0.mk o5
      clear o5 C5
      have C6 := text_on B w w5 p qb 25 6 bv q.cells _ q.os O5.out hne (by decide) rfl hB (by omega) (by simp [be_length, textB_len]; try omega)
      go_wp2_with fail
      refine C6.mono ?_
      rintro e w6 ⟨rfl, o6⟩
      obtain ⟨c0, c1, c2, c3, c4, c5, c6, c7⟩ := blk7 o6.q
      have O6 := Aside0.mk o6
      clear o6 C6
      go_wp2_with fail
      refine bodyPost_end (results_none rfl _ _ _) rfl ?_
      exact ⟨rfl, by rw [E.out]; exact O6.out⟩
    · by_cases k6 : q.kind = 6
      · have E := Aside0.mk (show q.bytes = [] ++ be 1 q.kind ++ be 4 q.id by simp [Rq.bytes, k2, k3, k6])
        have C2 := int_on B w w1 p qb 25 3 bv q.cells _ q.id 4 O1.out hne (by decide) rfl hB (by omega) (by omega) (by decide) (by simp [be_length])
        go_wp2_with fail
        refine C2.mono ?_
        rintro e w2 ⟨rfl, o2⟩
        have O2 := Aside0.mk o2
        clear o2 C2
        go_wp2_with fail
        refine bodyPost_end (results_none rfl _ _ _) rfl ?_
        exact ⟨rfl, by rw [E.out]; exact O2.out⟩
      · have E := Aside0.mk (show q.bytes = [] ++ be 1 q.kind by simp [Rq.bytes, k2, k3, k6])
        go_wp2_with fail
        refine bodyPost_end (results_none rfl _ _ _) rfl ?_
        exact ⟨rfl, by rw [E.out]; exact O1.out⟩
end Go.Proofs.Ythkdihpbdaehbaa.Pr
namespace Go.Proofs.Ythkdihpbdaehbaa.Pr
set_option linter.unusedVariables false
set_option linter.unusedSimpArgs false
open Go.RowKit Go.Proofs.YthkdihpbdaehbaaW.PrintWords Go.Proofs.Ythkdihpbdaehbaa.Bs

def fitsB (n : Int) : Bool := decide (0 ≤ n) && decide (n ≤ 2147483647)
theorem fits_calls (w : World) (n : Int) : Calls Try.prog 25 #[.int .i64 n] w fun e w' => e = .returned (.bool (fitsB n)) ∧ Drawn0 w w' := by
  by_cases h1 : 0 ≤ n
  · go_enter Try.func25, Try.ntmps25
    go_wp2
    go_ret
    exact ⟨by simp [fitsB, h1]; try omega, by repeat (first | exact Drawn0.refl _ | apply Drawn0.step)⟩
  · go_enter Try.func25, Try.ntmps25
    go_wp2
    go_ret
    exact ⟨by simp [fitsB, h1]; try omega, by repeat (first | exact Drawn0.refl _ | apply Drawn0.step)⟩
theorem fits2_calls (w : World) (n : Int) : Calls Try.prog 23 #[.int .i64 n] w fun e w' => e = .returned (.bool (fitsB n)) ∧ Drawn0 w w' := by
  by_cases h1 : 0 ≤ n
  · go_enter Try.func23, Try.ntmps23
    go_wp2
    go_ret
    exact ⟨by simp [fitsB, h1]; try omega, by repeat (first | exact Drawn0.refl _ | apply Drawn0.step)⟩
  · go_enter Try.func23, Try.ntmps23
    go_wp2
    go_ret
    exact ⟨by simp [fitsB, h1]; try omega, by repeat (first | exact Drawn0.refl _ | apply Drawn0.step)⟩
structure Op5 where
  kind : Int
  id : Int
  pos : Int
  name : ByteArray
  s : ByteArray
def Op5.cells (o : Op5) : Array Value := #[.int .i64 o.kind, .int .i64 o.id, .int .i64 o.pos, .string o.name, .string o.s]
def opB (o : Op5) : Bool := (decide (0 ≤ o.kind) && decide (o.kind ≤ 255)) && fitsB o.id && fitsB o.pos && decide (o.name.size ≤ 200) && decide (o.s.size ≤ 4000)
set_option maxRecDepth 100000 in
set_option maxHeartbeats 1000000 in
theorem op_calls (w : World) (o : Op5) : Calls Try.prog 24 #[.agg o.cells] w fun e w' => e = .returned (.bool (opB o)) ∧ Below w.heap.size w w' := by
  obtain ⟨k, i, p, nm, s⟩ := o
  have C1 := Aside0.mk (fun w => fits_calls w i)
  have C2 := Aside0.mk (fun w => fits_calls w p)
  simp only [Op5.cells]
  by_cases h1 : 0 ≤ k
  · by_cases h2 : k ≤ 255
    · cases e3 : fitsB i with
      | false =>
        rw [e3] at C1
        go_enter Try.func24, Try.ntmps24
        go_wp2_with (first | (go_at_call 25; (with_reducible refine (C1.out _).mono ?_); rintro e w' ⟨rfl, ⟨nd, rfl⟩⟩))
        all_goals (go_ret; exact ⟨by simp [opB, *]; try omega, by repeat (first | exact Below.refl _ _ | apply below_alloc | apply pw_below_drewN | apply below_drew1)⟩)
      | true =>
        rw [e3] at C1
        cases e4 : fitsB p with
        | false =>
          rw [e4] at C2
          go_enter Try.func24, Try.ntmps24
          go_wp2_with (first | (go_at_call 25; (with_reducible refine (C1.out _).mono ?_); rintro e w' ⟨rfl, ⟨nd, rfl⟩⟩) | (go_at_call 25; (with_reducible refine (C2.out _).mono ?_); rintro e w' ⟨rfl, ⟨nd, rfl⟩⟩))
          all_goals (go_ret; exact ⟨by simp [opB, *]; try omega, by repeat (first | exact Below.refl _ _ | apply below_alloc | apply pw_below_drewN | apply below_drew1)⟩)
        | true =>
          rw [e4] at C2
          by_cases h5 : nm.size ≤ 200
          · have h5' : (nm.size : Int) ≤ 200 := by omega
            go_enter Try.func24, Try.ntmps24
            go_wp2_with (first | (go_at_call 25; (with_reducible refine (C1.out _).mono ?_); rintro e w' ⟨rfl, ⟨nd, rfl⟩⟩) | (go_at_call 25; (with_reducible refine (C2.out _).mono ?_); rintro e w' ⟨rfl, ⟨nd, rfl⟩⟩))
            all_goals (go_ret; exact ⟨by simp [opB, *]; try omega, by repeat (first | exact Below.refl _ _ | apply below_alloc | apply pw_below_drewN | apply below_drew1)⟩)
          · have h5' : ¬ (nm.size : Int) ≤ 200 := by omega
            go_enter Try.func24, Try.ntmps24
            go_wp2_with (first | (go_at_call 25; (with_reducible refine (C1.out _).mono ?_); rintro e w' ⟨rfl, ⟨nd, rfl⟩⟩) | (go_at_call 25; (with_reducible refine (C2.out _).mono ?_); rintro e w' ⟨rfl, ⟨nd, rfl⟩⟩))
            all_goals (go_ret; exact ⟨by simp [opB, *]; try omega, by repeat (first | exact Below.refl _ _ | apply below_alloc | apply pw_below_drewN | apply below_drew1)⟩)
    · go_enter Try.func24, Try.ntmps24
      go_wp2
      all_goals (go_ret; exact ⟨by simp [opB, *]; try omega, by repeat (first | exact Below.refl _ _ | apply below_alloc | apply pw_below_drewN | apply below_drew1)⟩)
  · go_enter Try.func24, Try.ntmps24
    go_wp2
    all_goals (go_ret; exact ⟨by simp [opB, *]; try omega, by repeat (first | exact Below.refl _ _ | apply below_alloc | apply pw_below_drewN | apply below_drew1)⟩)
end Go.Proofs.Ythkdihpbdaehbaa.Pr
namespace Go.Proofs.Ythkdihpbdaehbaa.Pr
set_option linter.unusedVariables false
set_option linter.unusedSimpArgs false
open Go.RowKit Go.Proofs.YthkdihpbdaehbaaW.PrintWords Go.Proofs.Ythkdihpbdaehbaa.Bs

theorem eqA23 (d : Nat) (w : World) (x0 y0 : Int) (x1 y1 : Int) (x2 y2 : Int) (x3 y3 : ByteArray) (x4 y4 : ByteArray) :
    (Op.equalIn (d + 2) 23 (.agg #[.int .i64 x0, .int .i64 x1, .int .i64 x2, .string x3, .string x4]) (.agg #[.int .i64 y0, .int .i64 y1, .int .i64 y2, .string y3, .string y4])).run Try.prog w = .ok (x0 == y0 && (x1 == y1 && (x2 == y2 && (x3.toList == y3.toList && (x4.toList == y4.toList))))) w := by
  refine eqA_of Try.underlying23 (by kernel_rfl) ?_
  refine eqf_cons (by rfl) (by go_simp; rfl) (by go_simp; rfl) (by go_simp) ?_
  refine eqf_cons (by rfl) (by go_simp; rfl) (by go_simp; rfl) (by go_simp) ?_
  refine eqf_cons (by rfl) (by go_simp; rfl) (by go_simp; rfl) (by go_simp) ?_
  refine eqf_cons (by rfl) (by go_simp; rfl) (by go_simp; rfl) (by go_simp) ?_
  exact eqf_last (by rfl) (by go_simp; rfl) (by go_simp; rfl) (by go_simp)
theorem eqA25 (d : Nat) (w : World) (x0 y0 : Int) (x1 y1 : ByteArray) (x2 y2 : Int) (x3 y3 : Int) (x4 y4 : Int) (x5 y5 : ByteArray) (x6 y6 : ByteArray) :
    (Op.equalIn (d + 3) 25 (.agg #[.int .i64 x0, .string x1, .int .i64 x2, .int .i64 x3, .int .i64 x4, .string x5, .string x6]) (.agg #[.int .i64 y0, .string y1, .int .i64 y2, .int .i64 y3, .int .i64 y4, .string y5, .string y6])).run Try.prog w = .ok (x0 == y0 && (x1.toList == y1.toList && ((x2 == y2 && (x3 == y3 && (x4 == y4 && (x5.toList == y5.toList && (x6.toList == y6.toList)))))))) w := by
  refine eqA_of Try.underlying25 (by kernel_rfl) ?_
  refine eqf_cons (by rfl) (by go_simp; rfl) (by go_simp; rfl) (by go_simp) ?_
  refine eqf_cons (by rfl) (by go_simp; rfl) (by go_simp; rfl) (by go_simp) ?_
  exact eqf_last (by rfl) (by go_simp) (by go_simp) (eqA23 (d + 0) w _ _ _ _ _ _ _ _ _ _)

theorem toList_nil (s : ByteArray) : (s.toList == ([] : List UInt8)) = decide (s.size = 0) := by
  rw [ByteArray.toList_eq]
  have h : s.data.toList.length = s.size := by simp
  cases e : s.data.toList with
  | nil => rw [e] at h; have h2 : s.size = 0 := h.symm
           rw [decide_eq_true h2]; rfl
  | cons a l => rw [e] at h; have h2 : s.size ≠ 0 := by simp only [List.length_cons] at h; omega
                rw [decide_eq_false h2]; rfl
theorem toList_beq (a b : ByteArray) : (a.toList == b.toList) = decide (a = b) := by
  rw [ByteArray.toList_eq, ByteArray.toList_eq]
  by_cases h : a = b
  · subst h; simp
  · have : a.data.toList ≠ b.data.toList := fun e => h (ByteArray.ext (Array.toList_inj.mp e))
    rw [decide_eq_false h]
    exact beq_eq_false_iff_ne.mpr this
section
attribute [local go_sem high] eqA25
theorem eqReq (w : World) (q : Rq) (q' : Rq) : (binOp .eql 25 (.agg q.cells) (.agg q'.cells)).run Try.prog w = .ok (.bool (q.kind == q'.kind && (q.s.toList == q'.s.toList && ((q.ok == q'.ok && (q.id == q'.id && (q.pos == q'.pos && (q.name.toList == q'.name.toList && (q.os.toList == q'.os.toList)))))))))  w := by
  simp only [Rq.cells]
  go_simp
end
def Rq.op (q : Rq) : Op5 := ⟨q.ok, q.id, q.pos, q.name, q.os⟩
/-- May a request be? -/
def rightB (q : Rq) : Bool := decide (1 ≤ q.kind) && decide (q.kind ≤ 6) && decide (q.s.size ≤ 4000) && (decide (q.kind = 2) || decide (q.s.size = 0)) && (if q.kind = 3 then opB q.op else (decide (q.kind = 6) || decide (q.id = 0)) && fitsB q.id && decide (q.ok = 0) && decide (q.pos = 0) && decide (q.name.size = 0) && decide (q.os.size = 0))

def z1 (q : Rq) : Bool := decide (q.s.size = 0) && (decide (q.ok = 0) && (decide (q.id = 0) && (decide (q.pos = 0) && (decide (q.name.size = 0) && decide (q.os.size = 0)))))
def z2 (q : Rq) : Bool := (decide (q.ok = 0) && (decide (q.id = 0) && (decide (q.pos = 0) && (decide (q.name.size = 0) && decide (q.os.size = 0)))))
def z6 (q : Rq) : Bool := decide (q.s.size = 0) && (decide (q.ok = 0) && (decide (q.pos = 0) && (decide (q.name.size = 0) && decide (q.os.size = 0))))
theorem right_eq (q : Rq) : rightB q = if q.kind = 1 then z1 q else if q.kind = 4 then z1 q else if q.kind = 5 then z1 q else if q.kind = 2 then z2 q && decide (q.s.size ≤ 4000) else if q.kind = 3 then decide (q.s.size = 0) && opB q.op else if q.kind = 6 then z6 q && fitsB q.id else false := by
  obtain ⟨k, s, o, i, p, nm, os⟩ := q
  rw [Bool.eq_iff_iff]
  simp only [rightB, z1, z2, z6, fitsB]
  generalize opB (Rq.op ⟨k, s, o, i, p, nm, os⟩) = yo
  generalize s.size = s1
  generalize nm.size = s2
  generalize os.size = s3
  by_cases k1 : k = 1
  · subst k1; simp; omega
  by_cases k4 : k = 4
  · subst k4; simp; omega
  by_cases k5 : k = 5
  · subst k5; simp; omega
  by_cases k2 : k = 2
  · subst k2; simp; omega
  by_cases k3 : k = 3
  · subst k3; simp; omega
  by_cases k6 : k = 6
  · subst k6; simp; omega
  simp [k1, k2, k3, k4, k5, k6]
  omega
set_option maxRecDepth 100000 in
set_option maxHeartbeats 1000000 in
theorem right_calls (w : World) (q : Rq) : Calls Try.prog 10 #[.agg q.cells] w fun e w' => e = .returned (.bool (rightB q)) ∧ Below w.heap.size w w' := by
  have E1 : ∀ w, (binOp .eql 25 (.agg q.cells) (.agg #[.int .i64 q.kind, .string ⟨#[]⟩, .int .i64 0, .int .i64 0, .int .i64 0, .string ⟨#[]⟩, .string ⟨#[]⟩])).run Try.prog w = .ok (.bool (z1 q)) w := by
    intro w
    have h := eqReq w q ⟨q.kind, ⟨#[]⟩, 0, 0, 0, ⟨#[]⟩, ⟨#[]⟩⟩
    simp only [Rq.cells] at h ⊢
    rw [h, show (⟨#[]⟩ : ByteArray).toList = [] from by kernel_rfl]
    simp only [toList_nil, beq_self_eq_true, Bool.true_and]
    rfl
  have E2 : ∀ w, (binOp .eql 25 (.agg q.cells) (.agg #[.int .i64 q.kind, .string q.s, .int .i64 0, .int .i64 0, .int .i64 0, .string ⟨#[]⟩, .string ⟨#[]⟩])).run Try.prog w = .ok (.bool (z2 q)) w := by
    intro w
    have h := eqReq w q ⟨q.kind, q.s, 0, 0, 0, ⟨#[]⟩, ⟨#[]⟩⟩
    simp only [Rq.cells] at h ⊢
    rw [h, show (⟨#[]⟩ : ByteArray).toList = [] from by kernel_rfl]
    simp only [toList_nil, beq_self_eq_true, Bool.true_and]
    rfl
  have E6 : ∀ w, (binOp .eql 25 (.agg q.cells) (.agg #[.int .i64 q.kind, .string ⟨#[]⟩, .int .i64 0, .int .i64 q.id, .int .i64 0, .string ⟨#[]⟩, .string ⟨#[]⟩])).run Try.prog w = .ok (.bool (z6 q)) w := by
    intro w
    have h := eqReq w q ⟨q.kind, ⟨#[]⟩, 0, q.id, 0, ⟨#[]⟩, ⟨#[]⟩⟩
    simp only [Rq.cells] at h ⊢
    rw [h, show (⟨#[]⟩ : ByteArray).toList = [] from by kernel_rfl]
    simp only [toList_nil, beq_self_eq_true, Bool.true_and]
    rfl
  have C24 := Aside0.mk (fun w => op_calls w q.op)
  have C25 := Aside0.mk (fun w => fits_calls w q.id)
  have HR := Aside0.mk (right_eq q)
  have ET := Aside0.mk (toList_nil q.s)
  generalize rightB q = r at *
  obtain ⟨k, s, o, i, p, nm, os⟩ := q
  simp only [Rq.cells, Op5.cells, Rq.op] at *
  generalize z1 ⟨k, s, o, i, p, nm, os⟩ = y1 at *
  generalize z2 ⟨k, s, o, i, p, nm, os⟩ = y2 at *
  generalize z6 ⟨k, s, o, i, p, nm, os⟩ = y6 at *
  generalize opB ⟨o, i, p, nm, os⟩ = yo at *
  by_cases k1 : k = 1
  · have K1 := Aside0.mk k1
    clear k1
    have b1 : (k == 1) = true := by simpa using K1.out
    go_enter Try.func10, Try.ntmps10
    go_wp2
    go_ret
    exact ⟨by rw [HR.out]; simp [K1.out], by repeat (first | exact Below.refl _ _ | apply below_alloc | apply pw_below_drewN | apply below_drew1)⟩
  have K1 := Aside0.mk k1
  clear k1
  by_cases k4 : k = 4
  · have K4 := Aside0.mk k4
    clear k4
    have b1 : (k == 1) = false := by simpa using K1.out
    have b4 : (k == 4) = true := by simpa using K4.out
    go_enter Try.func10, Try.ntmps10
    go_wp2
    go_ret
    exact ⟨by rw [HR.out]; simp [K1.out, K4.out], by repeat (first | exact Below.refl _ _ | apply below_alloc | apply pw_below_drewN | apply below_drew1)⟩
  have K4 := Aside0.mk k4
  clear k4
  by_cases k5 : k = 5
  · have K5 := Aside0.mk k5
    clear k5
    have b1 : (k == 1) = false := by simpa using K1.out
    have b4 : (k == 4) = false := by simpa using K4.out
    have b5 : (k == 5) = true := by simpa using K5.out
    go_enter Try.func10, Try.ntmps10
    go_wp2
    go_ret
    exact ⟨by rw [HR.out]; simp [K1.out, K4.out, K5.out], by repeat (first | exact Below.refl _ _ | apply below_alloc | apply pw_below_drewN | apply below_drew1)⟩
  have K5 := Aside0.mk k5
  clear k5
  by_cases k2 : k = 2
  · have K2 := Aside0.mk k2
    clear k2
    have b1 : (k == 1) = false := by simpa using K1.out
    have b4 : (k == 4) = false := by simpa using K4.out
    have b5 : (k == 5) = false := by simpa using K5.out
    have b2 : (k == 2) = true := by simpa using K2.out
    cases y2 with
    | false =>
      go_enter Try.func10, Try.ntmps10
      go_wp2
      go_ret
      exact ⟨by rw [HR.out]; simp [K1.out, K4.out, K5.out, K2.out] <;> omega, by repeat (first | exact Below.refl _ _ | apply below_alloc | apply pw_below_drewN | apply below_drew1)⟩
    | true =>
      go_enter Try.func10, Try.ntmps10
      go_wp2
      go_ret
      exact ⟨by rw [HR.out]; simp [K1.out, K4.out, K5.out, K2.out] <;> omega, by repeat (first | exact Below.refl _ _ | apply below_alloc | apply pw_below_drewN | apply below_drew1)⟩
  have K2 := Aside0.mk k2
  clear k2
  by_cases k3 : k = 3
  · have K3 := Aside0.mk k3
    clear k3
    have b1 : (k == 1) = false := by simpa using K1.out
    have b4 : (k == 4) = false := by simpa using K4.out
    have b5 : (k == 5) = false := by simpa using K5.out
    have b2 : (k == 2) = false := by simpa using K2.out
    have b3 : (k == 3) = true := by simpa using K3.out
    by_cases hs : s.toList = []
    · have ets : decide (s.size = 0) = true := by rw [← ET.out, hs]; rfl
      go_enter Try.func10, Try.ntmps10
      go_wp2_with (first | (go_at_call 24; (with_reducible refine (C24.out _).mono ?_); rintro e w' ⟨rfl, hb⟩))
      go_ret
      exact ⟨by rw [HR.out, if_neg K1.out, if_neg K4.out, if_neg K5.out, if_neg K2.out, if_pos K3.out, ets]; rfl, below_step (by repeat (first | exact Below.refl _ _ | apply below_alloc | apply pw_below_drewN | apply below_drew1)) hb⟩
    · have ets : decide (s.size = 0) = false := by rw [← ET.out]; exact beq_eq_false_iff_ne.mpr hs
      go_enter Try.func10, Try.ntmps10
      go_wp2
      go_ret
      exact ⟨by rw [HR.out, if_neg K1.out, if_neg K4.out, if_neg K5.out, if_neg K2.out, if_pos K3.out, ets]; rfl, by repeat (first | exact Below.refl _ _ | apply below_alloc | apply pw_below_drewN | apply below_drew1)⟩
  have K3 := Aside0.mk k3
  clear k3
  by_cases k6 : k = 6
  · have K6 := Aside0.mk k6
    clear k6
    have b1 : (k == 1) = false := by simpa using K1.out
    have b4 : (k == 4) = false := by simpa using K4.out
    have b5 : (k == 5) = false := by simpa using K5.out
    have b2 : (k == 2) = false := by simpa using K2.out
    have b3 : (k == 3) = false := by simpa using K3.out
    have b6 : (k == 6) = true := by simpa using K6.out
    cases y6 with
    | false =>
      go_enter Try.func10, Try.ntmps10
      go_wp2
      go_ret
      exact ⟨by rw [HR.out]; simp [K1.out, K4.out, K5.out, K2.out, K3.out, K6.out], by repeat (first | exact Below.refl _ _ | apply below_alloc | apply pw_below_drewN | apply below_drew1)⟩
    | true =>
      go_enter Try.func10, Try.ntmps10
      go_wp2_with (first | (go_at_call 25; (with_reducible refine (C25.out _).mono ?_); rintro e w' ⟨rfl, ⟨nd, rfl⟩⟩))
      go_ret
      exact ⟨by rw [HR.out]; simp [K1.out, K4.out, K5.out, K2.out, K3.out, K6.out], by repeat (first | exact Below.refl _ _ | apply below_alloc | apply pw_below_drewN | apply below_drew1)⟩
  have K6 := Aside0.mk k6
  clear k6
  have b1 : (k == 1) = false := by simpa using K1.out
  have b4 : (k == 4) = false := by simpa using K4.out
  have b5 : (k == 5) = false := by simpa using K5.out
  have b2 : (k == 2) = false := by simpa using K2.out
  have b3 : (k == 3) = false := by simpa using K3.out
  have b6 : (k == 6) = false := by simpa using K6.out
  go_enter Try.func10, Try.ntmps10
  go_wp2
  go_ret
  exact ⟨by rw [HR.out]; simp [K1.out, K4.out, K5.out, K2.out, K3.out, K6.out], by repeat (first | exact Below.refl _ _ | apply below_alloc | apply pw_below_drewN | apply below_drew1)⟩
end Go.Proofs.Ythkdihpbdaehbaa.Pr
namespace Go.Proofs.Ythkdihpbdaehbaa.Pr
set_option linter.unusedVariables false
set_option linter.unusedSimpArgs false
open Go.RowKit Go.Proofs.YthkdihpbdaehbaaW.PrintWords Go.Proofs.YthkdihpbdaehbaaW.PrintLast Go.Proofs.YthkdihpbdaehbaaW.PrintMore Go.Proofs.Ythkdihpbdaehbaa.Bs
section
attribute [local go_sem] max2_int min2_int max_two min_two max_three min_three max_four min_four

def refnum.l0 : Nat → Int → Int → List Int → Int → Option (List Int)
  | 0, _, _, _, _ => none
  | k + 1, x0, x1, x5, x6 => if x6 < x1 then ((some (([(Int.tmod x0 256) % 256] : List Int) : List Int)).bind fun y118 => (if y118.length + x5.length < 140737488355328 then (refnum.l0 k (IntKind.u64.wrap (Int.tdiv x0 256)) x1 (y118 ++ x5) (wrap64 (x6 + 1))) else (none))) else (some x5)
def refnum.f (k : Nat) (a0 : Int) (a1 : Int) : Option (List Int) := refnum.l0 k a0 a1 ([] : List Int) 0
theorem refnum.mono_l : ∀ k, (∀ y0 y1 y2 y3, LeO (refnum.l0 k y0 y1 y2 y3) (refnum.l0 (k + 1) y0 y1 y2 y3))
  | 0 => fun _ _ _ _ r h => by simp [refnum.l0] at h
  | k + 1 => by
    have ih0 := refnum.mono_l k
    · intro y0 y1 y2 y3
      unfold refnum.l0
      repeat' first
      | (with_reducible exact ih0 _ _ _ _)
      | (with_reducible exact LeO.refl _)
      | (with_reducible exact LeO.none _)
      | (with_reducible refine LeO.ite ?_ ?_)
      | (with_reducible refine LeO.bind ?_ (fun _ => ?_))
      | exact ih0 _ _ _ _
      | exact LeO.none _
      | refine LeO.ite ?_ ?_
      | refine LeO.bind ?_ (fun _ => ?_)
theorem refnum.mono : ∀ a0 a1 k, LeO (refnum.f k a0 a1) (refnum.f (k + 1) a0 a1) := by
  intro a0 a1 k
  have ih0 := refnum.mono_l k
  unfold refnum.f
  repeat' first
      | (with_reducible exact ih0 _ _ _ _)
      | (with_reducible exact LeO.refl _)
      | (with_reducible exact LeO.none _)
      | (with_reducible refine LeO.ite ?_ ?_)
      | (with_reducible refine LeO.bind ?_ (fun _ => ?_))
      | exact ih0 _ _ _ _
      | exact LeO.none _
      | refine LeO.ite ?_ ?_
      | refine LeO.bind ?_ (fun _ => ?_)
set_option maxHeartbeats 8000000 in
set_option maxRecDepth 100000 in
theorem refnum.calls (k : Nat) (a0 : Int) (a1 : Int) (r : List Int) (w : World) (h : refnum.f k a0 a1 = some r) :
    Calls Try.prog 27 #[.int .u64 a0, .int .i64 a1] w fun e w' => ∃ v0_ : Value, e = .returned (v0_) ∧ Kd.R (Kd.int .u8) 5 w' w.heap.size (fun _ => True) v0_ r ∧ Below w.heap.size w w' := by
  have HB := Aside0.mk (Below.refl w.heap.size w)
  have H : (refnum.l0 k a0 a1 ([] : List Int) 0) = some r := h
  clear h
  have H' := Aside0.mk H
  clear H
  go_enter Try.func27, Try.ntmps27
  go_wp2
  go_loopg [0, 5, 6] k (fun kq v0 v5 v6 w' => ∃ (x0_1 : Int) (x5_1 : List Int) (x6_1 : Int), v0 = .int .u64 x0_1 ∧ v6 = .int .i64 x6_1 ∧ Aside0 (refnum.l0 kq x0_1 a1 x5_1 x6_1 = some r) ∧ Aside0 (kq ≤ k) ∧ Aside0 (Kd.R (Kd.int .u8) 5 w' w.heap.size (fun _ => True) v5 x5_1) ∧ Aside0 (Below w.heap.size w w'))
  case atStart => exact ⟨(a0), (([] : List Int)), (0), (by first | rfl | (simp; done) | (simp [*]; done)), (by first | rfl | (simp; done) | (simp [*]; done)), H', ⟨Nat.le_refl _⟩, ⟨by first | exact Kd.R_nil _ _ _ _ _ | exact Kd.N_nil _ _ _ _ _ | exact Kd.V_nil _ _ _ _ _ | exact Kd.Q_nil _ _ _ _ _ | exact Kd.S_nil _ _ _ _ _⟩, ⟨by repeat (first | (with_reducible first | exact HB.out | apply below_alloc | apply pw_below_drewN | apply below_drew1) | exact HB.out)⟩⟩
  case round =>
    clear H'
    try clear c2
    try clear p2
    obtain ⟨x0_1, x5_1, x6_1, rfl, rfl, HA, HK1, HO_5, HB⟩ := hrel
    cases gk with
    | zero => exact absurd HA.out (by simp [refnum.l0])
    | succ k1 =>
      have H := HA.out
      clear HA
      simp only [refnum.l0] at H
      by_cases c3 : x6_1 < a1
      · rw [if_pos c3] at H
        have c3b0 : decide (x6_1 < a1) = true := decide_eq_true c3
        clear c3
        obtain ⟨y118, hy118⟩ : ∃ y_ : List Int, y_ = (([(Int.tmod x0_1 256) % 256] : List Int)) := ⟨_, rfl⟩
        replace H : (if y118.length + x5_1.length < 140737488355328 then (refnum.l0 k1 (IntKind.u64.wrap (Int.tdiv x0_1 256)) a1 (y118 ++ x5_1) (wrap64 (x6_1 + 1))) else (none)) = some r := by first | (rw [hy118]; with_reducible exact H) | (have H2_ := (Option.bind_some _ _).symm.trans H; rw [hy118]; with_reducible exact H2_) | (have H2_ := (Option.bind_some _ _).symm.trans H; with_reducible exact H2_) | with_reducible exact H | (rw [hy118]; exact H) | exact H
        have Ny118 := Aside0.mk hy118
        clear hy118
        by_cases c4 : y118.length + x5_1.length < 140737488355328
        · rw [if_pos c4] at H
          have LMc4 := Aside0.mk c4
          clear c4
          obtain ⟨y121, hy121⟩ : ∃ y_ : List Int, y_ = (y118 ++ x5_1) := ⟨_, rfl⟩
          replace H : (refnum.l0 k1 (IntKind.u64.wrap (Int.tdiv x0_1 256)) a1 y121 (wrap64 (x6_1 + 1))) = some r := by first | (rw [hy121]; with_reducible exact H) | (have H2_ := (Option.bind_some _ _).symm.trans H; rw [hy121]; with_reducible exact H2_) | (have H2_ := (Option.bind_some _ _).symm.trans H; with_reducible exact H2_) | with_reducible exact H | (rw [hy121]; exact H) | exact H
          have Ny121 := Aside0.mk hy121
          clear hy121
          have H' := Aside0.mk H
          clear H
          go_wp2_with (first | ((with_reducible refine gate_dst (N := 15) rfl ?_); refine Kd.R_lit (Kd.int .u8) _ 5 ?hg (N := 15) ?hd (xs := ([(Int.tmod x0_1 256) % 256] : List Int)) (inner := [.int .u8 ((Int.tmod x0_1 256) % 256)]) (ok := fun _ => True) (okp := fun _ => True) ?hr ?hp (fun _ hk => hk) trivial (Below.refl _ _) (Nat.le_refl _) (by simp) ?_; (case hd => rfl); (case hg => rfl); (case hr => first | (go_simp; done) | (go_simp; rfl)); (case hp => exact (Reps.one (show Kd.M (Kd.int .u8) _ _ _ ((Int.tmod x0_1 256) % 256) [.int .u8 ((Int.tmod x0_1 256) % 256)] from rfl) (Reps.none _ _))); intro v119 w5 ho6 hb hg_ hnew_; clear hg_ hnew_; (first | rw [← Ny118.out] at ho6 | (simp only [Int.reduceToNat] at ho6; rw [← Ny118.out] at ho6)); have n0_ := Aside0.mk (Kd.R_elder' (by (with_reducible repeat (first | apply Kd.R_alloc | apply Kd.R_drewN | apply Kd.R_drew)); exact HO_5.out) (Kd.R_base ho6) hb); have n1_ := Aside0.mk (Kd.R_lower (Kd.R_new' ho6 (Kd.R_lt (by (with_reducible repeat (first | apply Kd.R_alloc | apply Kd.R_drewN | apply Kd.R_drew)); exact HO_5.out))) (below_size (by repeat (first | (with_reducible first | exact HB.out | apply below_alloc | apply pw_below_drewN | apply below_drew1) | exact HB.out)))); have n2_ := Aside0.mk (below_step (by repeat (first | (with_reducible first | exact HB.out | apply below_alloc | apply pw_below_drewN | apply below_drew1) | exact HB.out)) hb); clear HO_5; clear HB; have HO_5 := n0_; have HO120 := n1_; have HB := n2_; clear n0_ n1_ n2_; clear hb ho6; obtain ⟨Ao8, co8, eo8⟩ := Kd.R_slice HO_5.out; subst eo8) | ((with_reducible refine gate_builtin (b := .append) (xs := #[.tmp 15, .tmp 16]) rfl ?_); at_builtin; refine Kd.R_append_rows (Kd.int .u8) (w0 := w) w.heap.size rfl (.tmp 15) (.tmp 16) 27 5 (.int .u8 0) 1 rfl Try.underlying27 info5 rfl (by decide) (by omega) v119 y118 x5_1 _ _ _ (fun k_ => some k_ ≠ (.slice Ao8 x5_1.length co8 : Value).ownBlock) (fun _ => False) rfl rfl ?aO ?aR (fun _ _ h => h) (fun _ h => h.elim) ?aF ?aB ?aS ?aL ?_; (case aR => repeat (first | exact (Kd.R_reads' HO_5.out).2.2 | (with_reducible refine Kd.C_alloc ?_ _) | (with_reducible refine Kd.C_drewN ?_ _) | (with_reducible refine Kd.C_drew ?_))); (case aB => exact (by repeat (first | (with_reducible first | exact HB.out | apply below_alloc | apply pw_below_drewN | apply below_drew1) | exact HB.out))); (case aF => exact (fun k_ hk => Kd.fresh' (Kd.R_lt (by (with_reducible repeat (first | apply Kd.R_alloc | apply Kd.R_drewN | apply Kd.R_drew)); exact HO_5.out)) k_ hk)); (case aO => exact (by (with_reducible repeat (first | apply Kd.R_alloc | apply Kd.R_drewN | apply Kd.R_drew)); exact Kd.R_mono HO120.out (fun _ hk => hk.2))); (case aS => exact (below_size (by repeat (first | (with_reducible first | exact HB.out | apply below_alloc | apply pw_below_drewN | apply below_drew1) | exact HB.out)))); (case aL => have := LMc4.out; omega); intro v122 w7 ho hb hg hat; rw [← Ny121.out] at ho; have n0_ := Aside0.mk (Kd.R_after (ok := (fun _ => True)) (by (with_reducible repeat (first | apply Kd.R_alloc | apply Kd.R_drewN | apply Kd.R_drew)); exact HO_5.out) hg hat); have n1_ := Aside0.mk (hb); have n2_ := Aside0.mk (ho); clear HO_5; clear HB; clear HO120; have HO_5 := n0_; have HB := n1_; have HO123 := n2_; clear n0_ n1_ n2_; clear ho hb hg hat))
          go_roundg k1
          case measure => have := HK1.out; omega
          case rel => exact ⟨(IntKind.u64.wrap (Int.tdiv x0_1 256)), (y121), (wrap64 (x6_1 + 1)), (by first | rfl | (simp; done) | (simp [*]; done)), (by first | rfl | (simp; done) | (simp [*]; done)), H', ⟨by have := HK1.out; omega⟩, ⟨by (with_reducible repeat (first | apply Kd.R_alloc | apply Kd.R_drewN | apply Kd.R_drew)); exact Kd.R_mono HO123.out (fun _ hk => trivial)⟩, ⟨by repeat (first | (with_reducible first | exact HB.out | apply below_alloc | apply pw_below_drewN | apply below_drew1) | exact HB.out)⟩⟩
        · rw [if_neg c4] at H
          exact absurd H (by simp)
      · rw [if_neg c3] at H
        have c3b0 : decide (x6_1 < a1) = false := decide_eq_false c3
        clear c3
        obtain rfl := Option.some.inj H
        go_wp2
        go_ret
        exact ⟨_, by first | rfl | (simp [errW_none, errW_some] <;> rfl) | (simp [*, errW_none, errW_some] <;> rfl), by (with_reducible repeat (first | apply Kd.R_alloc | apply Kd.R_drewN | apply Kd.R_drew)); exact HO_5.out, by repeat (first | (with_reducible first | exact HB.out | apply below_alloc | apply pw_below_drewN | apply below_drew1) | exact HB.out)⟩

end
end Go.Proofs.Ythkdihpbdaehbaa.Pr
