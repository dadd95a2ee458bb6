import Derived.Test.YthkdihpbdaehbaaPrF
import Derived.Test.YthkdihpbdaehbaaPrS
namespace Go.Proofs.Ythkdihpbdaehbaa.PS
open Go.RowKit Go.Proofs.YthkdihpbdaehbaaW.PrintWords Go.Proofs.YthkdihpbdaehbaaW.PrintLast Go.Proofs.YthkdihpbdaehbaaW.PrintMore
attribute [local go_sem] max2_int min2_int max_two min_two max_three min_three max_four min_four
set_option linter.unusedVariables false
set_option linter.unusedSimpArgs false
def breviaryref26_value.l0 : Nat → List Int → Int → Int → Option (Int)
  | 0, _, _, _ => none
  | k + 1, x0, x3, x4 => if x4 < (x0.length : Int) then (if 0 ≤ x4 then (breviaryref26_value.l0 k x0 (IntKind.u64.wrap ((IntKind.u64.wrap (x3 * 256)) + (IntKind.u64.wrap (rd x0 x4)))) (wrap64 (x4 + 1))) else (none)) else (some x3)
def breviaryref26_value.f (k : Nat) (l0 : List Int) : Option (Int) := breviaryref26_value.l0 k l0 0 0
theorem breviaryref26_value.mono_l : ∀ k, (∀ y0 y1 y2, LeO (breviaryref26_value.l0 k y0 y1 y2) (breviaryref26_value.l0 (k + 1) y0 y1 y2))
  | 0 => fun _ _ _ r h => by simp [breviaryref26_value.l0] at h
  | k + 1 => by
    have ih0 := breviaryref26_value.mono_l k
    · intro y0 y1 y2
      unfold breviaryref26_value.l0
      repeat' first
      | (with_reducible exact ih0 _ _ _)
      | (with_reducible exact LeO.refl _)
      | (with_reducible exact LeO.none _)
      | (with_reducible refine LeO.ite ?_ ?_)
      | (with_reducible refine LeO.bind ?_ (fun _ => ?_))
      | exact ih0 _ _ _
      | exact LeO.none _
      | refine LeO.ite ?_ ?_
      | refine LeO.bind ?_ (fun _ => ?_)
theorem breviaryref26_value.mono : ∀ a0 k, LeO (breviaryref26_value.f k a0) (breviaryref26_value.f (k + 1) a0) := by
  intro a0 k
  have ih0 := breviaryref26_value.mono_l k
  unfold breviaryref26_value.f
  repeat' first
      | (with_reducible exact ih0 _ _ _)
      | (with_reducible exact LeO.refl _)
      | (with_reducible exact LeO.none _)
      | (with_reducible refine LeO.ite ?_ ?_)
      | (with_reducible refine LeO.bind ?_ (fun _ => ?_))
      | exact ih0 _ _ _
      | exact LeO.none _
      | refine LeO.ite ?_ ?_
      | refine LeO.bind ?_ (fun _ => ?_)
set_option maxHeartbeats 8000000 in
set_option maxRecDepth 100000 in
theorem breviaryref26_value.calls (k : Nat) (A0 : Option Addr) (c0 : Nat) (l0 : List Int) (r : Int) (w : World) (hr0 : Kd.C (Kd.int .u8) w A0 l0.length l0) (hc0 : l0.length ≤ c0) (h : breviaryref26_value.f k l0 = some r) :
    Calls Try.prog 31 #[.slice A0 l0.length c0] w fun e w' => e = .returned (.int .u64 r) ∧ Drawn0 w w' := by
  have HR0 := Aside0.mk hr0
  have HC0 := Aside0.mk hc0
  clear hr0 hc0
  have H : (breviaryref26_value.l0 k l0 0 0) = some r := h
  clear h
  have H' := Aside0.mk H
  clear H
  go_enter Try.func31, Try.ntmps31
  go_wp2
  go_loopg [3, 4] k (fun kq v3 v4 w' => ∃ (x3_1 : Int) (x4_1 : Int), v3 = .int .u64 x3_1 ∧ v4 = .int .i64 x4_1 ∧ Aside0 (breviaryref26_value.l0 kq l0 x3_1 x4_1 = some r) ∧ Aside0 (kq ≤ k) ∧ Drawn0 w w')
  case atStart => exact ⟨(0), (0), (by first | rfl | (simp; done) | (simp [*]; done)), (by first | rfl | (simp; done) | (simp [*]; done)), H', ⟨Nat.le_refl _⟩, by repeat (first | exact Drawn0.refl _ | apply Drawn0.step)⟩
  case round =>
    clear H'
    obtain ⟨x3_1, x4_1, rfl, rfl, HA, HK1, ⟨m1, rfl⟩⟩ := hrel
    cases gk with
    | zero => exact absurd HA.out (by simp [breviaryref26_value.l0])
    | succ k1 =>
      have H := HA.out
      clear HA
      simp only [breviaryref26_value.l0] at H
      by_cases c2 : x4_1 < (l0.length : Int)
      · rw [if_pos c2] at H
        have c2b0 : decide (x4_1 < (l0.length : Int)) = true := decide_eq_true c2
        clear c2
        by_cases c3 : 0 ≤ x4_1
        · rw [if_pos c3] at H
          have c3b0 : decide (0 ≤ x4_1) = true := decide_eq_true c3
          clear c3
          have H' := Aside0.mk H
          clear H
          have p118 : 0 ≤ (x4_1 : Int) := of_decide_eq_true (by first | (with_reducible assumption) | assumption)
          have q118 : x4_1 < (l0.length : Int) := of_decide_eq_true (by first | (with_reducible assumption) | assumption)
          obtain ⟨ad118, e118, hx118_0⟩ := Kd.at_int HR0.out x4_1 p118 q118
          cases e118
          replace p118 := eq_true p118
          replace q118 := eq_true q118
          go_wp2
          go_roundg k1
          case measure => have := HK1.out; omega
          case rel => exact ⟨(IntKind.u64.wrap ((IntKind.u64.wrap (x3_1 * 256)) + (IntKind.u64.wrap (rd l0 x4_1)))), (wrap64 (x4_1 + 1)), (by first | rfl | (simp; done) | (simp [*]; done)), (by first | rfl | (simp; done) | (simp [*]; done)), H', ⟨by have := HK1.out; omega⟩, by repeat (first | exact Drawn0.refl _ | apply Drawn0.step)⟩
        · rw [if_neg c3] at H
          exact absurd H (by simp)
      · rw [if_neg c2] at H
        have c2b0 : decide (x4_1 < (l0.length : Int)) = false := decide_eq_false c2
        clear c2
        obtain rfl := Option.some.inj H
        go_wp2
        go_ret
        exact ⟨by first | rfl | (simp; done) | (simp [*]; done), by repeat (first | exact Drawn0.refl _ | apply Drawn0.step)⟩
def breviaryref26_read.f (l0 : List Int) (a1 : Int) (a2 : Int) : Option (Int) := if a1 < 0 then (some (-1)) else (if a2 > (wrap64 ((l0.length : Int) - a1)) then (some (-1)) else (some (wrap64 (a1 + a2))))
set_option maxHeartbeats 8000000 in
set_option maxRecDepth 100000 in
theorem breviaryref26_read.calls (A0 : Option Addr) (c0 : Nat) (l0 : List Int) (a1 : Int) (a2 : Int) (r : Int) (w : World) (hr0 : Kd.C (Kd.int .u8) w A0 l0.length l0) (hc0 : l0.length ≤ c0) (h : breviaryref26_read.f l0 a1 a2 = some r) :
    Calls Try.prog 40 #[.slice A0 l0.length c0, .int .i64 a1, .int .i64 a2] w fun e w' => e = .returned (.int .i64 r) ∧ Drawn0 w w' := by
  have HR0 := Aside0.mk hr0
  have HC0 := Aside0.mk hc0
  clear hr0 hc0
  have H : (if a1 < 0 then (some (-1)) else (if a2 > (wrap64 ((l0.length : Int) - a1)) then (some (-1)) else (some (wrap64 (a1 + a2))))) = some r := h
  clear h
  by_cases c4 : a1 < 0
  · rw [if_pos c4] at H
    have c4b0 : decide (a1 < 0) = true := decide_eq_true c4
    clear c4
    obtain rfl := Option.some.inj H
    go_enter Try.func40, Try.ntmps40
    go_wp2
    go_ret
    exact ⟨by first | rfl | (simp; done) | (simp [*]; done), by repeat (first | exact Drawn0.refl _ | apply Drawn0.step)⟩
  · rw [if_neg c4] at H
    have c4b0 : decide (a1 < 0) = false := decide_eq_false c4
    clear c4
    by_cases c5 : a2 > (wrap64 ((l0.length : Int) - a1))
    · rw [if_pos c5] at H
      have c5b0 : decide ((wrap64 ((l0.length : Int) - a1)) < a2) = true := decide_eq_true c5
      clear c5
      obtain rfl := Option.some.inj H
      go_enter Try.func40, Try.ntmps40
      go_wp2
      go_ret
      exact ⟨by first | rfl | (simp; done) | (simp [*]; done), by repeat (first | exact Drawn0.refl _ | apply Drawn0.step)⟩
    · rw [if_neg c5] at H
      have c5b0 : decide ((wrap64 ((l0.length : Int) - a1)) < a2) = false := decide_eq_false c5
      clear c5
      obtain rfl := Option.some.inj H
      go_enter Try.func40, Try.ntmps40
      go_wp2
      go_ret
      exact ⟨by first | rfl | (simp; done) | (simp [*]; done), by repeat (first | exact Drawn0.refl _ | apply Drawn0.step)⟩
end Go.Proofs.Ythkdihpbdaehbaa.PS
namespace Go.Proofs.Ythkdihpbdaehbaa.Pr
set_option linter.unusedVariables false
set_option linter.unusedSimpArgs false
open Go.RowKit Go.Proofs.YthkdihpbdaehbaaW.PrintWords Go.Proofs.YthkdihpbdaehbaaW.PrintLast Go.Proofs.YthkdihpbdaehbaaW.PrintMore Go.Proofs.Ythkdihpbdaehbaa.Bs
/-- A reply; its nodes' slice is handed apart. -/
structure Rp where
  kind : Int
  err : Int
  txn : Int
  id : Int
  time : Int
  vt : Int
  nodes : List Int
  vb : Bool
  tag : Int
  vv : Int
  vs : ByteArray
  s : ByteArray
def Rp.cells (r : Rp) (nv : Value) : Array Value := #[.int .i64 r.kind, .int .i64 r.err, .int .i64 r.txn, .int .i64 r.id, .int .u64 r.time, .int .i64 r.vt, nv, .bool r.vb, .int .i64 r.tag, .int .i64 r.vv, .string r.vs, .string r.s]
def flag (b : Bool) : Int := if b then 1 else 0
/-- A new variable is laid. -/
theorem new_on (F : FuncId) (B : Nat) (w w1 : World) (p qb t : Nat) (bv : Value) (cs : Array Value) (xs ys : List Int) (v : Value) (T : Nat) (args : Array Value) (h : On B w p bv qb cs t xs w1) (hne : qb ≠ p) (ht : t ≠ 5) (hBw : B ≤ w.heap.size)
    (C : ∀ bv', Put B (w1.alloc (.cells #[v] T)) p bv' xs → (w1.heap.size ≠ p) → some w1.heap.size ≠ bv'.ownBlock → Calls Try.prog F args (w1.alloc (.cells #[v] T)) fun e w' => e = .returned (.tuple #[]) ∧ Laid B (w1.alloc (.cells #[v] T)) p bv' ys w') :
    Calls Try.prog F args (w1.alloc (.cells #[v] T)) fun e w' => e = .returned (.tuple #[]) ∧ On B w p bv qb cs t ys w' ∧ w'.heap[w1.heap.size]? = some (.cells #[v] T (0, 0)) := by
  obtain ⟨⟨⟨bv', ⟨hp, hat⟩⟩, hch⟩, hq⟩ := h
  have hn := Kd.R_ne hp.row hq (fun e => ht e.symm)
  have hlt : ∀ k, some k = bv'.ownBlock → k < w1.heap.size := fun k hk => own_lt (Kd.own_of_R hp.row) k hk.symm
  have hpl := blk_lt hp.cells
  have hne1 : w1.heap.size ≠ p := by omega
  have hne2 : some w1.heap.size ≠ bv'.ownBlock := fun e => by have := hlt _ e; omega
  have hW : Below w1.heap.size w1 (w1.alloc (.cells #[v] T)) := below_alloc (Below.refl _ _) _
  refine (C bv' (hp.step (S := fun _ => False) ((Ch.refl _ w1).alloc _) (fun h => h) (fun _ _ h => h)) hne1 hne2).mono ?_
  rintro e w' ⟨rfl, hL⟩
  have hL' := Laid.before hL hW
  exact ⟨rfl, ⟨Laid.then_ hat hch hL', hL'.ch.heap hq (by rintro (e | e); exact hne e; exact hn e)⟩, hL.ch.heap (heap_alloc_new w1 _) (by rintro (e | e); exact hne1 e; exact hne2 e)⟩
theorem int_new (B : Nat) (w w1 : World) (p qb t : Nat) (bv : Value) (cs : Array Value) (xs : List Int) (n : Int) (size : Nat) (h : On B w p bv qb cs t xs w1) (hne : qb ≠ p) (ht : t ≠ 5) (hBw : B ≤ w.heap.size) (h0 : 0 ≤ n) (h1 : n ≤ 9223372036854775807) (hs : size ≤ 8) (hl : xs.length ≤ 1000000) :
    Calls Try.prog 37 #[.pointer (some ⟨p, 0, none⟩), .pointer (some ⟨w1.heap.size, 0, none⟩), .int .i64 size] (w1.alloc (.cells #[.int .i64 n] 3)) fun e w' => e = .returned (.tuple #[]) ∧ On B w p bv qb cs t (xs ++ be size n) w' ∧ w'.heap[w1.heap.size]? = some (.cells #[.int .i64 n] 3 (0, 0)) :=
  new_on 37 B w w1 p qb t bv cs xs _ _ 3 _ h hne ht hBw (fun bv' hp e1 e2 => integer_put B _ p bv' xs ⟨w1.heap.size, 0, none⟩ n size hp (blk_cell (heap_alloc_new w1 _) 0) (blk_frozen (heap_alloc_new w1 _) 0) e1 e2 (by have := h.l.ch.size; simp; omega) h0 h1 hs hl)
theorem num_new (B : Nat) (w w1 : World) (p qb t : Nat) (bv : Value) (cs : Array Value) (xs : List Int) (n : Int) (size : Nat) (h : On B w p bv qb cs t xs w1) (hne : qb ≠ p) (ht : t ≠ 5) (hBw : B ≤ w.heap.size) (h0 : 0 ≤ n) (hs : size ≤ 8) (hl : xs.length ≤ 1000000) :
    Calls Try.prog 41 #[.pointer (some ⟨p, 0, none⟩), .pointer (some ⟨w1.heap.size, 0, none⟩), .int .i64 size] (w1.alloc (.cells #[.int .u64 n] 37)) fun e w' => e = .returned (.tuple #[]) ∧ On B w p bv qb cs t (xs ++ be size n) w' ∧ w'.heap[w1.heap.size]? = some (.cells #[.int .u64 n] 37 (0, 0)) :=
  new_on 41 B w w1 p qb t bv cs xs _ _ 37 _ h hne ht hBw (fun bv' hp e1 e2 => number_put B _ p bv' xs ⟨w1.heap.size, 0, none⟩ n size hp (blk_cell (heap_alloc_new w1 _) 0) e1 e2 (by have := h.l.ch.size; simp; omega) h0 hs hl)
theorem num_on (B : Nat) (w w1 : World) (p qb t i : Nat) (bv : Value) (cs : Array Value) (xs : List Int) (n : Int) (size : Nat) (h : On B w p bv qb cs t xs w1) (hne : qb ≠ p) (ht : t ≠ 5) (hc : cs[i]? = some (.int .u64 n)) (hBw : B ≤ w.heap.size) (h0 : 0 ≤ n) (hs : size ≤ 8) (hl : xs.length ≤ 1000000) :
    Calls Try.prog 41 #[.pointer (some ⟨p, 0, none⟩), .pointer (some ⟨qb, i, none⟩), .int .i64 size] w1 fun e w' => e = .returned (.tuple #[]) ∧ On B w p bv qb cs t (xs ++ be size n) w' := by
  obtain ⟨⟨⟨bv', ⟨hp, hat⟩⟩, hch⟩, hq⟩ := h
  have hn := Kd.R_ne hp.row hq (fun e => ht e.symm)
  refine (number_put B w1 p bv' xs ⟨qb, i, none⟩ n size hp ((blk_cell hq i).trans hc) hne hn (Nat.le_trans hBw hch.size) h0 hs hl).mono ?_
  rintro e w' ⟨rfl, hL⟩
  exact ⟨rfl, Laid.then_ hat hch hL, hL.ch.heap hq (by rintro (e | e); exact hne e; exact hn e)⟩
/-- A cell of the thing is stored what it holds. -/
theorem On.same {B : Nat} {w w1 : World} {p qb t i : Nat} {bv v : Value} {cs : Array Value} {xs : List Int} (h : On B w p bv qb cs t xs w1) (hne : qb ≠ p) (ht : t ≠ 5) (hc : cs[i]? = some v) : On B w p bv qb cs t xs (w1.setCell ⟨qb, i, none⟩ v) := by
  obtain ⟨⟨⟨bv', ⟨hp, hat⟩⟩, hch⟩, hq⟩ := h
  have hn := Kd.R_ne hp.row hq (fun e => ht e.symm)
  have hcell := (blk_cell hq i).trans hc
  have hs2 := Ch.same (Ch.refl (fun _ => False) w1) hcell
  exact ⟨⟨⟨bv', And.intro (hp.step hs2 (fun h => h) (fun _ _ h => h)) hat⟩, hch.same hcell⟩, hs2.heap hq (fun h => h)⟩
set_option maxRecDepth 100000 in
set_option maxHeartbeats 400000 in
theorem truth_put (B : Nat) (w w1 : World) (p qb t i : Nat) (bv : Value) (cs : Array Value) (xs : List Int) (b : Bool) (h : On B w p bv qb cs t xs w1) (hne : qb ≠ p) (ht : t ≠ 5) (hc : cs[i]? = some (.bool b)) (hBw : B ≤ w.heap.size) (hl : xs.length ≤ 1000000) :
    Calls Try.prog 43 #[.pointer (some ⟨p, 0, none⟩), .pointer (some ⟨qb, i, none⟩)] w1 fun e w' => e = .returned (.bool true) ∧ On B w p bv qb cs t (xs ++ be 1 (flag b)) w' := by
  have hgc := (blk_cell h.q i).trans hc
  have hgf := blk_frozen h.q i
  have C1 := int_new B w w1 p qb t bv cs xs (flag b) 1 h hne ht hBw (by cases b <;> decide) (by cases b <;> decide) (by decide) hl
  have hlt1 := blk_lt h.q
  have hga : ∀ z, (w1.alloc z).cell? ⟨qb, i, none⟩ = some (.bool b) := fun z => pw_cell_below (below_alloc (Below.refl _ _) z) hgc
  have HE := Aside0.mk (And.intro hc (And.intro hne ht))
  clear h
  cases b with
  | true =>
    simp only [flag, if_true, Bool.false_eq_true, if_false] at C1
    go_enter Try.func43, Try.ntmps43
    go_wp2_with fail
    refine C1.mono ?_
    rintro e w2 ⟨rfl, o2, hn2⟩
    have hgc2 := (blk_cell o2.q i).trans hc
    have hgf2 := blk_frozen o2.q i
    obtain ⟨m0, m1⟩ := blk1 hn2
    have hx0 : (w2.setCell ⟨qb, i, none⟩ (.bool true)).cell? ⟨w1.heap.size, 0, none⟩ = some (.int .i64 1) := (World.cell?_of_block (w := w2) (Below.heap_setCell w2 ⟨qb, i, none⟩ _ w1.heap.size (by show w1.heap.size ≠ qb; omega))).trans m0
    have O3 := Aside0.mk (o2.same hne ht hc)
    clear o2 hn2 C1
    go_wp2_with fail
    go_ret
    exact ⟨rfl, O3.out⟩
  | false =>
    simp only [flag, if_true, Bool.false_eq_true, if_false] at C1
    go_enter Try.func43, Try.ntmps43
    go_wp2_with fail
    refine C1.mono ?_
    rintro e w2 ⟨rfl, o2, hn2⟩
    have hgc2 := (blk_cell o2.q i).trans hc
    have hgf2 := blk_frozen o2.q i
    obtain ⟨m0, m1⟩ := blk1 hn2
    have hx0 : (w2.setCell ⟨qb, i, none⟩ (.bool false)).cell? ⟨w1.heap.size, 0, none⟩ = some (.int .i64 0) := (World.cell?_of_block (w := w2) (Below.heap_setCell w2 ⟨qb, i, none⟩ _ w1.heap.size (by show w1.heap.size ≠ qb; omega))).trans m0
    have O3 := Aside0.mk (o2.same hne ht hc)
    clear o2 hn2 C1
    go_wp2_with fail
    go_ret
    exact ⟨rfl, O3.out⟩
end Go.Proofs.Ythkdihpbdaehbaa.Pr
namespace Go.Proofs.Ythkdihpbdaehbaa.Pr
set_option linter.unusedVariables false
set_option linter.unusedSimpArgs false
open Go.RowKit Go.Proofs.YthkdihpbdaehbaaW.PrintWords Go.Proofs.YthkdihpbdaehbaaW.PrintLast Go.Proofs.YthkdihpbdaehbaaW.PrintMore Go.Proofs.Ythkdihpbdaehbaa.Bs
/-- A new variable has been read. -/
structure New (w0 w : World) (p : Nat) (v : Value) (T : Nat) (ys : List Int) (e : Ending) (w' : World) : Prop where
  e : e = .returned (.tuple #[])
  q : w'.heap[w.heap.size]? = some (.cells #[v] T (0, 0))
  s : Src w0 w' p ys
  ch : Ch (fun k => k = p) w w'
theorem New.of {w0 w w2 : World} {p : Nat} {cs : Array Value} {v : Value} {T : Nat} {ys : List Int} {o : Obj} (hcs : cs = #[v]) (hq : w2.heap[w.heap.size]? = some (.cells cs T (0, 0))) (hs : Src w0 w2 p ys) (hch : Ch (fun k => k = p ∨ k = w.heap.size) (w.alloc o) w2) : New w0 w p v T ys (.returned (.tuple #[])) w2 :=
  ⟨rfl, hcs ▸ hq, hs, ((Ch.refl _ w).alloc o).trans (hch.mono (fun k hk _ => hk.elim (fun e => .inl e) (fun e => .inr (by omega))))⟩
theorem int_get_new (w0 w : World) (p : Nat) (n0 v : Int) (xs ys : List Int) (size : Nat) (hn : numP size xs = some (v, ys)) (h : Src w0 w p xs) (hby : Bys xs) (hs7 : size ≤ 7) :
    Calls Try.prog 37 #[.pointer (some ⟨p, 0, none⟩), .pointer (some ⟨w.heap.size, 0, none⟩), .int .i64 size] (w.alloc (.cells #[.int .i64 n0] 3)) (New w0 w p (.int .i64 v) 3 ys) := by
  have hlt := h.lt
  have hz := h.old.size
  refine (int_get w0 (w.alloc (.cells #[.int .i64 n0] 3)) p w.heap.size 0 3 _ n0 v xs ys size hn (h.alloc _) hby (heap_alloc_new w _) rfl (by omega) hz hs7).mono ?_
  rintro e w' ⟨rfl, hq, hs, hch⟩
  exact New.of rfl hq hs hch
theorem int_lost_new (w0 w : World) (p g : Nat) (n0 : Int) (xs : List Int) (size : Nat) (hn : numP size xs = none) (h : Src w0 w p xs) :
    Calls Try.prog 37 #[.pointer (some ⟨p, 0, none⟩), .pointer (some ⟨w.heap.size, 0, none⟩), .int .i64 size] (w.alloc (.cells #[.int .i64 n0] 3)) (LostCh w p g) := by
  have hlt := h.lt
  have hz := h.old.size
  refine (int_lost w0 (w.alloc (.cells #[.int .i64 n0] 3)) p w.heap.size 0 3 _ n0 xs size hn (h.alloc _) (heap_alloc_new w _) rfl (by omega) hz).mono ?_
  rintro e w' ⟨rfl, hch⟩
  exact ⟨rfl, Ch.new _ rfl hch⟩
theorem num_get (w0 w : World) (p g i t : Nat) (cs : Array Value) (n0 v : Int) (xs ys : List Int) (size : Nat) (hn : numP size xs = some (v, ys)) (h : Src w0 w p xs) (hby : Bys xs) (hg : w.heap[g]? = some (.cells cs t (0, 0))) (hi : cs[i]? = some (.int .u64 n0)) (hgp : g ≠ p) (hg0 : w0.heap.size ≤ g) (hs8 : size ≤ 8) :
    Calls Try.prog 41 #[.pointer (some ⟨p, 0, none⟩), .pointer (some ⟨g, i, none⟩), .int .i64 size] w (Stp w0 w p g (cs.setIfInBounds i (.int .u64 v)) t ys) := by
  simp only [numP] at hn
  split at hn
  · cases hn
  · cases hn
    refine (number_get w0 w p g i t cs n0 xs size h hby hg hi hgp hg0 (by omega) hs8).mono ?_
    rintro e w' ⟨rfl, hq, hs, hch⟩
    exact ⟨rfl, hq, hs, hch⟩
theorem num_lost (w0 w : World) (p g i t : Nat) (cs : Array Value) (n0 : Int) (xs : List Int) (size : Nat) (hn : numP size xs = none) (h : Src w0 w p xs) (hg : w.heap[g]? = some (.cells cs t (0, 0))) (hi : cs[i]? = some (.int .u64 n0)) (hgp : g ≠ p) (hg0 : w0.heap.size ≤ g) :
    Calls Try.prog 41 #[.pointer (some ⟨p, 0, none⟩), .pointer (some ⟨g, i, none⟩), .int .i64 size] w (LostCh w p g) := by
  simp only [numP] at hn
  split at hn
  · exact number_lost w0 w p g i t cs n0 xs size h hg hi hgp hg0 (by omega)
  · cases hn
theorem num_get_new (w0 w : World) (p : Nat) (n0 v : Int) (xs ys : List Int) (size : Nat) (hn : numP size xs = some (v, ys)) (h : Src w0 w p xs) (hby : Bys xs) (hs8 : size ≤ 8) :
    Calls Try.prog 41 #[.pointer (some ⟨p, 0, none⟩), .pointer (some ⟨w.heap.size, 0, none⟩), .int .i64 size] (w.alloc (.cells #[.int .u64 n0] 37)) (New w0 w p (.int .u64 v) 37 ys) := by
  have hlt := h.lt
  have hz := h.old.size
  refine (num_get w0 (w.alloc (.cells #[.int .u64 n0] 37)) p w.heap.size 0 37 _ n0 v xs ys size hn (h.alloc _) hby (heap_alloc_new w _) rfl (by omega) hz hs8).mono ?_
  rintro e w' ⟨rfl, hq, hs, hch⟩
  exact New.of rfl hq hs hch
theorem num_lost_new (w0 w : World) (p g : Nat) (n0 : Int) (xs : List Int) (size : Nat) (hn : numP size xs = none) (h : Src w0 w p xs) :
    Calls Try.prog 41 #[.pointer (some ⟨p, 0, none⟩), .pointer (some ⟨w.heap.size, 0, none⟩), .int .i64 size] (w.alloc (.cells #[.int .u64 n0] 37)) (LostCh w p g) := by
  have hlt := h.lt
  have hz := h.old.size
  refine (num_lost w0 (w.alloc (.cells #[.int .u64 n0] 37)) p w.heap.size 0 37 _ n0 xs size hn (h.alloc _) (heap_alloc_new w _) rfl (by omega) hz).mono ?_
  rintro e w' ⟨rfl, hch⟩
  exact ⟨rfl, Ch.new _ rfl hch⟩
/-- A cell of the thing that is read into is stored. -/
theorem Src.put {w0 w : World} {p g : Nat} {xs : List Int} (h : Src w0 w p xs) (hgp : g ≠ p) (hg0 : w0.heap.size ≤ g) (i : Nat) (v : Value) : Src w0 (w.setCell ⟨g, i, none⟩ v) p xs :=
  h.step ((Ch.refl (fun k => k = g) w).setCell (p := ⟨g, i, none⟩) (.inl rfl) v) (fun e => hgp e.symm) (fun k hk => by rw [hk]; exact hg0)
structure StpB (w0 w : World) (p g : Nat) (cs : Array Value) (t : Nat) (ys : List Int) (b : Bool) (e : Ending) (w' : World) : Prop where
  e : e = .returned (.bool b)
  q : w'.heap[g]? = some (.cells cs t (0, 0))
  s : Src w0 w' p ys
  ch : Ch (fun k => k = p ∨ k = g) w w'
set_option maxRecDepth 100000 in
set_option maxHeartbeats 400000 in
theorem truth_lost (w0 w : World) (p g i t : Nat) (cs : Array Value) (xs : List Int) (hn : numP 1 xs = none) (h : Src w0 w p xs) (hg : w.heap[g]? = some (.cells cs t (0, 0))) (hi : cs[i]? = some (.bool false)) :
    Calls Try.prog 43 #[.pointer (some ⟨p, 0, none⟩), .pointer (some ⟨g, i, none⟩)] w (LostCh w p g) := by
  have hgc := (blk_cell hg i).trans hi
  have hgf := blk_frozen hg i
  have hga : ∀ z, (w.alloc z).cell? ⟨g, i, none⟩ = some (.bool false) := fun z => pw_cell_below (below_alloc (Below.refl _ _) z) hgc
  have C1 := int_lost_new w0 w p g 0 xs 1 hn h
  clear h hg hn
  go_enter Try.func43, Try.ntmps43
  go_wp2_with fail
  refine C1.mono ?_
  rintro e w2 ⟨rfl, hch⟩
  exact ⟨rfl, ⟨rfl, hch⟩⟩
set_option maxRecDepth 100000 in
set_option maxHeartbeats 400000 in
theorem truth_get (w0 w : World) (p g i t : Nat) (cs : Array Value) (v : Int) (xs ys : List Int) (hn : numP 1 xs = some (v, ys)) (h : Src w0 w p xs) (hby : Bys xs) (hg : w.heap[g]? = some (.cells cs t (0, 0))) (hi : cs[i]? = some (.bool false)) (hgp : g ≠ p) (hg0 : w0.heap.size ≤ g) :
    Calls Try.prog 43 #[.pointer (some ⟨p, 0, none⟩), .pointer (some ⟨g, i, none⟩)] w (StpB w0 w p g (cs.setIfInBounds i (.bool (v == 1))) t ys (decide (v ≤ 1))) := by
  have hgc := (blk_cell hg i).trans hi
  have hgf := blk_frozen hg i
  have hga : ∀ z, (w.alloc z).cell? ⟨g, i, none⟩ = some (.bool false) := fun z => pw_cell_below (below_alloc (Below.refl _ _) z) hgc
  have C1 := int_get_new w0 w p 0 v xs ys 1 hn h hby (by decide)
  have hlt := blk_lt hg
  have HG := Aside0.mk hg
  clear h hg hn hby
  go_enter Try.func43, Try.ntmps43
  go_wp2_with fail
  refine C1.mono ?_
  rintro e w2 ⟨rfl, hq, hs, hch⟩
  have hg2 := hch.heap HG.out hgp
  have hgc2 := (blk_cell hg2 i).trans hi
  have hgf2 := blk_frozen hg2 i
  obtain ⟨m0, m1⟩ := blk1 hq
  obtain ⟨b, hb⟩ : ∃ b, b = (v == 1) := ⟨_, rfl⟩
  have hx0 : (w2.setCell ⟨g, i, none⟩ (.bool b)).cell? ⟨w.heap.size, 0, none⟩ = some (.int .i64 v) := (World.cell?_of_block (w := w2) (Below.heap_setCell w2 ⟨g, i, none⟩ _ w.heap.size (by show w.heap.size ≠ g; omega))).trans m0
  have hR := Aside0.mk (show StpB w0 w p g (cs.setIfInBounds i (.bool b)) t ys (decide (v ≤ 1)) (.returned (.bool (decide (v ≤ 1)))) (w2.setCell ⟨g, i, none⟩ (.bool b)) from ⟨rfl, blk_upd i _ hg2 rfl, hs.put hgp hg0 i _, (hch.mono (fun k hk _ => .inl hk)).setCell (p := ⟨g, i, none⟩) (.inl (.inr rfl)) _⟩)
  have hb' : (v == 1) = b := hb.symm
  have HB := Aside0.mk hb
  clear hb hg2 hq hs hch C1
  go_wp2_with fail
  go_ret
  rw [← HB.out]
  exact hR.out
end Go.Proofs.Ythkdihpbdaehbaa.Pr
namespace Go.Proofs.Ythkdihpbdaehbaa.Pr
set_option linter.unusedVariables false
set_option linter.unusedSimpArgs false
open Go.RowKit Go.Proofs.YthkdihpbdaehbaaW.PrintWords Go.Proofs.YthkdihpbdaehbaaW.PrintLast Go.Proofs.YthkdihpbdaehbaaW.PrintMore Go.Proofs.Ythkdihpbdaehbaa.Bs
theorem info3 : (Try.prog.info? 3).map (fun i => (i.zero, i.size, i.bytes)) = some (some (.int .i64 0), 1, 8) := by kernel_rfl
theorem size3 : (Try.prog.info? 3).map (·.size) = some 1 := by kernel_rfl
/-- All is laid; the thing may have turned. -/
structure Done (B : Nat) (w : World) (p qb : Nat) (bv : Value) (xs : List Int) (w' : World) : Prop where
  r : ∃ bv', Put B w' p bv' xs
  ch : Ch (fun k => (k = p ∨ some k = bv.ownBlock) ∨ k = qb) w w'
theorem On.done {B : Nat} {w w1 : World} {p qb t : Nat} {bv : Value} {cs : Array Value} {xs : List Int} (h : On B w p bv qb cs t xs w1) : Done B w p qb bv xs w1 := by
  obtain ⟨⟨⟨bv', ⟨hp, hat⟩⟩, hch⟩, hq⟩ := h
  exact ⟨⟨bv', hp⟩, hch.mono (fun k hk _ => .inl hk)⟩
theorem On.done_set {B : Nat} {w w1 : World} {p qb t : Nat} {bv : Value} {cs : Array Value} {xs : List Int} (h : On B w p bv qb cs t xs w1) (hne : qb ≠ p) (ht : t ≠ 5) (i : Nat) (v : Value) : Done B w p qb bv xs (w1.setCell ⟨qb, i, none⟩ v) := by
  obtain ⟨⟨⟨bv', ⟨hp, hat⟩⟩, hch⟩, hq⟩ := h
  have hn := Kd.R_ne hp.row hq (fun e => ht e.symm)
  have hset : Ch (fun k => k = qb) w1 (w1.setCell ⟨qb, i, none⟩ v) := (Ch.refl (fun k => k = qb) w1).setCell (p := ⟨qb, i, none⟩) (.inl rfl) _
  exact ⟨⟨bv', hp.step hset (fun e => hne e.symm) (fun k hk e => hn (e ▸ hk))⟩, (hch.mono (S' := fun k => (k = p ∨ some k = bv.ownBlock) ∨ k = qb) (fun k hk _ => .inl hk)).trans (hset.mono (fun k hk _ => .inl (.inr hk)))⟩
theorem On.below {B : Nat} {w w1 w2 : World} {p qb t : Nat} {bv : Value} {cs : Array Value} {xs : List Int} (h : On B w p bv qb cs t xs w1) (hb : Below w1.heap.size w1 w2) : On B w p bv qb cs t xs w2 := by
  obtain ⟨⟨⟨bv', ⟨hp, hat⟩⟩, hch⟩, hq⟩ := h
  have hs : Ch (fun _ => False) w1 w2 := (Ch.refl _ w1).below hb
  exact ⟨⟨⟨bv', And.intro (hp.step hs (fun h => h) (fun _ _ h => h)) hat⟩, hch.below hb⟩, hs.heap hq (fun h => h)⟩
theorem On.low {B : Nat} {w w1 : World} {p qb t : Nat} {bv : Value} {cs : Array Value} {xs : List Int} (h : On B w p bv qb cs t xs w1) (hB : B ≤ p) (ho : ∀ k, some k = bv.ownBlock → B ≤ k) (hBw : B ≤ w.heap.size) : Below B w w1 :=
  Ch.to_below h.l.ch (fun k hk => hk.elim (fun e => by omega) (ho k)) hBw
def beAll (l : List Int) : List Int := l.flatMap (be 4)
/-- A number that lies anywhere is laid; blocks of other kinds stay. -/
theorem addr_on (B : Nat) (w w1 : World) (p qb t g j T : Nat) (bv : Value) (cs cur : Array Value) (xs : List Int) (n : Int) (size : Nat) (h : On B w p bv qb cs t xs w1) (hne : qb ≠ p) (ht : t ≠ 5) (hg : w1.heap[g]? = some (.cells cur T (0, 0))) (hT : T ≠ 5) (hT2 : T ≠ 56) (hc : cur[j]? = some (.int .i64 n)) (hBw : B ≤ w.heap.size) (h0 : 0 ≤ n) (h1 : n ≤ 9223372036854775807) (hs : size ≤ 8) (hl : xs.length ≤ 1000000) :
    Calls Try.prog 37 #[.pointer (some ⟨p, 0, none⟩), .pointer (some ⟨g, j, none⟩), .int .i64 size] w1 fun e w' => e = .returned (.tuple #[]) ∧ On B w p bv qb cs t (xs ++ be size n) w' ∧ ∀ (g' : Nat) (cur' : Array Value) (T' : Nat), T' ≠ 5 → T' ≠ 56 → w1.heap[g']? = some (.cells cur' T' (0, 0)) → w'.heap[g']? = some (.cells cur' T' (0, 0)) := by
  obtain ⟨⟨⟨bv', ⟨hp, hat⟩⟩, hch⟩, hq⟩ := h
  have hn := Kd.R_ne hp.row hq (fun e => ht e.symm)
  have hpn : ∀ (g' : Nat) (cur' : Array Value) (T' : Nat), T' ≠ 56 → w1.heap[g']? = some (.cells cur' T' (0, 0)) → g' ≠ p := by
    rintro g' cur' T' hT' hg' rfl
    rw [hp.cells] at hg'
    injection hg' with hg'
    injection hg' with _ e _
    exact hT' e.symm
  refine (integer_put B w1 p bv' xs ⟨g, j, none⟩ n size hp ((blk_cell hg j).trans hc) (blk_frozen hg j) (hpn g cur T hT2 hg) (Kd.R_ne hp.row hg (fun e => hT e.symm)) (Nat.le_trans hBw hch.size) h0 h1 hs hl).mono ?_
  rintro e w' ⟨rfl, hL⟩
  refine ⟨rfl, ⟨Laid.then_ hat hch hL, hL.ch.heap hq (by rintro (e | e); exact hne e; exact hn e)⟩, fun g' cur' T' h5 h56 hg' => hL.ch.heap hg' ?_⟩
  rintro (e | e)
  · exact hpn g' cur' T' h56 hg' e
  · exact Kd.R_ne hp.row hg' (fun e => h5 e.symm) e
/-- A row of ints, as it lies. -/
def RowAt (A : Option Addr) (ns : List Int) (w : World) : Prop := ∀ j, j < ns.length → ∃ g cur, A = some ⟨g, 0, none⟩ ∧ w.heap[g]? = some (.cells cur 3 (0, 0)) ∧ cur[j]? = some (.int .i64 (rd ns j))
theorem RowAt.of {A : Option Addr} {c base : Nat} {ns : List Int} {w : World} (h : (Kd.int .i64).R 3 w base (fun _ => True) (.slice A ns.length c) ns) : RowAt A ns w := by
  intro j hj
  have ho := Kd.own_of_R h
  obtain ⟨hl, ⟨he, h0⟩ | ⟨g, cap, cur, he, hb, hcur, hcap, hmax, hsz, htake⟩⟩ := ho
  · omega
  · injection he with he1 he2 he3
    refine ⟨g, cur, he1, hcur, ?_⟩
    have hx : (cur.toList.take (ns.length * 1))[j]? = (encs (Value.int .i64) ns)[j]? := by rw [htake]
    rw [List.getElem?_take, if_pos (by omega)] at hx
    rw [← Array.getElem?_toList, hx]
    simp [encs, rd, List.getD_eq_getElem?_getD, List.getElem?_eq_getElem hj]
structure LayAll (B : Nat) (w : World) (p qb t : Nat) (bv : Value) (cs : Array Value) (xs ns : List Int) (A : Option Addr) (j : Nat) (wr : World) : Prop where
  hj : j ≤ ns.length
  o : On B w p bv qb cs t (xs ++ be 2 ns.length ++ beAll (ns.take j)) wr
  r : RowAt A ns wr
theorem beAll_len (l : List Int) : (beAll l).length = 4 * l.length := by
  induction l with
  | nil => rfl
  | cons a l ih => rw [beAll, List.flatMap_cons, List.length_append, be_length, ← beAll, ih, List.length_cons]; omega
set_option maxRecDepth 100000 in
set_option maxHeartbeats 1000000 in
theorem nodes_put (B : Nat) (w w1 : World) (p qb t i : Nat) (bv : Value) (cs : Array Value) (xs : List Int) (A : Option Addr) (c : Nat) (ns : List Int) (h : On B w p bv qb cs t xs w1) (hne : qb ≠ p) (ht : t ≠ 5) (hc : cs[i]? = some (.slice A ns.length c)) (hBw : B ≤ w.heap.size)
    (hC : ∀ W, Below B w W → (Kd.int .i64).C W A ns.length ns) (hn : ns.length ≤ 1000) (hns : ∀ x ∈ ns, 0 ≤ x ∧ x ≤ 2147483647) (hB : B ≤ p) (ho : ∀ k, some k = bv.ownBlock → B ≤ k) (hl : xs.length ≤ 900000) :
    Calls Try.prog 42 #[.pointer (some ⟨p, 0, none⟩), .pointer (some ⟨qb, i, none⟩)] w1 fun e w' => e = .returned (.tuple #[]) ∧ Done B w p qb bv (xs ++ be 2 ns.length ++ beAll ns) w' := by
  have hgc := (blk_cell h.q i).trans hc
  have hgf := blk_frozen h.q i
  have C1 := int_new B w w1 p qb t bv cs xs ns.length 2 h hne ht hBw (by omega) (by omega) (by decide) (by omega)
  have hn' : ¬ 1000 < (ns.length : Int) := by omega
  clear h
  go_enter Try.func42, Try.ntmps42
  go_wp2_with fail
  refine C1.mono ?_
  rintro e w2 ⟨rfl, o2, hn2⟩
  have hgc2 := (blk_cell o2.q i).trans hc
  have hgf2 := blk_frozen o2.q i
  obtain ⟨m0, m1⟩ := blk1 hn2
  have O2 := Aside0.mk o2
  have HN2 := Aside0.mk hn2
  clear o2 hn2 C1
  go_wp2_with (first | ((with_reducible refine gate_dst (N := 18) rfl ?_); go_loud (refine Kd.R_make (Kd.int .i64) (w0 := w2) (W := w2) w2.heap.size 3 rfl (N := 18) rfl 38 (.tmp 17) (.tmp 17) rfl (ns.length : Int) rfl rfl Try.underlying38 (.int .i64 0) 8 info3 rfl (by decide) (by decide) 0 (ok := fun _ => True) (okp := fun _ => False) rfl (fun _ _ => trivial) trivial (by omega) (by simp; omega) (Below.refl _ _) (Nat.le_refl _) ?_); intro v3 w3 hr hb hg hnew; have HB3 := Aside0.mk hb; have o3 := O2.out.below hb; have hgc3 := (blk_cell o3.q i).trans hc; have hgf3 := blk_frozen o3.q i; have HC3 := Aside0.mk (hC w3 (o3.low hB ho hBw)); have O3 := Aside0.mk o3; clear o3; obtain ⟨A3, c3, rfl⟩ := Kd.R_slice hr; rw [List.length_replicate, Int.toNat_natCast] at hr; have HR3 := Aside0.mk hr; clear hr hb hg hnew) | ((with_reducible refine gate_dst (N := 23) rfl ?_); go_loud (refine Kd.R_copy (enc := Value.int .i64) (h1 := fun _ => rfl) (0 : Int) (w0 := w2) (W := w3) w2.heap.size rfl (.tmp 19) (.tmp 22) 38 38 3 rfl Try.underlying38 size3 _ (List.replicate ns.length 0) ns A _ c (fun _ => True) rfl rfl HR3.out HC3.out HB3.out HB3.out.size ?_); intro w4 hr hb hg; rw [List.length_replicate, Nat.min_self, List.take_length, List.drop_eq_nil_of_le (by rw [List.length_replicate]; exact Nat.le_refl _), List.append_nil] at hr; have HR4 := Aside0.mk (RowAt.of (A := A3) (c := c3) hr); have O4 := Aside0.mk (O2.out.below hb); clear hr hb hg))
  clear hgc hgf hgc2 hgf2 hgc3 hgf3 m0 m1
  go_loopw [6, 26] (fun v6 v26 wr => ∃ j : Nat, v26 = .int .i64 j ∧ LayAll B w p qb t bv cs xs ns A3 j wr) (fun v6 v26 _ => (ns.length - intOf v26).toNat)
  case atStart => exact ⟨0, rfl, ⟨Nat.zero_le _, by rw [List.take_zero]; show On B w p bv qb cs t (xs ++ be 2 ns.length ++ []) w4; rw [List.append_nil]; exact O4.out, HR4.out⟩⟩
  case round =>
    obtain ⟨j, rfl, ⟨hj, ho, hrow⟩⟩ := hrel
    by_cases hjs : j < ns.length
    · have hjs' : (j : Int) < ns.length := by omega
      obtain ⟨g, cur, rfl, hg, hcj⟩ := hrow j hjs
      have hm : rd ns j ∈ ns := by
        have : rd ns j = ns[j] := by simp [rd, List.getD_eq_getElem?_getD, hjs]
        rw [this]; exact List.getElem_mem hjs
      obtain ⟨y0, y1⟩ := hns _ hm
      have C2 := addr_on B w wr p qb t g j 3 bv cs cur _ (rd ns j) 4 ho hne ht hg (by decide) (by decide) hcj hBw y0 (by omega) (by decide) (by simp [be_length, beAll_len]; omega)
      have hnext : beAll (ns.take (j + 1)) = beAll (ns.take j) ++ be 4 (rd ns j) := by
        rw [List.take_succ_eq_append_getElem hjs, beAll, List.flatMap_append, ← beAll]
        simp [rd, List.getD_eq_getElem?_getD, hjs]
      have HNX := Aside0.mk hnext
      have HROW := Aside0.mk hrow
      clear ho hrow hg hcj hnext
      go_wp2_with fail
      refine C2.mono ?_
      rintro e w5 ⟨rfl, o5, hk5⟩
      have HREL := Aside0.mk (show LayAll B w p qb t bv cs xs ns (some ⟨g, 0, none⟩) (j + 1) w5 from ⟨hjs, by rw [HNX.out, ← List.append_assoc]; exact o5, fun i' hi' => by
        obtain ⟨g', cur', e', hg', hc'⟩ := HROW.out i' hi'
        exact ⟨g', cur', e', hk5 g' cur' 3 (by decide) (by decide) hg', hc'⟩⟩)
      clear o5 hk5 C2
      go_wp2
      go_roundw
      case rel => exact ⟨j + 1, rfl, HREL.out⟩
      case measure => simp [intOf]; omega
    · have hjs' : ¬ (j : Int) < ns.length := by omega
      have hj2 : j = ns.length := by omega
      subst hj2
      rw [List.take_length] at ho
      have hgc5 := (blk_cell ho.q i).trans hc
      have hgf5 := blk_frozen ho.q i
      have HD := Aside0.mk (show ∀ v, Done B w p qb bv (xs ++ be 2 ns.length ++ beAll ns) (wr.setCell ⟨qb, i, none⟩ v) from fun v => ho.done_set hne ht i v)
      clear ho hrow
      go_wp2
      refine bodyPost_end (results_none rfl _ _ _) rfl ?_
      exact ⟨rfl, by rw [← List.append_assoc]; exact HD.out _⟩
end Go.Proofs.Ythkdihpbdaehbaa.Pr
namespace Go.Proofs.Ythkdihpbdaehbaa.Pr
set_option linter.unusedVariables false
set_option linter.unusedSimpArgs false
open Go.RowKit Go.Proofs.YthkdihpbdaehbaaW.PrintWords Go.Proofs.YthkdihpbdaehbaaW.PrintLast Go.Proofs.YthkdihpbdaehbaaW.PrintMore Go.Proofs.Ythkdihpbdaehbaa.Bs
theorem R_set {w w' : World} {base g n c j : Nat} {L : List Int} {cur : Array Value} {v : Int} (h : (Kd.int .i64).R 3 w base (fun _ => True) (.slice (some ⟨g, 0, none⟩) n c) L) (hg : w.heap[g]? = some (.cells cur 3 (0, 0))) (hg' : w'.heap[g]? = some (.cells (cur.setIfInBounds j (.int .i64 v)) 3 (0, 0))) : (Kd.int .i64).R 3 w' base (fun _ => True) (.slice (some ⟨g, 0, none⟩) n c) (L.set j v) := by
  have hl0 := Kd.R_reads' h
  refine Kd.R_of_own (enc := Value.int .i64) (h1 := fun _ => rfl) ?_ (fun _ _ => trivial)
  obtain ⟨hl, ⟨he, h0⟩ | ⟨g', cap, cur0, he, hb, hcur, hcap, hmax, hsz, htake⟩⟩ := Kd.own_of_R h
  · cases he
  · injection he with he1 he2 he3
    injection he1 with he1
    injection he1 with he1 _ _
    subst he1 he3
    rw [hg] at hcur
    injection hcur with hcur
    injection hcur with hcur _ _
    subst hcur
    refine ⟨by rw [List.length_set]; simp [encs] , .inr ⟨g, c, _, by rw [List.length_set, ← he2], hb, hg', by rw [List.length_set]; exact hcap, hmax, by rw [Array.size_setIfInBounds]; exact hsz, ?_⟩⟩
    rw [List.length_set, Array.toList_setIfInBounds, List.take_set, htake]
    simp [encs, List.map_set]
def intsP : Nat → List Int → Option (List Int × List Int)
  | 0, xs => some ([], xs)
  | k + 1, xs => match numP 4 xs with | none => none | some (v, ys) => match intsP k ys with | none => none | some (l, zs) => some (v :: l, zs)
def nodesP (xs : List Int) : Option (List Int × List Int) := match numP 2 xs with | none => none | some (n, ys) => if 1000 < n then none else intsP n.toNat ys
/-- Behind those that have been read. -/
def behind (D : List Int) (r : Option (List Int × List Int)) : Option (List Int × List Int) := match r with | none => none | some (l, zs) => some (D ++ l, zs)
theorem behind_nil (r : Option (List Int × List Int)) : behind [] r = r := by cases r <;> rfl
theorem behind_next (D : List Int) (k : Nat) (xs ys : List Int) (v : Int) (hn : numP 4 xs = some (v, ys)) : behind D (intsP (k + 1) xs) = behind (D ++ [v]) (intsP k ys) := by
  rw [intsP, hn]
  simp only []
  cases intsP k ys with
  | none => rfl
  | some r => simp [behind]
theorem behind_lost (D : List Int) (k : Nat) (xs : List Int) (hn : numP 4 xs = none) : behind D (intsP (k + 1) xs) = none := by
  rw [intsP, hn]; rfl
structure NGet (w0 w : World) (p g i t : Nat) (cs : Array Value) (l ys : List Int) (e : Ending) (w' : World) : Prop where
  e : e = .returned (.tuple #[])
  q : ∃ A c, w'.heap[g]? = some (.cells (cs.setIfInBounds i (.slice A l.length c)) t (0, 0)) ∧ (Kd.int .i64).R 3 w' w.heap.size (fun _ => True) (.slice A l.length c) l
  s : Src w0 w' p ys
  ch : Ch (fun k => k = p ∨ k = g) w w'
def NRes (w0 w : World) (p g i t : Nat) (cs : Array Value) (r : Option (List Int × List Int)) (e : Ending) (w' : World) : Prop :=
  match r with
  | none => LostCh w p g e w'
  | some (l, ys) => NGet w0 w p g i t cs l ys e w'
structure NRel (w0 w : World) (p g t : Nat) (cs : Array Value) (R : Option (List Int × List Int)) (A : Option Addr) (n c j : Nat) (wr : World) : Prop where
  hj : j ≤ n
  r : ∃ D ys, D.length = j ∧ (Kd.int .i64).R 3 wr w.heap.size (fun _ => True) (.slice A n c) (D ++ List.replicate (n - j) 0) ∧ Src w0 wr p ys ∧ Bys ys ∧ R = behind D (intsP (n - j) ys)
  q : wr.heap[g]? = some (.cells cs t (0, 0))
  ch : Ch (fun k => k = p ∨ k = g) w wr
theorem numP_bound {k : Nat} {xs ys : List Int} {v : Int} (h : Bys xs) (e : numP k xs = some (v, ys)) : 0 ≤ v ∧ v < ((256 ^ k : Nat) : Int) := by
  simp only [numP] at e
  split at e
  · cases e
  · cases e
    exact val_bound k (xs.take k) (by rw [List.length_take]; omega) (fun x hx => h x (List.mem_of_mem_take hx))
set_option maxRecDepth 100000 in
set_option maxHeartbeats 400000 in
theorem nodes_l1 (w0 w : World) (p g i t : Nat) (cs : Array Value) (xs : List Int) (h : Src w0 w p xs) (hg : w.heap[g]? = some (.cells cs t (0, 0))) (hi : cs[i]? = some (.slice none 0 0)) (hn : numP 2 xs = none) :
    Calls Try.prog 42 #[.pointer (some ⟨p, 0, none⟩), .pointer (some ⟨g, i, none⟩)] w (LostCh w p g) := by
  have hgc := (blk_cell hg i).trans hi
  have hgf := blk_frozen hg i
  have C1 := int_lost_new w0 w p g 0 xs 2 hn h
  clear h hg hn
  go_enter Try.func42, Try.ntmps42
  go_wp2_with fail
  refine C1.mono ?_
  rintro e w2 ⟨rfl, hch⟩
  exact ⟨rfl, ⟨rfl, hch⟩⟩
set_option maxRecDepth 100000 in
set_option maxHeartbeats 400000 in
theorem nodes_l2 (w0 w : World) (p g i t : Nat) (cs : Array Value) (xs ys : List Int) (n : Int) (h : Src w0 w p xs) (hby : Bys xs) (hg : w.heap[g]? = some (.cells cs t (0, 0))) (hi : cs[i]? = some (.slice none 0 0)) (hn : numP 2 xs = some (n, ys)) (hbig : 1000 < n) :
    Calls Try.prog 42 #[.pointer (some ⟨p, 0, none⟩), .pointer (some ⟨g, i, none⟩)] w (LostCh w p g) := by
  have hgc := (blk_cell hg i).trans hi
  have hgf := blk_frozen hg i
  have C1 := int_get_new w0 w p 0 n xs ys 2 hn h hby (by decide)
  clear h hg hn
  go_enter Try.func42, Try.ntmps42
  go_wp2_with fail
  refine C1.mono ?_
  rintro e w2 ⟨rfl, hq, hs, hch⟩
  obtain ⟨m0, m1⟩ := blk1 hq
  have HCH := Aside0.mk (hch.mono (S' := fun k => k = p ∨ k = g) (fun k hk _ => .inl hk))
  clear hq hs hch C1
  go_wp2_with fail
  exact ⟨rfl, ⟨rfl, HCH.out⟩⟩
set_option maxRecDepth 100000 in
set_option maxHeartbeats 1000000 in
theorem nodes_g (w0 w : World) (p g i t : Nat) (cs : Array Value) (xs ys : List Int) (n : Int) (h : Src w0 w p xs) (hby : Bys xs) (hg : w.heap[g]? = some (.cells cs t (0, 0))) (hi : cs[i]? = some (.slice none 0 0)) (hgp : g ≠ p) (hg0 : w0.heap.size ≤ g) (ht : t ≠ 3) (hn : numP 2 xs = some (n, ys)) (hbig : ¬ 1000 < n) :
    Calls Try.prog 42 #[.pointer (some ⟨p, 0, none⟩), .pointer (some ⟨g, i, none⟩)] w (NRes w0 w p g i t cs (intsP n.toNat ys)) := by
  have hgc := (blk_cell hg i).trans hi
  have hgf := blk_frozen hg i
  obtain ⟨n0, n1⟩ := numP_bound hby hn
  have hbys := Aside0.mk (numP_bys hby hn)
  have C1 := int_get_new w0 w p 0 n xs ys 2 hn h hby (by decide)
  have HG := Aside0.mk hg
  have hglt := blk_lt hg
  have hz := h.old.size
  clear h hg hn n1 hby
  obtain ⟨m, rfl⟩ := Int.eq_ofNat_of_zero_le n0
  rw [Int.toNat_natCast]
  generalize hR : intsP m ys = R
  have HR := Aside0.mk hR
  clear hR
  go_enter Try.func42, Try.ntmps42
  go_wp2_with fail
  refine C1.mono ?_
  rintro e w2 ⟨rfl, hq, hs, hch⟩
  obtain ⟨m0, m1⟩ := blk1 hq
  have hg2 := hch.heap HG.out hgp
  have hgc2 := (blk_cell hg2 i).trans hi
  have hgf2 := blk_frozen hg2 i
  have HG2 := Aside0.mk hg2
  have HS2 := Aside0.mk hs
  have HCH2 := Aside0.mk hch
  clear hq hs hch C1 hg2
  go_wp2_with (first | ((with_reducible refine gate_dst (N := 18) rfl ?_); go_loud (refine Kd.R_make (Kd.int .i64) (w0 := w2) (W := w2) w2.heap.size 3 rfl (N := 18) rfl 38 (.tmp 17) (.tmp 17) rfl (m : Int) rfl rfl Try.underlying38 (.int .i64 0) 8 info3 rfl (by decide) (by decide) 0 (ok := fun _ => True) (okp := fun _ => False) rfl (fun _ _ => trivial) trivial (by omega) (by simp; omega) (Below.refl _ _) (Nat.le_refl _) ?_); intro v3 w3 hr hb hg hnew; have hb3 : Below w2.heap.size w2 w3 := hb; have HB3 := Aside0.mk hb3; have hg3 := (hb3.block g (blk_lt HG2.out)).trans HG2.out; have hgc3 := (blk_cell hg3 i).trans hi; have hgf3 := blk_frozen hg3 i; have HG3 := Aside0.mk hg3; clear hg3; obtain ⟨A3, c3, rfl⟩ := Kd.R_slice hr; rw [List.length_replicate, Int.toNat_natCast] at hr; have HR3 := Aside0.mk hr; clear hr hb hg hnew hb3) | ((with_reducible refine gate_dst (N := 23) rfl ?_); go_loud (refine Kd.R_copy (enc := Value.int .i64) (h1 := fun _ => rfl) (0 : Int) (w0 := w2) (W := w3) w2.heap.size rfl (.tmp 19) (.tmp 22) 38 38 3 rfl Try.underlying38 size3 _ (List.replicate m 0) [] none 0 0 (fun _ => True) rfl rfl HR3.out (Kd.C_nil _ _) HB3.out HB3.out.size ?_); intro w4 hr hb hg; rw [Nat.zero_min, List.take_zero, List.drop_zero, List.nil_append] at hr; have HR4 := Aside0.mk (Kd.R_lower hr HCH2.out.size); have HB4 := Aside0.mk hb; clear hr hb hg))
  clear hgc hgf hgc2 hgf2 hgc3 hgf3 m0 m1
  go_loopw [6, 26] (fun v6 v26 wr => ∃ j : Nat, v26 = .int .i64 j ∧ NRel w0 w p g t cs R A3 m c3 j wr) (fun v6 v26 _ => (m - intOf v26).toNat)
  case atStart =>
    have hch4 : Ch (fun k => k = p) w w4 := HCH2.out.below HB4.out
    refine ⟨0, rfl, ⟨Nat.zero_le _, ⟨[], ys, rfl, HR4.out, HS2.out.step (S := fun _ => False) ((Ch.refl _ w2).below HB4.out) (fun h => h) (fun _ h => h.elim), hbys.out, ?_⟩, hch4.heap HG.out hgp, hch4.mono (fun k hk _ => .inl hk)⟩⟩
    rw [behind_nil]; exact HR.out.symm
  case round =>
    obtain ⟨j, rfl, ⟨hj, ⟨D, zs, hD, hrow, hsrc, hzs, hR⟩, hq, hch⟩⟩ := hrel
    by_cases hjs : j < m
    · have hjs' : (j : Int) < m := by omega
      obtain ⟨L, hL⟩ : ∃ L, L = D ++ List.replicate (m - j) (0 : Int) := ⟨_, rfl⟩
      have hlen : L.length = m := by rw [hL, List.length_append, hD, List.length_replicate]; omega
      rw [← hL] at hrow
      have hrow1 : (Kd.int .i64).R 3 wr w.heap.size (fun _ => True) (.slice A3 L.length c3) L := by rw [hlen]; exact hrow
      obtain ⟨g', cur, hA, hg', hcj⟩ := RowAt.of hrow1 j (by omega)
      subst hA
      have hb' : w.heap.size ≤ g' := own_base (Kd.own_of_R hrow) g' rfl
      have hrd : rd L j = 0 := by
        simp only [rd, Int.toNat_natCast, hL, List.getD_eq_getElem?_getD]
        rw [List.getElem?_append_right (by omega), List.getElem?_replicate]
        split <;> rfl
      rw [hrd] at hcj
      have hg'p : g' ≠ p := by
        rintro rfl
        obtain ⟨⟨A', c', hc', _, _⟩, _, _⟩ := hsrc
        rw [hg'] at hc'
        injection hc' with hc'
        injection hc' with _ e _
        exact absurd e (by decide)
      have hg'g : g' ≠ g := by omega
      have hset : ∀ v, L.set j v = (D ++ [v]) ++ List.replicate (m - (j + 1)) 0 := by
        intro v
        rw [hL, List.set_append_right _ _ (by omega), show j - D.length = 0 by omega, show m - j = (m - (j + 1)) + 1 by omega, List.replicate_succ, List.set_cons_zero, List.append_assoc]
        rfl
      cases hn4 : numP 4 zs with
      | none =>
        have C2 := int_lost w0 wr p g' j 3 cur 0 zs 4 hn4 hsrc hg' hcj hg'p (by omega)
        have hRn : R = none := by rw [hR, show m - j = (m - (j + 1)) + 1 by omega, behind_lost D _ zs hn4]
        have HRn := Aside0.mk hRn
        have HCH := Aside0.mk hch
        clear hrow hrow1 hsrc hg' hcj hR hRn hq hch hset
        go_wp2_with fail
        refine C2.mono ?_
        rintro e w5 ⟨rfl, hch5⟩
        refine ⟨rfl, ?_⟩
        rw [HRn.out]
        exact ⟨rfl, HCH.out.trans (hch5.mono (fun k hk _ => hk.elim (fun e => .inl (.inl e)) (fun e => .inr (by omega))))⟩
      | some r =>
        obtain ⟨v, zs'⟩ := r
        have C2 := int_get w0 wr p g' j 3 cur 0 v zs zs' 4 hn4 hsrc hzs hg' hcj hg'p (by omega) (by decide)
        have hRn : R = behind (D ++ [v]) (intsP (m - (j + 1)) zs') := by rw [hR, show m - j = (m - (j + 1)) + 1 by omega, behind_next D _ zs zs' v hn4]
        have HRn := Aside0.mk hRn
        have HCH := Aside0.mk hch
        have HQ := Aside0.mk hq
        have HZ := Aside0.mk (numP_bys hzs hn4)
        have HRW := Aside0.mk (show ∀ w5 : World, w5.heap[g']? = some (.cells (cur.setIfInBounds j (.int .i64 v)) 3 (0, 0)) → (Kd.int .i64).R 3 w5 w.heap.size (fun _ => True) (.slice (some ⟨g', 0, none⟩) m c3) ((D ++ [v]) ++ List.replicate (m - (j + 1)) 0) from fun w5 h5 => by rw [← hset]; exact R_set hrow hg' h5)
        clear hrow hrow1 hsrc hg' hcj hR hRn hq hch hset hn4 hzs hrd
        go_wp2_with fail
        refine C2.mono ?_
        rintro e w5 ⟨rfl, hq5, hs5, hch5⟩
        have HREL := Aside0.mk (show NRel w0 w p g t cs R (some ⟨g', 0, none⟩) m c3 (j + 1) w5 from ⟨hjs, ⟨D ++ [v], zs', by rw [List.length_append, hD]; rfl, HRW.out w5 hq5, hs5, HZ.out, HRn.out⟩, hch5.heap HQ.out (by rintro (e | e); exact hgp e; exact hg'g e.symm), HCH.out.trans (hch5.mono (fun k hk _ => hk.elim (fun e => .inl (.inl e)) (fun e => .inr (by omega))))⟩)
        clear hq5 hs5 hch5 C2
        go_wp2
        go_roundw
        case rel => exact ⟨j + 1, rfl, HREL.out⟩
        case measure => simp [intOf]; omega
    · have hjs' : ¬ (j : Int) < m := by omega
      have hj2 : j = m := by omega
      subst hj2
      rw [Nat.sub_self] at hrow hR
      have hRs : R = some (D, zs) := by rw [hR]; simp [intsP, behind]
      have hgc5 := (blk_cell hq i).trans hi
      have hgf5 := blk_frozen hq i
      rw [List.replicate_zero, List.append_nil] at hrow
      subst hD
      have hR2 : (Kd.int .i64).R 3 (wr.setCell ⟨g, i, none⟩ (.slice A3 D.length c3)) w.heap.size (fun _ => True) (.slice A3 D.length c3) D := by
        have hn := Kd.R_ne hrow hq (fun e => ht e.symm)
        refine Kd.R_mono (Kd.R_step (Kd.R_of_own (ok := fun k => some k = (Value.slice A3 D.length c3).ownBlock) (Kd.own_of_R hrow) (fun k hk => hk.symm)) (fun k hk _ => Below.heap_setCell _ _ _ _ (fun e => hn (by have e' : k = g := e; rw [← e']; exact hk)))) (fun _ _ => trivial)
      have HD := Aside0.mk (show NRes w0 w p g i t cs R (.returned (.tuple #[])) (wr.setCell ⟨g, i, none⟩ (.slice A3 D.length c3)) from by
        rw [hRs]
        exact ⟨rfl, ⟨A3, c3, blk_upd i _ hq rfl, hR2⟩, hsrc.put hgp hg0 i _, hch.setCell (p := ⟨g, i, none⟩) (.inl (.inr rfl)) _⟩)
      clear hrow hR hRs hR2 hsrc hzs hq hch
      go_wp2
      refine bodyPost_end (results_none rfl _ _ _) rfl ?_
      exact HD.out
end Go.Proofs.Ythkdihpbdaehbaa.Pr
namespace Go.Proofs.Ythkdihpbdaehbaa.Pr
set_option linter.unusedVariables false
set_option linter.unusedSimpArgs false
open Go.RowKit Go.Proofs.YthkdihpbdaehbaaW.PrintWords Go.Proofs.YthkdihpbdaehbaaW.PrintLast Go.Proofs.YthkdihpbdaehbaaW.PrintMore Go.Proofs.Ythkdihpbdaehbaa.Bs
theorem blk12 {w : World} {g t : Nat} {a0 a1 a2 a3 a4 a5 a6 a7 a8 a9 a10 a11 : Value} (h : w.heap[g]? = some (.cells #[a0, a1, a2, a3, a4, a5, a6, a7, a8, a9, a10, a11] t (0, 0))) : w.cell? ⟨g, 0, none⟩ = some a0 ∧ w.cell? ⟨g, 1, none⟩ = some a1 ∧ w.cell? ⟨g, 2, none⟩ = some a2 ∧ w.cell? ⟨g, 3, none⟩ = some a3 ∧ w.cell? ⟨g, 4, none⟩ = some a4 ∧ w.cell? ⟨g, 5, none⟩ = some a5 ∧ w.cell? ⟨g, 6, none⟩ = some a6 ∧ w.cell? ⟨g, 7, none⟩ = some a7 ∧ w.cell? ⟨g, 8, none⟩ = some a8 ∧ w.cell? ⟨g, 9, none⟩ = some a9 ∧ w.cell? ⟨g, 10, none⟩ = some a10 ∧ w.cell? ⟨g, 11, none⟩ = some a11 ∧ ∀ i, w.frozen? ⟨g, i, none⟩ = false :=
  ⟨blk_cell h 0, blk_cell h 1, blk_cell h 2, blk_cell h 3, blk_cell h 4, blk_cell h 5, blk_cell h 6, blk_cell h 7, blk_cell h 8, blk_cell h 9, blk_cell h 10, blk_cell h 11, fun i => blk_frozen h i⟩
/-- What RightRep lets through, as bounds. -/
structure Rp.small (r : Rp) : Prop where
  k : 0 ≤ r.kind ∧ r.kind ≤ 6
  e : 0 ≤ r.err ∧ r.err ≤ 65535
  x : 0 ≤ r.txn ∧ r.txn ≤ 2147483647
  i : 0 ≤ r.id ∧ r.id ≤ 2147483647
  t : 0 ≤ r.time
  s : r.s.size ≤ 65535
  vt : 0 ≤ r.vt ∧ r.vt ≤ 4
  n : r.nodes.length ≤ 1000
  ns : ∀ x ∈ r.nodes, 0 ≤ x ∧ x ≤ 2147483647
  g : 0 ≤ r.tag ∧ r.tag ≤ 255
  v : -9223372036854775808 ≤ r.vv ∧ r.vv ≤ 9223372036854775807
  vs : r.vs.size ≤ 65535
def Rp.head (r : Rp) : List Int := [] ++ be 1 r.kind ++ be 2 r.err ++ be 4 r.txn ++ be 4 r.id ++ be 8 r.time ++ textB r.s ++ be 1 r.vt
def Rp.tail (r : Rp) : List Int := if r.vt = 1 then be 2 r.nodes.length ++ beAll r.nodes else if r.vt = 2 then be 1 (flag r.vb) else if r.vt = 3 then be 1 r.tag ++ be 8 (IntKind.u64.wrap r.vv) else if r.vt = 4 then textB r.vs else []
def Rp.bytes (r : Rp) : List Int := r.head ++ r.tail
/-- The same as addr_on for a number without a sign. -/
theorem addr_num (B : Nat) (w w1 : World) (p qb t g j T : Nat) (bv : Value) (cs cur : Array Value) (xs : List Int) (n : Int) (size : Nat) (h : On B w p bv qb cs t xs w1) (hne : qb ≠ p) (ht : t ≠ 5) (hg : w1.heap[g]? = some (.cells cur T (0, 0))) (hT : T ≠ 5) (hT2 : T ≠ 56) (hc : cur[j]? = some (.int .u64 n)) (hBw : B ≤ w.heap.size) (h0 : 0 ≤ n) (hs : size ≤ 8) (hl : xs.length ≤ 1000000) :
    Calls Try.prog 41 #[.pointer (some ⟨p, 0, none⟩), .pointer (some ⟨g, j, none⟩), .int .i64 size] w1 fun e w' => e = .returned (.tuple #[]) ∧ On B w p bv qb cs t (xs ++ be size n) w' ∧ ∀ (g' : Nat) (cur' : Array Value) (T' : Nat), T' ≠ 5 → T' ≠ 56 → w1.heap[g']? = some (.cells cur' T' (0, 0)) → w'.heap[g']? = some (.cells cur' T' (0, 0)) := by
  obtain ⟨⟨⟨bv', ⟨hp, hat⟩⟩, hch⟩, hq⟩ := h
  have hn := Kd.R_ne hp.row hq (fun e => ht e.symm)
  have hpn : ∀ (g' : Nat) (cur' : Array Value) (T' : Nat), T' ≠ 56 → w1.heap[g']? = some (.cells cur' T' (0, 0)) → g' ≠ p := by
    rintro g' cur' T' hT' hg' rfl
    rw [hp.cells] at hg'
    injection hg' with hg'
    injection hg' with _ e _
    exact hT' e.symm
  refine (number_put B w1 p bv' xs ⟨g, j, none⟩ n size hp ((blk_cell hg j).trans hc) (hpn g cur T hT2 hg) (Kd.R_ne hp.row hg (fun e => hT e.symm)) (Nat.le_trans hBw hch.size) h0 hs hl).mono ?_
  rintro e w' ⟨rfl, hL⟩
  refine ⟨rfl, ⟨Laid.then_ hat hch hL, hL.ch.heap hq (by rintro (e | e); exact hne e; exact hn e)⟩, fun g' cur' T' h5 h56 hg' => hL.ch.heap hg' ?_⟩
  rintro (e | e)
  · exact hpn g' cur' T' h56 hg' e
  · exact Kd.R_ne hp.row hg' (fun e => h5 e.symm) e
set_option maxRecDepth 100000 in
set_option maxHeartbeats 1000000 in
theorem rput_0 (B : Nat) (w : World) (p qb : Nat) (bv : Value) (r : Rp) (A : Option Addr) (c : Nat) (hON : On B w p bv qb (r.cells (.slice A r.nodes.length c)) 44 [] w) (hne : qb ≠ p) (hB : B ≤ w.heap.size) (hBp : B ≤ p) (ho : ∀ k, some k = bv.ownBlock → B ≤ k) (hC : ∀ W, Below B w W → (Kd.int .i64).C W A r.nodes.length r.nodes) (hs : r.small) (hv : ¬ r.vt = 1 ∧ ¬ r.vt = 2 ∧ ¬ r.vt = 3 ∧ ¬ r.vt = 4) :
    Calls Try.prog 33 #[.pointer (some ⟨p, 0, none⟩), .pointer (some ⟨qb, 0, none⟩)] w fun e w' => e = .returned (.bool true) ∧ Done B w p qb bv r.bytes w' := by
  have E := Aside0.mk (show r.bytes = r.head ++ r.tail from rfl)
  have ET := Aside0.mk (show r.tail = [] by simp [Rp.tail, hv])
  have V := Aside0.mk hv
  obtain ⟨⟨ka, kb⟩, ⟨ea, eb⟩, ⟨xa, xb⟩, ⟨ia, ib⟩, ta, ss, ⟨va, vb'⟩, nl, nn, ⟨ga, gb⟩, ⟨wa, wb⟩, vl⟩ := hs
  obtain ⟨k, er, tx, id, ti, vt, ns, vb, tag, vv, vs, s⟩ := r
  simp only [Rp.cells] at *
  have b1 : (vt == 1) = false := by simp; omega
  have b2 : (vt == 2) = false := by simp; omega
  have b3 : (vt == 3) = false := by simp; omega
  have b4 : (vt == 4) = false := by simp; omega
  clear hv
  have ON0 := hON
  clear hON
  go_enter Try.func33, Try.ntmps33
  go_wp2_with fail
  refine (int_on B w w p qb 44 0 bv _ _ k 1 ON0 hne (by decide) rfl hB (by omega) (by omega) (by decide) (by simp)).mono ?_
  rintro e w1 ⟨rfl, o1⟩
  obtain ⟨c0, c1, c2, c3, c4, c5, c6, c7, c8, c9, c10, c11, c12⟩ := blk12 o1.q
  have O1 := Aside0.mk o1
  clear o1
  go_wp2_with fail
  refine (int_new B w w1 p qb 44 bv _ _ er 2 O1.out hne (by decide) hB (by omega) (by omega) (by decide) (by simp [be_length, textB_len]; try omega)).mono ?_
  rintro e w2 ⟨rfl, o2, hn2⟩
  have hx0 := (blk_cell hn2 0).trans (show _ = some (.int .i64 er) from rfl)
  clear hn2
  clear c0 c1 c2 c3 c4 c5 c6 c7 c8 c9 c10 c11 c12
  obtain ⟨c0, c1, c2, c3, c4, c5, c6, c7, c8, c9, c10, c11, c12⟩ := blk12 o2.q
  have O2 := Aside0.mk o2
  clear o2
  have o3 := O2.out.same hne (by decide) (i := 1) (v := .int .i64 er) rfl
  go_wp2_with fail
  refine (int_on B w _ p qb 44 2 bv _ _ tx 4 o3 hne (by decide) rfl hB (by omega) (by omega) (by decide) (by simp [be_length, textB_len]; try omega)).mono ?_
  rintro e w4 ⟨rfl, o4⟩
  clear o3 hx0
  clear c0 c1 c2 c3 c4 c5 c6 c7 c8 c9 c10 c11 c12
  obtain ⟨c0, c1, c2, c3, c4, c5, c6, c7, c8, c9, c10, c11, c12⟩ := blk12 o4.q
  have O4 := Aside0.mk o4
  clear o4
  go_wp2_with fail
  refine (int_on B w w4 p qb 44 3 bv _ _ id 4 O4.out hne (by decide) rfl hB (by omega) (by omega) (by decide) (by simp [be_length, textB_len]; try omega)).mono ?_
  rintro e w5 ⟨rfl, o5⟩
  clear c0 c1 c2 c3 c4 c5 c6 c7 c8 c9 c10 c11 c12
  obtain ⟨c0, c1, c2, c3, c4, c5, c6, c7, c8, c9, c10, c11, c12⟩ := blk12 o5.q
  have O5 := Aside0.mk o5
  clear o5
  go_wp2_with fail
  refine (num_on B w w5 p qb 44 4 bv _ _ ti 8 O5.out hne (by decide) rfl hB (by omega) (by decide) (by simp [be_length, textB_len]; try omega)).mono ?_
  rintro e w6 ⟨rfl, o6⟩
  clear c0 c1 c2 c3 c4 c5 c6 c7 c8 c9 c10 c11 c12
  obtain ⟨c0, c1, c2, c3, c4, c5, c6, c7, c8, c9, c10, c11, c12⟩ := blk12 o6.q
  have O6 := Aside0.mk o6
  clear o6
  go_wp2_with fail
  refine (text_on B w w6 p qb 44 11 bv _ _ s O6.out hne (by decide) rfl hB (by omega) (by simp [be_length, textB_len]; try omega)).mono ?_
  rintro e w7 ⟨rfl, o7⟩
  clear c0 c1 c2 c3 c4 c5 c6 c7 c8 c9 c10 c11 c12
  obtain ⟨c0, c1, c2, c3, c4, c5, c6, c7, c8, c9, c10, c11, c12⟩ := blk12 o7.q
  have O7 := Aside0.mk o7
  clear o7
  go_wp2_with fail
  refine (int_on B w w7 p qb 44 5 bv _ _ vt 1 O7.out hne (by decide) rfl hB (by omega) (by omega) (by decide) (by simp [be_length, textB_len]; try omega)).mono ?_
  rintro e w8 ⟨rfl, o8⟩
  clear c0 c1 c2 c3 c4 c5 c6 c7 c8 c9 c10 c11 c12
  obtain ⟨c0, c1, c2, c3, c4, c5, c6, c7, c8, c9, c10, c11, c12⟩ := blk12 o8.q
  have O8 := Aside0.mk o8
  clear o8
  go_wp2_with fail
  go_ret
  rw [E.out, ET.out]
  exact ⟨rfl, by rw [List.append_nil]; exact O8.out.done⟩
set_option maxRecDepth 100000 in
set_option maxHeartbeats 1000000 in
theorem rput_4 (B : Nat) (w : World) (p qb : Nat) (bv : Value) (r : Rp) (A : Option Addr) (c : Nat) (hON : On B w p bv qb (r.cells (.slice A r.nodes.length c)) 44 [] w) (hne : qb ≠ p) (hB : B ≤ w.heap.size) (hBp : B ≤ p) (ho : ∀ k, some k = bv.ownBlock → B ≤ k) (hC : ∀ W, Below B w W → (Kd.int .i64).C W A r.nodes.length r.nodes) (hs : r.small) (hv : r.vt = 4) :
    Calls Try.prog 33 #[.pointer (some ⟨p, 0, none⟩), .pointer (some ⟨qb, 0, none⟩)] w fun e w' => e = .returned (.bool true) ∧ Done B w p qb bv r.bytes w' := by
  have E := Aside0.mk (show r.bytes = r.head ++ r.tail from rfl)
  have ET := Aside0.mk (show r.tail = textB r.vs by simp [Rp.tail, hv])
  have V := Aside0.mk hv
  obtain ⟨⟨ka, kb⟩, ⟨ea, eb⟩, ⟨xa, xb⟩, ⟨ia, ib⟩, ta, ss, ⟨va, vb'⟩, nl, nn, ⟨ga, gb⟩, ⟨wa, wb⟩, vl⟩ := hs
  obtain ⟨k, er, tx, id, ti, vt, ns, vb, tag, vv, vs, s⟩ := r
  simp only [Rp.cells] at *
  have b1 : (vt == 1) = false := by simp; omega
  have b2 : (vt == 2) = false := by simp; omega
  have b3 : (vt == 3) = false := by simp; omega
  have b4 : (vt == 4) = true := by simp; omega
  clear hv
  have ON0 := hON
  clear hON
  go_enter Try.func33, Try.ntmps33
  go_wp2_with fail
  refine (int_on B w w p qb 44 0 bv _ _ k 1 ON0 hne (by decide) rfl hB (by omega) (by omega) (by decide) (by simp)).mono ?_
  rintro e w1 ⟨rfl, o1⟩
  obtain ⟨c0, c1, c2, c3, c4, c5, c6, c7, c8, c9, c10, c11, c12⟩ := blk12 o1.q
  have O1 := Aside0.mk o1
  clear o1
  go_wp2_with fail
  refine (int_new B w w1 p qb 44 bv _ _ er 2 O1.out hne (by decide) hB (by omega) (by omega) (by decide) (by simp [be_length, textB_len]; try omega)).mono ?_
  rintro e w2 ⟨rfl, o2, hn2⟩
  have hx0 := (blk_cell hn2 0).trans (show _ = some (.int .i64 er) from rfl)
  clear hn2
  clear c0 c1 c2 c3 c4 c5 c6 c7 c8 c9 c10 c11 c12
  obtain ⟨c0, c1, c2, c3, c4, c5, c6, c7, c8, c9, c10, c11, c12⟩ := blk12 o2.q
  have O2 := Aside0.mk o2
  clear o2
  have o3 := O2.out.same hne (by decide) (i := 1) (v := .int .i64 er) rfl
  go_wp2_with fail
  refine (int_on B w _ p qb 44 2 bv _ _ tx 4 o3 hne (by decide) rfl hB (by omega) (by omega) (by decide) (by simp [be_length, textB_len]; try omega)).mono ?_
  rintro e w4 ⟨rfl, o4⟩
  clear o3 hx0
  clear c0 c1 c2 c3 c4 c5 c6 c7 c8 c9 c10 c11 c12
  obtain ⟨c0, c1, c2, c3, c4, c5, c6, c7, c8, c9, c10, c11, c12⟩ := blk12 o4.q
  have O4 := Aside0.mk o4
  clear o4
  go_wp2_with fail
  refine (int_on B w w4 p qb 44 3 bv _ _ id 4 O4.out hne (by decide) rfl hB (by omega) (by omega) (by decide) (by simp [be_length, textB_len]; try omega)).mono ?_
  rintro e w5 ⟨rfl, o5⟩
  clear c0 c1 c2 c3 c4 c5 c6 c7 c8 c9 c10 c11 c12
  obtain ⟨c0, c1, c2, c3, c4, c5, c6, c7, c8, c9, c10, c11, c12⟩ := blk12 o5.q
  have O5 := Aside0.mk o5
  clear o5
  go_wp2_with fail
  refine (num_on B w w5 p qb 44 4 bv _ _ ti 8 O5.out hne (by decide) rfl hB (by omega) (by decide) (by simp [be_length, textB_len]; try omega)).mono ?_
  rintro e w6 ⟨rfl, o6⟩
  clear c0 c1 c2 c3 c4 c5 c6 c7 c8 c9 c10 c11 c12
  obtain ⟨c0, c1, c2, c3, c4, c5, c6, c7, c8, c9, c10, c11, c12⟩ := blk12 o6.q
  have O6 := Aside0.mk o6
  clear o6
  go_wp2_with fail
  refine (text_on B w w6 p qb 44 11 bv _ _ s O6.out hne (by decide) rfl hB (by omega) (by simp [be_length, textB_len]; try omega)).mono ?_
  rintro e w7 ⟨rfl, o7⟩
  clear c0 c1 c2 c3 c4 c5 c6 c7 c8 c9 c10 c11 c12
  obtain ⟨c0, c1, c2, c3, c4, c5, c6, c7, c8, c9, c10, c11, c12⟩ := blk12 o7.q
  have O7 := Aside0.mk o7
  clear o7
  go_wp2_with fail
  refine (int_on B w w7 p qb 44 5 bv _ _ vt 1 O7.out hne (by decide) rfl hB (by omega) (by omega) (by decide) (by simp [be_length, textB_len]; try omega)).mono ?_
  rintro e w8 ⟨rfl, o8⟩
  clear c0 c1 c2 c3 c4 c5 c6 c7 c8 c9 c10 c11 c12
  obtain ⟨c0, c1, c2, c3, c4, c5, c6, c7, c8, c9, c10, c11, c12⟩ := blk12 o8.q
  have O8 := Aside0.mk o8
  clear o8
  go_wp2_with fail
  refine (text_on B w w8 p qb 44 10 bv _ _ vs O8.out hne (by decide) rfl hB (by omega) (by simp [be_length, textB_len]; try omega)).mono ?_
  rintro e w9 ⟨rfl, o9⟩
  have O9 := Aside0.mk o9
  clear o9
  go_wp2_with fail
  go_ret
  rw [E.out, ET.out]
  exact ⟨rfl, O9.out.done⟩
set_option maxRecDepth 100000 in
set_option maxHeartbeats 1000000 in
theorem rput_2 (B : Nat) (w : World) (p qb : Nat) (bv : Value) (r : Rp) (A : Option Addr) (c : Nat) (hON : On B w p bv qb (r.cells (.slice A r.nodes.length c)) 44 [] w) (hne : qb ≠ p) (hB : B ≤ w.heap.size) (hBp : B ≤ p) (ho : ∀ k, some k = bv.ownBlock → B ≤ k) (hC : ∀ W, Below B w W → (Kd.int .i64).C W A r.nodes.length r.nodes) (hs : r.small) (hv : r.vt = 2) :
    Calls Try.prog 33 #[.pointer (some ⟨p, 0, none⟩), .pointer (some ⟨qb, 0, none⟩)] w fun e w' => e = .returned (.bool true) ∧ Done B w p qb bv r.bytes w' := by
  have E := Aside0.mk (show r.bytes = r.head ++ r.tail from rfl)
  have ET := Aside0.mk (show r.tail = be 1 (flag r.vb) by simp [Rp.tail, hv])
  have V := Aside0.mk hv
  obtain ⟨⟨ka, kb⟩, ⟨ea, eb⟩, ⟨xa, xb⟩, ⟨ia, ib⟩, ta, ss, ⟨va, vb'⟩, nl, nn, ⟨ga, gb⟩, ⟨wa, wb⟩, vl⟩ := hs
  obtain ⟨k, er, tx, id, ti, vt, ns, vb, tag, vv, vs, s⟩ := r
  simp only [Rp.cells] at *
  have b1 : (vt == 1) = false := by simp; omega
  have b2 : (vt == 2) = true := by simp; omega
  have b3 : (vt == 3) = false := by simp; omega
  have b4 : (vt == 4) = false := by simp; omega
  clear hv
  have ON0 := hON
  clear hON
  go_enter Try.func33, Try.ntmps33
  go_wp2_with fail
  refine (int_on B w w p qb 44 0 bv _ _ k 1 ON0 hne (by decide) rfl hB (by omega) (by omega) (by decide) (by simp)).mono ?_
  rintro e w1 ⟨rfl, o1⟩
  obtain ⟨c0, c1, c2, c3, c4, c5, c6, c7, c8, c9, c10, c11, c12⟩ := blk12 o1.q
  have O1 := Aside0.mk o1
  clear o1
  go_wp2_with fail
  refine (int_new B w w1 p qb 44 bv _ _ er 2 O1.out hne (by decide) hB (by omega) (by omega) (by decide) (by simp [be_length, textB_len]; try omega)).mono ?_
  rintro e w2 ⟨rfl, o2, hn2⟩
  have hx0 := (blk_cell hn2 0).trans (show _ = some (.int .i64 er) from rfl)
  clear hn2
  clear c0 c1 c2 c3 c4 c5 c6 c7 c8 c9 c10 c11 c12
  obtain ⟨c0, c1, c2, c3, c4, c5, c6, c7, c8, c9, c10, c11, c12⟩ := blk12 o2.q
  have O2 := Aside0.mk o2
  clear o2
  have o3 := O2.out.same hne (by decide) (i := 1) (v := .int .i64 er) rfl
  go_wp2_with fail
  refine (int_on B w _ p qb 44 2 bv _ _ tx 4 o3 hne (by decide) rfl hB (by omega) (by omega) (by decide) (by simp [be_length, textB_len]; try omega)).mono ?_
  rintro e w4 ⟨rfl, o4⟩
  clear o3 hx0
  clear c0 c1 c2 c3 c4 c5 c6 c7 c8 c9 c10 c11 c12
  obtain ⟨c0, c1, c2, c3, c4, c5, c6, c7, c8, c9, c10, c11, c12⟩ := blk12 o4.q
  have O4 := Aside0.mk o4
  clear o4
  go_wp2_with fail
  refine (int_on B w w4 p qb 44 3 bv _ _ id 4 O4.out hne (by decide) rfl hB (by omega) (by omega) (by decide) (by simp [be_length, textB_len]; try omega)).mono ?_
  rintro e w5 ⟨rfl, o5⟩
  clear c0 c1 c2 c3 c4 c5 c6 c7 c8 c9 c10 c11 c12
  obtain ⟨c0, c1, c2, c3, c4, c5, c6, c7, c8, c9, c10, c11, c12⟩ := blk12 o5.q
  have O5 := Aside0.mk o5
  clear o5
  go_wp2_with fail
  refine (num_on B w w5 p qb 44 4 bv _ _ ti 8 O5.out hne (by decide) rfl hB (by omega) (by decide) (by simp [be_length, textB_len]; try omega)).mono ?_
  rintro e w6 ⟨rfl, o6⟩
  clear c0 c1 c2 c3 c4 c5 c6 c7 c8 c9 c10 c11 c12
  obtain ⟨c0, c1, c2, c3, c4, c5, c6, c7, c8, c9, c10, c11, c12⟩ := blk12 o6.q
  have O6 := Aside0.mk o6
  clear o6
  go_wp2_with fail
  refine (text_on B w w6 p qb 44 11 bv _ _ s O6.out hne (by decide) rfl hB (by omega) (by simp [be_length, textB_len]; try omega)).mono ?_
  rintro e w7 ⟨rfl, o7⟩
  clear c0 c1 c2 c3 c4 c5 c6 c7 c8 c9 c10 c11 c12
  obtain ⟨c0, c1, c2, c3, c4, c5, c6, c7, c8, c9, c10, c11, c12⟩ := blk12 o7.q
  have O7 := Aside0.mk o7
  clear o7
  go_wp2_with fail
  refine (int_on B w w7 p qb 44 5 bv _ _ vt 1 O7.out hne (by decide) rfl hB (by omega) (by omega) (by decide) (by simp [be_length, textB_len]; try omega)).mono ?_
  rintro e w8 ⟨rfl, o8⟩
  clear c0 c1 c2 c3 c4 c5 c6 c7 c8 c9 c10 c11 c12
  obtain ⟨c0, c1, c2, c3, c4, c5, c6, c7, c8, c9, c10, c11, c12⟩ := blk12 o8.q
  have O8 := Aside0.mk o8
  clear o8
  go_wp2_with fail
  refine (truth_put B w w8 p qb 44 7 bv _ _ vb O8.out hne (by decide) rfl hB (by simp [be_length, textB_len]; try omega)).mono ?_
  rintro e w9 ⟨rfl, o9⟩
  have O9 := Aside0.mk o9
  clear o9
  go_wp2_with fail
  go_ret
  rw [E.out, ET.out]
  exact ⟨rfl, O9.out.done⟩
set_option maxRecDepth 100000 in
set_option maxHeartbeats 1000000 in
theorem rput_1 (B : Nat) (w : World) (p qb : Nat) (bv : Value) (r : Rp) (A : Option Addr) (c : Nat) (hON : On B w p bv qb (r.cells (.slice A r.nodes.length c)) 44 [] w) (hne : qb ≠ p) (hB : B ≤ w.heap.size) (hBp : B ≤ p) (ho : ∀ k, some k = bv.ownBlock → B ≤ k) (hC : ∀ W, Below B w W → (Kd.int .i64).C W A r.nodes.length r.nodes) (hs : r.small) (hv : r.vt = 1) :
    Calls Try.prog 33 #[.pointer (some ⟨p, 0, none⟩), .pointer (some ⟨qb, 0, none⟩)] w fun e w' => e = .returned (.bool true) ∧ Done B w p qb bv r.bytes w' := by
  have E := Aside0.mk (show r.bytes = r.head ++ r.tail from rfl)
  have ET := Aside0.mk (show r.tail = be 2 r.nodes.length ++ beAll r.nodes by simp [Rp.tail, hv])
  have V := Aside0.mk hv
  obtain ⟨⟨ka, kb⟩, ⟨ea, eb⟩, ⟨xa, xb⟩, ⟨ia, ib⟩, ta, ss, ⟨va, vb'⟩, nl, nn, ⟨ga, gb⟩, ⟨wa, wb⟩, vl⟩ := hs
  obtain ⟨k, er, tx, id, ti, vt, ns, vb, tag, vv, vs, s⟩ := r
  simp only [Rp.cells] at *
  have b1 : (vt == 1) = true := by simp; omega
  have b2 : (vt == 2) = false := by simp; omega
  have b3 : (vt == 3) = false := by simp; omega
  have b4 : (vt == 4) = false := by simp; omega
  clear hv
  have ON0 := hON
  clear hON
  go_enter Try.func33, Try.ntmps33
  go_wp2_with fail
  refine (int_on B w w p qb 44 0 bv _ _ k 1 ON0 hne (by decide) rfl hB (by omega) (by omega) (by decide) (by simp)).mono ?_
  rintro e w1 ⟨rfl, o1⟩
  obtain ⟨c0, c1, c2, c3, c4, c5, c6, c7, c8, c9, c10, c11, c12⟩ := blk12 o1.q
  have O1 := Aside0.mk o1
  clear o1
  go_wp2_with fail
  refine (int_new B w w1 p qb 44 bv _ _ er 2 O1.out hne (by decide) hB (by omega) (by omega) (by decide) (by simp [be_length, textB_len]; try omega)).mono ?_
  rintro e w2 ⟨rfl, o2, hn2⟩
  have hx0 := (blk_cell hn2 0).trans (show _ = some (.int .i64 er) from rfl)
  clear hn2
  clear c0 c1 c2 c3 c4 c5 c6 c7 c8 c9 c10 c11 c12
  obtain ⟨c0, c1, c2, c3, c4, c5, c6, c7, c8, c9, c10, c11, c12⟩ := blk12 o2.q
  have O2 := Aside0.mk o2
  clear o2
  have o3 := O2.out.same hne (by decide) (i := 1) (v := .int .i64 er) rfl
  go_wp2_with fail
  refine (int_on B w _ p qb 44 2 bv _ _ tx 4 o3 hne (by decide) rfl hB (by omega) (by omega) (by decide) (by simp [be_length, textB_len]; try omega)).mono ?_
  rintro e w4 ⟨rfl, o4⟩
  clear o3 hx0
  clear c0 c1 c2 c3 c4 c5 c6 c7 c8 c9 c10 c11 c12
  obtain ⟨c0, c1, c2, c3, c4, c5, c6, c7, c8, c9, c10, c11, c12⟩ := blk12 o4.q
  have O4 := Aside0.mk o4
  clear o4
  go_wp2_with fail
  refine (int_on B w w4 p qb 44 3 bv _ _ id 4 O4.out hne (by decide) rfl hB (by omega) (by omega) (by decide) (by simp [be_length, textB_len]; try omega)).mono ?_
  rintro e w5 ⟨rfl, o5⟩
  clear c0 c1 c2 c3 c4 c5 c6 c7 c8 c9 c10 c11 c12
  obtain ⟨c0, c1, c2, c3, c4, c5, c6, c7, c8, c9, c10, c11, c12⟩ := blk12 o5.q
  have O5 := Aside0.mk o5
  clear o5
  go_wp2_with fail
  refine (num_on B w w5 p qb 44 4 bv _ _ ti 8 O5.out hne (by decide) rfl hB (by omega) (by decide) (by simp [be_length, textB_len]; try omega)).mono ?_
  rintro e w6 ⟨rfl, o6⟩
  clear c0 c1 c2 c3 c4 c5 c6 c7 c8 c9 c10 c11 c12
  obtain ⟨c0, c1, c2, c3, c4, c5, c6, c7, c8, c9, c10, c11, c12⟩ := blk12 o6.q
  have O6 := Aside0.mk o6
  clear o6
  go_wp2_with fail
  refine (text_on B w w6 p qb 44 11 bv _ _ s O6.out hne (by decide) rfl hB (by omega) (by simp [be_length, textB_len]; try omega)).mono ?_
  rintro e w7 ⟨rfl, o7⟩
  clear c0 c1 c2 c3 c4 c5 c6 c7 c8 c9 c10 c11 c12
  obtain ⟨c0, c1, c2, c3, c4, c5, c6, c7, c8, c9, c10, c11, c12⟩ := blk12 o7.q
  have O7 := Aside0.mk o7
  clear o7
  go_wp2_with fail
  refine (int_on B w w7 p qb 44 5 bv _ _ vt 1 O7.out hne (by decide) rfl hB (by omega) (by omega) (by decide) (by simp [be_length, textB_len]; try omega)).mono ?_
  rintro e w8 ⟨rfl, o8⟩
  clear c0 c1 c2 c3 c4 c5 c6 c7 c8 c9 c10 c11 c12
  obtain ⟨c0, c1, c2, c3, c4, c5, c6, c7, c8, c9, c10, c11, c12⟩ := blk12 o8.q
  have O8 := Aside0.mk o8
  clear o8
  go_wp2_with fail
  refine (nodes_put B w w8 p qb 44 6 bv _ _ A c ns O8.out hne (by decide) rfl hB hC (by omega) nn hBp ho (by simp [be_length, textB_len]; try omega)).mono ?_
  rintro e w9 ⟨rfl, o9⟩
  have O9 := Aside0.mk o9
  clear o9
  go_wp2_with fail
  go_ret
  rw [E.out, ET.out]
  exact ⟨rfl, by rw [← List.append_assoc]; exact O9.out⟩
set_option maxRecDepth 100000 in
set_option maxHeartbeats 1000000 in
theorem rput_3 (B : Nat) (w : World) (p qb : Nat) (bv : Value) (r : Rp) (A : Option Addr) (c : Nat) (hON : On B w p bv qb (r.cells (.slice A r.nodes.length c)) 44 [] w) (hne : qb ≠ p) (hB : B ≤ w.heap.size) (hBp : B ≤ p) (ho : ∀ k, some k = bv.ownBlock → B ≤ k) (hC : ∀ W, Below B w W → (Kd.int .i64).C W A r.nodes.length r.nodes) (hs : r.small) (hv : r.vt = 3) :
    Calls Try.prog 33 #[.pointer (some ⟨p, 0, none⟩), .pointer (some ⟨qb, 0, none⟩)] w fun e w' => e = .returned (.bool true) ∧ Done B w p qb bv r.bytes w' := by
  have E := Aside0.mk (show r.bytes = r.head ++ r.tail from rfl)
  have ET := Aside0.mk (show r.tail = be 1 r.tag ++ be 8 (IntKind.u64.wrap r.vv) by simp [Rp.tail, hv])
  have V := Aside0.mk hv
  obtain ⟨⟨ka, kb⟩, ⟨ea, eb⟩, ⟨xa, xb⟩, ⟨ia, ib⟩, ta, ss, ⟨va, vb'⟩, nl, nn, ⟨ga, gb⟩, ⟨wa, wb⟩, vl⟩ := hs
  obtain ⟨k, er, tx, id, ti, vt, ns, vb, tag, vv, vs, s⟩ := r
  simp only [Rp.cells] at *
  have b1 : (vt == 1) = false := by simp; omega
  have b2 : (vt == 2) = false := by simp; omega
  have b3 : (vt == 3) = true := by simp; omega
  have b4 : (vt == 4) = false := by simp; omega
  clear hv
  have ON0 := hON
  clear hON
  go_enter Try.func33, Try.ntmps33
  go_wp2_with fail
  refine (int_on B w w p qb 44 0 bv _ _ k 1 ON0 hne (by decide) rfl hB (by omega) (by omega) (by decide) (by simp)).mono ?_
  rintro e w1 ⟨rfl, o1⟩
  obtain ⟨c0, c1, c2, c3, c4, c5, c6, c7, c8, c9, c10, c11, c12⟩ := blk12 o1.q
  have O1 := Aside0.mk o1
  clear o1
  go_wp2_with fail
  refine (int_new B w w1 p qb 44 bv _ _ er 2 O1.out hne (by decide) hB (by omega) (by omega) (by decide) (by simp [be_length, textB_len]; try omega)).mono ?_
  rintro e w2 ⟨rfl, o2, hn2⟩
  have hx0 := (blk_cell hn2 0).trans (show _ = some (.int .i64 er) from rfl)
  clear hn2
  clear c0 c1 c2 c3 c4 c5 c6 c7 c8 c9 c10 c11 c12
  obtain ⟨c0, c1, c2, c3, c4, c5, c6, c7, c8, c9, c10, c11, c12⟩ := blk12 o2.q
  have O2 := Aside0.mk o2
  clear o2
  have o3 := O2.out.same hne (by decide) (i := 1) (v := .int .i64 er) rfl
  go_wp2_with fail
  refine (int_on B w _ p qb 44 2 bv _ _ tx 4 o3 hne (by decide) rfl hB (by omega) (by omega) (by decide) (by simp [be_length, textB_len]; try omega)).mono ?_
  rintro e w4 ⟨rfl, o4⟩
  clear o3 hx0
  clear c0 c1 c2 c3 c4 c5 c6 c7 c8 c9 c10 c11 c12
  obtain ⟨c0, c1, c2, c3, c4, c5, c6, c7, c8, c9, c10, c11, c12⟩ := blk12 o4.q
  have O4 := Aside0.mk o4
  clear o4
  go_wp2_with fail
  refine (int_on B w w4 p qb 44 3 bv _ _ id 4 O4.out hne (by decide) rfl hB (by omega) (by omega) (by decide) (by simp [be_length, textB_len]; try omega)).mono ?_
  rintro e w5 ⟨rfl, o5⟩
  clear c0 c1 c2 c3 c4 c5 c6 c7 c8 c9 c10 c11 c12
  obtain ⟨c0, c1, c2, c3, c4, c5, c6, c7, c8, c9, c10, c11, c12⟩ := blk12 o5.q
  have O5 := Aside0.mk o5
  clear o5
  go_wp2_with fail
  refine (num_on B w w5 p qb 44 4 bv _ _ ti 8 O5.out hne (by decide) rfl hB (by omega) (by decide) (by simp [be_length, textB_len]; try omega)).mono ?_
  rintro e w6 ⟨rfl, o6⟩
  clear c0 c1 c2 c3 c4 c5 c6 c7 c8 c9 c10 c11 c12
  obtain ⟨c0, c1, c2, c3, c4, c5, c6, c7, c8, c9, c10, c11, c12⟩ := blk12 o6.q
  have O6 := Aside0.mk o6
  clear o6
  go_wp2_with fail
  refine (text_on B w w6 p qb 44 11 bv _ _ s O6.out hne (by decide) rfl hB (by omega) (by simp [be_length, textB_len]; try omega)).mono ?_
  rintro e w7 ⟨rfl, o7⟩
  clear c0 c1 c2 c3 c4 c5 c6 c7 c8 c9 c10 c11 c12
  obtain ⟨c0, c1, c2, c3, c4, c5, c6, c7, c8, c9, c10, c11, c12⟩ := blk12 o7.q
  have O7 := Aside0.mk o7
  clear o7
  go_wp2_with fail
  refine (int_on B w w7 p qb 44 5 bv _ _ vt 1 O7.out hne (by decide) rfl hB (by omega) (by omega) (by decide) (by simp [be_length, textB_len]; try omega)).mono ?_
  rintro e w8 ⟨rfl, o8⟩
  clear c0 c1 c2 c3 c4 c5 c6 c7 c8 c9 c10 c11 c12
  obtain ⟨c0, c1, c2, c3, c4, c5, c6, c7, c8, c9, c10, c11, c12⟩ := blk12 o8.q
  have O8 := Aside0.mk o8
  clear o8
  have hwv : 0 ≤ IntKind.u64.wrap vv := by rw [IntKind.wrap_u64]; omega
  have hi8 : IntKind.i64.wrap (IntKind.u64.wrap vv) = vv := by rw [IntKind.wrap_u64]; simp [IntKind.wrap, IntKind.bits, IntKind.signed]; omega
  have hq9 : (w8.alloc (.cells #[.int .u64 (IntKind.u64.wrap vv)] 37)).heap[w8.heap.size]? = some (.cells #[.int .u64 (IntKind.u64.wrap vv)] 37 (0, 0)) := heap_alloc_new w8 _
  have o9 := O8.out.below (below_alloc (Below.refl _ _) (.cells #[.int .u64 (IntKind.u64.wrap vv)] 37))
  have C9 := addr_on B w _ p qb 44 qb 8 44 bv _ _ _ tag 1 o9 hne (by decide) o9.q (by decide) (by decide) rfl hB ga (by omega) (by decide) (by simp [be_length, textB_len]; try omega)
  clear o9
  go_wp2_with fail
  refine C9.mono ?_
  rintro e w10 ⟨rfl, o10, hk⟩
  have hq10 := hk _ _ 37 (by decide) (by decide) hq9
  have C10 := addr_num B w w10 p qb 44 w8.heap.size 0 37 bv _ _ _ (IntKind.u64.wrap vv) 8 o10 hne (by decide) hq10 (by decide) (by decide) rfl hB hwv (by decide) (by simp [be_length, textB_len]; try omega)
  clear o10 hk C9 hq9
  go_wp2_with fail
  refine C10.mono ?_
  rintro e w11 ⟨rfl, o11, hk⟩
  have hq11 := hk _ _ 37 (by decide) (by decide) hq10
  have hy0 := (blk_cell hq11 0).trans (show _ = some (.int .u64 (IntKind.u64.wrap vv)) from rfl)
  clear c0 c1 c2 c3 c4 c5 c6 c7 c8 c9 c10 c11 c12
  obtain ⟨c0, c1, c2, c3, c4, c5, c6, c7, c8, c9, c10, c11, c12⟩ := blk12 o11.q
  have O11 := Aside0.mk (o11.same hne (by decide) (i := 9) (v := .int .i64 vv) rfl)
  clear o11 hk hq10 hq11 C10
  go_wp2_with fail
  go_ret
  rw [E.out, ET.out]
  exact ⟨rfl, by rw [← List.append_assoc]; exact O11.out.done⟩
theorem reply_put (B : Nat) (w : World) (p qb : Nat) (bv : Value) (r : Rp) (A : Option Addr) (c : Nat) (hON : On B w p bv qb (r.cells (.slice A r.nodes.length c)) 44 [] w) (hne : qb ≠ p) (hB : B ≤ w.heap.size) (hBp : B ≤ p) (ho : ∀ k, some k = bv.ownBlock → B ≤ k) (hC : ∀ W, Below B w W → (Kd.int .i64).C W A r.nodes.length r.nodes) (hs : r.small) :
    Calls Try.prog 33 #[.pointer (some ⟨p, 0, none⟩), .pointer (some ⟨qb, 0, none⟩)] w fun e w' => e = .returned (.bool true) ∧ Done B w p qb bv r.bytes w' := by
  by_cases h1 : r.vt = 1
  · exact rput_1 B w p qb bv r A c hON hne hB hBp ho hC hs h1
  by_cases h2 : r.vt = 2
  · exact rput_2 B w p qb bv r A c hON hne hB hBp ho hC hs h2
  by_cases h3 : r.vt = 3
  · exact rput_3 B w p qb bv r A c hON hne hB hBp ho hC hs h3
  by_cases h4 : r.vt = 4
  · exact rput_4 B w p qb bv r A c hON hne hB hBp ho hC hs h4
  exact rput_0 B w p qb bv r A c hON hne hB hBp ho hC hs ⟨h1, h2, h3, h4⟩
end Go.Proofs.Ythkdihpbdaehbaa.Pr
