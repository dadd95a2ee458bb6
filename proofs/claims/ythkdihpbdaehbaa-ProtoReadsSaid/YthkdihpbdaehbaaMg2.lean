import Derived.Test.YthkdihpbdaehbaaMg1
import Derived.Test.YthkdihpbdaehbaaPrP
namespace Go.Proofs.Ythkdihpbdaehbaa.Pr
set_option linter.unusedVariables false
set_option linter.unusedSimpArgs false
open Go.RowKit Go.Proofs.YthkdihpbdaehbaaW.PrintWords Go.Proofs.YthkdihpbdaehbaaW.PrintLast Go.Proofs.YthkdihpbdaehbaaW.PrintMore Go.Proofs.Ythkdihpbdaehbaa.Bs
def parseRep (xs : List Int) : Option (Rp × Bool × List Int) :=
  match numP 1 xs with
  | none => none
  | some (k, x1) => match numP 2 x1 with
  | none => none
  | some (er, x2) => match numP 4 x2 with
  | none => none
  | some (tx, x3) => match numP 4 x3 with
  | none => none
  | some (id, x4) => match numP 8 x4 with
  | none => none
  | some (ti, x5) => match textP x5 with
  | none => none
  | some (s, x6) => match numP 1 x6 with
  | none => none
  | some (vt, x7) =>
    if vt = 1 then (match nodesP x7 with | none => none | some (l, ys) => some (⟨k, er, tx, id, ti, vt, l, false, 0, 0, nil8, s⟩, true, ys))
    else if vt = 2 then (match numP 1 x7 with | none => none | some (v, ys) => some (⟨k, er, tx, id, ti, vt, [], v == 1, 0, 0, nil8, s⟩, decide (v ≤ 1), ys))
    else if vt = 3 then (match numP 1 x7 with | none => none | some (tg, x8) => match numP 8 x8 with | none => none | some (v, ys) => some (⟨k, er, tx, id, ti, vt, [], false, tg, wrap64 v, nil8, s⟩, true, ys))
    else if vt = 4 then (match textP x7 with | none => none | some (vs, ys) => some (⟨k, er, tx, id, ti, vt, [], false, 0, 0, vs, s⟩, true, ys))
    else some (⟨k, er, tx, id, ti, vt, [], false, 0, 0, nil8, s⟩, true, x7)
theorem nodes_read (w0 w : World) (p g i t : Nat) (cs : Array Value) (xs : List Int) (h : Src w0 w p xs) (hby : Bys xs) (hg : w.heap[g]? = some (.cells cs t (0, 0))) (hi : cs[i]? = some (.slice none 0 0)) (hgp : g ≠ p) (hg0 : w0.heap.size ≤ g) (ht : t ≠ 3) :
    Calls Try.prog 42 #[.pointer (some ⟨p, 0, none⟩), .pointer (some ⟨g, i, none⟩)] w (NRes w0 w p g i t cs (nodesP xs)) := by
  rw [nodesP]
  split
  · next hn => exact nodes_l1 w0 w p g i t cs xs h hg hi hn
  next n ys hn =>
  split
  · next hb => exact nodes_l2 w0 w p g i t cs xs ys n h hby hg hi hn hb
  next hb => exact nodes_g w0 w p g i t cs xs ys n h hby hg hi hgp hg0 ht hn hb
structure RGet (w0 w : World) (p g : Nat) (q : Rp) (b : Bool) (ys : List Int) (e : Ending) (w' : World) : Prop where
  e : e = .returned (.bool b)
  q : ∃ A c, w'.heap[g]? = some (.cells (q.cells (.slice A q.nodes.length c)) 44 (0, 0)) ∧ (Kd.int .i64).R 3 w' w.heap.size (fun _ => True) (.slice A q.nodes.length c) q.nodes
  s : Src w0 w' p ys
  ch : Ch (fun k => k = p ∨ k = g) w w'
def RRes (w0 w : World) (p g : Nat) (r : Option (Rp × Bool × List Int)) (e : Ending) (w' : World) : Prop :=
  match r with
  | none => LostCh w p g e w'
  | some (q, b, ys) => RGet w0 w p g q b ys e w'
set_option maxRecDepth 100000 in
set_option maxHeartbeats 1000000 in
theorem repl_0 (w0 w : World) (p g : Nat) (xs : List Int) (h : Src w0 w p xs) (hby : Bys xs) (hg : w.heap[g]? = some (.cells #[.int .i64 (0), .int .i64 (0), .int .i64 (0), .int .i64 (0), .int .u64 (0), .int .i64 (0), .slice none 0 0, .bool (false), .int .i64 (0), .int .i64 (0), .string nil8, .string nil8] 44 (0, 0))) (hgp : g ≠ p) (hg0 : w0.heap.size ≤ g)  (n0 : numP 1 xs = none) :
    Calls Try.prog 33 #[.pointer (some ⟨p, 0, none⟩), .pointer (some ⟨g, 0, none⟩)] w (RRes w0 w p g (none)) := by
  have HQ0 := Aside0.mk hg
  have HS0 := Aside0.mk h
  have B0 := Aside0.mk hby
  have HC0 := Aside0.mk (Ch.refl (fun k => k = p ∨ k = g) w)
  have hglt := blk_lt hg
  obtain ⟨c0, c1, c2, c3, c4, c5, c6, c7, c8, c9, c10, c11, c12⟩ := blk12 hg
  clear h hby hg
  go_enter Try.func33, Try.ntmps33
  go_wp2_with fail
  refine (int_lost w0 w p g 0 44 _ 0 xs 1 n0 HS0.out HQ0.out rfl hgp hg0).mono ?_
  rintro e v0 ⟨rfl, hch⟩
  exact ⟨rfl, ⟨rfl, Ch.two HC0.out hch⟩⟩
set_option maxRecDepth 100000 in
set_option maxHeartbeats 1000000 in
theorem repl_1 (w0 w : World) (p g : Nat) (xs : List Int) (h : Src w0 w p xs) (hby : Bys xs) (hg : w.heap[g]? = some (.cells #[.int .i64 (0), .int .i64 (0), .int .i64 (0), .int .i64 (0), .int .u64 (0), .int .i64 (0), .slice none 0 0, .bool (false), .int .i64 (0), .int .i64 (0), .string nil8, .string nil8] 44 (0, 0))) (hgp : g ≠ p) (hg0 : w0.heap.size ≤ g) {k : Int} {x1 : List Int} (n0 : numP 1 xs = some (k, x1))  (n1 : numP 2 x1 = none) :
    Calls Try.prog 33 #[.pointer (some ⟨p, 0, none⟩), .pointer (some ⟨g, 0, none⟩)] w (RRes w0 w p g (none)) := by
  have HQ0 := Aside0.mk hg
  have HS0 := Aside0.mk h
  have B0 := Aside0.mk hby
  have HC0 := Aside0.mk (Ch.refl (fun k => k = p ∨ k = g) w)
  have hglt := blk_lt hg
  obtain ⟨c0, c1, c2, c3, c4, c5, c6, c7, c8, c9, c10, c11, c12⟩ := blk12 hg
  clear h hby hg
  go_enter Try.func33, Try.ntmps33
  go_wp2_with fail
  refine (int_get w0 w p g 0 44 _ 0 k xs x1 1 n0 HS0.out B0.out HQ0.out rfl hgp hg0 (by decide)).mono ?_
  rintro e w1 ⟨rfl, hq, hs, hch⟩
  replace hq : w1.heap[g]? = some (.cells #[.int .i64 (k), .int .i64 (0), .int .i64 (0), .int .i64 (0), .int .u64 (0), .int .i64 (0), .slice none 0 0, .bool (false), .int .i64 (0), .int .i64 (0), .string nil8, .string nil8] 44 (0, 0)) := hq
  clear c0 c1 c2 c3 c4 c5 c6 c7 c8 c9 c10 c11 c12
  obtain ⟨c0, c1, c2, c3, c4, c5, c6, c7, c8, c9, c10, c11, c12⟩ := blk12 hq
  have HQ1 := Aside0.mk hq
  have HS1 := Aside0.mk hs
  have B1 := Aside0.mk (numP_bys B0.out n0)
  have HC1 := Aside0.mk (Ch.two HC0.out hch)
  clear hq hs hch
  go_wp2_with fail
  refine (int_lost_new w0 w1 p g 0 x1 2 n1 HS1.out).mono ?_
  rintro e v1 ⟨rfl, hch⟩
  exact ⟨rfl, ⟨rfl, Ch.two HC1.out hch⟩⟩
set_option maxRecDepth 100000 in
set_option maxHeartbeats 1000000 in
theorem repl_2 (w0 w : World) (p g : Nat) (xs : List Int) (h : Src w0 w p xs) (hby : Bys xs) (hg : w.heap[g]? = some (.cells #[.int .i64 (0), .int .i64 (0), .int .i64 (0), .int .i64 (0), .int .u64 (0), .int .i64 (0), .slice none 0 0, .bool (false), .int .i64 (0), .int .i64 (0), .string nil8, .string nil8] 44 (0, 0))) (hgp : g ≠ p) (hg0 : w0.heap.size ≤ g) {k : Int} {x1 : List Int} (n0 : numP 1 xs = some (k, x1)) {er : Int} {x2 : List Int} (n1 : numP 2 x1 = some (er, x2))  (n2 : numP 4 x2 = none) :
    Calls Try.prog 33 #[.pointer (some ⟨p, 0, none⟩), .pointer (some ⟨g, 0, none⟩)] w (RRes w0 w p g (none)) := by
  have HQ0 := Aside0.mk hg
  have HS0 := Aside0.mk h
  have B0 := Aside0.mk hby
  have HC0 := Aside0.mk (Ch.refl (fun k => k = p ∨ k = g) w)
  have hglt := blk_lt hg
  obtain ⟨c0, c1, c2, c3, c4, c5, c6, c7, c8, c9, c10, c11, c12⟩ := blk12 hg
  clear h hby hg
  go_enter Try.func33, Try.ntmps33
  go_wp2_with fail
  refine (int_get w0 w p g 0 44 _ 0 k xs x1 1 n0 HS0.out B0.out HQ0.out rfl hgp hg0 (by decide)).mono ?_
  rintro e w1 ⟨rfl, hq, hs, hch⟩
  replace hq : w1.heap[g]? = some (.cells #[.int .i64 (k), .int .i64 (0), .int .i64 (0), .int .i64 (0), .int .u64 (0), .int .i64 (0), .slice none 0 0, .bool (false), .int .i64 (0), .int .i64 (0), .string nil8, .string nil8] 44 (0, 0)) := hq
  clear c0 c1 c2 c3 c4 c5 c6 c7 c8 c9 c10 c11 c12
  obtain ⟨c0, c1, c2, c3, c4, c5, c6, c7, c8, c9, c10, c11, c12⟩ := blk12 hq
  have HQ1 := Aside0.mk hq
  have HS1 := Aside0.mk hs
  have B1 := Aside0.mk (numP_bys B0.out n0)
  have HC1 := Aside0.mk (Ch.two HC0.out hch)
  clear hq hs hch
  go_wp2_with fail
  refine (int_get_new w0 w1 p 0 er x1 x2 2 n1 HS1.out B1.out (by decide)).mono ?_
  rintro e v1 ⟨rfl, hq, hs, hch⟩
  have hx0 := (blk_cell hq 0).trans (show _ = some (.int .i64 er) from rfl)
  have hg' := hch.heap HQ1.out hgp
  clear c0 c1 c2 c3 c4 c5 c6 c7 c8 c9 c10 c11 c12
  obtain ⟨c0, c1, c2, c3, c4, c5, c6, c7, c8, c9, c10, c11, c12⟩ := blk12 hg'
  have hq' : (v1.setCell ⟨g, 1, none⟩ (.int .i64 er)).heap[g]? = some (.cells #[.int .i64 (k), .int .i64 (er), .int .i64 (0), .int .i64 (0), .int .u64 (0), .int .i64 (0), .slice none 0 0, .bool (false), .int .i64 (0), .int .i64 (0), .string nil8, .string nil8] 44 (0, 0)) := blk_upd 1 (.int .i64 er) hg' rfl
  have HQ2 := Aside0.mk hq'
  have HS2 := Aside0.mk (hs.put hgp hg0 1 (.int .i64 er))
  have B2 := Aside0.mk (numP_bys B1.out n1)
  have HC2 := Aside0.mk (Ch.two HC1.out ((hch.mono (S' := fun k => k = p ∨ k = g) (fun k hk _ => .inl hk)).setCell (p := ⟨g, 1, none⟩) (.inl (.inr rfl)) (.int .i64 er)))
  clear hq hs hch hg' hq'
  go_wp2_with fail
  generalize (v1.setCell ⟨g, 1, none⟩ (.int .i64 er)) = w2 at *
  clear c0 c1 c2 c3 c4 c5 c6 c7 c8 c9 c10 c11 c12 hx0
  obtain ⟨c0, c1, c2, c3, c4, c5, c6, c7, c8, c9, c10, c11, c12⟩ := blk12 HQ2.out
  refine (int_lost w0 w2 p g 2 44 _ 0 x2 4 n2 HS2.out HQ2.out rfl hgp hg0).mono ?_
  rintro e v2 ⟨rfl, hch⟩
  exact ⟨rfl, ⟨rfl, Ch.two HC2.out hch⟩⟩
set_option maxRecDepth 100000 in
set_option maxHeartbeats 1000000 in
theorem repl_3 (w0 w : World) (p g : Nat) (xs : List Int) (h : Src w0 w p xs) (hby : Bys xs) (hg : w.heap[g]? = some (.cells #[.int .i64 (0), .int .i64 (0), .int .i64 (0), .int .i64 (0), .int .u64 (0), .int .i64 (0), .slice none 0 0, .bool (false), .int .i64 (0), .int .i64 (0), .string nil8, .string nil8] 44 (0, 0))) (hgp : g ≠ p) (hg0 : w0.heap.size ≤ g) {k : Int} {x1 : List Int} (n0 : numP 1 xs = some (k, x1)) {er : Int} {x2 : List Int} (n1 : numP 2 x1 = some (er, x2)) {tx : Int} {x3 : List Int} (n2 : numP 4 x2 = some (tx, x3))  (n3 : numP 4 x3 = none) :
    Calls Try.prog 33 #[.pointer (some ⟨p, 0, none⟩), .pointer (some ⟨g, 0, none⟩)] w (RRes w0 w p g (none)) := by
  have HQ0 := Aside0.mk hg
  have HS0 := Aside0.mk h
  have B0 := Aside0.mk hby
  have HC0 := Aside0.mk (Ch.refl (fun k => k = p ∨ k = g) w)
  have hglt := blk_lt hg
  obtain ⟨c0, c1, c2, c3, c4, c5, c6, c7, c8, c9, c10, c11, c12⟩ := blk12 hg
  clear h hby hg
  go_enter Try.func33, Try.ntmps33
  go_wp2_with fail
  refine (int_get w0 w p g 0 44 _ 0 k xs x1 1 n0 HS0.out B0.out HQ0.out rfl hgp hg0 (by decide)).mono ?_
  rintro e w1 ⟨rfl, hq, hs, hch⟩
  replace hq : w1.heap[g]? = some (.cells #[.int .i64 (k), .int .i64 (0), .int .i64 (0), .int .i64 (0), .int .u64 (0), .int .i64 (0), .slice none 0 0, .bool (false), .int .i64 (0), .int .i64 (0), .string nil8, .string nil8] 44 (0, 0)) := hq
  clear c0 c1 c2 c3 c4 c5 c6 c7 c8 c9 c10 c11 c12
  obtain ⟨c0, c1, c2, c3, c4, c5, c6, c7, c8, c9, c10, c11, c12⟩ := blk12 hq
  have HQ1 := Aside0.mk hq
  have HS1 := Aside0.mk hs
  have B1 := Aside0.mk (numP_bys B0.out n0)
  have HC1 := Aside0.mk (Ch.two HC0.out hch)
  clear hq hs hch
  go_wp2_with fail
  refine (int_get_new w0 w1 p 0 er x1 x2 2 n1 HS1.out B1.out (by decide)).mono ?_
  rintro e v1 ⟨rfl, hq, hs, hch⟩
  have hx0 := (blk_cell hq 0).trans (show _ = some (.int .i64 er) from rfl)
  have hg' := hch.heap HQ1.out hgp
  clear c0 c1 c2 c3 c4 c5 c6 c7 c8 c9 c10 c11 c12
  obtain ⟨c0, c1, c2, c3, c4, c5, c6, c7, c8, c9, c10, c11, c12⟩ := blk12 hg'
  have hq' : (v1.setCell ⟨g, 1, none⟩ (.int .i64 er)).heap[g]? = some (.cells #[.int .i64 (k), .int .i64 (er), .int .i64 (0), .int .i64 (0), .int .u64 (0), .int .i64 (0), .slice none 0 0, .bool (false), .int .i64 (0), .int .i64 (0), .string nil8, .string nil8] 44 (0, 0)) := blk_upd 1 (.int .i64 er) hg' rfl
  have HQ2 := Aside0.mk hq'
  have HS2 := Aside0.mk (hs.put hgp hg0 1 (.int .i64 er))
  have B2 := Aside0.mk (numP_bys B1.out n1)
  have HC2 := Aside0.mk (Ch.two HC1.out ((hch.mono (S' := fun k => k = p ∨ k = g) (fun k hk _ => .inl hk)).setCell (p := ⟨g, 1, none⟩) (.inl (.inr rfl)) (.int .i64 er)))
  clear hq hs hch hg' hq'
  go_wp2_with fail
  generalize (v1.setCell ⟨g, 1, none⟩ (.int .i64 er)) = w2 at *
  clear c0 c1 c2 c3 c4 c5 c6 c7 c8 c9 c10 c11 c12 hx0
  obtain ⟨c0, c1, c2, c3, c4, c5, c6, c7, c8, c9, c10, c11, c12⟩ := blk12 HQ2.out
  refine (int_get w0 w2 p g 2 44 _ 0 tx x2 x3 4 n2 HS2.out B2.out HQ2.out rfl hgp hg0 (by decide)).mono ?_
  rintro e w3 ⟨rfl, hq, hs, hch⟩
  replace hq : w3.heap[g]? = some (.cells #[.int .i64 (k), .int .i64 (er), .int .i64 (tx), .int .i64 (0), .int .u64 (0), .int .i64 (0), .slice none 0 0, .bool (false), .int .i64 (0), .int .i64 (0), .string nil8, .string nil8] 44 (0, 0)) := hq
  clear c0 c1 c2 c3 c4 c5 c6 c7 c8 c9 c10 c11 c12
  obtain ⟨c0, c1, c2, c3, c4, c5, c6, c7, c8, c9, c10, c11, c12⟩ := blk12 hq
  have HQ3 := Aside0.mk hq
  have HS3 := Aside0.mk hs
  have B3 := Aside0.mk (numP_bys B2.out n2)
  have HC3 := Aside0.mk (Ch.two HC2.out hch)
  clear hq hs hch
  go_wp2_with fail
  refine (int_lost w0 w3 p g 3 44 _ 0 x3 4 n3 HS3.out HQ3.out rfl hgp hg0).mono ?_
  rintro e v3 ⟨rfl, hch⟩
  exact ⟨rfl, ⟨rfl, Ch.two HC3.out hch⟩⟩
set_option maxRecDepth 100000 in
set_option maxHeartbeats 1000000 in
theorem repl_4 (w0 w : World) (p g : Nat) (xs : List Int) (h : Src w0 w p xs) (hby : Bys xs) (hg : w.heap[g]? = some (.cells #[.int .i64 (0), .int .i64 (0), .int .i64 (0), .int .i64 (0), .int .u64 (0), .int .i64 (0), .slice none 0 0, .bool (false), .int .i64 (0), .int .i64 (0), .string nil8, .string nil8] 44 (0, 0))) (hgp : g ≠ p) (hg0 : w0.heap.size ≤ g) {k : Int} {x1 : List Int} (n0 : numP 1 xs = some (k, x1)) {er : Int} {x2 : List Int} (n1 : numP 2 x1 = some (er, x2)) {tx : Int} {x3 : List Int} (n2 : numP 4 x2 = some (tx, x3)) {id : Int} {x4 : List Int} (n3 : numP 4 x3 = some (id, x4))  (n4 : numP 8 x4 = none) :
    Calls Try.prog 33 #[.pointer (some ⟨p, 0, none⟩), .pointer (some ⟨g, 0, none⟩)] w (RRes w0 w p g (none)) := by
  have HQ0 := Aside0.mk hg
  have HS0 := Aside0.mk h
  have B0 := Aside0.mk hby
  have HC0 := Aside0.mk (Ch.refl (fun k => k = p ∨ k = g) w)
  have hglt := blk_lt hg
  obtain ⟨c0, c1, c2, c3, c4, c5, c6, c7, c8, c9, c10, c11, c12⟩ := blk12 hg
  clear h hby hg
  go_enter Try.func33, Try.ntmps33
  go_wp2_with fail
  refine (int_get w0 w p g 0 44 _ 0 k xs x1 1 n0 HS0.out B0.out HQ0.out rfl hgp hg0 (by decide)).mono ?_
  rintro e w1 ⟨rfl, hq, hs, hch⟩
  replace hq : w1.heap[g]? = some (.cells #[.int .i64 (k), .int .i64 (0), .int .i64 (0), .int .i64 (0), .int .u64 (0), .int .i64 (0), .slice none 0 0, .bool (false), .int .i64 (0), .int .i64 (0), .string nil8, .string nil8] 44 (0, 0)) := hq
  clear c0 c1 c2 c3 c4 c5 c6 c7 c8 c9 c10 c11 c12
  obtain ⟨c0, c1, c2, c3, c4, c5, c6, c7, c8, c9, c10, c11, c12⟩ := blk12 hq
  have HQ1 := Aside0.mk hq
  have HS1 := Aside0.mk hs
  have B1 := Aside0.mk (numP_bys B0.out n0)
  have HC1 := Aside0.mk (Ch.two HC0.out hch)
  clear hq hs hch
  go_wp2_with fail
  refine (int_get_new w0 w1 p 0 er x1 x2 2 n1 HS1.out B1.out (by decide)).mono ?_
  rintro e v1 ⟨rfl, hq, hs, hch⟩
  have hx0 := (blk_cell hq 0).trans (show _ = some (.int .i64 er) from rfl)
  have hg' := hch.heap HQ1.out hgp
  clear c0 c1 c2 c3 c4 c5 c6 c7 c8 c9 c10 c11 c12
  obtain ⟨c0, c1, c2, c3, c4, c5, c6, c7, c8, c9, c10, c11, c12⟩ := blk12 hg'
  have hq' : (v1.setCell ⟨g, 1, none⟩ (.int .i64 er)).heap[g]? = some (.cells #[.int .i64 (k), .int .i64 (er), .int .i64 (0), .int .i64 (0), .int .u64 (0), .int .i64 (0), .slice none 0 0, .bool (false), .int .i64 (0), .int .i64 (0), .string nil8, .string nil8] 44 (0, 0)) := blk_upd 1 (.int .i64 er) hg' rfl
  have HQ2 := Aside0.mk hq'
  have HS2 := Aside0.mk (hs.put hgp hg0 1 (.int .i64 er))
  have B2 := Aside0.mk (numP_bys B1.out n1)
  have HC2 := Aside0.mk (Ch.two HC1.out ((hch.mono (S' := fun k => k = p ∨ k = g) (fun k hk _ => .inl hk)).setCell (p := ⟨g, 1, none⟩) (.inl (.inr rfl)) (.int .i64 er)))
  clear hq hs hch hg' hq'
  go_wp2_with fail
  generalize (v1.setCell ⟨g, 1, none⟩ (.int .i64 er)) = w2 at *
  clear c0 c1 c2 c3 c4 c5 c6 c7 c8 c9 c10 c11 c12 hx0
  obtain ⟨c0, c1, c2, c3, c4, c5, c6, c7, c8, c9, c10, c11, c12⟩ := blk12 HQ2.out
  refine (int_get w0 w2 p g 2 44 _ 0 tx x2 x3 4 n2 HS2.out B2.out HQ2.out rfl hgp hg0 (by decide)).mono ?_
  rintro e w3 ⟨rfl, hq, hs, hch⟩
  replace hq : w3.heap[g]? = some (.cells #[.int .i64 (k), .int .i64 (er), .int .i64 (tx), .int .i64 (0), .int .u64 (0), .int .i64 (0), .slice none 0 0, .bool (false), .int .i64 (0), .int .i64 (0), .string nil8, .string nil8] 44 (0, 0)) := hq
  clear c0 c1 c2 c3 c4 c5 c6 c7 c8 c9 c10 c11 c12
  obtain ⟨c0, c1, c2, c3, c4, c5, c6, c7, c8, c9, c10, c11, c12⟩ := blk12 hq
  have HQ3 := Aside0.mk hq
  have HS3 := Aside0.mk hs
  have B3 := Aside0.mk (numP_bys B2.out n2)
  have HC3 := Aside0.mk (Ch.two HC2.out hch)
  clear hq hs hch
  go_wp2_with fail
  refine (int_get w0 w3 p g 3 44 _ 0 id x3 x4 4 n3 HS3.out B3.out HQ3.out rfl hgp hg0 (by decide)).mono ?_
  rintro e w4 ⟨rfl, hq, hs, hch⟩
  replace hq : w4.heap[g]? = some (.cells #[.int .i64 (k), .int .i64 (er), .int .i64 (tx), .int .i64 (id), .int .u64 (0), .int .i64 (0), .slice none 0 0, .bool (false), .int .i64 (0), .int .i64 (0), .string nil8, .string nil8] 44 (0, 0)) := hq
  clear c0 c1 c2 c3 c4 c5 c6 c7 c8 c9 c10 c11 c12
  obtain ⟨c0, c1, c2, c3, c4, c5, c6, c7, c8, c9, c10, c11, c12⟩ := blk12 hq
  have HQ4 := Aside0.mk hq
  have HS4 := Aside0.mk hs
  have B4 := Aside0.mk (numP_bys B3.out n3)
  have HC4 := Aside0.mk (Ch.two HC3.out hch)
  clear hq hs hch
  go_wp2_with fail
  refine (num_lost w0 w4 p g 4 44 _ 0 x4 8 n4 HS4.out HQ4.out rfl hgp hg0).mono ?_
  rintro e v4 ⟨rfl, hch⟩
  exact ⟨rfl, ⟨rfl, Ch.two HC4.out hch⟩⟩
set_option maxRecDepth 100000 in
set_option maxHeartbeats 1000000 in
theorem repl_5 (w0 w : World) (p g : Nat) (xs : List Int) (h : Src w0 w p xs) (hby : Bys xs) (hg : w.heap[g]? = some (.cells #[.int .i64 (0), .int .i64 (0), .int .i64 (0), .int .i64 (0), .int .u64 (0), .int .i64 (0), .slice none 0 0, .bool (false), .int .i64 (0), .int .i64 (0), .string nil8, .string nil8] 44 (0, 0))) (hgp : g ≠ p) (hg0 : w0.heap.size ≤ g) {k : Int} {x1 : List Int} (n0 : numP 1 xs = some (k, x1)) {er : Int} {x2 : List Int} (n1 : numP 2 x1 = some (er, x2)) {tx : Int} {x3 : List Int} (n2 : numP 4 x2 = some (tx, x3)) {id : Int} {x4 : List Int} (n3 : numP 4 x3 = some (id, x4)) {ti : Int} {x5 : List Int} (n4 : numP 8 x4 = some (ti, x5))  (n5 : textP x5 = none) :
    Calls Try.prog 33 #[.pointer (some ⟨p, 0, none⟩), .pointer (some ⟨g, 0, none⟩)] w (RRes w0 w p g (none)) := by
  have HQ0 := Aside0.mk hg
  have HS0 := Aside0.mk h
  have B0 := Aside0.mk hby
  have HC0 := Aside0.mk (Ch.refl (fun k => k = p ∨ k = g) w)
  have hglt := blk_lt hg
  obtain ⟨c0, c1, c2, c3, c4, c5, c6, c7, c8, c9, c10, c11, c12⟩ := blk12 hg
  clear h hby hg
  go_enter Try.func33, Try.ntmps33
  go_wp2_with fail
  refine (int_get w0 w p g 0 44 _ 0 k xs x1 1 n0 HS0.out B0.out HQ0.out rfl hgp hg0 (by decide)).mono ?_
  rintro e w1 ⟨rfl, hq, hs, hch⟩
  replace hq : w1.heap[g]? = some (.cells #[.int .i64 (k), .int .i64 (0), .int .i64 (0), .int .i64 (0), .int .u64 (0), .int .i64 (0), .slice none 0 0, .bool (false), .int .i64 (0), .int .i64 (0), .string nil8, .string nil8] 44 (0, 0)) := hq
  clear c0 c1 c2 c3 c4 c5 c6 c7 c8 c9 c10 c11 c12
  obtain ⟨c0, c1, c2, c3, c4, c5, c6, c7, c8, c9, c10, c11, c12⟩ := blk12 hq
  have HQ1 := Aside0.mk hq
  have HS1 := Aside0.mk hs
  have B1 := Aside0.mk (numP_bys B0.out n0)
  have HC1 := Aside0.mk (Ch.two HC0.out hch)
  clear hq hs hch
  go_wp2_with fail
  refine (int_get_new w0 w1 p 0 er x1 x2 2 n1 HS1.out B1.out (by decide)).mono ?_
  rintro e v1 ⟨rfl, hq, hs, hch⟩
  have hx0 := (blk_cell hq 0).trans (show _ = some (.int .i64 er) from rfl)
  have hg' := hch.heap HQ1.out hgp
  clear c0 c1 c2 c3 c4 c5 c6 c7 c8 c9 c10 c11 c12
  obtain ⟨c0, c1, c2, c3, c4, c5, c6, c7, c8, c9, c10, c11, c12⟩ := blk12 hg'
  have hq' : (v1.setCell ⟨g, 1, none⟩ (.int .i64 er)).heap[g]? = some (.cells #[.int .i64 (k), .int .i64 (er), .int .i64 (0), .int .i64 (0), .int .u64 (0), .int .i64 (0), .slice none 0 0, .bool (false), .int .i64 (0), .int .i64 (0), .string nil8, .string nil8] 44 (0, 0)) := blk_upd 1 (.int .i64 er) hg' rfl
  have HQ2 := Aside0.mk hq'
  have HS2 := Aside0.mk (hs.put hgp hg0 1 (.int .i64 er))
  have B2 := Aside0.mk (numP_bys B1.out n1)
  have HC2 := Aside0.mk (Ch.two HC1.out ((hch.mono (S' := fun k => k = p ∨ k = g) (fun k hk _ => .inl hk)).setCell (p := ⟨g, 1, none⟩) (.inl (.inr rfl)) (.int .i64 er)))
  clear hq hs hch hg' hq'
  go_wp2_with fail
  generalize (v1.setCell ⟨g, 1, none⟩ (.int .i64 er)) = w2 at *
  clear c0 c1 c2 c3 c4 c5 c6 c7 c8 c9 c10 c11 c12 hx0
  obtain ⟨c0, c1, c2, c3, c4, c5, c6, c7, c8, c9, c10, c11, c12⟩ := blk12 HQ2.out
  refine (int_get w0 w2 p g 2 44 _ 0 tx x2 x3 4 n2 HS2.out B2.out HQ2.out rfl hgp hg0 (by decide)).mono ?_
  rintro e w3 ⟨rfl, hq, hs, hch⟩
  replace hq : w3.heap[g]? = some (.cells #[.int .i64 (k), .int .i64 (er), .int .i64 (tx), .int .i64 (0), .int .u64 (0), .int .i64 (0), .slice none 0 0, .bool (false), .int .i64 (0), .int .i64 (0), .string nil8, .string nil8] 44 (0, 0)) := hq
  clear c0 c1 c2 c3 c4 c5 c6 c7 c8 c9 c10 c11 c12
  obtain ⟨c0, c1, c2, c3, c4, c5, c6, c7, c8, c9, c10, c11, c12⟩ := blk12 hq
  have HQ3 := Aside0.mk hq
  have HS3 := Aside0.mk hs
  have B3 := Aside0.mk (numP_bys B2.out n2)
  have HC3 := Aside0.mk (Ch.two HC2.out hch)
  clear hq hs hch
  go_wp2_with fail
  refine (int_get w0 w3 p g 3 44 _ 0 id x3 x4 4 n3 HS3.out B3.out HQ3.out rfl hgp hg0 (by decide)).mono ?_
  rintro e w4 ⟨rfl, hq, hs, hch⟩
  replace hq : w4.heap[g]? = some (.cells #[.int .i64 (k), .int .i64 (er), .int .i64 (tx), .int .i64 (id), .int .u64 (0), .int .i64 (0), .slice none 0 0, .bool (false), .int .i64 (0), .int .i64 (0), .string nil8, .string nil8] 44 (0, 0)) := hq
  clear c0 c1 c2 c3 c4 c5 c6 c7 c8 c9 c10 c11 c12
  obtain ⟨c0, c1, c2, c3, c4, c5, c6, c7, c8, c9, c10, c11, c12⟩ := blk12 hq
  have HQ4 := Aside0.mk hq
  have HS4 := Aside0.mk hs
  have B4 := Aside0.mk (numP_bys B3.out n3)
  have HC4 := Aside0.mk (Ch.two HC3.out hch)
  clear hq hs hch
  go_wp2_with fail
  refine (num_get w0 w4 p g 4 44 _ 0 ti x4 x5 8 n4 HS4.out B4.out HQ4.out rfl hgp hg0 (by decide)).mono ?_
  rintro e w5 ⟨rfl, hq, hs, hch⟩
  replace hq : w5.heap[g]? = some (.cells #[.int .i64 (k), .int .i64 (er), .int .i64 (tx), .int .i64 (id), .int .u64 (ti), .int .i64 (0), .slice none 0 0, .bool (false), .int .i64 (0), .int .i64 (0), .string nil8, .string nil8] 44 (0, 0)) := hq
  clear c0 c1 c2 c3 c4 c5 c6 c7 c8 c9 c10 c11 c12
  obtain ⟨c0, c1, c2, c3, c4, c5, c6, c7, c8, c9, c10, c11, c12⟩ := blk12 hq
  have HQ5 := Aside0.mk hq
  have HS5 := Aside0.mk hs
  have B5 := Aside0.mk (numP_bys B4.out n4)
  have HC5 := Aside0.mk (Ch.two HC4.out hch)
  clear hq hs hch
  go_wp2_with fail
  refine (str_lost w0 w5 p g 11 44 _ nil8 x5 n5 HS5.out B5.out HQ5.out rfl hgp hg0).mono ?_
  rintro e v5 ⟨rfl, hch⟩
  exact ⟨rfl, ⟨rfl, Ch.two HC5.out hch⟩⟩
set_option maxRecDepth 100000 in
set_option maxHeartbeats 1000000 in
theorem repl_6 (w0 w : World) (p g : Nat) (xs : List Int) (h : Src w0 w p xs) (hby : Bys xs) (hg : w.heap[g]? = some (.cells #[.int .i64 (0), .int .i64 (0), .int .i64 (0), .int .i64 (0), .int .u64 (0), .int .i64 (0), .slice none 0 0, .bool (false), .int .i64 (0), .int .i64 (0), .string nil8, .string nil8] 44 (0, 0))) (hgp : g ≠ p) (hg0 : w0.heap.size ≤ g) {k : Int} {x1 : List Int} (n0 : numP 1 xs = some (k, x1)) {er : Int} {x2 : List Int} (n1 : numP 2 x1 = some (er, x2)) {tx : Int} {x3 : List Int} (n2 : numP 4 x2 = some (tx, x3)) {id : Int} {x4 : List Int} (n3 : numP 4 x3 = some (id, x4)) {ti : Int} {x5 : List Int} (n4 : numP 8 x4 = some (ti, x5)) {s : ByteArray} {x6 : List Int} (n5 : textP x5 = some (s, x6))  (n6 : numP 1 x6 = none) :
    Calls Try.prog 33 #[.pointer (some ⟨p, 0, none⟩), .pointer (some ⟨g, 0, none⟩)] w (RRes w0 w p g (none)) := by
  have HQ0 := Aside0.mk hg
  have HS0 := Aside0.mk h
  have B0 := Aside0.mk hby
  have HC0 := Aside0.mk (Ch.refl (fun k => k = p ∨ k = g) w)
  have hglt := blk_lt hg
  obtain ⟨c0, c1, c2, c3, c4, c5, c6, c7, c8, c9, c10, c11, c12⟩ := blk12 hg
  clear h hby hg
  go_enter Try.func33, Try.ntmps33
  go_wp2_with fail
  refine (int_get w0 w p g 0 44 _ 0 k xs x1 1 n0 HS0.out B0.out HQ0.out rfl hgp hg0 (by decide)).mono ?_
  rintro e w1 ⟨rfl, hq, hs, hch⟩
  replace hq : w1.heap[g]? = some (.cells #[.int .i64 (k), .int .i64 (0), .int .i64 (0), .int .i64 (0), .int .u64 (0), .int .i64 (0), .slice none 0 0, .bool (false), .int .i64 (0), .int .i64 (0), .string nil8, .string nil8] 44 (0, 0)) := hq
  clear c0 c1 c2 c3 c4 c5 c6 c7 c8 c9 c10 c11 c12
  obtain ⟨c0, c1, c2, c3, c4, c5, c6, c7, c8, c9, c10, c11, c12⟩ := blk12 hq
  have HQ1 := Aside0.mk hq
  have HS1 := Aside0.mk hs
  have B1 := Aside0.mk (numP_bys B0.out n0)
  have HC1 := Aside0.mk (Ch.two HC0.out hch)
  clear hq hs hch
  go_wp2_with fail
  refine (int_get_new w0 w1 p 0 er x1 x2 2 n1 HS1.out B1.out (by decide)).mono ?_
  rintro e v1 ⟨rfl, hq, hs, hch⟩
  have hx0 := (blk_cell hq 0).trans (show _ = some (.int .i64 er) from rfl)
  have hg' := hch.heap HQ1.out hgp
  clear c0 c1 c2 c3 c4 c5 c6 c7 c8 c9 c10 c11 c12
  obtain ⟨c0, c1, c2, c3, c4, c5, c6, c7, c8, c9, c10, c11, c12⟩ := blk12 hg'
  have hq' : (v1.setCell ⟨g, 1, none⟩ (.int .i64 er)).heap[g]? = some (.cells #[.int .i64 (k), .int .i64 (er), .int .i64 (0), .int .i64 (0), .int .u64 (0), .int .i64 (0), .slice none 0 0, .bool (false), .int .i64 (0), .int .i64 (0), .string nil8, .string nil8] 44 (0, 0)) := blk_upd 1 (.int .i64 er) hg' rfl
  have HQ2 := Aside0.mk hq'
  have HS2 := Aside0.mk (hs.put hgp hg0 1 (.int .i64 er))
  have B2 := Aside0.mk (numP_bys B1.out n1)
  have HC2 := Aside0.mk (Ch.two HC1.out ((hch.mono (S' := fun k => k = p ∨ k = g) (fun k hk _ => .inl hk)).setCell (p := ⟨g, 1, none⟩) (.inl (.inr rfl)) (.int .i64 er)))
  clear hq hs hch hg' hq'
  go_wp2_with fail
  generalize (v1.setCell ⟨g, 1, none⟩ (.int .i64 er)) = w2 at *
  clear c0 c1 c2 c3 c4 c5 c6 c7 c8 c9 c10 c11 c12 hx0
  obtain ⟨c0, c1, c2, c3, c4, c5, c6, c7, c8, c9, c10, c11, c12⟩ := blk12 HQ2.out
  refine (int_get w0 w2 p g 2 44 _ 0 tx x2 x3 4 n2 HS2.out B2.out HQ2.out rfl hgp hg0 (by decide)).mono ?_
  rintro e w3 ⟨rfl, hq, hs, hch⟩
  replace hq : w3.heap[g]? = some (.cells #[.int .i64 (k), .int .i64 (er), .int .i64 (tx), .int .i64 (0), .int .u64 (0), .int .i64 (0), .slice none 0 0, .bool (false), .int .i64 (0), .int .i64 (0), .string nil8, .string nil8] 44 (0, 0)) := hq
  clear c0 c1 c2 c3 c4 c5 c6 c7 c8 c9 c10 c11 c12
  obtain ⟨c0, c1, c2, c3, c4, c5, c6, c7, c8, c9, c10, c11, c12⟩ := blk12 hq
  have HQ3 := Aside0.mk hq
  have HS3 := Aside0.mk hs
  have B3 := Aside0.mk (numP_bys B2.out n2)
  have HC3 := Aside0.mk (Ch.two HC2.out hch)
  clear hq hs hch
  go_wp2_with fail
  refine (int_get w0 w3 p g 3 44 _ 0 id x3 x4 4 n3 HS3.out B3.out HQ3.out rfl hgp hg0 (by decide)).mono ?_
  rintro e w4 ⟨rfl, hq, hs, hch⟩
  replace hq : w4.heap[g]? = some (.cells #[.int .i64 (k), .int .i64 (er), .int .i64 (tx), .int .i64 (id), .int .u64 (0), .int .i64 (0), .slice none 0 0, .bool (false), .int .i64 (0), .int .i64 (0), .string nil8, .string nil8] 44 (0, 0)) := hq
  clear c0 c1 c2 c3 c4 c5 c6 c7 c8 c9 c10 c11 c12
  obtain ⟨c0, c1, c2, c3, c4, c5, c6, c7, c8, c9, c10, c11, c12⟩ := blk12 hq
  have HQ4 := Aside0.mk hq
  have HS4 := Aside0.mk hs
  have B4 := Aside0.mk (numP_bys B3.out n3)
  have HC4 := Aside0.mk (Ch.two HC3.out hch)
  clear hq hs hch
  go_wp2_with fail
  refine (num_get w0 w4 p g 4 44 _ 0 ti x4 x5 8 n4 HS4.out B4.out HQ4.out rfl hgp hg0 (by decide)).mono ?_
  rintro e w5 ⟨rfl, hq, hs, hch⟩
  replace hq : w5.heap[g]? = some (.cells #[.int .i64 (k), .int .i64 (er), .int .i64 (tx), .int .i64 (id), .int .u64 (ti), .int .i64 (0), .slice none 0 0, .bool (false), .int .i64 (0), .int .i64 (0), .string nil8, .string nil8] 44 (0, 0)) := hq
  clear c0 c1 c2 c3 c4 c5 c6 c7 c8 c9 c10 c11 c12
  obtain ⟨c0, c1, c2, c3, c4, c5, c6, c7, c8, c9, c10, c11, c12⟩ := blk12 hq
  have HQ5 := Aside0.mk hq
  have HS5 := Aside0.mk hs
  have B5 := Aside0.mk (numP_bys B4.out n4)
  have HC5 := Aside0.mk (Ch.two HC4.out hch)
  clear hq hs hch
  go_wp2_with fail
  refine (str_get w0 w5 p g 11 44 _ nil8 s x5 x6 n5 HS5.out B5.out HQ5.out rfl hgp hg0).mono ?_
  rintro e w6 ⟨rfl, hq, hs, hch⟩
  replace hq : w6.heap[g]? = some (.cells #[.int .i64 (k), .int .i64 (er), .int .i64 (tx), .int .i64 (id), .int .u64 (ti), .int .i64 (0), .slice none 0 0, .bool (false), .int .i64 (0), .int .i64 (0), .string nil8, .string s] 44 (0, 0)) := hq
  clear c0 c1 c2 c3 c4 c5 c6 c7 c8 c9 c10 c11 c12
  obtain ⟨c0, c1, c2, c3, c4, c5, c6, c7, c8, c9, c10, c11, c12⟩ := blk12 hq
  have HQ6 := Aside0.mk hq
  have HS6 := Aside0.mk hs
  have B6 := Aside0.mk (textP_bys B5.out n5)
  have HC6 := Aside0.mk (Ch.two HC5.out hch)
  clear hq hs hch
  go_wp2_with fail
  refine (int_lost w0 w6 p g 5 44 _ 0 x6 1 n6 HS6.out HQ6.out rfl hgp hg0).mono ?_
  rintro e v6 ⟨rfl, hch⟩
  exact ⟨rfl, ⟨rfl, Ch.two HC6.out hch⟩⟩
set_option maxRecDepth 100000 in
set_option maxHeartbeats 1000000 in
theorem rep_0 (w0 w : World) (p g : Nat) (xs : List Int) (h : Src w0 w p xs) (hby : Bys xs) (hg : w.heap[g]? = some (.cells #[.int .i64 (0), .int .i64 (0), .int .i64 (0), .int .i64 (0), .int .u64 (0), .int .i64 (0), .slice none 0 0, .bool (false), .int .i64 (0), .int .i64 (0), .string nil8, .string nil8] 44 (0, 0))) (hgp : g ≠ p) (hg0 : w0.heap.size ≤ g) {k : Int} {x1 : List Int} (n0 : numP 1 xs = some (k, x1)) {er : Int} {x2 : List Int} (n1 : numP 2 x1 = some (er, x2)) {tx : Int} {x3 : List Int} (n2 : numP 4 x2 = some (tx, x3)) {id : Int} {x4 : List Int} (n3 : numP 4 x3 = some (id, x4)) {ti : Int} {x5 : List Int} (n4 : numP 8 x4 = some (ti, x5)) {s : ByteArray} {x6 : List Int} (n5 : textP x5 = some (s, x6)) {vt : Int} {x7 : List Int} (n6 : numP 1 x6 = some (vt, x7)) (hv : ¬ vt = 1 ∧ ¬ vt = 2 ∧ ¬ vt = 3 ∧ ¬ vt = 4) :
    Calls Try.prog 33 #[.pointer (some ⟨p, 0, none⟩), .pointer (some ⟨g, 0, none⟩)] w (RRes w0 w p g (some (⟨k, er, tx, id, ti, vt, [], false, 0, 0, nil8, s⟩, true, x7))) := by
  have b1 : (vt == 1) = false := by simp; omega
  have b2 : (vt == 2) = false := by simp; omega
  have b3 : (vt == 3) = false := by simp; omega
  have b4 : (vt == 4) = false := by simp; omega
  clear hv
  have HQ0 := Aside0.mk hg
  have HS0 := Aside0.mk h
  have B0 := Aside0.mk hby
  have HC0 := Aside0.mk (Ch.refl (fun k => k = p ∨ k = g) w)
  have hglt := blk_lt hg
  obtain ⟨c0, c1, c2, c3, c4, c5, c6, c7, c8, c9, c10, c11, c12⟩ := blk12 hg
  clear h hby hg
  go_enter Try.func33, Try.ntmps33
  go_wp2_with fail
  refine (int_get w0 w p g 0 44 _ 0 k xs x1 1 n0 HS0.out B0.out HQ0.out rfl hgp hg0 (by decide)).mono ?_
  rintro e w1 ⟨rfl, hq, hs, hch⟩
  replace hq : w1.heap[g]? = some (.cells #[.int .i64 (k), .int .i64 (0), .int .i64 (0), .int .i64 (0), .int .u64 (0), .int .i64 (0), .slice none 0 0, .bool (false), .int .i64 (0), .int .i64 (0), .string nil8, .string nil8] 44 (0, 0)) := hq
  clear c0 c1 c2 c3 c4 c5 c6 c7 c8 c9 c10 c11 c12
  obtain ⟨c0, c1, c2, c3, c4, c5, c6, c7, c8, c9, c10, c11, c12⟩ := blk12 hq
  have HQ1 := Aside0.mk hq
  have HS1 := Aside0.mk hs
  have B1 := Aside0.mk (numP_bys B0.out n0)
  have HC1 := Aside0.mk (Ch.two HC0.out hch)
  clear hq hs hch
  go_wp2_with fail
  refine (int_get_new w0 w1 p 0 er x1 x2 2 n1 HS1.out B1.out (by decide)).mono ?_
  rintro e v1 ⟨rfl, hq, hs, hch⟩
  have hx0 := (blk_cell hq 0).trans (show _ = some (.int .i64 er) from rfl)
  have hg' := hch.heap HQ1.out hgp
  clear c0 c1 c2 c3 c4 c5 c6 c7 c8 c9 c10 c11 c12
  obtain ⟨c0, c1, c2, c3, c4, c5, c6, c7, c8, c9, c10, c11, c12⟩ := blk12 hg'
  have hq' : (v1.setCell ⟨g, 1, none⟩ (.int .i64 er)).heap[g]? = some (.cells #[.int .i64 (k), .int .i64 (er), .int .i64 (0), .int .i64 (0), .int .u64 (0), .int .i64 (0), .slice none 0 0, .bool (false), .int .i64 (0), .int .i64 (0), .string nil8, .string nil8] 44 (0, 0)) := blk_upd 1 (.int .i64 er) hg' rfl
  have HQ2 := Aside0.mk hq'
  have HS2 := Aside0.mk (hs.put hgp hg0 1 (.int .i64 er))
  have B2 := Aside0.mk (numP_bys B1.out n1)
  have HC2 := Aside0.mk (Ch.two HC1.out ((hch.mono (S' := fun k => k = p ∨ k = g) (fun k hk _ => .inl hk)).setCell (p := ⟨g, 1, none⟩) (.inl (.inr rfl)) (.int .i64 er)))
  clear hq hs hch hg' hq'
  go_wp2_with fail
  generalize (v1.setCell ⟨g, 1, none⟩ (.int .i64 er)) = w2 at *
  clear c0 c1 c2 c3 c4 c5 c6 c7 c8 c9 c10 c11 c12 hx0
  obtain ⟨c0, c1, c2, c3, c4, c5, c6, c7, c8, c9, c10, c11, c12⟩ := blk12 HQ2.out
  refine (int_get w0 w2 p g 2 44 _ 0 tx x2 x3 4 n2 HS2.out B2.out HQ2.out rfl hgp hg0 (by decide)).mono ?_
  rintro e w3 ⟨rfl, hq, hs, hch⟩
  replace hq : w3.heap[g]? = some (.cells #[.int .i64 (k), .int .i64 (er), .int .i64 (tx), .int .i64 (0), .int .u64 (0), .int .i64 (0), .slice none 0 0, .bool (false), .int .i64 (0), .int .i64 (0), .string nil8, .string nil8] 44 (0, 0)) := hq
  clear c0 c1 c2 c3 c4 c5 c6 c7 c8 c9 c10 c11 c12
  obtain ⟨c0, c1, c2, c3, c4, c5, c6, c7, c8, c9, c10, c11, c12⟩ := blk12 hq
  have HQ3 := Aside0.mk hq
  have HS3 := Aside0.mk hs
  have B3 := Aside0.mk (numP_bys B2.out n2)
  have HC3 := Aside0.mk (Ch.two HC2.out hch)
  clear hq hs hch
  go_wp2_with fail
  refine (int_get w0 w3 p g 3 44 _ 0 id x3 x4 4 n3 HS3.out B3.out HQ3.out rfl hgp hg0 (by decide)).mono ?_
  rintro e w4 ⟨rfl, hq, hs, hch⟩
  replace hq : w4.heap[g]? = some (.cells #[.int .i64 (k), .int .i64 (er), .int .i64 (tx), .int .i64 (id), .int .u64 (0), .int .i64 (0), .slice none 0 0, .bool (false), .int .i64 (0), .int .i64 (0), .string nil8, .string nil8] 44 (0, 0)) := hq
  clear c0 c1 c2 c3 c4 c5 c6 c7 c8 c9 c10 c11 c12
  obtain ⟨c0, c1, c2, c3, c4, c5, c6, c7, c8, c9, c10, c11, c12⟩ := blk12 hq
  have HQ4 := Aside0.mk hq
  have HS4 := Aside0.mk hs
  have B4 := Aside0.mk (numP_bys B3.out n3)
  have HC4 := Aside0.mk (Ch.two HC3.out hch)
  clear hq hs hch
  go_wp2_with fail
  refine (num_get w0 w4 p g 4 44 _ 0 ti x4 x5 8 n4 HS4.out B4.out HQ4.out rfl hgp hg0 (by decide)).mono ?_
  rintro e w5 ⟨rfl, hq, hs, hch⟩
  replace hq : w5.heap[g]? = some (.cells #[.int .i64 (k), .int .i64 (er), .int .i64 (tx), .int .i64 (id), .int .u64 (ti), .int .i64 (0), .slice none 0 0, .bool (false), .int .i64 (0), .int .i64 (0), .string nil8, .string nil8] 44 (0, 0)) := hq
  clear c0 c1 c2 c3 c4 c5 c6 c7 c8 c9 c10 c11 c12
  obtain ⟨c0, c1, c2, c3, c4, c5, c6, c7, c8, c9, c10, c11, c12⟩ := blk12 hq
  have HQ5 := Aside0.mk hq
  have HS5 := Aside0.mk hs
  have B5 := Aside0.mk (numP_bys B4.out n4)
  have HC5 := Aside0.mk (Ch.two HC4.out hch)
  clear hq hs hch
  go_wp2_with fail
  refine (str_get w0 w5 p g 11 44 _ nil8 s x5 x6 n5 HS5.out B5.out HQ5.out rfl hgp hg0).mono ?_
  rintro e w6 ⟨rfl, hq, hs, hch⟩
  replace hq : w6.heap[g]? = some (.cells #[.int .i64 (k), .int .i64 (er), .int .i64 (tx), .int .i64 (id), .int .u64 (ti), .int .i64 (0), .slice none 0 0, .bool (false), .int .i64 (0), .int .i64 (0), .string nil8, .string s] 44 (0, 0)) := hq
  clear c0 c1 c2 c3 c4 c5 c6 c7 c8 c9 c10 c11 c12
  obtain ⟨c0, c1, c2, c3, c4, c5, c6, c7, c8, c9, c10, c11, c12⟩ := blk12 hq
  have HQ6 := Aside0.mk hq
  have HS6 := Aside0.mk hs
  have B6 := Aside0.mk (textP_bys B5.out n5)
  have HC6 := Aside0.mk (Ch.two HC5.out hch)
  clear hq hs hch
  go_wp2_with fail
  refine (int_get w0 w6 p g 5 44 _ 0 vt x6 x7 1 n6 HS6.out B6.out HQ6.out rfl hgp hg0 (by decide)).mono ?_
  rintro e w7 ⟨rfl, hq, hs, hch⟩
  replace hq : w7.heap[g]? = some (.cells #[.int .i64 (k), .int .i64 (er), .int .i64 (tx), .int .i64 (id), .int .u64 (ti), .int .i64 (vt), .slice none 0 0, .bool (false), .int .i64 (0), .int .i64 (0), .string nil8, .string s] 44 (0, 0)) := hq
  clear c0 c1 c2 c3 c4 c5 c6 c7 c8 c9 c10 c11 c12
  obtain ⟨c0, c1, c2, c3, c4, c5, c6, c7, c8, c9, c10, c11, c12⟩ := blk12 hq
  have HQ7 := Aside0.mk hq
  have HS7 := Aside0.mk hs
  have B7 := Aside0.mk (numP_bys B6.out n6)
  have HC7 := Aside0.mk (Ch.two HC6.out hch)
  clear hq hs hch
  go_wp2_with fail
  go_ret
  exact ⟨rfl, ⟨none, 0, HQ7.out, Kd.R_nil _ _ _ _ _⟩, HS7.out, HC7.out⟩
set_option maxRecDepth 100000 in
set_option maxHeartbeats 1000000 in
theorem rep_4 (w0 w : World) (p g : Nat) (xs : List Int) (h : Src w0 w p xs) (hby : Bys xs) (hg : w.heap[g]? = some (.cells #[.int .i64 (0), .int .i64 (0), .int .i64 (0), .int .i64 (0), .int .u64 (0), .int .i64 (0), .slice none 0 0, .bool (false), .int .i64 (0), .int .i64 (0), .string nil8, .string nil8] 44 (0, 0))) (hgp : g ≠ p) (hg0 : w0.heap.size ≤ g) {k : Int} {x1 : List Int} (n0 : numP 1 xs = some (k, x1)) {er : Int} {x2 : List Int} (n1 : numP 2 x1 = some (er, x2)) {tx : Int} {x3 : List Int} (n2 : numP 4 x2 = some (tx, x3)) {id : Int} {x4 : List Int} (n3 : numP 4 x3 = some (id, x4)) {ti : Int} {x5 : List Int} (n4 : numP 8 x4 = some (ti, x5)) {s : ByteArray} {x6 : List Int} (n5 : textP x5 = some (s, x6)) {vt : Int} {x7 : List Int} (n6 : numP 1 x6 = some (vt, x7)) (hv : vt = 4) {vs : ByteArray} {ys : List Int} (n7 : textP x7 = some (vs, ys)) :
    Calls Try.prog 33 #[.pointer (some ⟨p, 0, none⟩), .pointer (some ⟨g, 0, none⟩)] w (RRes w0 w p g (some (⟨k, er, tx, id, ti, vt, [], false, 0, 0, vs, s⟩, true, ys))) := by
  have b1 : (vt == 1) = false := by simp; omega
  have b2 : (vt == 2) = false := by simp; omega
  have b3 : (vt == 3) = false := by simp; omega
  have b4 : (vt == 4) = true := by simp; omega
  clear hv
  have HQ0 := Aside0.mk hg
  have HS0 := Aside0.mk h
  have B0 := Aside0.mk hby
  have HC0 := Aside0.mk (Ch.refl (fun k => k = p ∨ k = g) w)
  have hglt := blk_lt hg
  obtain ⟨c0, c1, c2, c3, c4, c5, c6, c7, c8, c9, c10, c11, c12⟩ := blk12 hg
  clear h hby hg
  go_enter Try.func33, Try.ntmps33
  go_wp2_with fail
  refine (int_get w0 w p g 0 44 _ 0 k xs x1 1 n0 HS0.out B0.out HQ0.out rfl hgp hg0 (by decide)).mono ?_
  rintro e w1 ⟨rfl, hq, hs, hch⟩
  replace hq : w1.heap[g]? = some (.cells #[.int .i64 (k), .int .i64 (0), .int .i64 (0), .int .i64 (0), .int .u64 (0), .int .i64 (0), .slice none 0 0, .bool (false), .int .i64 (0), .int .i64 (0), .string nil8, .string nil8] 44 (0, 0)) := hq
  clear c0 c1 c2 c3 c4 c5 c6 c7 c8 c9 c10 c11 c12
  obtain ⟨c0, c1, c2, c3, c4, c5, c6, c7, c8, c9, c10, c11, c12⟩ := blk12 hq
  have HQ1 := Aside0.mk hq
  have HS1 := Aside0.mk hs
  have B1 := Aside0.mk (numP_bys B0.out n0)
  have HC1 := Aside0.mk (Ch.two HC0.out hch)
  clear hq hs hch
  go_wp2_with fail
  refine (int_get_new w0 w1 p 0 er x1 x2 2 n1 HS1.out B1.out (by decide)).mono ?_
  rintro e v1 ⟨rfl, hq, hs, hch⟩
  have hx0 := (blk_cell hq 0).trans (show _ = some (.int .i64 er) from rfl)
  have hg' := hch.heap HQ1.out hgp
  clear c0 c1 c2 c3 c4 c5 c6 c7 c8 c9 c10 c11 c12
  obtain ⟨c0, c1, c2, c3, c4, c5, c6, c7, c8, c9, c10, c11, c12⟩ := blk12 hg'
  have hq' : (v1.setCell ⟨g, 1, none⟩ (.int .i64 er)).heap[g]? = some (.cells #[.int .i64 (k), .int .i64 (er), .int .i64 (0), .int .i64 (0), .int .u64 (0), .int .i64 (0), .slice none 0 0, .bool (false), .int .i64 (0), .int .i64 (0), .string nil8, .string nil8] 44 (0, 0)) := blk_upd 1 (.int .i64 er) hg' rfl
  have HQ2 := Aside0.mk hq'
  have HS2 := Aside0.mk (hs.put hgp hg0 1 (.int .i64 er))
  have B2 := Aside0.mk (numP_bys B1.out n1)
  have HC2 := Aside0.mk (Ch.two HC1.out ((hch.mono (S' := fun k => k = p ∨ k = g) (fun k hk _ => .inl hk)).setCell (p := ⟨g, 1, none⟩) (.inl (.inr rfl)) (.int .i64 er)))
  clear hq hs hch hg' hq'
  go_wp2_with fail
  generalize (v1.setCell ⟨g, 1, none⟩ (.int .i64 er)) = w2 at *
  clear c0 c1 c2 c3 c4 c5 c6 c7 c8 c9 c10 c11 c12 hx0
  obtain ⟨c0, c1, c2, c3, c4, c5, c6, c7, c8, c9, c10, c11, c12⟩ := blk12 HQ2.out
  refine (int_get w0 w2 p g 2 44 _ 0 tx x2 x3 4 n2 HS2.out B2.out HQ2.out rfl hgp hg0 (by decide)).mono ?_
  rintro e w3 ⟨rfl, hq, hs, hch⟩
  replace hq : w3.heap[g]? = some (.cells #[.int .i64 (k), .int .i64 (er), .int .i64 (tx), .int .i64 (0), .int .u64 (0), .int .i64 (0), .slice none 0 0, .bool (false), .int .i64 (0), .int .i64 (0), .string nil8, .string nil8] 44 (0, 0)) := hq
  clear c0 c1 c2 c3 c4 c5 c6 c7 c8 c9 c10 c11 c12
  obtain ⟨c0, c1, c2, c3, c4, c5, c6, c7, c8, c9, c10, c11, c12⟩ := blk12 hq
  have HQ3 := Aside0.mk hq
  have HS3 := Aside0.mk hs
  have B3 := Aside0.mk (numP_bys B2.out n2)
  have HC3 := Aside0.mk (Ch.two HC2.out hch)
  clear hq hs hch
  go_wp2_with fail
  refine (int_get w0 w3 p g 3 44 _ 0 id x3 x4 4 n3 HS3.out B3.out HQ3.out rfl hgp hg0 (by decide)).mono ?_
  rintro e w4 ⟨rfl, hq, hs, hch⟩
  replace hq : w4.heap[g]? = some (.cells #[.int .i64 (k), .int .i64 (er), .int .i64 (tx), .int .i64 (id), .int .u64 (0), .int .i64 (0), .slice none 0 0, .bool (false), .int .i64 (0), .int .i64 (0), .string nil8, .string nil8] 44 (0, 0)) := hq
  clear c0 c1 c2 c3 c4 c5 c6 c7 c8 c9 c10 c11 c12
  obtain ⟨c0, c1, c2, c3, c4, c5, c6, c7, c8, c9, c10, c11, c12⟩ := blk12 hq
  have HQ4 := Aside0.mk hq
  have HS4 := Aside0.mk hs
  have B4 := Aside0.mk (numP_bys B3.out n3)
  have HC4 := Aside0.mk (Ch.two HC3.out hch)
  clear hq hs hch
  go_wp2_with fail
  refine (num_get w0 w4 p g 4 44 _ 0 ti x4 x5 8 n4 HS4.out B4.out HQ4.out rfl hgp hg0 (by decide)).mono ?_
  rintro e w5 ⟨rfl, hq, hs, hch⟩
  replace hq : w5.heap[g]? = some (.cells #[.int .i64 (k), .int .i64 (er), .int .i64 (tx), .int .i64 (id), .int .u64 (ti), .int .i64 (0), .slice none 0 0, .bool (false), .int .i64 (0), .int .i64 (0), .string nil8, .string nil8] 44 (0, 0)) := hq
  clear c0 c1 c2 c3 c4 c5 c6 c7 c8 c9 c10 c11 c12
  obtain ⟨c0, c1, c2, c3, c4, c5, c6, c7, c8, c9, c10, c11, c12⟩ := blk12 hq
  have HQ5 := Aside0.mk hq
  have HS5 := Aside0.mk hs
  have B5 := Aside0.mk (numP_bys B4.out n4)
  have HC5 := Aside0.mk (Ch.two HC4.out hch)
  clear hq hs hch
  go_wp2_with fail
  refine (str_get w0 w5 p g 11 44 _ nil8 s x5 x6 n5 HS5.out B5.out HQ5.out rfl hgp hg0).mono ?_
  rintro e w6 ⟨rfl, hq, hs, hch⟩
  replace hq : w6.heap[g]? = some (.cells #[.int .i64 (k), .int .i64 (er), .int .i64 (tx), .int .i64 (id), .int .u64 (ti), .int .i64 (0), .slice none 0 0, .bool (false), .int .i64 (0), .int .i64 (0), .string nil8, .string s] 44 (0, 0)) := hq
  clear c0 c1 c2 c3 c4 c5 c6 c7 c8 c9 c10 c11 c12
  obtain ⟨c0, c1, c2, c3, c4, c5, c6, c7, c8, c9, c10, c11, c12⟩ := blk12 hq
  have HQ6 := Aside0.mk hq
  have HS6 := Aside0.mk hs
  have B6 := Aside0.mk (textP_bys B5.out n5)
  have HC6 := Aside0.mk (Ch.two HC5.out hch)
  clear hq hs hch
  go_wp2_with fail
  refine (int_get w0 w6 p g 5 44 _ 0 vt x6 x7 1 n6 HS6.out B6.out HQ6.out rfl hgp hg0 (by decide)).mono ?_
  rintro e w7 ⟨rfl, hq, hs, hch⟩
  replace hq : w7.heap[g]? = some (.cells #[.int .i64 (k), .int .i64 (er), .int .i64 (tx), .int .i64 (id), .int .u64 (ti), .int .i64 (vt), .slice none 0 0, .bool (false), .int .i64 (0), .int .i64 (0), .string nil8, .string s] 44 (0, 0)) := hq
  clear c0 c1 c2 c3 c4 c5 c6 c7 c8 c9 c10 c11 c12
  obtain ⟨c0, c1, c2, c3, c4, c5, c6, c7, c8, c9, c10, c11, c12⟩ := blk12 hq
  have HQ7 := Aside0.mk hq
  have HS7 := Aside0.mk hs
  have B7 := Aside0.mk (numP_bys B6.out n6)
  have HC7 := Aside0.mk (Ch.two HC6.out hch)
  clear hq hs hch
  go_wp2_with fail
  refine (str_get w0 w7 p g 10 44 _ nil8 vs x7 ys n7 HS7.out B7.out HQ7.out rfl hgp hg0).mono ?_
  rintro e w8 ⟨rfl, hq, hs, hch⟩
  have HF := Aside0.mk (And.intro hq (And.intro hs (Ch.two HC7.out hch)))
  clear hq hs hch
  go_wp2_with fail
  go_ret
  exact ⟨rfl, ⟨none, 0, HF.out.1, Kd.R_nil _ _ _ _ _⟩, HF.out.2.1, HF.out.2.2⟩
set_option maxRecDepth 100000 in
set_option maxHeartbeats 1000000 in
theorem rep_4l (w0 w : World) (p g : Nat) (xs : List Int) (h : Src w0 w p xs) (hby : Bys xs) (hg : w.heap[g]? = some (.cells #[.int .i64 (0), .int .i64 (0), .int .i64 (0), .int .i64 (0), .int .u64 (0), .int .i64 (0), .slice none 0 0, .bool (false), .int .i64 (0), .int .i64 (0), .string nil8, .string nil8] 44 (0, 0))) (hgp : g ≠ p) (hg0 : w0.heap.size ≤ g) {k : Int} {x1 : List Int} (n0 : numP 1 xs = some (k, x1)) {er : Int} {x2 : List Int} (n1 : numP 2 x1 = some (er, x2)) {tx : Int} {x3 : List Int} (n2 : numP 4 x2 = some (tx, x3)) {id : Int} {x4 : List Int} (n3 : numP 4 x3 = some (id, x4)) {ti : Int} {x5 : List Int} (n4 : numP 8 x4 = some (ti, x5)) {s : ByteArray} {x6 : List Int} (n5 : textP x5 = some (s, x6)) {vt : Int} {x7 : List Int} (n6 : numP 1 x6 = some (vt, x7)) (hv : vt = 4) (n7 : textP x7 = none) :
    Calls Try.prog 33 #[.pointer (some ⟨p, 0, none⟩), .pointer (some ⟨g, 0, none⟩)] w (RRes w0 w p g (none)) := by
  have b1 : (vt == 1) = false := by simp; omega
  have b2 : (vt == 2) = false := by simp; omega
  have b3 : (vt == 3) = false := by simp; omega
  have b4 : (vt == 4) = true := by simp; omega
  clear hv
  have HQ0 := Aside0.mk hg
  have HS0 := Aside0.mk h
  have B0 := Aside0.mk hby
  have HC0 := Aside0.mk (Ch.refl (fun k => k = p ∨ k = g) w)
  have hglt := blk_lt hg
  obtain ⟨c0, c1, c2, c3, c4, c5, c6, c7, c8, c9, c10, c11, c12⟩ := blk12 hg
  clear h hby hg
  go_enter Try.func33, Try.ntmps33
  go_wp2_with fail
  refine (int_get w0 w p g 0 44 _ 0 k xs x1 1 n0 HS0.out B0.out HQ0.out rfl hgp hg0 (by decide)).mono ?_
  rintro e w1 ⟨rfl, hq, hs, hch⟩
  replace hq : w1.heap[g]? = some (.cells #[.int .i64 (k), .int .i64 (0), .int .i64 (0), .int .i64 (0), .int .u64 (0), .int .i64 (0), .slice none 0 0, .bool (false), .int .i64 (0), .int .i64 (0), .string nil8, .string nil8] 44 (0, 0)) := hq
  clear c0 c1 c2 c3 c4 c5 c6 c7 c8 c9 c10 c11 c12
  obtain ⟨c0, c1, c2, c3, c4, c5, c6, c7, c8, c9, c10, c11, c12⟩ := blk12 hq
  have HQ1 := Aside0.mk hq
  have HS1 := Aside0.mk hs
  have B1 := Aside0.mk (numP_bys B0.out n0)
  have HC1 := Aside0.mk (Ch.two HC0.out hch)
  clear hq hs hch
  go_wp2_with fail
  refine (int_get_new w0 w1 p 0 er x1 x2 2 n1 HS1.out B1.out (by decide)).mono ?_
  rintro e v1 ⟨rfl, hq, hs, hch⟩
  have hx0 := (blk_cell hq 0).trans (show _ = some (.int .i64 er) from rfl)
  have hg' := hch.heap HQ1.out hgp
  clear c0 c1 c2 c3 c4 c5 c6 c7 c8 c9 c10 c11 c12
  obtain ⟨c0, c1, c2, c3, c4, c5, c6, c7, c8, c9, c10, c11, c12⟩ := blk12 hg'
  have hq' : (v1.setCell ⟨g, 1, none⟩ (.int .i64 er)).heap[g]? = some (.cells #[.int .i64 (k), .int .i64 (er), .int .i64 (0), .int .i64 (0), .int .u64 (0), .int .i64 (0), .slice none 0 0, .bool (false), .int .i64 (0), .int .i64 (0), .string nil8, .string nil8] 44 (0, 0)) := blk_upd 1 (.int .i64 er) hg' rfl
  have HQ2 := Aside0.mk hq'
  have HS2 := Aside0.mk (hs.put hgp hg0 1 (.int .i64 er))
  have B2 := Aside0.mk (numP_bys B1.out n1)
  have HC2 := Aside0.mk (Ch.two HC1.out ((hch.mono (S' := fun k => k = p ∨ k = g) (fun k hk _ => .inl hk)).setCell (p := ⟨g, 1, none⟩) (.inl (.inr rfl)) (.int .i64 er)))
  clear hq hs hch hg' hq'
  go_wp2_with fail
  generalize (v1.setCell ⟨g, 1, none⟩ (.int .i64 er)) = w2 at *
  clear c0 c1 c2 c3 c4 c5 c6 c7 c8 c9 c10 c11 c12 hx0
  obtain ⟨c0, c1, c2, c3, c4, c5, c6, c7, c8, c9, c10, c11, c12⟩ := blk12 HQ2.out
  refine (int_get w0 w2 p g 2 44 _ 0 tx x2 x3 4 n2 HS2.out B2.out HQ2.out rfl hgp hg0 (by decide)).mono ?_
  rintro e w3 ⟨rfl, hq, hs, hch⟩
  replace hq : w3.heap[g]? = some (.cells #[.int .i64 (k), .int .i64 (er), .int .i64 (tx), .int .i64 (0), .int .u64 (0), .int .i64 (0), .slice none 0 0, .bool (false), .int .i64 (0), .int .i64 (0), .string nil8, .string nil8] 44 (0, 0)) := hq
  clear c0 c1 c2 c3 c4 c5 c6 c7 c8 c9 c10 c11 c12
  obtain ⟨c0, c1, c2, c3, c4, c5, c6, c7, c8, c9, c10, c11, c12⟩ := blk12 hq
  have HQ3 := Aside0.mk hq
  have HS3 := Aside0.mk hs
  have B3 := Aside0.mk (numP_bys B2.out n2)
  have HC3 := Aside0.mk (Ch.two HC2.out hch)
  clear hq hs hch
  go_wp2_with fail
  refine (int_get w0 w3 p g 3 44 _ 0 id x3 x4 4 n3 HS3.out B3.out HQ3.out rfl hgp hg0 (by decide)).mono ?_
  rintro e w4 ⟨rfl, hq, hs, hch⟩
  replace hq : w4.heap[g]? = some (.cells #[.int .i64 (k), .int .i64 (er), .int .i64 (tx), .int .i64 (id), .int .u64 (0), .int .i64 (0), .slice none 0 0, .bool (false), .int .i64 (0), .int .i64 (0), .string nil8, .string nil8] 44 (0, 0)) := hq
  clear c0 c1 c2 c3 c4 c5 c6 c7 c8 c9 c10 c11 c12
  obtain ⟨c0, c1, c2, c3, c4, c5, c6, c7, c8, c9, c10, c11, c12⟩ := blk12 hq
  have HQ4 := Aside0.mk hq
  have HS4 := Aside0.mk hs
  have B4 := Aside0.mk (numP_bys B3.out n3)
  have HC4 := Aside0.mk (Ch.two HC3.out hch)
  clear hq hs hch
  go_wp2_with fail
  refine (num_get w0 w4 p g 4 44 _ 0 ti x4 x5 8 n4 HS4.out B4.out HQ4.out rfl hgp hg0 (by decide)).mono ?_
  rintro e w5 ⟨rfl, hq, hs, hch⟩
  replace hq : w5.heap[g]? = some (.cells #[.int .i64 (k), .int .i64 (er), .int .i64 (tx), .int .i64 (id), .int .u64 (ti), .int .i64 (0), .slice none 0 0, .bool (false), .int .i64 (0), .int .i64 (0), .string nil8, .string nil8] 44 (0, 0)) := hq
  clear c0 c1 c2 c3 c4 c5 c6 c7 c8 c9 c10 c11 c12
  obtain ⟨c0, c1, c2, c3, c4, c5, c6, c7, c8, c9, c10, c11, c12⟩ := blk12 hq
  have HQ5 := Aside0.mk hq
  have HS5 := Aside0.mk hs
  have B5 := Aside0.mk (numP_bys B4.out n4)
  have HC5 := Aside0.mk (Ch.two HC4.out hch)
  clear hq hs hch
  go_wp2_with fail
  refine (str_get w0 w5 p g 11 44 _ nil8 s x5 x6 n5 HS5.out B5.out HQ5.out rfl hgp hg0).mono ?_
  rintro e w6 ⟨rfl, hq, hs, hch⟩
  replace hq : w6.heap[g]? = some (.cells #[.int .i64 (k), .int .i64 (er), .int .i64 (tx), .int .i64 (id), .int .u64 (ti), .int .i64 (0), .slice none 0 0, .bool (false), .int .i64 (0), .int .i64 (0), .string nil8, .string s] 44 (0, 0)) := hq
  clear c0 c1 c2 c3 c4 c5 c6 c7 c8 c9 c10 c11 c12
  obtain ⟨c0, c1, c2, c3, c4, c5, c6, c7, c8, c9, c10, c11, c12⟩ := blk12 hq
  have HQ6 := Aside0.mk hq
  have HS6 := Aside0.mk hs
  have B6 := Aside0.mk (textP_bys B5.out n5)
  have HC6 := Aside0.mk (Ch.two HC5.out hch)
  clear hq hs hch
  go_wp2_with fail
  refine (int_get w0 w6 p g 5 44 _ 0 vt x6 x7 1 n6 HS6.out B6.out HQ6.out rfl hgp hg0 (by decide)).mono ?_
  rintro e w7 ⟨rfl, hq, hs, hch⟩
  replace hq : w7.heap[g]? = some (.cells #[.int .i64 (k), .int .i64 (er), .int .i64 (tx), .int .i64 (id), .int .u64 (ti), .int .i64 (vt), .slice none 0 0, .bool (false), .int .i64 (0), .int .i64 (0), .string nil8, .string s] 44 (0, 0)) := hq
  clear c0 c1 c2 c3 c4 c5 c6 c7 c8 c9 c10 c11 c12
  obtain ⟨c0, c1, c2, c3, c4, c5, c6, c7, c8, c9, c10, c11, c12⟩ := blk12 hq
  have HQ7 := Aside0.mk hq
  have HS7 := Aside0.mk hs
  have B7 := Aside0.mk (numP_bys B6.out n6)
  have HC7 := Aside0.mk (Ch.two HC6.out hch)
  clear hq hs hch
  go_wp2_with fail
  refine (str_lost w0 w7 p g 10 44 _ nil8 x7 n7 HS7.out B7.out HQ7.out rfl hgp hg0).mono ?_
  rintro e w8 ⟨rfl, hch⟩
  exact ⟨rfl, ⟨rfl, Ch.two HC7.out hch⟩⟩
set_option maxRecDepth 100000 in
set_option maxHeartbeats 1000000 in
theorem rep_2 (w0 w : World) (p g : Nat) (xs : List Int) (h : Src w0 w p xs) (hby : Bys xs) (hg : w.heap[g]? = some (.cells #[.int .i64 (0), .int .i64 (0), .int .i64 (0), .int .i64 (0), .int .u64 (0), .int .i64 (0), .slice none 0 0, .bool (false), .int .i64 (0), .int .i64 (0), .string nil8, .string nil8] 44 (0, 0))) (hgp : g ≠ p) (hg0 : w0.heap.size ≤ g) {k : Int} {x1 : List Int} (n0 : numP 1 xs = some (k, x1)) {er : Int} {x2 : List Int} (n1 : numP 2 x1 = some (er, x2)) {tx : Int} {x3 : List Int} (n2 : numP 4 x2 = some (tx, x3)) {id : Int} {x4 : List Int} (n3 : numP 4 x3 = some (id, x4)) {ti : Int} {x5 : List Int} (n4 : numP 8 x4 = some (ti, x5)) {s : ByteArray} {x6 : List Int} (n5 : textP x5 = some (s, x6)) {vt : Int} {x7 : List Int} (n6 : numP 1 x6 = some (vt, x7)) (hv : vt = 2) {v : Int} {ys : List Int} (n7 : numP 1 x7 = some (v, ys)) :
    Calls Try.prog 33 #[.pointer (some ⟨p, 0, none⟩), .pointer (some ⟨g, 0, none⟩)] w (RRes w0 w p g (some (⟨k, er, tx, id, ti, vt, [], v == 1, 0, 0, nil8, s⟩, decide (v ≤ 1), ys))) := by
  have b1 : (vt == 1) = false := by simp; omega
  have b2 : (vt == 2) = true := by simp; omega
  have b3 : (vt == 3) = false := by simp; omega
  have b4 : (vt == 4) = false := by simp; omega
  clear hv
  have HQ0 := Aside0.mk hg
  have HS0 := Aside0.mk h
  have B0 := Aside0.mk hby
  have HC0 := Aside0.mk (Ch.refl (fun k => k = p ∨ k = g) w)
  have hglt := blk_lt hg
  obtain ⟨c0, c1, c2, c3, c4, c5, c6, c7, c8, c9, c10, c11, c12⟩ := blk12 hg
  clear h hby hg
  go_enter Try.func33, Try.ntmps33
  go_wp2_with fail
  refine (int_get w0 w p g 0 44 _ 0 k xs x1 1 n0 HS0.out B0.out HQ0.out rfl hgp hg0 (by decide)).mono ?_
  rintro e w1 ⟨rfl, hq, hs, hch⟩
  replace hq : w1.heap[g]? = some (.cells #[.int .i64 (k), .int .i64 (0), .int .i64 (0), .int .i64 (0), .int .u64 (0), .int .i64 (0), .slice none 0 0, .bool (false), .int .i64 (0), .int .i64 (0), .string nil8, .string nil8] 44 (0, 0)) := hq
  clear c0 c1 c2 c3 c4 c5 c6 c7 c8 c9 c10 c11 c12
  obtain ⟨c0, c1, c2, c3, c4, c5, c6, c7, c8, c9, c10, c11, c12⟩ := blk12 hq
  have HQ1 := Aside0.mk hq
  have HS1 := Aside0.mk hs
  have B1 := Aside0.mk (numP_bys B0.out n0)
  have HC1 := Aside0.mk (Ch.two HC0.out hch)
  clear hq hs hch
  go_wp2_with fail
  refine (int_get_new w0 w1 p 0 er x1 x2 2 n1 HS1.out B1.out (by decide)).mono ?_
  rintro e v1 ⟨rfl, hq, hs, hch⟩
  have hx0 := (blk_cell hq 0).trans (show _ = some (.int .i64 er) from rfl)
  have hg' := hch.heap HQ1.out hgp
  clear c0 c1 c2 c3 c4 c5 c6 c7 c8 c9 c10 c11 c12
  obtain ⟨c0, c1, c2, c3, c4, c5, c6, c7, c8, c9, c10, c11, c12⟩ := blk12 hg'
  have hq' : (v1.setCell ⟨g, 1, none⟩ (.int .i64 er)).heap[g]? = some (.cells #[.int .i64 (k), .int .i64 (er), .int .i64 (0), .int .i64 (0), .int .u64 (0), .int .i64 (0), .slice none 0 0, .bool (false), .int .i64 (0), .int .i64 (0), .string nil8, .string nil8] 44 (0, 0)) := blk_upd 1 (.int .i64 er) hg' rfl
  have HQ2 := Aside0.mk hq'
  have HS2 := Aside0.mk (hs.put hgp hg0 1 (.int .i64 er))
  have B2 := Aside0.mk (numP_bys B1.out n1)
  have HC2 := Aside0.mk (Ch.two HC1.out ((hch.mono (S' := fun k => k = p ∨ k = g) (fun k hk _ => .inl hk)).setCell (p := ⟨g, 1, none⟩) (.inl (.inr rfl)) (.int .i64 er)))
  clear hq hs hch hg' hq'
  go_wp2_with fail
  generalize (v1.setCell ⟨g, 1, none⟩ (.int .i64 er)) = w2 at *
  clear c0 c1 c2 c3 c4 c5 c6 c7 c8 c9 c10 c11 c12 hx0
  obtain ⟨c0, c1, c2, c3, c4, c5, c6, c7, c8, c9, c10, c11, c12⟩ := blk12 HQ2.out
  refine (int_get w0 w2 p g 2 44 _ 0 tx x2 x3 4 n2 HS2.out B2.out HQ2.out rfl hgp hg0 (by decide)).mono ?_
  rintro e w3 ⟨rfl, hq, hs, hch⟩
  replace hq : w3.heap[g]? = some (.cells #[.int .i64 (k), .int .i64 (er), .int .i64 (tx), .int .i64 (0), .int .u64 (0), .int .i64 (0), .slice none 0 0, .bool (false), .int .i64 (0), .int .i64 (0), .string nil8, .string nil8] 44 (0, 0)) := hq
  clear c0 c1 c2 c3 c4 c5 c6 c7 c8 c9 c10 c11 c12
  obtain ⟨c0, c1, c2, c3, c4, c5, c6, c7, c8, c9, c10, c11, c12⟩ := blk12 hq
  have HQ3 := Aside0.mk hq
  have HS3 := Aside0.mk hs
  have B3 := Aside0.mk (numP_bys B2.out n2)
  have HC3 := Aside0.mk (Ch.two HC2.out hch)
  clear hq hs hch
  go_wp2_with fail
  refine (int_get w0 w3 p g 3 44 _ 0 id x3 x4 4 n3 HS3.out B3.out HQ3.out rfl hgp hg0 (by decide)).mono ?_
  rintro e w4 ⟨rfl, hq, hs, hch⟩
  replace hq : w4.heap[g]? = some (.cells #[.int .i64 (k), .int .i64 (er), .int .i64 (tx), .int .i64 (id), .int .u64 (0), .int .i64 (0), .slice none 0 0, .bool (false), .int .i64 (0), .int .i64 (0), .string nil8, .string nil8] 44 (0, 0)) := hq
  clear c0 c1 c2 c3 c4 c5 c6 c7 c8 c9 c10 c11 c12
  obtain ⟨c0, c1, c2, c3, c4, c5, c6, c7, c8, c9, c10, c11, c12⟩ := blk12 hq
  have HQ4 := Aside0.mk hq
  have HS4 := Aside0.mk hs
  have B4 := Aside0.mk (numP_bys B3.out n3)
  have HC4 := Aside0.mk (Ch.two HC3.out hch)
  clear hq hs hch
  go_wp2_with fail
  refine (num_get w0 w4 p g 4 44 _ 0 ti x4 x5 8 n4 HS4.out B4.out HQ4.out rfl hgp hg0 (by decide)).mono ?_
  rintro e w5 ⟨rfl, hq, hs, hch⟩
  replace hq : w5.heap[g]? = some (.cells #[.int .i64 (k), .int .i64 (er), .int .i64 (tx), .int .i64 (id), .int .u64 (ti), .int .i64 (0), .slice none 0 0, .bool (false), .int .i64 (0), .int .i64 (0), .string nil8, .string nil8] 44 (0, 0)) := hq
  clear c0 c1 c2 c3 c4 c5 c6 c7 c8 c9 c10 c11 c12
  obtain ⟨c0, c1, c2, c3, c4, c5, c6, c7, c8, c9, c10, c11, c12⟩ := blk12 hq
  have HQ5 := Aside0.mk hq
  have HS5 := Aside0.mk hs
  have B5 := Aside0.mk (numP_bys B4.out n4)
  have HC5 := Aside0.mk (Ch.two HC4.out hch)
  clear hq hs hch
  go_wp2_with fail
  refine (str_get w0 w5 p g 11 44 _ nil8 s x5 x6 n5 HS5.out B5.out HQ5.out rfl hgp hg0).mono ?_
  rintro e w6 ⟨rfl, hq, hs, hch⟩
  replace hq : w6.heap[g]? = some (.cells #[.int .i64 (k), .int .i64 (er), .int .i64 (tx), .int .i64 (id), .int .u64 (ti), .int .i64 (0), .slice none 0 0, .bool (false), .int .i64 (0), .int .i64 (0), .string nil8, .string s] 44 (0, 0)) := hq
  clear c0 c1 c2 c3 c4 c5 c6 c7 c8 c9 c10 c11 c12
  obtain ⟨c0, c1, c2, c3, c4, c5, c6, c7, c8, c9, c10, c11, c12⟩ := blk12 hq
  have HQ6 := Aside0.mk hq
  have HS6 := Aside0.mk hs
  have B6 := Aside0.mk (textP_bys B5.out n5)
  have HC6 := Aside0.mk (Ch.two HC5.out hch)
  clear hq hs hch
  go_wp2_with fail
  refine (int_get w0 w6 p g 5 44 _ 0 vt x6 x7 1 n6 HS6.out B6.out HQ6.out rfl hgp hg0 (by decide)).mono ?_
  rintro e w7 ⟨rfl, hq, hs, hch⟩
  replace hq : w7.heap[g]? = some (.cells #[.int .i64 (k), .int .i64 (er), .int .i64 (tx), .int .i64 (id), .int .u64 (ti), .int .i64 (vt), .slice none 0 0, .bool (false), .int .i64 (0), .int .i64 (0), .string nil8, .string s] 44 (0, 0)) := hq
  clear c0 c1 c2 c3 c4 c5 c6 c7 c8 c9 c10 c11 c12
  obtain ⟨c0, c1, c2, c3, c4, c5, c6, c7, c8, c9, c10, c11, c12⟩ := blk12 hq
  have HQ7 := Aside0.mk hq
  have HS7 := Aside0.mk hs
  have B7 := Aside0.mk (numP_bys B6.out n6)
  have HC7 := Aside0.mk (Ch.two HC6.out hch)
  clear hq hs hch
  go_wp2_with fail
  refine (truth_get w0 w7 p g 7 44 _ v x7 ys n7 HS7.out B7.out HQ7.out rfl hgp hg0).mono ?_
  rintro e w8 ⟨rfl, hq, hs, hch⟩
  have HF := Aside0.mk (And.intro hq (And.intro hs (Ch.two HC7.out hch)))
  clear hq hs hch
  go_wp2_with fail
  go_ret
  exact ⟨rfl, ⟨none, 0, HF.out.1, Kd.R_nil _ _ _ _ _⟩, HF.out.2.1, HF.out.2.2⟩
set_option maxRecDepth 100000 in
set_option maxHeartbeats 1000000 in
theorem rep_2l (w0 w : World) (p g : Nat) (xs : List Int) (h : Src w0 w p xs) (hby : Bys xs) (hg : w.heap[g]? = some (.cells #[.int .i64 (0), .int .i64 (0), .int .i64 (0), .int .i64 (0), .int .u64 (0), .int .i64 (0), .slice none 0 0, .bool (false), .int .i64 (0), .int .i64 (0), .string nil8, .string nil8] 44 (0, 0))) (hgp : g ≠ p) (hg0 : w0.heap.size ≤ g) {k : Int} {x1 : List Int} (n0 : numP 1 xs = some (k, x1)) {er : Int} {x2 : List Int} (n1 : numP 2 x1 = some (er, x2)) {tx : Int} {x3 : List Int} (n2 : numP 4 x2 = some (tx, x3)) {id : Int} {x4 : List Int} (n3 : numP 4 x3 = some (id, x4)) {ti : Int} {x5 : List Int} (n4 : numP 8 x4 = some (ti, x5)) {s : ByteArray} {x6 : List Int} (n5 : textP x5 = some (s, x6)) {vt : Int} {x7 : List Int} (n6 : numP 1 x6 = some (vt, x7)) (hv : vt = 2) (n7 : numP 1 x7 = none) :
    Calls Try.prog 33 #[.pointer (some ⟨p, 0, none⟩), .pointer (some ⟨g, 0, none⟩)] w (RRes w0 w p g (none)) := by
  have b1 : (vt == 1) = false := by simp; omega
  have b2 : (vt == 2) = true := by simp; omega
  have b3 : (vt == 3) = false := by simp; omega
  have b4 : (vt == 4) = false := by simp; omega
  clear hv
  have HQ0 := Aside0.mk hg
  have HS0 := Aside0.mk h
  have B0 := Aside0.mk hby
  have HC0 := Aside0.mk (Ch.refl (fun k => k = p ∨ k = g) w)
  have hglt := blk_lt hg
  obtain ⟨c0, c1, c2, c3, c4, c5, c6, c7, c8, c9, c10, c11, c12⟩ := blk12 hg
  clear h hby hg
  go_enter Try.func33, Try.ntmps33
  go_wp2_with fail
  refine (int_get w0 w p g 0 44 _ 0 k xs x1 1 n0 HS0.out B0.out HQ0.out rfl hgp hg0 (by decide)).mono ?_
  rintro e w1 ⟨rfl, hq, hs, hch⟩
  replace hq : w1.heap[g]? = some (.cells #[.int .i64 (k), .int .i64 (0), .int .i64 (0), .int .i64 (0), .int .u64 (0), .int .i64 (0), .slice none 0 0, .bool (false), .int .i64 (0), .int .i64 (0), .string nil8, .string nil8] 44 (0, 0)) := hq
  clear c0 c1 c2 c3 c4 c5 c6 c7 c8 c9 c10 c11 c12
  obtain ⟨c0, c1, c2, c3, c4, c5, c6, c7, c8, c9, c10, c11, c12⟩ := blk12 hq
  have HQ1 := Aside0.mk hq
  have HS1 := Aside0.mk hs
  have B1 := Aside0.mk (numP_bys B0.out n0)
  have HC1 := Aside0.mk (Ch.two HC0.out hch)
  clear hq hs hch
  go_wp2_with fail
  refine (int_get_new w0 w1 p 0 er x1 x2 2 n1 HS1.out B1.out (by decide)).mono ?_
  rintro e v1 ⟨rfl, hq, hs, hch⟩
  have hx0 := (blk_cell hq 0).trans (show _ = some (.int .i64 er) from rfl)
  have hg' := hch.heap HQ1.out hgp
  clear c0 c1 c2 c3 c4 c5 c6 c7 c8 c9 c10 c11 c12
  obtain ⟨c0, c1, c2, c3, c4, c5, c6, c7, c8, c9, c10, c11, c12⟩ := blk12 hg'
  have hq' : (v1.setCell ⟨g, 1, none⟩ (.int .i64 er)).heap[g]? = some (.cells #[.int .i64 (k), .int .i64 (er), .int .i64 (0), .int .i64 (0), .int .u64 (0), .int .i64 (0), .slice none 0 0, .bool (false), .int .i64 (0), .int .i64 (0), .string nil8, .string nil8] 44 (0, 0)) := blk_upd 1 (.int .i64 er) hg' rfl
  have HQ2 := Aside0.mk hq'
  have HS2 := Aside0.mk (hs.put hgp hg0 1 (.int .i64 er))
  have B2 := Aside0.mk (numP_bys B1.out n1)
  have HC2 := Aside0.mk (Ch.two HC1.out ((hch.mono (S' := fun k => k = p ∨ k = g) (fun k hk _ => .inl hk)).setCell (p := ⟨g, 1, none⟩) (.inl (.inr rfl)) (.int .i64 er)))
  clear hq hs hch hg' hq'
  go_wp2_with fail
  generalize (v1.setCell ⟨g, 1, none⟩ (.int .i64 er)) = w2 at *
  clear c0 c1 c2 c3 c4 c5 c6 c7 c8 c9 c10 c11 c12 hx0
  obtain ⟨c0, c1, c2, c3, c4, c5, c6, c7, c8, c9, c10, c11, c12⟩ := blk12 HQ2.out
  refine (int_get w0 w2 p g 2 44 _ 0 tx x2 x3 4 n2 HS2.out B2.out HQ2.out rfl hgp hg0 (by decide)).mono ?_
  rintro e w3 ⟨rfl, hq, hs, hch⟩
  replace hq : w3.heap[g]? = some (.cells #[.int .i64 (k), .int .i64 (er), .int .i64 (tx), .int .i64 (0), .int .u64 (0), .int .i64 (0), .slice none 0 0, .bool (false), .int .i64 (0), .int .i64 (0), .string nil8, .string nil8] 44 (0, 0)) := hq
  clear c0 c1 c2 c3 c4 c5 c6 c7 c8 c9 c10 c11 c12
  obtain ⟨c0, c1, c2, c3, c4, c5, c6, c7, c8, c9, c10, c11, c12⟩ := blk12 hq
  have HQ3 := Aside0.mk hq
  have HS3 := Aside0.mk hs
  have B3 := Aside0.mk (numP_bys B2.out n2)
  have HC3 := Aside0.mk (Ch.two HC2.out hch)
  clear hq hs hch
  go_wp2_with fail
  refine (int_get w0 w3 p g 3 44 _ 0 id x3 x4 4 n3 HS3.out B3.out HQ3.out rfl hgp hg0 (by decide)).mono ?_
  rintro e w4 ⟨rfl, hq, hs, hch⟩
  replace hq : w4.heap[g]? = some (.cells #[.int .i64 (k), .int .i64 (er), .int .i64 (tx), .int .i64 (id), .int .u64 (0), .int .i64 (0), .slice none 0 0, .bool (false), .int .i64 (0), .int .i64 (0), .string nil8, .string nil8] 44 (0, 0)) := hq
  clear c0 c1 c2 c3 c4 c5 c6 c7 c8 c9 c10 c11 c12
  obtain ⟨c0, c1, c2, c3, c4, c5, c6, c7, c8, c9, c10, c11, c12⟩ := blk12 hq
  have HQ4 := Aside0.mk hq
  have HS4 := Aside0.mk hs
  have B4 := Aside0.mk (numP_bys B3.out n3)
  have HC4 := Aside0.mk (Ch.two HC3.out hch)
  clear hq hs hch
  go_wp2_with fail
  refine (num_get w0 w4 p g 4 44 _ 0 ti x4 x5 8 n4 HS4.out B4.out HQ4.out rfl hgp hg0 (by decide)).mono ?_
  rintro e w5 ⟨rfl, hq, hs, hch⟩
  replace hq : w5.heap[g]? = some (.cells #[.int .i64 (k), .int .i64 (er), .int .i64 (tx), .int .i64 (id), .int .u64 (ti), .int .i64 (0), .slice none 0 0, .bool (false), .int .i64 (0), .int .i64 (0), .string nil8, .string nil8] 44 (0, 0)) := hq
  clear c0 c1 c2 c3 c4 c5 c6 c7 c8 c9 c10 c11 c12
  obtain ⟨c0, c1, c2, c3, c4, c5, c6, c7, c8, c9, c10, c11, c12⟩ := blk12 hq
  have HQ5 := Aside0.mk hq
  have HS5 := Aside0.mk hs
  have B5 := Aside0.mk (numP_bys B4.out n4)
  have HC5 := Aside0.mk (Ch.two HC4.out hch)
  clear hq hs hch
  go_wp2_with fail
  refine (str_get w0 w5 p g 11 44 _ nil8 s x5 x6 n5 HS5.out B5.out HQ5.out rfl hgp hg0).mono ?_
  rintro e w6 ⟨rfl, hq, hs, hch⟩
  replace hq : w6.heap[g]? = some (.cells #[.int .i64 (k), .int .i64 (er), .int .i64 (tx), .int .i64 (id), .int .u64 (ti), .int .i64 (0), .slice none 0 0, .bool (false), .int .i64 (0), .int .i64 (0), .string nil8, .string s] 44 (0, 0)) := hq
  clear c0 c1 c2 c3 c4 c5 c6 c7 c8 c9 c10 c11 c12
  obtain ⟨c0, c1, c2, c3, c4, c5, c6, c7, c8, c9, c10, c11, c12⟩ := blk12 hq
  have HQ6 := Aside0.mk hq
  have HS6 := Aside0.mk hs
  have B6 := Aside0.mk (textP_bys B5.out n5)
  have HC6 := Aside0.mk (Ch.two HC5.out hch)
  clear hq hs hch
  go_wp2_with fail
  refine (int_get w0 w6 p g 5 44 _ 0 vt x6 x7 1 n6 HS6.out B6.out HQ6.out rfl hgp hg0 (by decide)).mono ?_
  rintro e w7 ⟨rfl, hq, hs, hch⟩
  replace hq : w7.heap[g]? = some (.cells #[.int .i64 (k), .int .i64 (er), .int .i64 (tx), .int .i64 (id), .int .u64 (ti), .int .i64 (vt), .slice none 0 0, .bool (false), .int .i64 (0), .int .i64 (0), .string nil8, .string s] 44 (0, 0)) := hq
  clear c0 c1 c2 c3 c4 c5 c6 c7 c8 c9 c10 c11 c12
  obtain ⟨c0, c1, c2, c3, c4, c5, c6, c7, c8, c9, c10, c11, c12⟩ := blk12 hq
  have HQ7 := Aside0.mk hq
  have HS7 := Aside0.mk hs
  have B7 := Aside0.mk (numP_bys B6.out n6)
  have HC7 := Aside0.mk (Ch.two HC6.out hch)
  clear hq hs hch
  go_wp2_with fail
  refine (truth_lost w0 w7 p g 7 44 _ x7 n7 HS7.out HQ7.out rfl).mono ?_
  rintro e w8 ⟨rfl, hch⟩
  exact ⟨rfl, ⟨rfl, Ch.two HC7.out hch⟩⟩
set_option maxRecDepth 100000 in
set_option maxHeartbeats 1000000 in
theorem rep_1l (w0 w : World) (p g : Nat) (xs : List Int) (h : Src w0 w p xs) (hby : Bys xs) (hg : w.heap[g]? = some (.cells #[.int .i64 (0), .int .i64 (0), .int .i64 (0), .int .i64 (0), .int .u64 (0), .int .i64 (0), .slice none 0 0, .bool (false), .int .i64 (0), .int .i64 (0), .string nil8, .string nil8] 44 (0, 0))) (hgp : g ≠ p) (hg0 : w0.heap.size ≤ g) {k : Int} {x1 : List Int} (n0 : numP 1 xs = some (k, x1)) {er : Int} {x2 : List Int} (n1 : numP 2 x1 = some (er, x2)) {tx : Int} {x3 : List Int} (n2 : numP 4 x2 = some (tx, x3)) {id : Int} {x4 : List Int} (n3 : numP 4 x3 = some (id, x4)) {ti : Int} {x5 : List Int} (n4 : numP 8 x4 = some (ti, x5)) {s : ByteArray} {x6 : List Int} (n5 : textP x5 = some (s, x6)) {vt : Int} {x7 : List Int} (n6 : numP 1 x6 = some (vt, x7)) (hv : vt = 1) (n7 : nodesP x7 = none) :
    Calls Try.prog 33 #[.pointer (some ⟨p, 0, none⟩), .pointer (some ⟨g, 0, none⟩)] w (RRes w0 w p g (none)) := by
  have b1 : (vt == 1) = true := by simp; omega
  have b2 : (vt == 2) = false := by simp; omega
  have b3 : (vt == 3) = false := by simp; omega
  have b4 : (vt == 4) = false := by simp; omega
  clear hv
  have HQ0 := Aside0.mk hg
  have HS0 := Aside0.mk h
  have B0 := Aside0.mk hby
  have HC0 := Aside0.mk (Ch.refl (fun k => k = p ∨ k = g) w)
  have hglt := blk_lt hg
  obtain ⟨c0, c1, c2, c3, c4, c5, c6, c7, c8, c9, c10, c11, c12⟩ := blk12 hg
  clear h hby hg
  go_enter Try.func33, Try.ntmps33
  go_wp2_with fail
  refine (int_get w0 w p g 0 44 _ 0 k xs x1 1 n0 HS0.out B0.out HQ0.out rfl hgp hg0 (by decide)).mono ?_
  rintro e w1 ⟨rfl, hq, hs, hch⟩
  replace hq : w1.heap[g]? = some (.cells #[.int .i64 (k), .int .i64 (0), .int .i64 (0), .int .i64 (0), .int .u64 (0), .int .i64 (0), .slice none 0 0, .bool (false), .int .i64 (0), .int .i64 (0), .string nil8, .string nil8] 44 (0, 0)) := hq
  clear c0 c1 c2 c3 c4 c5 c6 c7 c8 c9 c10 c11 c12
  obtain ⟨c0, c1, c2, c3, c4, c5, c6, c7, c8, c9, c10, c11, c12⟩ := blk12 hq
  have HQ1 := Aside0.mk hq
  have HS1 := Aside0.mk hs
  have B1 := Aside0.mk (numP_bys B0.out n0)
  have HC1 := Aside0.mk (Ch.two HC0.out hch)
  clear hq hs hch
  go_wp2_with fail
  refine (int_get_new w0 w1 p 0 er x1 x2 2 n1 HS1.out B1.out (by decide)).mono ?_
  rintro e v1 ⟨rfl, hq, hs, hch⟩
  have hx0 := (blk_cell hq 0).trans (show _ = some (.int .i64 er) from rfl)
  have hg' := hch.heap HQ1.out hgp
  clear c0 c1 c2 c3 c4 c5 c6 c7 c8 c9 c10 c11 c12
  obtain ⟨c0, c1, c2, c3, c4, c5, c6, c7, c8, c9, c10, c11, c12⟩ := blk12 hg'
  have hq' : (v1.setCell ⟨g, 1, none⟩ (.int .i64 er)).heap[g]? = some (.cells #[.int .i64 (k), .int .i64 (er), .int .i64 (0), .int .i64 (0), .int .u64 (0), .int .i64 (0), .slice none 0 0, .bool (false), .int .i64 (0), .int .i64 (0), .string nil8, .string nil8] 44 (0, 0)) := blk_upd 1 (.int .i64 er) hg' rfl
  have HQ2 := Aside0.mk hq'
  have HS2 := Aside0.mk (hs.put hgp hg0 1 (.int .i64 er))
  have B2 := Aside0.mk (numP_bys B1.out n1)
  have HC2 := Aside0.mk (Ch.two HC1.out ((hch.mono (S' := fun k => k = p ∨ k = g) (fun k hk _ => .inl hk)).setCell (p := ⟨g, 1, none⟩) (.inl (.inr rfl)) (.int .i64 er)))
  clear hq hs hch hg' hq'
  go_wp2_with fail
  generalize (v1.setCell ⟨g, 1, none⟩ (.int .i64 er)) = w2 at *
  clear c0 c1 c2 c3 c4 c5 c6 c7 c8 c9 c10 c11 c12 hx0
  obtain ⟨c0, c1, c2, c3, c4, c5, c6, c7, c8, c9, c10, c11, c12⟩ := blk12 HQ2.out
  refine (int_get w0 w2 p g 2 44 _ 0 tx x2 x3 4 n2 HS2.out B2.out HQ2.out rfl hgp hg0 (by decide)).mono ?_
  rintro e w3 ⟨rfl, hq, hs, hch⟩
  replace hq : w3.heap[g]? = some (.cells #[.int .i64 (k), .int .i64 (er), .int .i64 (tx), .int .i64 (0), .int .u64 (0), .int .i64 (0), .slice none 0 0, .bool (false), .int .i64 (0), .int .i64 (0), .string nil8, .string nil8] 44 (0, 0)) := hq
  clear c0 c1 c2 c3 c4 c5 c6 c7 c8 c9 c10 c11 c12
  obtain ⟨c0, c1, c2, c3, c4, c5, c6, c7, c8, c9, c10, c11, c12⟩ := blk12 hq
  have HQ3 := Aside0.mk hq
  have HS3 := Aside0.mk hs
  have B3 := Aside0.mk (numP_bys B2.out n2)
  have HC3 := Aside0.mk (Ch.two HC2.out hch)
  clear hq hs hch
  go_wp2_with fail
  refine (int_get w0 w3 p g 3 44 _ 0 id x3 x4 4 n3 HS3.out B3.out HQ3.out rfl hgp hg0 (by decide)).mono ?_
  rintro e w4 ⟨rfl, hq, hs, hch⟩
  replace hq : w4.heap[g]? = some (.cells #[.int .i64 (k), .int .i64 (er), .int .i64 (tx), .int .i64 (id), .int .u64 (0), .int .i64 (0), .slice none 0 0, .bool (false), .int .i64 (0), .int .i64 (0), .string nil8, .string nil8] 44 (0, 0)) := hq
  clear c0 c1 c2 c3 c4 c5 c6 c7 c8 c9 c10 c11 c12
  obtain ⟨c0, c1, c2, c3, c4, c5, c6, c7, c8, c9, c10, c11, c12⟩ := blk12 hq
  have HQ4 := Aside0.mk hq
  have HS4 := Aside0.mk hs
  have B4 := Aside0.mk (numP_bys B3.out n3)
  have HC4 := Aside0.mk (Ch.two HC3.out hch)
  clear hq hs hch
  go_wp2_with fail
  refine (num_get w0 w4 p g 4 44 _ 0 ti x4 x5 8 n4 HS4.out B4.out HQ4.out rfl hgp hg0 (by decide)).mono ?_
  rintro e w5 ⟨rfl, hq, hs, hch⟩
  replace hq : w5.heap[g]? = some (.cells #[.int .i64 (k), .int .i64 (er), .int .i64 (tx), .int .i64 (id), .int .u64 (ti), .int .i64 (0), .slice none 0 0, .bool (false), .int .i64 (0), .int .i64 (0), .string nil8, .string nil8] 44 (0, 0)) := hq
  clear c0 c1 c2 c3 c4 c5 c6 c7 c8 c9 c10 c11 c12
  obtain ⟨c0, c1, c2, c3, c4, c5, c6, c7, c8, c9, c10, c11, c12⟩ := blk12 hq
  have HQ5 := Aside0.mk hq
  have HS5 := Aside0.mk hs
  have B5 := Aside0.mk (numP_bys B4.out n4)
  have HC5 := Aside0.mk (Ch.two HC4.out hch)
  clear hq hs hch
  go_wp2_with fail
  refine (str_get w0 w5 p g 11 44 _ nil8 s x5 x6 n5 HS5.out B5.out HQ5.out rfl hgp hg0).mono ?_
  rintro e w6 ⟨rfl, hq, hs, hch⟩
  replace hq : w6.heap[g]? = some (.cells #[.int .i64 (k), .int .i64 (er), .int .i64 (tx), .int .i64 (id), .int .u64 (ti), .int .i64 (0), .slice none 0 0, .bool (false), .int .i64 (0), .int .i64 (0), .string nil8, .string s] 44 (0, 0)) := hq
  clear c0 c1 c2 c3 c4 c5 c6 c7 c8 c9 c10 c11 c12
  obtain ⟨c0, c1, c2, c3, c4, c5, c6, c7, c8, c9, c10, c11, c12⟩ := blk12 hq
  have HQ6 := Aside0.mk hq
  have HS6 := Aside0.mk hs
  have B6 := Aside0.mk (textP_bys B5.out n5)
  have HC6 := Aside0.mk (Ch.two HC5.out hch)
  clear hq hs hch
  go_wp2_with fail
  refine (int_get w0 w6 p g 5 44 _ 0 vt x6 x7 1 n6 HS6.out B6.out HQ6.out rfl hgp hg0 (by decide)).mono ?_
  rintro e w7 ⟨rfl, hq, hs, hch⟩
  replace hq : w7.heap[g]? = some (.cells #[.int .i64 (k), .int .i64 (er), .int .i64 (tx), .int .i64 (id), .int .u64 (ti), .int .i64 (vt), .slice none 0 0, .bool (false), .int .i64 (0), .int .i64 (0), .string nil8, .string s] 44 (0, 0)) := hq
  clear c0 c1 c2 c3 c4 c5 c6 c7 c8 c9 c10 c11 c12
  obtain ⟨c0, c1, c2, c3, c4, c5, c6, c7, c8, c9, c10, c11, c12⟩ := blk12 hq
  have HQ7 := Aside0.mk hq
  have HS7 := Aside0.mk hs
  have B7 := Aside0.mk (numP_bys B6.out n6)
  have HC7 := Aside0.mk (Ch.two HC6.out hch)
  clear hq hs hch
  have C8 := nodes_read w0 w7 p g 6 44 _ x7 HS7.out B7.out HQ7.out rfl hgp hg0 (by decide)
  rw [n7] at C8
  go_wp2_with fail
  refine C8.mono ?_
  rintro e w8 ⟨rfl, hch⟩
  exact ⟨rfl, ⟨rfl, Ch.two HC7.out hch⟩⟩
set_option maxRecDepth 100000 in
set_option maxHeartbeats 1000000 in
theorem rep_1 (w0 w : World) (p g : Nat) (xs : List Int) (h : Src w0 w p xs) (hby : Bys xs) (hg : w.heap[g]? = some (.cells #[.int .i64 (0), .int .i64 (0), .int .i64 (0), .int .i64 (0), .int .u64 (0), .int .i64 (0), .slice none 0 0, .bool (false), .int .i64 (0), .int .i64 (0), .string nil8, .string nil8] 44 (0, 0))) (hgp : g ≠ p) (hg0 : w0.heap.size ≤ g) {k : Int} {x1 : List Int} (n0 : numP 1 xs = some (k, x1)) {er : Int} {x2 : List Int} (n1 : numP 2 x1 = some (er, x2)) {tx : Int} {x3 : List Int} (n2 : numP 4 x2 = some (tx, x3)) {id : Int} {x4 : List Int} (n3 : numP 4 x3 = some (id, x4)) {ti : Int} {x5 : List Int} (n4 : numP 8 x4 = some (ti, x5)) {s : ByteArray} {x6 : List Int} (n5 : textP x5 = some (s, x6)) {vt : Int} {x7 : List Int} (n6 : numP 1 x6 = some (vt, x7)) (hv : vt = 1) {l ys : List Int} (n7 : nodesP x7 = some (l, ys)) :
    Calls Try.prog 33 #[.pointer (some ⟨p, 0, none⟩), .pointer (some ⟨g, 0, none⟩)] w (RRes w0 w p g (some (⟨k, er, tx, id, ti, vt, l, false, 0, 0, nil8, s⟩, true, ys))) := by
  have b1 : (vt == 1) = true := by simp; omega
  have b2 : (vt == 2) = false := by simp; omega
  have b3 : (vt == 3) = false := by simp; omega
  have b4 : (vt == 4) = false := by simp; omega
  clear hv
  have HQ0 := Aside0.mk hg
  have HS0 := Aside0.mk h
  have B0 := Aside0.mk hby
  have HC0 := Aside0.mk (Ch.refl (fun k => k = p ∨ k = g) w)
  have hglt := blk_lt hg
  obtain ⟨c0, c1, c2, c3, c4, c5, c6, c7, c8, c9, c10, c11, c12⟩ := blk12 hg
  clear h hby hg
  go_enter Try.func33, Try.ntmps33
  go_wp2_with fail
  refine (int_get w0 w p g 0 44 _ 0 k xs x1 1 n0 HS0.out B0.out HQ0.out rfl hgp hg0 (by decide)).mono ?_
  rintro e w1 ⟨rfl, hq, hs, hch⟩
  replace hq : w1.heap[g]? = some (.cells #[.int .i64 (k), .int .i64 (0), .int .i64 (0), .int .i64 (0), .int .u64 (0), .int .i64 (0), .slice none 0 0, .bool (false), .int .i64 (0), .int .i64 (0), .string nil8, .string nil8] 44 (0, 0)) := hq
  clear c0 c1 c2 c3 c4 c5 c6 c7 c8 c9 c10 c11 c12
  obtain ⟨c0, c1, c2, c3, c4, c5, c6, c7, c8, c9, c10, c11, c12⟩ := blk12 hq
  have HQ1 := Aside0.mk hq
  have HS1 := Aside0.mk hs
  have B1 := Aside0.mk (numP_bys B0.out n0)
  have HC1 := Aside0.mk (Ch.two HC0.out hch)
  clear hq hs hch
  go_wp2_with fail
  refine (int_get_new w0 w1 p 0 er x1 x2 2 n1 HS1.out B1.out (by decide)).mono ?_
  rintro e v1 ⟨rfl, hq, hs, hch⟩
  have hx0 := (blk_cell hq 0).trans (show _ = some (.int .i64 er) from rfl)
  have hg' := hch.heap HQ1.out hgp
  clear c0 c1 c2 c3 c4 c5 c6 c7 c8 c9 c10 c11 c12
  obtain ⟨c0, c1, c2, c3, c4, c5, c6, c7, c8, c9, c10, c11, c12⟩ := blk12 hg'
  have hq' : (v1.setCell ⟨g, 1, none⟩ (.int .i64 er)).heap[g]? = some (.cells #[.int .i64 (k), .int .i64 (er), .int .i64 (0), .int .i64 (0), .int .u64 (0), .int .i64 (0), .slice none 0 0, .bool (false), .int .i64 (0), .int .i64 (0), .string nil8, .string nil8] 44 (0, 0)) := blk_upd 1 (.int .i64 er) hg' rfl
  have HQ2 := Aside0.mk hq'
  have HS2 := Aside0.mk (hs.put hgp hg0 1 (.int .i64 er))
  have B2 := Aside0.mk (numP_bys B1.out n1)
  have HC2 := Aside0.mk (Ch.two HC1.out ((hch.mono (S' := fun k => k = p ∨ k = g) (fun k hk _ => .inl hk)).setCell (p := ⟨g, 1, none⟩) (.inl (.inr rfl)) (.int .i64 er)))
  clear hq hs hch hg' hq'
  go_wp2_with fail
  generalize (v1.setCell ⟨g, 1, none⟩ (.int .i64 er)) = w2 at *
  clear c0 c1 c2 c3 c4 c5 c6 c7 c8 c9 c10 c11 c12 hx0
  obtain ⟨c0, c1, c2, c3, c4, c5, c6, c7, c8, c9, c10, c11, c12⟩ := blk12 HQ2.out
  refine (int_get w0 w2 p g 2 44 _ 0 tx x2 x3 4 n2 HS2.out B2.out HQ2.out rfl hgp hg0 (by decide)).mono ?_
  rintro e w3 ⟨rfl, hq, hs, hch⟩
  replace hq : w3.heap[g]? = some (.cells #[.int .i64 (k), .int .i64 (er), .int .i64 (tx), .int .i64 (0), .int .u64 (0), .int .i64 (0), .slice none 0 0, .bool (false), .int .i64 (0), .int .i64 (0), .string nil8, .string nil8] 44 (0, 0)) := hq
  clear c0 c1 c2 c3 c4 c5 c6 c7 c8 c9 c10 c11 c12
  obtain ⟨c0, c1, c2, c3, c4, c5, c6, c7, c8, c9, c10, c11, c12⟩ := blk12 hq
  have HQ3 := Aside0.mk hq
  have HS3 := Aside0.mk hs
  have B3 := Aside0.mk (numP_bys B2.out n2)
  have HC3 := Aside0.mk (Ch.two HC2.out hch)
  clear hq hs hch
  go_wp2_with fail
  refine (int_get w0 w3 p g 3 44 _ 0 id x3 x4 4 n3 HS3.out B3.out HQ3.out rfl hgp hg0 (by decide)).mono ?_
  rintro e w4 ⟨rfl, hq, hs, hch⟩
  replace hq : w4.heap[g]? = some (.cells #[.int .i64 (k), .int .i64 (er), .int .i64 (tx), .int .i64 (id), .int .u64 (0), .int .i64 (0), .slice none 0 0, .bool (false), .int .i64 (0), .int .i64 (0), .string nil8, .string nil8] 44 (0, 0)) := hq
  clear c0 c1 c2 c3 c4 c5 c6 c7 c8 c9 c10 c11 c12
  obtain ⟨c0, c1, c2, c3, c4, c5, c6, c7, c8, c9, c10, c11, c12⟩ := blk12 hq
  have HQ4 := Aside0.mk hq
  have HS4 := Aside0.mk hs
  have B4 := Aside0.mk (numP_bys B3.out n3)
  have HC4 := Aside0.mk (Ch.two HC3.out hch)
  clear hq hs hch
  go_wp2_with fail
  refine (num_get w0 w4 p g 4 44 _ 0 ti x4 x5 8 n4 HS4.out B4.out HQ4.out rfl hgp hg0 (by decide)).mono ?_
  rintro e w5 ⟨rfl, hq, hs, hch⟩
  replace hq : w5.heap[g]? = some (.cells #[.int .i64 (k), .int .i64 (er), .int .i64 (tx), .int .i64 (id), .int .u64 (ti), .int .i64 (0), .slice none 0 0, .bool (false), .int .i64 (0), .int .i64 (0), .string nil8, .string nil8] 44 (0, 0)) := hq
  clear c0 c1 c2 c3 c4 c5 c6 c7 c8 c9 c10 c11 c12
  obtain ⟨c0, c1, c2, c3, c4, c5, c6, c7, c8, c9, c10, c11, c12⟩ := blk12 hq
  have HQ5 := Aside0.mk hq
  have HS5 := Aside0.mk hs
  have B5 := Aside0.mk (numP_bys B4.out n4)
  have HC5 := Aside0.mk (Ch.two HC4.out hch)
  clear hq hs hch
  go_wp2_with fail
  refine (str_get w0 w5 p g 11 44 _ nil8 s x5 x6 n5 HS5.out B5.out HQ5.out rfl hgp hg0).mono ?_
  rintro e w6 ⟨rfl, hq, hs, hch⟩
  replace hq : w6.heap[g]? = some (.cells #[.int .i64 (k), .int .i64 (er), .int .i64 (tx), .int .i64 (id), .int .u64 (ti), .int .i64 (0), .slice none 0 0, .bool (false), .int .i64 (0), .int .i64 (0), .string nil8, .string s] 44 (0, 0)) := hq
  clear c0 c1 c2 c3 c4 c5 c6 c7 c8 c9 c10 c11 c12
  obtain ⟨c0, c1, c2, c3, c4, c5, c6, c7, c8, c9, c10, c11, c12⟩ := blk12 hq
  have HQ6 := Aside0.mk hq
  have HS6 := Aside0.mk hs
  have B6 := Aside0.mk (textP_bys B5.out n5)
  have HC6 := Aside0.mk (Ch.two HC5.out hch)
  clear hq hs hch
  go_wp2_with fail
  refine (int_get w0 w6 p g 5 44 _ 0 vt x6 x7 1 n6 HS6.out B6.out HQ6.out rfl hgp hg0 (by decide)).mono ?_
  rintro e w7 ⟨rfl, hq, hs, hch⟩
  replace hq : w7.heap[g]? = some (.cells #[.int .i64 (k), .int .i64 (er), .int .i64 (tx), .int .i64 (id), .int .u64 (ti), .int .i64 (vt), .slice none 0 0, .bool (false), .int .i64 (0), .int .i64 (0), .string nil8, .string s] 44 (0, 0)) := hq
  clear c0 c1 c2 c3 c4 c5 c6 c7 c8 c9 c10 c11 c12
  obtain ⟨c0, c1, c2, c3, c4, c5, c6, c7, c8, c9, c10, c11, c12⟩ := blk12 hq
  have HQ7 := Aside0.mk hq
  have HS7 := Aside0.mk hs
  have B7 := Aside0.mk (numP_bys B6.out n6)
  have HC7 := Aside0.mk (Ch.two HC6.out hch)
  clear hq hs hch
  have C8 := nodes_read w0 w7 p g 6 44 _ x7 HS7.out B7.out HQ7.out rfl hgp hg0 (by decide)
  rw [n7] at C8
  go_wp2_with fail
  refine C8.mono ?_
  rintro e w8 ⟨rfl, ⟨A, c, hq, hr⟩, hs, hch⟩
  have HF := Aside0.mk (And.intro hq (And.intro (Kd.R_lower hr HC7.out.size) (And.intro hs (Ch.two HC7.out hch))))
  clear hq hr hs hch C8
  go_wp2_with fail
  go_ret
  exact ⟨rfl, ⟨A, c, HF.out.1, HF.out.2.1⟩, HF.out.2.2.1, HF.out.2.2.2⟩
set_option maxRecDepth 100000 in
set_option maxHeartbeats 1000000 in
theorem rep_3l (w0 w : World) (p g : Nat) (xs : List Int) (h : Src w0 w p xs) (hby : Bys xs) (hg : w.heap[g]? = some (.cells #[.int .i64 (0), .int .i64 (0), .int .i64 (0), .int .i64 (0), .int .u64 (0), .int .i64 (0), .slice none 0 0, .bool (false), .int .i64 (0), .int .i64 (0), .string nil8, .string nil8] 44 (0, 0))) (hgp : g ≠ p) (hg0 : w0.heap.size ≤ g) {k : Int} {x1 : List Int} (n0 : numP 1 xs = some (k, x1)) {er : Int} {x2 : List Int} (n1 : numP 2 x1 = some (er, x2)) {tx : Int} {x3 : List Int} (n2 : numP 4 x2 = some (tx, x3)) {id : Int} {x4 : List Int} (n3 : numP 4 x3 = some (id, x4)) {ti : Int} {x5 : List Int} (n4 : numP 8 x4 = some (ti, x5)) {s : ByteArray} {x6 : List Int} (n5 : textP x5 = some (s, x6)) {vt : Int} {x7 : List Int} (n6 : numP 1 x6 = some (vt, x7)) (hv : vt = 3) (n7 : numP 1 x7 = none) :
    Calls Try.prog 33 #[.pointer (some ⟨p, 0, none⟩), .pointer (some ⟨g, 0, none⟩)] w (RRes w0 w p g (none)) := by
  have b1 : (vt == 1) = false := by simp; omega
  have b2 : (vt == 2) = false := by simp; omega
  have b3 : (vt == 3) = true := by simp; omega
  have b4 : (vt == 4) = false := by simp; omega
  clear hv
  have HQ0 := Aside0.mk hg
  have HS0 := Aside0.mk h
  have B0 := Aside0.mk hby
  have HC0 := Aside0.mk (Ch.refl (fun k => k = p ∨ k = g) w)
  have hglt := blk_lt hg
  obtain ⟨c0, c1, c2, c3, c4, c5, c6, c7, c8, c9, c10, c11, c12⟩ := blk12 hg
  clear h hby hg
  go_enter Try.func33, Try.ntmps33
  go_wp2_with fail
  refine (int_get w0 w p g 0 44 _ 0 k xs x1 1 n0 HS0.out B0.out HQ0.out rfl hgp hg0 (by decide)).mono ?_
  rintro e w1 ⟨rfl, hq, hs, hch⟩
  replace hq : w1.heap[g]? = some (.cells #[.int .i64 (k), .int .i64 (0), .int .i64 (0), .int .i64 (0), .int .u64 (0), .int .i64 (0), .slice none 0 0, .bool (false), .int .i64 (0), .int .i64 (0), .string nil8, .string nil8] 44 (0, 0)) := hq
  clear c0 c1 c2 c3 c4 c5 c6 c7 c8 c9 c10 c11 c12
  obtain ⟨c0, c1, c2, c3, c4, c5, c6, c7, c8, c9, c10, c11, c12⟩ := blk12 hq
  have HQ1 := Aside0.mk hq
  have HS1 := Aside0.mk hs
  have B1 := Aside0.mk (numP_bys B0.out n0)
  have HC1 := Aside0.mk (Ch.two HC0.out hch)
  clear hq hs hch
  go_wp2_with fail
  refine (int_get_new w0 w1 p 0 er x1 x2 2 n1 HS1.out B1.out (by decide)).mono ?_
  rintro e v1 ⟨rfl, hq, hs, hch⟩
  have hx0 := (blk_cell hq 0).trans (show _ = some (.int .i64 er) from rfl)
  have hg' := hch.heap HQ1.out hgp
  clear c0 c1 c2 c3 c4 c5 c6 c7 c8 c9 c10 c11 c12
  obtain ⟨c0, c1, c2, c3, c4, c5, c6, c7, c8, c9, c10, c11, c12⟩ := blk12 hg'
  have hq' : (v1.setCell ⟨g, 1, none⟩ (.int .i64 er)).heap[g]? = some (.cells #[.int .i64 (k), .int .i64 (er), .int .i64 (0), .int .i64 (0), .int .u64 (0), .int .i64 (0), .slice none 0 0, .bool (false), .int .i64 (0), .int .i64 (0), .string nil8, .string nil8] 44 (0, 0)) := blk_upd 1 (.int .i64 er) hg' rfl
  have HQ2 := Aside0.mk hq'
  have HS2 := Aside0.mk (hs.put hgp hg0 1 (.int .i64 er))
  have B2 := Aside0.mk (numP_bys B1.out n1)
  have HC2 := Aside0.mk (Ch.two HC1.out ((hch.mono (S' := fun k => k = p ∨ k = g) (fun k hk _ => .inl hk)).setCell (p := ⟨g, 1, none⟩) (.inl (.inr rfl)) (.int .i64 er)))
  clear hq hs hch hg' hq'
  go_wp2_with fail
  generalize (v1.setCell ⟨g, 1, none⟩ (.int .i64 er)) = w2 at *
  clear c0 c1 c2 c3 c4 c5 c6 c7 c8 c9 c10 c11 c12 hx0
  obtain ⟨c0, c1, c2, c3, c4, c5, c6, c7, c8, c9, c10, c11, c12⟩ := blk12 HQ2.out
  refine (int_get w0 w2 p g 2 44 _ 0 tx x2 x3 4 n2 HS2.out B2.out HQ2.out rfl hgp hg0 (by decide)).mono ?_
  rintro e w3 ⟨rfl, hq, hs, hch⟩
  replace hq : w3.heap[g]? = some (.cells #[.int .i64 (k), .int .i64 (er), .int .i64 (tx), .int .i64 (0), .int .u64 (0), .int .i64 (0), .slice none 0 0, .bool (false), .int .i64 (0), .int .i64 (0), .string nil8, .string nil8] 44 (0, 0)) := hq
  clear c0 c1 c2 c3 c4 c5 c6 c7 c8 c9 c10 c11 c12
  obtain ⟨c0, c1, c2, c3, c4, c5, c6, c7, c8, c9, c10, c11, c12⟩ := blk12 hq
  have HQ3 := Aside0.mk hq
  have HS3 := Aside0.mk hs
  have B3 := Aside0.mk (numP_bys B2.out n2)
  have HC3 := Aside0.mk (Ch.two HC2.out hch)
  clear hq hs hch
  go_wp2_with fail
  refine (int_get w0 w3 p g 3 44 _ 0 id x3 x4 4 n3 HS3.out B3.out HQ3.out rfl hgp hg0 (by decide)).mono ?_
  rintro e w4 ⟨rfl, hq, hs, hch⟩
  replace hq : w4.heap[g]? = some (.cells #[.int .i64 (k), .int .i64 (er), .int .i64 (tx), .int .i64 (id), .int .u64 (0), .int .i64 (0), .slice none 0 0, .bool (false), .int .i64 (0), .int .i64 (0), .string nil8, .string nil8] 44 (0, 0)) := hq
  clear c0 c1 c2 c3 c4 c5 c6 c7 c8 c9 c10 c11 c12
  obtain ⟨c0, c1, c2, c3, c4, c5, c6, c7, c8, c9, c10, c11, c12⟩ := blk12 hq
  have HQ4 := Aside0.mk hq
  have HS4 := Aside0.mk hs
  have B4 := Aside0.mk (numP_bys B3.out n3)
  have HC4 := Aside0.mk (Ch.two HC3.out hch)
  clear hq hs hch
  go_wp2_with fail
  refine (num_get w0 w4 p g 4 44 _ 0 ti x4 x5 8 n4 HS4.out B4.out HQ4.out rfl hgp hg0 (by decide)).mono ?_
  rintro e w5 ⟨rfl, hq, hs, hch⟩
  replace hq : w5.heap[g]? = some (.cells #[.int .i64 (k), .int .i64 (er), .int .i64 (tx), .int .i64 (id), .int .u64 (ti), .int .i64 (0), .slice none 0 0, .bool (false), .int .i64 (0), .int .i64 (0), .string nil8, .string nil8] 44 (0, 0)) := hq
  clear c0 c1 c2 c3 c4 c5 c6 c7 c8 c9 c10 c11 c12
  obtain ⟨c0, c1, c2, c3, c4, c5, c6, c7, c8, c9, c10, c11, c12⟩ := blk12 hq
  have HQ5 := Aside0.mk hq
  have HS5 := Aside0.mk hs
  have B5 := Aside0.mk (numP_bys B4.out n4)
  have HC5 := Aside0.mk (Ch.two HC4.out hch)
  clear hq hs hch
  go_wp2_with fail
  refine (str_get w0 w5 p g 11 44 _ nil8 s x5 x6 n5 HS5.out B5.out HQ5.out rfl hgp hg0).mono ?_
  rintro e w6 ⟨rfl, hq, hs, hch⟩
  replace hq : w6.heap[g]? = some (.cells #[.int .i64 (k), .int .i64 (er), .int .i64 (tx), .int .i64 (id), .int .u64 (ti), .int .i64 (0), .slice none 0 0, .bool (false), .int .i64 (0), .int .i64 (0), .string nil8, .string s] 44 (0, 0)) := hq
  clear c0 c1 c2 c3 c4 c5 c6 c7 c8 c9 c10 c11 c12
  obtain ⟨c0, c1, c2, c3, c4, c5, c6, c7, c8, c9, c10, c11, c12⟩ := blk12 hq
  have HQ6 := Aside0.mk hq
  have HS6 := Aside0.mk hs
  have B6 := Aside0.mk (textP_bys B5.out n5)
  have HC6 := Aside0.mk (Ch.two HC5.out hch)
  clear hq hs hch
  go_wp2_with fail
  refine (int_get w0 w6 p g 5 44 _ 0 vt x6 x7 1 n6 HS6.out B6.out HQ6.out rfl hgp hg0 (by decide)).mono ?_
  rintro e w7 ⟨rfl, hq, hs, hch⟩
  replace hq : w7.heap[g]? = some (.cells #[.int .i64 (k), .int .i64 (er), .int .i64 (tx), .int .i64 (id), .int .u64 (ti), .int .i64 (vt), .slice none 0 0, .bool (false), .int .i64 (0), .int .i64 (0), .string nil8, .string s] 44 (0, 0)) := hq
  clear c0 c1 c2 c3 c4 c5 c6 c7 c8 c9 c10 c11 c12
  obtain ⟨c0, c1, c2, c3, c4, c5, c6, c7, c8, c9, c10, c11, c12⟩ := blk12 hq
  have HQ7 := Aside0.mk hq
  have HS7 := Aside0.mk hs
  have B7 := Aside0.mk (numP_bys B6.out n6)
  have HC7 := Aside0.mk (Ch.two HC6.out hch)
  clear hq hs hch
  have hgW : (w7.alloc (.cells #[.int .u64 0] 37)).heap[g]? = _ := (Below.heap_alloc w7 (.cells #[.int .u64 0] 37) g (blk_lt HQ7.out)).trans HQ7.out
  have hvW := heap_alloc_new w7 (.cells #[.int .u64 0] 37)
  have hsW := HS7.out.alloc (.cells #[.int .u64 0] 37)
  have hltg := blk_lt HQ7.out
  have hltp := HS7.out.lt
  have hz7 := HS7.out.old.size
  have C8 := int_lost w0 _ p g 8 44 _ 0 x7 1 n7 hsW hgW rfl hgp hg0
  clear hgW hvW hsW
  go_wp2_with fail
  refine C8.mono ?_
  rintro e w8 ⟨rfl, hch⟩
  exact ⟨rfl, ⟨rfl, Ch.two HC7.out (((Ch.refl _ w7).alloc _).trans (hch.mono (fun k hk _ => .inl hk)))⟩⟩
set_option maxRecDepth 100000 in
set_option maxHeartbeats 1000000 in
theorem rep_3m (w0 w : World) (p g : Nat) (xs : List Int) (h : Src w0 w p xs) (hby : Bys xs) (hg : w.heap[g]? = some (.cells #[.int .i64 (0), .int .i64 (0), .int .i64 (0), .int .i64 (0), .int .u64 (0), .int .i64 (0), .slice none 0 0, .bool (false), .int .i64 (0), .int .i64 (0), .string nil8, .string nil8] 44 (0, 0))) (hgp : g ≠ p) (hg0 : w0.heap.size ≤ g) {k : Int} {x1 : List Int} (n0 : numP 1 xs = some (k, x1)) {er : Int} {x2 : List Int} (n1 : numP 2 x1 = some (er, x2)) {tx : Int} {x3 : List Int} (n2 : numP 4 x2 = some (tx, x3)) {id : Int} {x4 : List Int} (n3 : numP 4 x3 = some (id, x4)) {ti : Int} {x5 : List Int} (n4 : numP 8 x4 = some (ti, x5)) {s : ByteArray} {x6 : List Int} (n5 : textP x5 = some (s, x6)) {vt : Int} {x7 : List Int} (n6 : numP 1 x6 = some (vt, x7)) (hv : vt = 3) {tg : Int} {x8 : List Int} (n7 : numP 1 x7 = some (tg, x8)) (n8 : numP 8 x8 = none) :
    Calls Try.prog 33 #[.pointer (some ⟨p, 0, none⟩), .pointer (some ⟨g, 0, none⟩)] w (RRes w0 w p g (none)) := by
  have b1 : (vt == 1) = false := by simp; omega
  have b2 : (vt == 2) = false := by simp; omega
  have b3 : (vt == 3) = true := by simp; omega
  have b4 : (vt == 4) = false := by simp; omega
  clear hv
  have HQ0 := Aside0.mk hg
  have HS0 := Aside0.mk h
  have B0 := Aside0.mk hby
  have HC0 := Aside0.mk (Ch.refl (fun k => k = p ∨ k = g) w)
  have hglt := blk_lt hg
  obtain ⟨c0, c1, c2, c3, c4, c5, c6, c7, c8, c9, c10, c11, c12⟩ := blk12 hg
  clear h hby hg
  go_enter Try.func33, Try.ntmps33
  go_wp2_with fail
  refine (int_get w0 w p g 0 44 _ 0 k xs x1 1 n0 HS0.out B0.out HQ0.out rfl hgp hg0 (by decide)).mono ?_
  rintro e w1 ⟨rfl, hq, hs, hch⟩
  replace hq : w1.heap[g]? = some (.cells #[.int .i64 (k), .int .i64 (0), .int .i64 (0), .int .i64 (0), .int .u64 (0), .int .i64 (0), .slice none 0 0, .bool (false), .int .i64 (0), .int .i64 (0), .string nil8, .string nil8] 44 (0, 0)) := hq
  clear c0 c1 c2 c3 c4 c5 c6 c7 c8 c9 c10 c11 c12
  obtain ⟨c0, c1, c2, c3, c4, c5, c6, c7, c8, c9, c10, c11, c12⟩ := blk12 hq
  have HQ1 := Aside0.mk hq
  have HS1 := Aside0.mk hs
  have B1 := Aside0.mk (numP_bys B0.out n0)
  have HC1 := Aside0.mk (Ch.two HC0.out hch)
  clear hq hs hch
  go_wp2_with fail
  refine (int_get_new w0 w1 p 0 er x1 x2 2 n1 HS1.out B1.out (by decide)).mono ?_
  rintro e v1 ⟨rfl, hq, hs, hch⟩
  have hx0 := (blk_cell hq 0).trans (show _ = some (.int .i64 er) from rfl)
  have hg' := hch.heap HQ1.out hgp
  clear c0 c1 c2 c3 c4 c5 c6 c7 c8 c9 c10 c11 c12
  obtain ⟨c0, c1, c2, c3, c4, c5, c6, c7, c8, c9, c10, c11, c12⟩ := blk12 hg'
  have hq' : (v1.setCell ⟨g, 1, none⟩ (.int .i64 er)).heap[g]? = some (.cells #[.int .i64 (k), .int .i64 (er), .int .i64 (0), .int .i64 (0), .int .u64 (0), .int .i64 (0), .slice none 0 0, .bool (false), .int .i64 (0), .int .i64 (0), .string nil8, .string nil8] 44 (0, 0)) := blk_upd 1 (.int .i64 er) hg' rfl
  have HQ2 := Aside0.mk hq'
  have HS2 := Aside0.mk (hs.put hgp hg0 1 (.int .i64 er))
  have B2 := Aside0.mk (numP_bys B1.out n1)
  have HC2 := Aside0.mk (Ch.two HC1.out ((hch.mono (S' := fun k => k = p ∨ k = g) (fun k hk _ => .inl hk)).setCell (p := ⟨g, 1, none⟩) (.inl (.inr rfl)) (.int .i64 er)))
  clear hq hs hch hg' hq'
  go_wp2_with fail
  generalize (v1.setCell ⟨g, 1, none⟩ (.int .i64 er)) = w2 at *
  clear c0 c1 c2 c3 c4 c5 c6 c7 c8 c9 c10 c11 c12 hx0
  obtain ⟨c0, c1, c2, c3, c4, c5, c6, c7, c8, c9, c10, c11, c12⟩ := blk12 HQ2.out
  refine (int_get w0 w2 p g 2 44 _ 0 tx x2 x3 4 n2 HS2.out B2.out HQ2.out rfl hgp hg0 (by decide)).mono ?_
  rintro e w3 ⟨rfl, hq, hs, hch⟩
  replace hq : w3.heap[g]? = some (.cells #[.int .i64 (k), .int .i64 (er), .int .i64 (tx), .int .i64 (0), .int .u64 (0), .int .i64 (0), .slice none 0 0, .bool (false), .int .i64 (0), .int .i64 (0), .string nil8, .string nil8] 44 (0, 0)) := hq
  clear c0 c1 c2 c3 c4 c5 c6 c7 c8 c9 c10 c11 c12
  obtain ⟨c0, c1, c2, c3, c4, c5, c6, c7, c8, c9, c10, c11, c12⟩ := blk12 hq
  have HQ3 := Aside0.mk hq
  have HS3 := Aside0.mk hs
  have B3 := Aside0.mk (numP_bys B2.out n2)
  have HC3 := Aside0.mk (Ch.two HC2.out hch)
  clear hq hs hch
  go_wp2_with fail
  refine (int_get w0 w3 p g 3 44 _ 0 id x3 x4 4 n3 HS3.out B3.out HQ3.out rfl hgp hg0 (by decide)).mono ?_
  rintro e w4 ⟨rfl, hq, hs, hch⟩
  replace hq : w4.heap[g]? = some (.cells #[.int .i64 (k), .int .i64 (er), .int .i64 (tx), .int .i64 (id), .int .u64 (0), .int .i64 (0), .slice none 0 0, .bool (false), .int .i64 (0), .int .i64 (0), .string nil8, .string nil8] 44 (0, 0)) := hq
  clear c0 c1 c2 c3 c4 c5 c6 c7 c8 c9 c10 c11 c12
  obtain ⟨c0, c1, c2, c3, c4, c5, c6, c7, c8, c9, c10, c11, c12⟩ := blk12 hq
  have HQ4 := Aside0.mk hq
  have HS4 := Aside0.mk hs
  have B4 := Aside0.mk (numP_bys B3.out n3)
  have HC4 := Aside0.mk (Ch.two HC3.out hch)
  clear hq hs hch
  go_wp2_with fail
  refine (num_get w0 w4 p g 4 44 _ 0 ti x4 x5 8 n4 HS4.out B4.out HQ4.out rfl hgp hg0 (by decide)).mono ?_
  rintro e w5 ⟨rfl, hq, hs, hch⟩
  replace hq : w5.heap[g]? = some (.cells #[.int .i64 (k), .int .i64 (er), .int .i64 (tx), .int .i64 (id), .int .u64 (ti), .int .i64 (0), .slice none 0 0, .bool (false), .int .i64 (0), .int .i64 (0), .string nil8, .string nil8] 44 (0, 0)) := hq
  clear c0 c1 c2 c3 c4 c5 c6 c7 c8 c9 c10 c11 c12
  obtain ⟨c0, c1, c2, c3, c4, c5, c6, c7, c8, c9, c10, c11, c12⟩ := blk12 hq
  have HQ5 := Aside0.mk hq
  have HS5 := Aside0.mk hs
  have B5 := Aside0.mk (numP_bys B4.out n4)
  have HC5 := Aside0.mk (Ch.two HC4.out hch)
  clear hq hs hch
  go_wp2_with fail
  refine (str_get w0 w5 p g 11 44 _ nil8 s x5 x6 n5 HS5.out B5.out HQ5.out rfl hgp hg0).mono ?_
  rintro e w6 ⟨rfl, hq, hs, hch⟩
  replace hq : w6.heap[g]? = some (.cells #[.int .i64 (k), .int .i64 (er), .int .i64 (tx), .int .i64 (id), .int .u64 (ti), .int .i64 (0), .slice none 0 0, .bool (false), .int .i64 (0), .int .i64 (0), .string nil8, .string s] 44 (0, 0)) := hq
  clear c0 c1 c2 c3 c4 c5 c6 c7 c8 c9 c10 c11 c12
  obtain ⟨c0, c1, c2, c3, c4, c5, c6, c7, c8, c9, c10, c11, c12⟩ := blk12 hq
  have HQ6 := Aside0.mk hq
  have HS6 := Aside0.mk hs
  have B6 := Aside0.mk (textP_bys B5.out n5)
  have HC6 := Aside0.mk (Ch.two HC5.out hch)
  clear hq hs hch
  go_wp2_with fail
  refine (int_get w0 w6 p g 5 44 _ 0 vt x6 x7 1 n6 HS6.out B6.out HQ6.out rfl hgp hg0 (by decide)).mono ?_
  rintro e w7 ⟨rfl, hq, hs, hch⟩
  replace hq : w7.heap[g]? = some (.cells #[.int .i64 (k), .int .i64 (er), .int .i64 (tx), .int .i64 (id), .int .u64 (ti), .int .i64 (vt), .slice none 0 0, .bool (false), .int .i64 (0), .int .i64 (0), .string nil8, .string s] 44 (0, 0)) := hq
  clear c0 c1 c2 c3 c4 c5 c6 c7 c8 c9 c10 c11 c12
  obtain ⟨c0, c1, c2, c3, c4, c5, c6, c7, c8, c9, c10, c11, c12⟩ := blk12 hq
  have HQ7 := Aside0.mk hq
  have HS7 := Aside0.mk hs
  have B7 := Aside0.mk (numP_bys B6.out n6)
  have HC7 := Aside0.mk (Ch.two HC6.out hch)
  clear hq hs hch
  have hgW : (w7.alloc (.cells #[.int .u64 0] 37)).heap[g]? = _ := (Below.heap_alloc w7 (.cells #[.int .u64 0] 37) g (blk_lt HQ7.out)).trans HQ7.out
  have hvW := heap_alloc_new w7 (.cells #[.int .u64 0] 37)
  have hsW := HS7.out.alloc (.cells #[.int .u64 0] 37)
  have hltg := blk_lt HQ7.out
  have hltp := HS7.out.lt
  have hz7 := HS7.out.old.size
  have C8 := int_get w0 _ p g 8 44 _ 0 tg x7 x8 1 n7 hsW B7.out hgW rfl hgp hg0 (by decide)
  have HV := Aside0.mk hvW
  have B8 := Aside0.mk (numP_bys B7.out n7)
  clear hgW hvW hsW
  go_wp2_with fail
  refine C8.mono ?_
  rintro e w8 ⟨rfl, hq, hs, hch⟩
  have hv8 := hch.heap HV.out (by rintro (e | e) <;> omega)
  have HC8 := Aside0.mk (Ch.two HC7.out (((Ch.refl (fun k => k = p ∨ k = g) w7).alloc (.cells #[.int .u64 0] 37)).trans (hch.mono (fun k hk _ => .inl hk))))
  have HQ8 := Aside0.mk hq
  have hz8 := hs.old.size
  have hz9 : w7.heap.size < w8.heap.size := blk_lt hv8
  have C9 := num_lost w0 w8 p w7.heap.size 0 37 _ 0 x8 8 n8 hs hv8 rfl (by omega) (by omega)
  clear hq hs hch hv8 C8
  go_wp2_with fail
  refine C9.mono ?_
  rintro e w9 ⟨rfl, hch⟩
  exact ⟨rfl, ⟨rfl, HC8.out.trans (hch.mono (fun k hk _ => hk.elim (fun e => .inl (.inl e)) (fun e => .inr (by have := HC7.out.size; omega))))⟩⟩
set_option maxRecDepth 100000 in
set_option maxHeartbeats 1000000 in
theorem rep_3 (w0 w : World) (p g : Nat) (xs : List Int) (h : Src w0 w p xs) (hby : Bys xs) (hg : w.heap[g]? = some (.cells #[.int .i64 (0), .int .i64 (0), .int .i64 (0), .int .i64 (0), .int .u64 (0), .int .i64 (0), .slice none 0 0, .bool (false), .int .i64 (0), .int .i64 (0), .string nil8, .string nil8] 44 (0, 0))) (hgp : g ≠ p) (hg0 : w0.heap.size ≤ g) {k : Int} {x1 : List Int} (n0 : numP 1 xs = some (k, x1)) {er : Int} {x2 : List Int} (n1 : numP 2 x1 = some (er, x2)) {tx : Int} {x3 : List Int} (n2 : numP 4 x2 = some (tx, x3)) {id : Int} {x4 : List Int} (n3 : numP 4 x3 = some (id, x4)) {ti : Int} {x5 : List Int} (n4 : numP 8 x4 = some (ti, x5)) {s : ByteArray} {x6 : List Int} (n5 : textP x5 = some (s, x6)) {vt : Int} {x7 : List Int} (n6 : numP 1 x6 = some (vt, x7)) (hv : vt = 3) {tg v : Int} {x8 ys : List Int} (n7 : numP 1 x7 = some (tg, x8)) (n8 : numP 8 x8 = some (v, ys)) :
    Calls Try.prog 33 #[.pointer (some ⟨p, 0, none⟩), .pointer (some ⟨g, 0, none⟩)] w (RRes w0 w p g (some (⟨k, er, tx, id, ti, vt, [], false, tg, wrap64 v, nil8, s⟩, true, ys))) := by
  have b1 : (vt == 1) = false := by simp; omega
  have b2 : (vt == 2) = false := by simp; omega
  have b3 : (vt == 3) = true := by simp; omega
  have b4 : (vt == 4) = false := by simp; omega
  clear hv
  have HQ0 := Aside0.mk hg
  have HS0 := Aside0.mk h
  have B0 := Aside0.mk hby
  have HC0 := Aside0.mk (Ch.refl (fun k => k = p ∨ k = g) w)
  have hglt := blk_lt hg
  obtain ⟨c0, c1, c2, c3, c4, c5, c6, c7, c8, c9, c10, c11, c12⟩ := blk12 hg
  clear h hby hg
  go_enter Try.func33, Try.ntmps33
  go_wp2_with fail
  refine (int_get w0 w p g 0 44 _ 0 k xs x1 1 n0 HS0.out B0.out HQ0.out rfl hgp hg0 (by decide)).mono ?_
  rintro e w1 ⟨rfl, hq, hs, hch⟩
  replace hq : w1.heap[g]? = some (.cells #[.int .i64 (k), .int .i64 (0), .int .i64 (0), .int .i64 (0), .int .u64 (0), .int .i64 (0), .slice none 0 0, .bool (false), .int .i64 (0), .int .i64 (0), .string nil8, .string nil8] 44 (0, 0)) := hq
  clear c0 c1 c2 c3 c4 c5 c6 c7 c8 c9 c10 c11 c12
  obtain ⟨c0, c1, c2, c3, c4, c5, c6, c7, c8, c9, c10, c11, c12⟩ := blk12 hq
  have HQ1 := Aside0.mk hq
  have HS1 := Aside0.mk hs
  have B1 := Aside0.mk (numP_bys B0.out n0)
  have HC1 := Aside0.mk (Ch.two HC0.out hch)
  clear hq hs hch
  go_wp2_with fail
  refine (int_get_new w0 w1 p 0 er x1 x2 2 n1 HS1.out B1.out (by decide)).mono ?_
  rintro e v1 ⟨rfl, hq, hs, hch⟩
  have hx0 := (blk_cell hq 0).trans (show _ = some (.int .i64 er) from rfl)
  have hg' := hch.heap HQ1.out hgp
  clear c0 c1 c2 c3 c4 c5 c6 c7 c8 c9 c10 c11 c12
  obtain ⟨c0, c1, c2, c3, c4, c5, c6, c7, c8, c9, c10, c11, c12⟩ := blk12 hg'
  have hq' : (v1.setCell ⟨g, 1, none⟩ (.int .i64 er)).heap[g]? = some (.cells #[.int .i64 (k), .int .i64 (er), .int .i64 (0), .int .i64 (0), .int .u64 (0), .int .i64 (0), .slice none 0 0, .bool (false), .int .i64 (0), .int .i64 (0), .string nil8, .string nil8] 44 (0, 0)) := blk_upd 1 (.int .i64 er) hg' rfl
  have HQ2 := Aside0.mk hq'
  have HS2 := Aside0.mk (hs.put hgp hg0 1 (.int .i64 er))
  have B2 := Aside0.mk (numP_bys B1.out n1)
  have HC2 := Aside0.mk (Ch.two HC1.out ((hch.mono (S' := fun k => k = p ∨ k = g) (fun k hk _ => .inl hk)).setCell (p := ⟨g, 1, none⟩) (.inl (.inr rfl)) (.int .i64 er)))
  clear hq hs hch hg' hq'
  go_wp2_with fail
  generalize (v1.setCell ⟨g, 1, none⟩ (.int .i64 er)) = w2 at *
  clear c0 c1 c2 c3 c4 c5 c6 c7 c8 c9 c10 c11 c12 hx0
  obtain ⟨c0, c1, c2, c3, c4, c5, c6, c7, c8, c9, c10, c11, c12⟩ := blk12 HQ2.out
  refine (int_get w0 w2 p g 2 44 _ 0 tx x2 x3 4 n2 HS2.out B2.out HQ2.out rfl hgp hg0 (by decide)).mono ?_
  rintro e w3 ⟨rfl, hq, hs, hch⟩
  replace hq : w3.heap[g]? = some (.cells #[.int .i64 (k), .int .i64 (er), .int .i64 (tx), .int .i64 (0), .int .u64 (0), .int .i64 (0), .slice none 0 0, .bool (false), .int .i64 (0), .int .i64 (0), .string nil8, .string nil8] 44 (0, 0)) := hq
  clear c0 c1 c2 c3 c4 c5 c6 c7 c8 c9 c10 c11 c12
  obtain ⟨c0, c1, c2, c3, c4, c5, c6, c7, c8, c9, c10, c11, c12⟩ := blk12 hq
  have HQ3 := Aside0.mk hq
  have HS3 := Aside0.mk hs
  have B3 := Aside0.mk (numP_bys B2.out n2)
  have HC3 := Aside0.mk (Ch.two HC2.out hch)
  clear hq hs hch
  go_wp2_with fail
  refine (int_get w0 w3 p g 3 44 _ 0 id x3 x4 4 n3 HS3.out B3.out HQ3.out rfl hgp hg0 (by decide)).mono ?_
  rintro e w4 ⟨rfl, hq, hs, hch⟩
  replace hq : w4.heap[g]? = some (.cells #[.int .i64 (k), .int .i64 (er), .int .i64 (tx), .int .i64 (id), .int .u64 (0), .int .i64 (0), .slice none 0 0, .bool (false), .int .i64 (0), .int .i64 (0), .string nil8, .string nil8] 44 (0, 0)) := hq
  clear c0 c1 c2 c3 c4 c5 c6 c7 c8 c9 c10 c11 c12
  obtain ⟨c0, c1, c2, c3, c4, c5, c6, c7, c8, c9, c10, c11, c12⟩ := blk12 hq
  have HQ4 := Aside0.mk hq
  have HS4 := Aside0.mk hs
  have B4 := Aside0.mk (numP_bys B3.out n3)
  have HC4 := Aside0.mk (Ch.two HC3.out hch)
  clear hq hs hch
  go_wp2_with fail
  refine (num_get w0 w4 p g 4 44 _ 0 ti x4 x5 8 n4 HS4.out B4.out HQ4.out rfl hgp hg0 (by decide)).mono ?_
  rintro e w5 ⟨rfl, hq, hs, hch⟩
  replace hq : w5.heap[g]? = some (.cells #[.int .i64 (k), .int .i64 (er), .int .i64 (tx), .int .i64 (id), .int .u64 (ti), .int .i64 (0), .slice none 0 0, .bool (false), .int .i64 (0), .int .i64 (0), .string nil8, .string nil8] 44 (0, 0)) := hq
  clear c0 c1 c2 c3 c4 c5 c6 c7 c8 c9 c10 c11 c12
  obtain ⟨c0, c1, c2, c3, c4, c5, c6, c7, c8, c9, c10, c11, c12⟩ := blk12 hq
  have HQ5 := Aside0.mk hq
  have HS5 := Aside0.mk hs
  have B5 := Aside0.mk (numP_bys B4.out n4)
  have HC5 := Aside0.mk (Ch.two HC4.out hch)
  clear hq hs hch
  go_wp2_with fail
  refine (str_get w0 w5 p g 11 44 _ nil8 s x5 x6 n5 HS5.out B5.out HQ5.out rfl hgp hg0).mono ?_
  rintro e w6 ⟨rfl, hq, hs, hch⟩
  replace hq : w6.heap[g]? = some (.cells #[.int .i64 (k), .int .i64 (er), .int .i64 (tx), .int .i64 (id), .int .u64 (ti), .int .i64 (0), .slice none 0 0, .bool (false), .int .i64 (0), .int .i64 (0), .string nil8, .string s] 44 (0, 0)) := hq
  clear c0 c1 c2 c3 c4 c5 c6 c7 c8 c9 c10 c11 c12
  obtain ⟨c0, c1, c2, c3, c4, c5, c6, c7, c8, c9, c10, c11, c12⟩ := blk12 hq
  have HQ6 := Aside0.mk hq
  have HS6 := Aside0.mk hs
  have B6 := Aside0.mk (textP_bys B5.out n5)
  have HC6 := Aside0.mk (Ch.two HC5.out hch)
  clear hq hs hch
  go_wp2_with fail
  refine (int_get w0 w6 p g 5 44 _ 0 vt x6 x7 1 n6 HS6.out B6.out HQ6.out rfl hgp hg0 (by decide)).mono ?_
  rintro e w7 ⟨rfl, hq, hs, hch⟩
  replace hq : w7.heap[g]? = some (.cells #[.int .i64 (k), .int .i64 (er), .int .i64 (tx), .int .i64 (id), .int .u64 (ti), .int .i64 (vt), .slice none 0 0, .bool (false), .int .i64 (0), .int .i64 (0), .string nil8, .string s] 44 (0, 0)) := hq
  clear c0 c1 c2 c3 c4 c5 c6 c7 c8 c9 c10 c11 c12
  obtain ⟨c0, c1, c2, c3, c4, c5, c6, c7, c8, c9, c10, c11, c12⟩ := blk12 hq
  have HQ7 := Aside0.mk hq
  have HS7 := Aside0.mk hs
  have B7 := Aside0.mk (numP_bys B6.out n6)
  have HC7 := Aside0.mk (Ch.two HC6.out hch)
  clear hq hs hch
  have hgW : (w7.alloc (.cells #[.int .u64 0] 37)).heap[g]? = _ := (Below.heap_alloc w7 (.cells #[.int .u64 0] 37) g (blk_lt HQ7.out)).trans HQ7.out
  have hvW := heap_alloc_new w7 (.cells #[.int .u64 0] 37)
  have hsW := HS7.out.alloc (.cells #[.int .u64 0] 37)
  have hltg := blk_lt HQ7.out
  have hltp := HS7.out.lt
  have hz7 := HS7.out.old.size
  have C8 := int_get w0 _ p g 8 44 _ 0 tg x7 x8 1 n7 hsW B7.out hgW rfl hgp hg0 (by decide)
  have HV := Aside0.mk hvW
  have B8 := Aside0.mk (numP_bys B7.out n7)
  clear hgW hvW hsW
  go_wp2_with fail
  refine C8.mono ?_
  rintro e w8 ⟨rfl, hq, hs, hch⟩
  have hv8 := hch.heap HV.out (by rintro (e | e) <;> omega)
  have HC8 := Aside0.mk (Ch.two HC7.out (((Ch.refl (fun k => k = p ∨ k = g) w7).alloc (.cells #[.int .u64 0] 37)).trans (hch.mono (fun k hk _ => .inl hk))))
  have HQ8 := Aside0.mk hq
  have hz8 := hs.old.size
  have hz9 : w7.heap.size < w8.heap.size := blk_lt hv8
  replace hq : w8.heap[g]? = some (.cells #[.int .i64 (k), .int .i64 (er), .int .i64 (tx), .int .i64 (id), .int .u64 (ti), .int .i64 (vt), .slice none 0 0, .bool (false), .int .i64 (tg), .int .i64 (0), .string nil8, .string s] 44 (0, 0)) := hq
  have HQ8' := Aside0.mk hq
  have C9 := num_get w0 w8 p w7.heap.size 0 37 _ 0 v x8 ys 8 n8 hs B8.out hv8 rfl (by omega) (by omega) (by decide)
  clear hq hs hch hv8 C8
  go_wp2_with fail
  refine C9.mono ?_
  rintro e w9 ⟨rfl, hq, hs, hch⟩
  have hy0 := (blk_cell hq 0).trans (show _ = some (.int .u64 v) from rfl)
  have hg9 := hch.heap HQ8'.out (by rintro (e | e) <;> omega)
  clear c0 c1 c2 c3 c4 c5 c6 c7 c8 c9 c10 c11 c12
  obtain ⟨c0, c1, c2, c3, c4, c5, c6, c7, c8, c9, c10, c11, c12⟩ := blk12 hg9
  have HQ9 := Aside0.mk (blk_upd 9 (.int .i64 (wrap64 v)) hg9 rfl)
  have HS9 := Aside0.mk (hs.put hgp hg0 9 (.int .i64 (wrap64 v)))
  have HC9 := Aside0.mk ((HC8.out.trans (hch.mono (fun k hk _ => hk.elim (fun e => .inl (.inl e)) (fun e => .inr (by have := HC7.out.size; omega))))).setCell (p := ⟨g, 9, none⟩) (.inl (.inr rfl)) (.int .i64 (wrap64 v)))
  clear hq hs hch hg9 C9
  go_wp2_with fail
  go_ret
  exact ⟨rfl, ⟨none, 0, HQ9.out, Kd.R_nil _ _ _ _ _⟩, HS9.out, HC9.out⟩
theorem reply_get (w0 w : World) (p g : Nat) (xs : List Int) (h : Src w0 w p xs) (hby : Bys xs) (hg : w.heap[g]? = some (.cells #[.int .i64 (0), .int .i64 (0), .int .i64 (0), .int .i64 (0), .int .u64 (0), .int .i64 (0), .slice none 0 0, .bool (false), .int .i64 (0), .int .i64 (0), .string nil8, .string nil8] 44 (0, 0))) (hgp : g ≠ p) (hg0 : w0.heap.size ≤ g) :
    Calls Try.prog 33 #[.pointer (some ⟨p, 0, none⟩), .pointer (some ⟨g, 0, none⟩)] w (RRes w0 w p g (parseRep xs)) := by
  rw [parseRep]
  split
  · next n0 => exact repl_0 w0 w p g xs h hby hg hgp hg0 n0
  next k x1 n0 =>
  split
  · next n1 => exact repl_1 w0 w p g xs h hby hg hgp hg0 n0 n1
  next er x2 n1 =>
  split
  · next n2 => exact repl_2 w0 w p g xs h hby hg hgp hg0 n0 n1 n2
  next tx x3 n2 =>
  split
  · next n3 => exact repl_3 w0 w p g xs h hby hg hgp hg0 n0 n1 n2 n3
  next id x4 n3 =>
  split
  · next n4 => exact repl_4 w0 w p g xs h hby hg hgp hg0 n0 n1 n2 n3 n4
  next ti x5 n4 =>
  split
  · next n5 => exact repl_5 w0 w p g xs h hby hg hgp hg0 n0 n1 n2 n3 n4 n5
  next s x6 n5 =>
  split
  · next n6 => exact repl_6 w0 w p g xs h hby hg hgp hg0 n0 n1 n2 n3 n4 n5 n6
  next vt x7 n6 =>
  split
  · next hv =>
    split
    · next n7 => exact rep_1l w0 w p g xs h hby hg hgp hg0 n0 n1 n2 n3 n4 n5 n6 hv n7
    · next l ys n7 => exact rep_1 w0 w p g xs h hby hg hgp hg0 n0 n1 n2 n3 n4 n5 n6 hv n7
  next h1 =>
  split
  · next hv =>
    split
    · next n7 => exact rep_2l w0 w p g xs h hby hg hgp hg0 n0 n1 n2 n3 n4 n5 n6 hv n7
    · next v ys n7 => exact rep_2 w0 w p g xs h hby hg hgp hg0 n0 n1 n2 n3 n4 n5 n6 hv n7
  next h2 =>
  split
  · next hv =>
    split
    · next n7 => exact rep_3l w0 w p g xs h hby hg hgp hg0 n0 n1 n2 n3 n4 n5 n6 hv n7
    next tg x8 n7 =>
    split
    · next n8 => exact rep_3m w0 w p g xs h hby hg hgp hg0 n0 n1 n2 n3 n4 n5 n6 hv n7 n8
    · next v ys n8 => exact rep_3 w0 w p g xs h hby hg hgp hg0 n0 n1 n2 n3 n4 n5 n6 hv n7 n8
  next h3 =>
  split
  · next hv =>
    split
    · next n7 => exact rep_4l w0 w p g xs h hby hg hgp hg0 n0 n1 n2 n3 n4 n5 n6 hv n7
    · next vs ys n7 => exact rep_4 w0 w p g xs h hby hg hgp hg0 n0 n1 n2 n3 n4 n5 n6 hv n7
  next h4 => exact rep_0 w0 w p g xs h hby hg hgp hg0 n0 n1 n2 n3 n4 n5 n6 ⟨h1, h2, h3, h4⟩
end Go.Proofs.Ythkdihpbdaehbaa.Pr
namespace Go.Proofs.Ythkdihpbdaehbaa.Pr
set_option linter.unusedVariables false
set_option linter.unusedSimpArgs false
open Go.RowKit Go.Proofs.YthkdihpbdaehbaaW.PrintWords Go.Proofs.YthkdihpbdaehbaaW.PrintLast Go.Proofs.YthkdihpbdaehbaaW.PrintMore Go.Proofs.Ythkdihpbdaehbaa.Bs
def zeroRep : Rp := ⟨0, 0, 0, 0, 0, 0, [], false, 0, 0, nil8, nil8⟩
def zrep : Array Value := zeroRep.cells (.slice none 0 0)
/-- What is read of bytes, if that is all of them. -/
def readRep (xs : List Int) : Option Rp := if 4200 < xs.length then none else match parseRep xs with | some (q, true, []) => some q | _ => none
set_option maxRecDepth 100000 in
set_option maxHeartbeats 400000 in
theorem do_rep (w0 w : World) (p g : Nat) (xs : List Int) (h : Src w0 w p xs) (hby : Bys xs) (hg : w.heap[g]? = some (.cells zrep 44 (0, 0))) (hgp : g ≠ p) (hg0 : w0.heap.size ≤ g) :
    Calls Try.prog 32 #[.pointer (some ⟨p, 0, none⟩), .pointer (some ⟨g, 0, none⟩)] w (RRes w0 w p g (parseRep xs)) := by
  have C1 := reply_get w0 w p g xs h hby hg hgp hg0
  clear h hby hg
  generalize parseRep xs = R at *
  cases R with
  | none =>
    go_enter Try.func32, Try.ntmps32
    go_wp2_with fail
    refine C1.mono ?_
    rintro e w1 ⟨rfl, hch⟩
    exact ⟨rfl, ⟨rfl, hch⟩⟩
  | some r =>
    obtain ⟨q, b, ys⟩ := r
    go_enter Try.func32, Try.ntmps32
    go_wp2_with fail
    refine C1.mono ?_
    rintro e w1 ⟨rfl, hq, hs, hch⟩
    have HF := Aside0.mk (And.intro hq (And.intro hs hch))
    clear hq hs hch C1
    go_wp2_with fail
    go_ret
    exact ⟨rfl, HF.out.1, HF.out.2.1, HF.out.2.2⟩
/-- A reply as it lies: its cells, and its nodes' row. -/
def RepAt (w w' : World) (g : Nat) (q : Rp) : Prop := ∃ A c, w'.heap[g]? = some (.cells (q.cells (.slice A q.nodes.length c)) 44 (0, 0)) ∧ (Kd.int .i64).R 3 w' w.heap.size (fun _ => True) (.slice A q.nodes.length c) q.nodes
/-- What read gives for GetRep. -/
def RpPost (w : World) (g : Nat) (r : Option Rp) (e : Ending) (w' : World) : Prop :=
  e = .returned (.bool r.isSome) ∧ Ch (fun k => k = g) w w' ∧ ∀ q, r = some q → RepAt w w' g q
theorem RpPost.mk_ {w w2 : World} {g : Nat} {r : Option Rp} {b : Bool} (hb : b = r.isSome) (hch : Ch (fun k => k = g) w w2) (hq : ∀ q, r = some q → RepAt w w2 g q) : RpPost w g r (.returned (.bool b)) w2 := ⟨by rw [hb], hch, hq⟩
theorem RepAt.set {w w' : World} {g b : Nat} {q : Rp} {v0 : Value} (h : RepAt w w' g q) (hb : w'.heap[b]? = some (.cells #[v0] 4 (0, 0))) (hgb : g ≠ b) (v : Value) : RepAt w (w'.setCell ⟨b, 0, none⟩ v) g q := by
  obtain ⟨A, c, hq, hr⟩ := h
  have hn := Kd.R_ne hr hb (by decide)
  refine ⟨A, c, (Below.heap_setCell w' ⟨b, 0, none⟩ v g hgb).trans hq, ?_⟩
  exact Kd.R_mono (Kd.R_step (Kd.R_of_own (ok := fun k => some k = (Value.slice A q.nodes.length c).ownBlock) (Kd.own_of_R hr) (fun k hk => hk.symm)) (fun k hk _ => Below.heap_setCell _ _ _ _ (fun e => hn (by have e' : k = b := e; rw [← e']; exact hk)))) (fun _ _ => trivial)
theorem RepAt.low {w w1 w' : World} {g : Nat} {q : Rp} (h : RepAt w1 w' g q) (hz : w.heap.size ≤ w1.heap.size) : RepAt w w' g q := by
  obtain ⟨A, c, hq, hr⟩ := h
  exact ⟨A, c, hq, Kd.R_lower hr hz⟩
set_option maxRecDepth 100000 in
set_option maxHeartbeats 400000 in
theorem read_rep (w0 w : World) (g : Nat) (A : Option Addr) (c : Nat) (xs : List Int) (hC : (Kd.int .u8).C w0 A xs.length xs) (hl : xs.length ≤ c) (hby : Bys xs) (ho : Below w0.heap.size w0 w) (hg : w.heap[g]? = some (.cells zrep 44 (0, 0))) (hg0 : w0.heap.size ≤ g) :
    Calls Try.prog 28 #[.slice A xs.length c, .func (.func 32) #[] #[.pointer (some ⟨g, 0, none⟩)]] w (RpPost w g (readRep xs)) := by
  have hmf : ∀ (fn : Fn) (first cap : Array Value) (w : World), (Instr.makeFunc fn first cap).run Try.prog w = .ok (.func fn first cap) w := fun _ _ _ _ => rfl
  by_cases hlen : 4200 < xs.length
  · have hlen' : ¬ (xs.length : Int) ≤ 4200 := by omega
    have E := Aside0.mk (show readRep xs = none from if_pos hlen)
    clear hlen hC hby ho hg
    go_enter_defers Try.func28, Try.ntmps28
    go_wp2_with fail
    refine leaves_cons (f := 39) (args := #[.pointer (some ⟨w.heap.size, 0, none⟩)]) (by simp) (by simp [go_sem]) ?_
    refine (catch_idle _ _).mono ?_
    rintro e u' w'' ⟨rfl, rfl, rfl⟩
    rw [E.out]
    refine ⟨.bool false, by simp [results, Try.results28, go_sem], RpPost.mk_ rfl (((Ch.refl _ w).alloc _).alloc _) (fun q h => by cases h)⟩
  · have hlen' : (xs.length : Int) ≤ 4200 := by omega
    have E := Aside0.mk (show readRep xs = _ from if_neg hlen)
    have HC := Aside0.mk hC
    have HB := Aside0.mk hby
    have HO := Aside0.mk ho
    have HG := Aside0.mk hg
    clear hlen hC hby ho hg
    have hgl := blk_lt HG.out
    have hz := HO.out.size
    obtain ⟨W, hW⟩ : ∃ W, W = (w.alloc (.cells #[.bool false] 4)).alloc (.cells #[.slice A xs.length c, .bool true] 56) := ⟨_, rfl⟩
    have hWch : Ch (fun _ => False) w W := by rw [hW]; exact ((Ch.refl _ w).alloc _).alloc _
    have hWp : W.heap[w.heap.size + 1]? = some (.cells #[.slice A xs.length c, .bool true] 56 (0, 0)) := by
      have h := heap_alloc_new (w.alloc (.cells #[.bool false] 4)) (.cells #[.slice A xs.length c, .bool true] 56)
      rw [show (w.alloc (.cells #[.bool false] 4)).heap.size = w.heap.size + 1 by simp, ← hW] at h
      exact h
    have hWr : W.heap[w.heap.size]? = some (.cells #[.bool false] 4 (0, 0)) := by
      rw [hW]
      exact (Below.heap_alloc _ _ _ (by simp)).trans (heap_alloc_new w _)
    have hWs : Src w0 W (w.heap.size + 1) xs := ⟨⟨A, c, hWp, hl, HC.out⟩, HO.out.trans (Ch.to_below hWch (fun _ h => h.elim) hz), by omega⟩
    have hWg : W.heap[g]? = some (.cells zrep 44 (0, 0)) := hWch.heap HG.out (fun h => h)
    have C1 := do_rep w0 W (w.heap.size + 1) g xs hWs HB.out hWg (by omega) hg0
    have HWr := Aside0.mk hWr
    have HWch := Aside0.mk (hWch.mono (S' := fun k => k = g) (fun _ h _ => h.elim))
    have HW := Aside0.mk hW
    have hW2 : W = (w.alloc (.cells #[.bool false] 4)).alloc (.cells #[.slice A xs.length c, .bool true] 56) := hW
    clear hWr hWch hWs hWg hWp hW HB HC HO HG
    rw [hW2] at C1
    clear hW2
    generalize hR : parseRep xs = R at *
    clear hR
    cases R with
    | none =>
      have E2 := Aside0.mk (show readRep xs = none from E.out)
      clear E
      go_enter_defers Try.func28, Try.ntmps28
      go_wp2_with fail
      refine C1.mono ?_
      rintro e w1 ⟨rfl, hch⟩
      rw [← HW.out] at hch
      refine leaves_cons (f := 39) (args := #[.pointer (some ⟨w.heap.size, 0, none⟩)]) (by simp) (by simp [go_sem]) ?_
      refine (catch_lost w.heap.size false w1 [] (hch.heap HWr.out (by omega))).mono ?_
      rintro e u' w2 ⟨rfl, rfl, hr2, hch2⟩
      have hc2 := blk_cell hr2 0
      have hf2 := blk_frozen hr2 0
      rw [E2.out]
      have hP : RpPost w g none (.returned (.bool false)) w2 := RpPost.mk_ rfl (HWch.out.trans ((hch.mono (S' := fun k => k = g ∨ w.heap.size ≤ k) (fun k hk _ => hk.elim (fun e => .inr (by omega)) .inl)).trans (hch2.mono (fun k hk _ => .inl (.inr (by omega)))))) (fun q h => by cases h)
      refine ⟨.bool false, ?_, hP⟩
      simp [results, Try.results28, go_sem, hc2]
    | some r =>
      obtain ⟨q, bb, ys⟩ := r
      cases bb with
      | false =>
        have E2 := Aside0.mk (show readRep xs = none from E.out)
        clear E
        go_enter_defers Try.func28, Try.ntmps28
        go_wp2_with fail
        refine C1.mono ?_
        rintro e w1 ⟨rfl, hq, hs, hch⟩
        rw [← HW.out] at hch
        have hr1 := hch.heap HWr.out (by omega)
        obtain ⟨m0, m1⟩ := blk1 hr1
        have hch1 : Ch (fun k => k = g) w w1 := HWch.out.trans (hch.mono (S' := fun k => k = g ∨ w.heap.size ≤ k) (fun k hk _ => hk.elim (fun e => .inr (by omega)) .inl))
        have HP := Aside0.mk (show ∀ v, Ch (fun k => k = g) w (w1.setCell ⟨w.heap.size, 0, none⟩ v) from fun v => hch1.setCell (p := ⟨w.heap.size, 0, none⟩) (.inr (Nat.le_refl _)) v)
        have HR := Aside0.mk (show ∀ v, (w1.setCell ⟨w.heap.size, 0, none⟩ v).heap[w.heap.size]? = some (.cells #[v] 4 (0, 0)) from fun v => blk_upd 0 v hr1 rfl)
        clear hq hs hch hr1 hch1 C1
        go_wp2_with fail
        refine leaves_cons (f := 39) (args := #[.pointer (some ⟨w.heap.size, 0, none⟩)]) (by simp) (by simp [go_sem]) ?_
        refine (catch_idle _ _).mono ?_
        rintro e u' w'' ⟨rfl, rfl, rfl⟩
        have hc2 := blk_cell (HR.out (.bool false)) 0
        rw [E2.out]
        exact ⟨.bool false, by simp [results, Try.results28, go_sem, hc2], RpPost.mk_ rfl (HP.out _) (fun q h => by cases h)⟩
      | true =>
        have EE : readRep xs = if ys.length = 0 then some q else none := by
          rw [E.out]
          cases ys <;> rfl
        have E2 := Aside0.mk EE
        clear E EE
        obtain ⟨n, hn⟩ : ∃ n, n = ys.length := ⟨_, rfl⟩
        rw [← hn] at E2
        have HN := Aside0.mk hn
        clear hn
        obtain ⟨b, hb⟩ : ∃ b, b = ((n : Int) == 0) := ⟨_, rfl⟩
        have HBB := Aside0.mk hb
        have hb' : ((n : Int) == 0) = b := hb.symm
        clear hb
        go_enter_defers Try.func28, Try.ntmps28
        go_wp2_with fail
        refine C1.mono ?_
        rintro e w1 ⟨rfl, hq, hs, hch⟩
        rw [← HW.out] at hch hq
        have hra := RepAt.low (w := w) (show RepAt W w1 g q from hq) HWch.out.size
        obtain ⟨⟨A', c', hp', hl', hC'⟩, ho', hpp'⟩ := hs
        rw [← HN.out] at hp'
        obtain ⟨k0, k1, k2⟩ := blk2 hp'
        have hr1 := hch.heap HWr.out (by omega)
        obtain ⟨m0, m1⟩ := blk1 hr1
        have hch1 : Ch (fun k => k = g) w w1 := HWch.out.trans (hch.mono (S' := fun k => k = g ∨ w.heap.size ≤ k) (fun k hk _ => hk.elim (fun e => .inr (by omega)) .inl))
        have HP := Aside0.mk (show ∀ v, Ch (fun k => k = g) w (w1.setCell ⟨w.heap.size, 0, none⟩ v) from fun v => hch1.setCell (p := ⟨w.heap.size, 0, none⟩) (.inr (Nat.le_refl _)) v)
        have HQ := Aside0.mk (show ∀ v, RepAt w (w1.setCell ⟨w.heap.size, 0, none⟩ v) g q from fun v => hra.set hr1 (by omega) v)
        have HR := Aside0.mk (show ∀ v, (w1.setCell ⟨w.heap.size, 0, none⟩ v).heap[w.heap.size]? = some (.cells #[v] 4 (0, 0)) from fun v => blk_upd 0 v hr1 rfl)
        clear hq hra hch hp' hC' ho' hr1 hch1 C1
        go_wp2_with fail
        refine leaves_cons (f := 39) (args := #[.pointer (some ⟨w.heap.size, 0, none⟩)]) (by simp) (by simp [go_sem]) ?_
        refine (catch_idle _ _).mono ?_
        rintro e u' w'' ⟨rfl, rfl, rfl⟩
        have hc2 := blk_cell (HR.out (.bool b)) 0
        rw [E2.out]
        refine ⟨.bool b, by simp [results, Try.results28, go_sem, hc2], RpPost.mk_ ?_ (HP.out _) ?_⟩
        · rw [HBB.out]; by_cases h : n = 0 <;> simp [h]
        · intro q' h'
          split at h'
          · cases h'; exact HQ.out _
          · cases h'
end Go.Proofs.Ythkdihpbdaehbaa.Pr
namespace Go.Proofs.Ythkdihpbdaehbaa.Pr
set_option linter.unusedVariables false
set_option linter.unusedSimpArgs false
open Go.RowKit Go.Proofs.YthkdihpbdaehbaaW.PrintWords Go.Proofs.YthkdihpbdaehbaaW.PrintLast Go.Proofs.YthkdihpbdaehbaaW.PrintMore Go.Proofs.Ythkdihpbdaehbaa.Bs
/-- May a decimal be? -/
def decB (tag v : Int) : Bool := if tag = 0 then v != -9223372036854775808 else if tag = 1 then v == 0 else if tag = 2 then v == 0 else if tag = 3 then v == 0 else false
set_option maxRecDepth 100000 in
set_option maxHeartbeats 400000 in
theorem dec_calls (w : World) (tag v : Int) : Calls Try.prog 47 #[.agg #[.int .i64 tag, .int .i64 v]] w fun e w' => e = .returned (.bool (decB tag v)) ∧ Below w.heap.size w w' := by
  by_cases h0 : tag = 0
  · subst h0
    go_enter Try.func47, Try.ntmps47
    go_wp2
    all_goals (go_ret; exact ⟨by simp [decB, *], by repeat (first | exact Below.refl _ _ | apply below_alloc | apply pw_below_drewN | apply below_drew1)⟩)
  by_cases h1 : tag = 1
  · subst h1
    go_enter Try.func47, Try.ntmps47
    go_wp2
    all_goals (go_ret; exact ⟨by simp [decB, *], by repeat (first | exact Below.refl _ _ | apply below_alloc | apply pw_below_drewN | apply below_drew1)⟩)
  by_cases h2 : tag = 2
  · subst h2
    go_enter Try.func47, Try.ntmps47
    go_wp2
    all_goals (go_ret; exact ⟨by simp [decB, *], by repeat (first | exact Below.refl _ _ | apply below_alloc | apply pw_below_drewN | apply below_drew1)⟩)
  by_cases h3 : tag = 3
  · subst h3
    go_enter Try.func47, Try.ntmps47
    go_wp2
    all_goals (go_ret; exact ⟨by simp [decB, *], by repeat (first | exact Below.refl _ _ | apply below_alloc | apply pw_below_drewN | apply below_drew1)⟩)
  have b0 : (tag == 0) = false := by simpa using h0
  have b1 : (tag == 1) = false := by simpa using h1
  have b2 : (tag == 2) = false := by simpa using h2
  have b3 : (tag == 3) = false := by simpa using h3
  go_enter Try.func47, Try.ntmps47
  go_wp2
  all_goals (go_ret; exact ⟨by simp [decB, *], by repeat (first | exact Below.refl _ _ | apply below_alloc | apply pw_below_drewN | apply below_drew1)⟩)
theorem unfit_calls (w : World) (n : Int) : Calls Try.prog 46 #[.int .i64 n] w fun e w' => e = .returned (.bool (!fitsB n)) ∧ Drawn0 w w' := by
  have C := fun w => fits_calls w n
  generalize fitsB n = b at *
  go_enter Try.func46, Try.ntmps46
  go_wp2_with (first | (go_at_call 25; (with_reducible refine (C _).mono ?_); rintro e w' ⟨rfl, ⟨nd, rfl⟩⟩))
  go_ret
  exact ⟨by cases b <;> rfl, by repeat (first | exact Drawn0.refl _ | apply Drawn0.step | exact ⟨_, rfl⟩)⟩
end Go.Proofs.Ythkdihpbdaehbaa.Pr
namespace Go.Proofs.Ythkdihpbdaehbaa.Pr
set_option linter.unusedVariables false
set_option linter.unusedSimpArgs false
open Go.RowKit Go.Proofs.YthkdihpbdaehbaaW.PrintWords Go.Proofs.YthkdihpbdaehbaaW.PrintLast Go.Proofs.YthkdihpbdaehbaaW.PrintMore Go.Proofs.Ythkdihpbdaehbaa.Bs
theorem Drawn0.two {a b c : World} (h : Drawn0 a b) (k : Drawn0 b c) : Drawn0 a c := by
  obtain ⟨m, rfl⟩ := h
  obtain ⟨n, rfl⟩ := k
  exact ⟨m + n, by simp [World.drewN, Nat.add_assoc]⟩
/-- Is there one that does not fit? -/
def badB (ns : List Int) : Bool := ns.any (fun n => !fitsB n)
set_option maxRecDepth 100000 in
set_option maxHeartbeats 400000 in
theorem index_calls (w : World) (A : Option Addr) (c : Nat) (ns : List Int) (hC : (Kd.int .i64).C w A ns.length ns) (hl : ns.length ≤ 9000000) :
    Calls Try.prog 49 #[.slice A ns.length c, .func (.func 46) #[] #[]] w fun e w' => (∃ r : Int, e = .returned (.int .i64 r) ∧ decide (0 ≤ r) = badB ns) ∧ Drawn0 w w' := by
  have HC := Aside0.mk hC
  clear hC
  go_enter Try.func49, Try.ntmps49
  go_wp2_with fail
  go_loopw [5, 8] (fun v5 v8 wr => ∃ j : Nat, v8 = .int .i64 j ∧ j ≤ ns.length ∧ Aside0 (badB ns = badB (ns.drop j)) ∧ Aside0 (Drawn0 w wr)) (fun v5 v8 _ => (ns.length - intOf v8).toNat)
  case atStart => exact ⟨0, rfl, Nat.zero_le _, ⟨rfl⟩, ⟨Drawn0.refl _⟩⟩
  case round =>
    obtain ⟨j, rfl, hj, HB, HD⟩ := hrel
    by_cases hjs : j < ns.length
    · have hjs' : (j : Int) < ns.length := by omega
      have hCw : (Kd.int .i64).C wr A ns.length ns := by obtain ⟨nd, e⟩ := HD.out; rw [e]; exact Kd.C_drewN HC.out nd
      obtain ⟨ad, cc, rfl, hce, hK1, hK2⟩ := Kd.C_get hCw (0 : Int) j (by omega) (by omega)
      have e1 : cc = [.int .i64 (rd ns j)] := hK1
      have hcell : wr.cell? (ad.add j) = some (.int .i64 (rd ns j)) := by
        have := hK2 0 (.int .i64 (rd ns j)) (by rw [e1]; rfl)
        rw [show ((j : Int).toNat * (Kd.int .i64).sz + 0) = j from by show (j : Int).toNat * 1 + 0 = j; simp] at this
        exact this
      have hdrop : ns.drop j = rd ns j :: ns.drop (j + 1) := by
        rw [List.drop_eq_getElem_cons hjs]; simp [rd, List.getD_eq_getElem?_getD, hjs]
      have hbad : badB ns = ((!fitsB (rd ns j)) || badB (ns.drop (j + 1))) := by
        rw [HB.out, hdrop]; simp [badB]
      have HBAD := Aside0.mk hbad
      have C1 := fun w => unfit_calls w (rd ns j)
      generalize fitsB (rd ns j) = f at *
      clear hK1 hK2 hce e1 hdrop hbad hCw
      cases f with
      | true =>
        go_wp2_with (first | (go_at_call 46; (with_reducible refine (C1 _).mono ?_); rintro e w' ⟨rfl, hd⟩; have HD2 := Aside0.mk hd; clear hd))
        go_roundw
        case rel => exact ⟨j + 1, rfl, hjs, ⟨by rw [HBAD.out]; rfl⟩, ⟨Drawn0.two HD.out HD2.out⟩⟩
        case measure => simp [intOf]; omega
      | false =>
        go_wp2_with (first | (go_at_call 46; (with_reducible refine (C1 _).mono ?_); rintro e w' ⟨rfl, hd⟩; have HD2 := Aside0.mk hd; clear hd))
        go_ret
        exact ⟨⟨j, rfl, by rw [HBAD.out]; simp⟩, Drawn0.two HD.out HD2.out⟩
    · have hjs' : ¬ (j : Int) < ns.length := by omega
      have hd0 : ns.drop j = [] := List.drop_eq_nil_of_le (by omega)
      have HE := Aside0.mk (show badB ns = false by rw [HB.out, hd0]; rfl)
      go_wp2
      go_ret
      exact ⟨⟨-1, rfl, by rw [HE.out]; rfl⟩, HD.out⟩
set_option maxRecDepth 100000 in
set_option maxHeartbeats 400000 in
theorem contains_calls (w : World) (A : Option Addr) (c : Nat) (ns : List Int) (hC : (Kd.int .i64).C w A ns.length ns) (hl : ns.length ≤ 9000000) :
    Calls Try.prog 45 #[.slice A ns.length c, .func (.func 46) #[] #[]] w fun e w' => e = .returned (.bool (badB ns)) ∧ Drawn0 w w' := by
  have C1 := index_calls w A c ns hC hl
  clear hC
  go_enter Try.func45, Try.ntmps45
  go_wp2_with fail
  refine C1.mono ?_
  rintro e w2 ⟨⟨r, rfl, hr⟩, hd⟩
  have HR := Aside0.mk hr
  have HD := Aside0.mk hd
  clear hr hd C1
  go_wp2_with fail
  go_ret
  exact ⟨by rw [← HR.out]; rfl, HD.out⟩
end Go.Proofs.Ythkdihpbdaehbaa.Pr
namespace Go.Proofs.Ythkdihpbdaehbaa.Pr
set_option linter.unusedVariables false
set_option linter.unusedSimpArgs false
open Go.RowKit Go.Proofs.YthkdihpbdaehbaaW.PrintWords Go.Proofs.YthkdihpbdaehbaaW.PrintLast Go.Proofs.YthkdihpbdaehbaaW.PrintMore Go.Proofs.Ythkdihpbdaehbaa.Bs
theorem eqDec (w : World) (x0 y0 x1 y1 : Int) : (binOp .neq 40 (.agg #[.int .i64 x0, .int .i64 x1]) (.agg #[.int .i64 y0, .int .i64 y1])).run Try.prog w = .ok (.bool (!(x0 == y0 && x1 == y1))) w := by
  have h : ∀ d, (Op.equalIn (d + 2) 40 (.agg #[.int .i64 x0, .int .i64 x1]) (.agg #[.int .i64 y0, .int .i64 y1])).run Try.prog w = .ok (x0 == y0 && x1 == y1) w := fun d => by
    refine eqA_of Try.underlying40 (by kernel_rfl) ?_
    refine eqf_cons (by rfl) (by go_simp; rfl) (by go_simp; rfl) (by go_simp) ?_
    exact eqf_last (by rfl) (by go_simp; rfl) (by go_simp; rfl) (by go_simp)
  go_simp
/-- May a value be? -/
def valueB (vt : Int) (nl : Nat) (vb : Bool) (tag vv : Int) (vl : Nat) (bad dec : Bool) : Bool :=
  if ¬ vt = 1 ∧ 0 < nl then false else if ¬ vt = 2 ∧ vb = true then false else if ¬ vt = 3 ∧ ¬ (tag = 0 ∧ vv = 0) then false else if ¬ vt = 4 ∧ ¬ vl = 0 then false else
  if vt < 0 then false else if 4 < vt then false else if 1000 < nl then false else if bad = true then false else if dec = false then false else decide (vl ≤ 65535)
end Go.Proofs.Ythkdihpbdaehbaa.Pr
