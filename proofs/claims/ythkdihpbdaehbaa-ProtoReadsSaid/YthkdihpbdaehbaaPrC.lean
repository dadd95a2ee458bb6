import Derived.Test.YthkdihpbdaehbaaPrB
namespace Go.Proofs.Ythkdihpbdaehbaa.Pr
set_option linter.unusedVariables false
set_option linter.unusedSimpArgs false
open Go.RowKit Go.Proofs.YthkdihpbdaehbaaW.PrintWords Go.Proofs.Ythkdihpbdaehbaa.Bs

structure Rq where
  kind : Int
  s : ByteArray
  ok : Int
  id : Int
  pos : Int
  name : ByteArray
  os : ByteArray
def Rq.cells (q : Rq) : Array Value := #[.int .i64 q.kind, .string q.s, .int .i64 q.ok, .int .i64 q.id, .int .i64 q.pos, .string q.name, .string q.os]
def textB (s : ByteArray) : List Int := be 2 s.size ++ bytesOf s
def Rq.bytes (q : Rq) : List Int := be 1 q.kind ++ (if q.kind = 2 then textB q.s else if q.kind = 3 then be 1 q.ok ++ be 4 q.id ++ be 4 q.pos ++ textB q.name ++ textB q.os else if q.kind = 6 then be 4 q.id else [])
/-- Laid so far, and the thing that is laid still there. -/
structure On (B : Nat) (w : World) (p : Nat) (bv : Value) (qb : Nat) (cs : Array Value) (t : Nat) (xs : List Int) (w1 : World) : Prop where
  l : Laid B w p bv xs w1
  q : w1.heap[qb]? = some (.cells cs t (0, 0))
theorem On.next {B : Nat} {w w1 w2 : World} {p qb t : Nat} {bv : Value} {cs : Array Value} {xs ys : List Int} (h : On B w p bv qb cs t xs w1) (hne : qb ≠ p) (ht : t ≠ 5) (k : ∀ bv', Put B w1 p bv' xs → some qb ≠ bv'.ownBlock → Laid B w1 p bv' ys w2) : On B w p bv qb cs t ys w2 := by
  obtain ⟨⟨⟨bv', ⟨hp, hat⟩⟩, hch⟩, hq⟩ := h
  have hn := Kd.R_ne hp.row hq (fun e => ht e.symm)
  have hl := k bv' hp hn
  exact ⟨Laid.then_ hat hch hl, hl.ch.heap hq (by rintro (e | e); exact hne e; exact hn e)⟩
theorem On.put {B : Nat} {w w1 : World} {p qb t : Nat} {bv : Value} {cs : Array Value} {xs : List Int} (h : On B w p bv qb cs t xs w1) : ∃ bv', Put B w1 p bv' xs := let ⟨⟨⟨bv', ⟨hp, _⟩⟩, _⟩, _⟩ := h; ⟨bv', hp⟩
theorem int_on (B : Nat) (w w1 : World) (p qb t i : Nat) (bv : Value) (cs : Array Value) (xs : List Int) (n : Int) (size : Nat) (h : On B w p bv qb cs t xs w1) (hne : qb ≠ p) (ht : t ≠ 5) (hc : cs[i]? = some (.int .i64 n)) (hBw : B ≤ w.heap.size) (h0 : 0 ≤ n) (h1 : n ≤ 9223372036854775807) (hs : size ≤ 8) (hl : xs.length ≤ 1000000) :
    Calls Try.prog 37 #[.pointer (some ⟨p, 0, none⟩), .pointer (some ⟨qb, i, none⟩), .int .i64 size] w1 fun e w' => e = .returned (.tuple #[]) ∧ On B w p bv qb cs t (xs ++ be size n) w' := by
  obtain ⟨bv', hp⟩ := h.put
  have hn := Kd.R_ne hp.row h.q (fun e => ht e.symm)
  refine (integer_put B w1 p bv' xs ⟨qb, i, none⟩ n size hp ((blk_cell h.q i).trans hc) (blk_frozen h.q i) hne hn (Nat.le_trans hBw h.l.ch.size) h0 h1 hs hl).mono ?_
  rintro e w' ⟨rfl, hL⟩
  refine ⟨rfl, ?_⟩
  obtain ⟨⟨⟨bv2, ⟨hp2, hat⟩⟩, hch⟩, hq⟩ := h
  have e1 : bv2 = bv' := by
    have a := hp2.cells
    rw [hp.cells] at a
    simp at a
    exact a.symm
  subst e1
  exact ⟨Laid.then_ hat hch hL, hL.ch.heap hq (by rintro (e | e); exact hne e; exact hn e)⟩
theorem text_on (B : Nat) (w w1 : World) (p qb t i : Nat) (bv : Value) (cs : Array Value) (xs : List Int) (y : ByteArray) (h : On B w p bv qb cs t xs w1) (hne : qb ≠ p) (ht : t ≠ 5) (hc : cs[i]? = some (.string y)) (hBw : B ≤ w.heap.size) (hy : y.size ≤ 70000) (hl : xs.length ≤ 900000) :
    Calls Try.prog 38 #[.pointer (some ⟨p, 0, none⟩), .pointer (some ⟨qb, i, none⟩)] w1 fun e w' => e = .returned (.tuple #[]) ∧ On B w p bv qb cs t (xs ++ textB y) w' := by
  obtain ⟨bv', hp⟩ := h.put
  have hn := Kd.R_ne hp.row h.q (fun e => ht e.symm)
  refine (text_put B w1 p bv' xs ⟨qb, i, none⟩ y hp ((blk_cell h.q i).trans hc) hne hn (Nat.le_trans hBw h.l.ch.size) hy hl).mono ?_
  rintro e w' ⟨rfl, hL⟩
  refine ⟨rfl, ?_⟩
  obtain ⟨⟨⟨bv2, ⟨hp2, hat⟩⟩, hch⟩, hq⟩ := h
  have e1 : bv2 = bv' := by
    have a := hp2.cells
    rw [hp.cells] at a
    simp at a
    exact a.symm
  subst e1
  rw [List.append_assoc] at hL
  exact ⟨Laid.then_ hat hch hL, hL.ch.heap hq (by rintro (e | e); exact hne e; exact hn e)⟩
theorem blk7 {w : World} {g t : Nat} {a b c d e f h' : Value} (h : w.heap[g]? = some (.cells #[a, b, c, d, e, f, h'] t (0, 0))) : w.cell? ⟨g, 0, none⟩ = some a ∧ w.cell? ⟨g, 1, none⟩ = some b ∧ w.cell? ⟨g, 2, none⟩ = some c ∧ w.cell? ⟨g, 3, none⟩ = some d ∧ w.cell? ⟨g, 4, none⟩ = some e ∧ w.cell? ⟨g, 5, none⟩ = some f ∧ w.cell? ⟨g, 6, none⟩ = some h' ∧ ∀ i, w.frozen? ⟨g, i, none⟩ = false :=
  ⟨blk_cell h 0, blk_cell h 1, blk_cell h 2, blk_cell h 3, blk_cell h 4, blk_cell h 5, blk_cell h 6, fun i => blk_frozen h i⟩
/-- What RightReq lets through, as bounds. -/
structure Rq.small (q : Rq) : Prop where
  k : 1 ≤ q.kind ∧ q.kind ≤ 6
  ok : 0 ≤ q.ok ∧ q.ok ≤ 255
  id : 0 ≤ q.id ∧ q.id ≤ 2147483647
  pos : 0 ≤ q.pos ∧ q.pos ≤ 2147483647
  s : q.s.size ≤ 4000
  name : q.name.size ≤ 200
  os : q.os.size ≤ 4000
theorem textB_len (s : ByteArray) : (textB s).length = s.size + 2 := by simp [textB, be_length, bytesOf_length]; omega
set_option maxRecDepth 100000 in
set_option maxHeartbeats 400000 in
theorem request_put (B : Nat) (w : World) (p qb : Nat) (bv : Value) (q : Rq) (h : Put B w p bv []) (hq : w.heap[qb]? = some (.cells q.cells 25 (0, 0))) (hne : qb ≠ p) (hB : B ≤ w.heap.size) (hs : q.small) :
    Calls Try.prog 21 #[.pointer (some ⟨p, 0, none⟩), .pointer (some ⟨qb, 0, none⟩)] w fun e w' => e = .returned (.tuple #[]) ∧ On B w p bv qb q.cells 25 q.bytes w' := by
  obtain ⟨⟨ka, kb⟩, ⟨oa, ob⟩, ⟨ia, ib⟩, ⟨pa, pb⟩, sa, na, osa⟩ := hs
  have ON0 : On B w p bv qb q.cells 25 [] w := ⟨⟨⟨bv, And.intro h (fun k hk => .inl hk)⟩, Ch.refl _ _⟩, hq⟩
  have C1 := Aside0.mk (int_on B w w p qb 25 0 bv q.cells [] q.kind 1 ON0 hne (by decide) rfl hB (by omega) (by omega) (by decide) (by simp))
  clear h hq ON0
  go_enter Try.func21, Try.ntmps21
  go_wp2_with fail
  refine C1.out.mono ?_
  rintro e w1 ⟨rfl, o1⟩
  obtain ⟨c0, c1, c2, c3, c4, c5, c6, c7⟩ := blk7 o1.q
  have O1 := Aside0.mk o1
  clear o1 C1
  by_cases k2 : q.kind = 2
  · have e2 : (q.kind == 2) = true := by simpa using k2
    have E := Aside0.mk (show q.bytes = [] ++ be 1 q.kind ++ textB q.s by simp [Rq.bytes, k2])
    have K2 := Aside0.mk k2
    clear k2
    have C2 := Aside0.mk (text_on B w w1 p qb 25 1 bv q.cells _ q.s O1.out hne (by decide) rfl hB (by omega) (by simp [be_length]))
    go_wp2_with (go_at_call 38; (with_reducible refine C2.out.mono ?_); rintro e w2 ⟨rfl, o2⟩; have O2 := Aside0.mk o2; clear o2)
    refine bodyPost_end (results_none rfl _ _ _) rfl ?_
    exact ⟨rfl, by rw [E.out]; exact O2.out⟩
  · by_cases k3 : q.kind = 3
    · have E := Aside0.mk (show q.bytes = [] ++ be 1 q.kind ++ be 1 q.ok ++ be 4 q.id ++ be 4 q.pos ++ textB q.name ++ textB q.os by simp [Rq.bytes, k2, k3])
      have K2 := Aside0.mk k2
      have K3 := Aside0.mk k3
      clear k2
      have C2 := int_on B w w1 p qb 25 2 bv q.cells _ q.ok 1 O1.out hne (by decide) rfl hB (by omega) (by omega) (by decide) (by simp [be_length, textB_len]; try omega)
      go_wp2_with fail
      refine C2.mono ?_
      rintro e w2 ⟨rfl, o2⟩
      obtain ⟨c0, c1, c2, c3, c4, c5, c6, c7⟩ := blk7 o2.q
      have O2 := Aside0.mk o2
      clear o2 C2
      have C3 := int_on B w w2 p qb 25 3 bv q.cells _ q.id 4 O2.out hne (by decide) rfl hB (by omega) (by omega) (by decide) (by simp [be_length, textB_len]; try omega)
      go_wp2_with fail
      refine C3.mono ?_
      rintro e w3 ⟨rfl, o3⟩
      obtain ⟨c0, c1, c2, c3, c4, c5, c6, c7⟩ := blk7 o3.q
      have O3 := Aside0.mk o3
      clear o3 C3
      have C4 := int_on B w w3 p qb 25 4 bv q.cells _ q.pos 4 O3.out hne (by decide) rfl hB (by omega) (by omega) (by decide) (by simp [be_length, textB_len]; try omega)
      go_wp2_with fail
      refine C4.mono ?_
      rintro e w4 ⟨rfl, o4⟩
      obtain ⟨c0, c1, c2, c3, c4, c5, c6, c7⟩ := blk7 o4.q
      have O4 := Aside0.mk o4
      clear o4 C4
      have C5 := text_on B w w4 p qb 25 5 bv q.cells _ q.name O4.out hne (by decide) rfl hB (by omega) (by simp [be_length, textB_len]; try omega)
      go_wp2_with fail
      refine C5.mono ?_
      rintro e w5 ⟨rfl, o5⟩
      obtain ⟨c0, c1, c2, c3, c4, c5, c6, c7⟩ := blk7 o5.q
      have O5 := Aside0.mk o5
      clear o5 C5
      have C6 := text_on B w w5 p qb 25 6 bv q.cells _ q.os O5.out hne (by decide) rfl hB (by omega) (by simp [be_length, textB_len]; try omega)
      go_wp2_with fail
      refine C6.mono ?_
      rintro e w6 ⟨rfl, o6⟩
      obtain ⟨c0, c1, c2, c3, c4, c5, c6, c7⟩ := blk7 o6.q
      have O6 := Aside0.mk o6
      clear o6 C6
      go_wp2_with fail
      refine bodyPost_end (results_none rfl _ _ _) rfl ?_
      exact ⟨rfl, by rw [E.out]; exact O6.out⟩
    · by_cases k6 : q.kind = 6
      · have E := Aside0.mk (show q.bytes = [] ++ be 1 q.kind ++ be 4 q.id by simp [Rq.bytes, k2, k3, k6])
        have C2 := int_on B w w1 p qb 25 3 bv q.cells _ q.id 4 O1.out hne (by decide) rfl hB (by omega) (by omega) (by decide) (by simp [be_length])
        go_wp2_with fail
        refine C2.mono ?_
        rintro e w2 ⟨rfl, o2⟩
        have O2 := Aside0.mk o2
        clear o2 C2
        go_wp2_with fail
        refine bodyPost_end (results_none rfl _ _ _) rfl ?_
        exact ⟨rfl, by rw [E.out]; exact O2.out⟩
      · have E := Aside0.mk (show q.bytes = [] ++ be 1 q.kind by simp [Rq.bytes, k2, k3, k6])
        go_wp2_with fail
        refine bodyPost_end (results_none rfl _ _ _) rfl ?_
        exact ⟨rfl, by rw [E.out]; exact O1.out⟩
end Go.Proofs.Ythkdihpbdaehbaa.Pr
