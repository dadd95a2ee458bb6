import Derived.Test.YthkdihpbdaehbaaPrM
namespace Go.Proofs.Ythkdihpbdaehbaa.Pr
set_option linter.unusedVariables false
set_option linter.unusedSimpArgs false
open Go.RowKit Go.Proofs.YthkdihpbdaehbaaW.PrintWords Go.Proofs.YthkdihpbdaehbaaW.PrintLast Go.Proofs.YthkdihpbdaehbaaW.PrintMore Go.Proofs.Ythkdihpbdaehbaa.Bs
/-- A number of so many bytes that is read, and what is behind it. -/
def numP (k : Nat) (xs : List Int) : Option (Int × List Int) := if xs.length < k then none else some (val (xs.take k), xs.drop k)
def textP (xs : List Int) : Option (ByteArray × List Int) := if xs.length < 2 ∨ xs.length < 2 + (val (xs.take 2)).toNat then none else some (strOfNums ((xs.drop 2).take (val (xs.take 2)).toNat), xs.drop (2 + (val (xs.take 2)).toNat))
def nil8 : ByteArray := ⟨#[]⟩
def parseReq (xs : List Int) : Option (Rq × List Int) :=
  match numP 1 xs with
  | none => none
  | some (k, x1) =>
    if k = 2 then (match textP x1 with | none => none | some (s, x2) => some (⟨k, s, 0, 0, 0, nil8, nil8⟩, x2))
    else if k = 3 then (match numP 1 x1 with | none => none | some (o, x2) => match numP 4 x2 with | none => none | some (i, x3) => match numP 4 x3 with | none => none | some (p, x4) => match textP x4 with | none => none | some (nm, x5) => match textP x5 with | none => none | some (os, x6) => some (⟨k, nil8, o, i, p, nm, os⟩, x6))
    else if k = 6 then (match numP 4 x1 with | none => none | some (i, x2) => some (⟨k, nil8, 0, i, 0, nil8, nil8⟩, x2))
    else some (⟨k, nil8, 0, 0, 0, nil8, nil8⟩, x1)
def Bys (xs : List Int) : Prop := ∀ x ∈ xs, 0 ≤ x ∧ x ≤ 255
theorem numP_bys {k : Nat} {xs ys : List Int} {v : Int} (h : Bys xs) (e : numP k xs = some (v, ys)) : Bys ys := by
  simp only [numP] at e
  split at e
  · cases e
  · cases e; exact fun x hx => h x (List.mem_of_mem_drop hx)
theorem textP_bys {xs ys : List Int} {s : ByteArray} (h : Bys xs) (e : textP xs = some (s, ys)) : Bys ys := by
  simp only [textP] at e
  split at e
  · cases e
  · cases e; exact fun x hx => h x (List.mem_of_mem_drop hx)
structure Stp (w0 w : World) (p g : Nat) (cs : Array Value) (t : Nat) (ys : List Int) (e : Ending) (w' : World) : Prop where
  e : e = .returned (.tuple #[])
  q : w'.heap[g]? = some (.cells cs t (0, 0))
  s : Src w0 w' p ys
  ch : Ch (fun k => k = p ∨ k = g) w w'
theorem int_get (w0 w : World) (p g i t : Nat) (cs : Array Value) (n0 v : Int) (xs ys : List Int) (size : Nat) (hn : numP size xs = some (v, ys)) (h : Src w0 w p xs) (hby : Bys xs) (hg : w.heap[g]? = some (.cells cs t (0, 0))) (hi : cs[i]? = some (.int .i64 n0)) (hgp : g ≠ p) (hg0 : w0.heap.size ≤ g) (hs7 : size ≤ 7) :
    Calls Try.prog 37 #[.pointer (some ⟨p, 0, none⟩), .pointer (some ⟨g, i, none⟩), .int .i64 size] w (Stp w0 w p g (cs.setIfInBounds i (.int .i64 v)) t ys) := by
  simp only [numP] at hn
  split at hn
  · cases hn
  · cases hn
    refine (integer_get w0 w p g i t cs n0 xs size h hby hg hi hgp hg0 (by omega) hs7).mono ?_
    rintro e w' ⟨rfl, hq, hs, hch⟩
    exact ⟨rfl, hq, hs, hch⟩
theorem int_lost (w0 w : World) (p g i t : Nat) (cs : Array Value) (n0 : Int) (xs : List Int) (size : Nat) (hn : numP size xs = none) (h : Src w0 w p xs) (hg : w.heap[g]? = some (.cells cs t (0, 0))) (hi : cs[i]? = some (.int .i64 n0)) (hgp : g ≠ p) (hg0 : w0.heap.size ≤ g) :
    Calls Try.prog 37 #[.pointer (some ⟨p, 0, none⟩), .pointer (some ⟨g, i, none⟩), .int .i64 size] w (LostCh w p g) := by
  simp only [numP] at hn
  split at hn
  · exact integer_lost w0 w p g i t cs n0 xs size h hg hi hgp hg0 (by omega)
  · cases hn
theorem str_get (w0 w : World) (p g i t : Nat) (cs : Array Value) (y s : ByteArray) (xs ys : List Int) (hn : textP xs = some (s, ys)) (h : Src w0 w p xs) (hby : Bys xs) (hg : w.heap[g]? = some (.cells cs t (0, 0))) (hi : cs[i]? = some (.string y)) (hgp : g ≠ p) (hg0 : w0.heap.size ≤ g) :
    Calls Try.prog 38 #[.pointer (some ⟨p, 0, none⟩), .pointer (some ⟨g, i, none⟩)] w (Stp w0 w p g (cs.setIfInBounds i (.string s)) t ys) := by
  simp only [textP] at hn
  split at hn
  · cases hn
  · cases hn
    refine (text_get w0 w p g i t cs y xs h hby hg hi hgp hg0 (by omega)).mono ?_
    rintro e w' ⟨rfl, hq, hs, hch⟩
    exact ⟨rfl, hq, hs, hch⟩
theorem str_lost (w0 w : World) (p g i t : Nat) (cs : Array Value) (y : ByteArray) (xs : List Int) (hn : textP xs = none) (h : Src w0 w p xs) (hby : Bys xs) (hg : w.heap[g]? = some (.cells cs t (0, 0))) (hi : cs[i]? = some (.string y)) (hgp : g ≠ p) (hg0 : w0.heap.size ≤ g) :
    Calls Try.prog 38 #[.pointer (some ⟨p, 0, none⟩), .pointer (some ⟨g, i, none⟩)] w (LostCh w p g) := by
  simp only [textP] at hn
  split at hn
  · exact text_lost w0 w p g i t cs y xs h hby hg hi hgp hg0 (by omega)
  · cases hn
def Res (w0 w : World) (p g : Nat) (r : Option (Rq × List Int)) (e : Ending) (w' : World) : Prop :=
  match r with
  | none => LostCh w p g e w'
  | some (q, ys) => Stp w0 w p g q.cells 25 ys e w'
theorem Ch.two {w w1 w2 : World} {p g : Nat} (h : Ch (fun k => k = p ∨ k = g) w w1) (h2 : Ch (fun k => k = p ∨ k = g) w1 w2) : Ch (fun k => k = p ∨ k = g) w w2 := h.trans (h2.mono (fun k hk _ => .inl hk))
set_option maxRecDepth 100000 in
set_option maxHeartbeats 1000000 in
theorem rget_0 (w0 w : World) (p g : Nat) (xs : List Int) (h : Src w0 w p xs) (hby : Bys xs) (hg : w.heap[g]? = some (.cells #[.int .i64 (0), .string nil8, .int .i64 (0), .int .i64 (0), .int .i64 (0), .string nil8, .string nil8] 25 (0, 0))) (hgp : g ≠ p) (hg0 : w0.heap.size ≤ g) {k : Int} {x1 : List Int} (n0 : numP 1 xs = some (k, x1)) (kk : k ≠ 2 ∧ k ≠ 3 ∧ k ≠ 6)   :
    Calls Try.prog 21 #[.pointer (some ⟨p, 0, none⟩), .pointer (some ⟨g, 0, none⟩)] w (Res w0 w p g (some (⟨k, nil8, 0, 0, 0, nil8, nil8⟩, x1))) := by
  have C0 := int_get w0 w p g 0 25 _ 0 k xs x1 1 n0 h hby hg rfl hgp hg0 (by decide)
  have B1 := Aside0.mk (numP_bys hby n0)
  have b2 : (k == 2) = false := by simp; omega
  have b3 : (k == 3) = false := by simp; omega
  have b6 : (k == 6) = false := by simp; omega
  have KK := Aside0.mk kk
  clear h hby hg kk n0
  go_enter Try.func21, Try.ntmps21
  go_wp2_with fail
  refine C0.mono ?_
  rintro e w1 ⟨rfl, hq, hs, hch⟩
  replace hq : w1.heap[g]? = some (.cells #[.int .i64 (k), .string nil8, .int .i64 (0), .int .i64 (0), .int .i64 (0), .string nil8, .string nil8] 25 (0, 0)) := hq
  obtain ⟨c0, c1, c2, c3, c4, c5, c6, c7⟩ := blk7 hq
  have HQ1 := Aside0.mk hq
  have HS1 := Aside0.mk hs
  have HC1 := Aside0.mk hch
  clear hq hs hch C0
  go_wp2_with fail
  refine bodyPost_end (results_none rfl _ _ _) rfl ?_
  exact ⟨rfl, HQ1.out, HS1.out, HC1.out⟩
set_option maxRecDepth 100000 in
set_option maxHeartbeats 1000000 in
theorem rget_2 (w0 w : World) (p g : Nat) (xs : List Int) (h : Src w0 w p xs) (hby : Bys xs) (hg : w.heap[g]? = some (.cells #[.int .i64 (0), .string nil8, .int .i64 (0), .int .i64 (0), .int .i64 (0), .string nil8, .string nil8] 25 (0, 0))) (hgp : g ≠ p) (hg0 : w0.heap.size ≤ g) {k : Int} {x1 : List Int} (n0 : numP 1 xs = some (k, x1)) (kk : k = 2) {s : ByteArray} {x2 : List Int} (n1 : textP x1 = some (s, x2)) :
    Calls Try.prog 21 #[.pointer (some ⟨p, 0, none⟩), .pointer (some ⟨g, 0, none⟩)] w (Res w0 w p g (some (⟨k, s, 0, 0, 0, nil8, nil8⟩, x2))) := by
  have C0 := int_get w0 w p g 0 25 _ 0 k xs x1 1 n0 h hby hg rfl hgp hg0 (by decide)
  have B1 := Aside0.mk (numP_bys hby n0)
  have b2 : (k == 2) = true := by simpa using kk
  have b3 : (k == 3) = false := by simp [kk]
  have b6 : (k == 6) = false := by simp [kk]
  have KK := Aside0.mk kk
  clear h hby hg kk n0
  go_enter Try.func21, Try.ntmps21
  go_wp2_with fail
  refine C0.mono ?_
  rintro e w1 ⟨rfl, hq, hs, hch⟩
  replace hq : w1.heap[g]? = some (.cells #[.int .i64 (k), .string nil8, .int .i64 (0), .int .i64 (0), .int .i64 (0), .string nil8, .string nil8] 25 (0, 0)) := hq
  obtain ⟨c0, c1, c2, c3, c4, c5, c6, c7⟩ := blk7 hq
  have HQ1 := Aside0.mk hq
  have HS1 := Aside0.mk hs
  have HC1 := Aside0.mk hch
  clear hq hs hch C0
  have C1 := str_get w0 w1 p g 1 25 _ nil8 s x1 x2 n1 HS1.out B1.out HQ1.out rfl hgp hg0
  have B2 := Aside0.mk (textP_bys B1.out n1)
  clear n1
  go_wp2_with fail
  refine C1.mono ?_
  rintro e w2 ⟨rfl, hq, hs, hch⟩
  replace hq : w2.heap[g]? = some (.cells #[.int .i64 (k), .string s, .int .i64 (0), .int .i64 (0), .int .i64 (0), .string nil8, .string nil8] 25 (0, 0)) := hq
  clear c0 c1 c2 c3 c4 c5 c6 c7
  obtain ⟨c0, c1, c2, c3, c4, c5, c6, c7⟩ := blk7 hq
  have HQ2 := Aside0.mk hq
  have HS2 := Aside0.mk hs
  have HC2 := Aside0.mk (Ch.two HC1.out hch)
  clear hq hs hch C1
  go_wp2_with fail
  refine bodyPost_end (results_none rfl _ _ _) rfl ?_
  exact ⟨rfl, HQ2.out, HS2.out, HC2.out⟩
set_option maxRecDepth 100000 in
set_option maxHeartbeats 1000000 in
theorem rget_2l (w0 w : World) (p g : Nat) (xs : List Int) (h : Src w0 w p xs) (hby : Bys xs) (hg : w.heap[g]? = some (.cells #[.int .i64 (0), .string nil8, .int .i64 (0), .int .i64 (0), .int .i64 (0), .string nil8, .string nil8] 25 (0, 0))) (hgp : g ≠ p) (hg0 : w0.heap.size ≤ g) {k : Int} {x1 : List Int} (n0 : numP 1 xs = some (k, x1)) (kk : k = 2)  (n1 : textP x1 = none) :
    Calls Try.prog 21 #[.pointer (some ⟨p, 0, none⟩), .pointer (some ⟨g, 0, none⟩)] w (Res w0 w p g (none)) := by
  have C0 := int_get w0 w p g 0 25 _ 0 k xs x1 1 n0 h hby hg rfl hgp hg0 (by decide)
  have B1 := Aside0.mk (numP_bys hby n0)
  have b2 : (k == 2) = true := by simpa using kk
  have b3 : (k == 3) = false := by simp [kk]
  have b6 : (k == 6) = false := by simp [kk]
  have KK := Aside0.mk kk
  clear h hby hg kk n0
  go_enter Try.func21, Try.ntmps21
  go_wp2_with fail
  refine C0.mono ?_
  rintro e w1 ⟨rfl, hq, hs, hch⟩
  replace hq : w1.heap[g]? = some (.cells #[.int .i64 (k), .string nil8, .int .i64 (0), .int .i64 (0), .int .i64 (0), .string nil8, .string nil8] 25 (0, 0)) := hq
  obtain ⟨c0, c1, c2, c3, c4, c5, c6, c7⟩ := blk7 hq
  have HQ1 := Aside0.mk hq
  have HS1 := Aside0.mk hs
  have HC1 := Aside0.mk hch
  clear hq hs hch C0
  have C1 := str_lost w0 w1 p g 1 25 _ nil8 x1 n1 HS1.out B1.out HQ1.out rfl hgp hg0
  clear n1
  go_wp2_with fail
  refine C1.mono ?_
  rintro e w2 ⟨rfl, hch⟩
  exact ⟨rfl, ⟨rfl, Ch.two HC1.out hch⟩⟩
set_option maxRecDepth 100000 in
set_option maxHeartbeats 1000000 in
theorem rget_6 (w0 w : World) (p g : Nat) (xs : List Int) (h : Src w0 w p xs) (hby : Bys xs) (hg : w.heap[g]? = some (.cells #[.int .i64 (0), .string nil8, .int .i64 (0), .int .i64 (0), .int .i64 (0), .string nil8, .string nil8] 25 (0, 0))) (hgp : g ≠ p) (hg0 : w0.heap.size ≤ g) {k : Int} {x1 : List Int} (n0 : numP 1 xs = some (k, x1)) (kk : k = 6) {i : Int} {x2 : List Int} (n1 : numP 4 x1 = some (i, x2)) :
    Calls Try.prog 21 #[.pointer (some ⟨p, 0, none⟩), .pointer (some ⟨g, 0, none⟩)] w (Res w0 w p g (some (⟨k, nil8, 0, i, 0, nil8, nil8⟩, x2))) := by
  have C0 := int_get w0 w p g 0 25 _ 0 k xs x1 1 n0 h hby hg rfl hgp hg0 (by decide)
  have B1 := Aside0.mk (numP_bys hby n0)
  have b2 : (k == 2) = false := by simp [kk]
  have b3 : (k == 3) = false := by simp [kk]
  have b6 : (k == 6) = true := by simpa using kk
  have KK := Aside0.mk kk
  clear h hby hg kk n0
  go_enter Try.func21, Try.ntmps21
  go_wp2_with fail
  refine C0.mono ?_
  rintro e w1 ⟨rfl, hq, hs, hch⟩
  replace hq : w1.heap[g]? = some (.cells #[.int .i64 (k), .string nil8, .int .i64 (0), .int .i64 (0), .int .i64 (0), .string nil8, .string nil8] 25 (0, 0)) := hq
  obtain ⟨c0, c1, c2, c3, c4, c5, c6, c7⟩ := blk7 hq
  have HQ1 := Aside0.mk hq
  have HS1 := Aside0.mk hs
  have HC1 := Aside0.mk hch
  clear hq hs hch C0
  have C1 := int_get w0 w1 p g 3 25 _ 0 i x1 x2 4 n1 HS1.out B1.out HQ1.out rfl hgp hg0 (by decide)
  have B2 := Aside0.mk (numP_bys B1.out n1)
  clear n1
  go_wp2_with fail
  refine C1.mono ?_
  rintro e w2 ⟨rfl, hq, hs, hch⟩
  replace hq : w2.heap[g]? = some (.cells #[.int .i64 (k), .string nil8, .int .i64 (0), .int .i64 (i), .int .i64 (0), .string nil8, .string nil8] 25 (0, 0)) := hq
  clear c0 c1 c2 c3 c4 c5 c6 c7
  obtain ⟨c0, c1, c2, c3, c4, c5, c6, c7⟩ := blk7 hq
  have HQ2 := Aside0.mk hq
  have HS2 := Aside0.mk hs
  have HC2 := Aside0.mk (Ch.two HC1.out hch)
  clear hq hs hch C1
  go_wp2_with fail
  refine bodyPost_end (results_none rfl _ _ _) rfl ?_
  exact ⟨rfl, HQ2.out, HS2.out, HC2.out⟩
set_option maxRecDepth 100000 in
set_option maxHeartbeats 1000000 in
theorem rget_6l (w0 w : World) (p g : Nat) (xs : List Int) (h : Src w0 w p xs) (hby : Bys xs) (hg : w.heap[g]? = some (.cells #[.int .i64 (0), .string nil8, .int .i64 (0), .int .i64 (0), .int .i64 (0), .string nil8, .string nil8] 25 (0, 0))) (hgp : g ≠ p) (hg0 : w0.heap.size ≤ g) {k : Int} {x1 : List Int} (n0 : numP 1 xs = some (k, x1)) (kk : k = 6)  (n1 : numP 4 x1 = none) :
    Calls Try.prog 21 #[.pointer (some ⟨p, 0, none⟩), .pointer (some ⟨g, 0, none⟩)] w (Res w0 w p g (none)) := by
  have C0 := int_get w0 w p g 0 25 _ 0 k xs x1 1 n0 h hby hg rfl hgp hg0 (by decide)
  have B1 := Aside0.mk (numP_bys hby n0)
  have b2 : (k == 2) = false := by simp [kk]
  have b3 : (k == 3) = false := by simp [kk]
  have b6 : (k == 6) = true := by simpa using kk
  have KK := Aside0.mk kk
  clear h hby hg kk n0
  go_enter Try.func21, Try.ntmps21
  go_wp2_with fail
  refine C0.mono ?_
  rintro e w1 ⟨rfl, hq, hs, hch⟩
  replace hq : w1.heap[g]? = some (.cells #[.int .i64 (k), .string nil8, .int .i64 (0), .int .i64 (0), .int .i64 (0), .string nil8, .string nil8] 25 (0, 0)) := hq
  obtain ⟨c0, c1, c2, c3, c4, c5, c6, c7⟩ := blk7 hq
  have HQ1 := Aside0.mk hq
  have HS1 := Aside0.mk hs
  have HC1 := Aside0.mk hch
  clear hq hs hch C0
  have C1 := int_lost w0 w1 p g 3 25 _ 0 x1 4 n1 HS1.out HQ1.out rfl hgp hg0
  clear n1
  go_wp2_with fail
  refine C1.mono ?_
  rintro e w2 ⟨rfl, hch⟩
  exact ⟨rfl, ⟨rfl, Ch.two HC1.out hch⟩⟩
set_option maxRecDepth 100000 in
set_option maxHeartbeats 1000000 in
theorem rget_3 (w0 w : World) (p g : Nat) (xs : List Int) (h : Src w0 w p xs) (hby : Bys xs) (hg : w.heap[g]? = some (.cells #[.int .i64 (0), .string nil8, .int .i64 (0), .int .i64 (0), .int .i64 (0), .string nil8, .string nil8] 25 (0, 0))) (hgp : g ≠ p) (hg0 : w0.heap.size ≤ g) {k : Int} {x1 : List Int} (n0 : numP 1 xs = some (k, x1)) (kk : k = 3) {o : Int} {x2 : List Int} {i : Int} {x3 : List Int} {q : Int} {x4 : List Int} {nm : ByteArray} {x5 : List Int} {os : ByteArray} {x6 : List Int} (n1 : numP 1 x1 = some (o, x2)) (n2 : numP 4 x2 = some (i, x3)) (n3 : numP 4 x3 = some (q, x4)) (n4 : textP x4 = some (nm, x5)) (n5 : textP x5 = some (os, x6)) :
    Calls Try.prog 21 #[.pointer (some ⟨p, 0, none⟩), .pointer (some ⟨g, 0, none⟩)] w (Res w0 w p g (some (⟨k, nil8, o, i, q, nm, os⟩, x6))) := by
  have C0 := int_get w0 w p g 0 25 _ 0 k xs x1 1 n0 h hby hg rfl hgp hg0 (by decide)
  have B1 := Aside0.mk (numP_bys hby n0)
  have b2 : (k == 2) = false := by simp [kk]
  have b3 : (k == 3) = true := by simpa using kk
  have b6 : (k == 6) = false := by simp [kk]
  have KK := Aside0.mk kk
  clear h hby hg kk n0
  go_enter Try.func21, Try.ntmps21
  go_wp2_with fail
  refine C0.mono ?_
  rintro e w1 ⟨rfl, hq, hs, hch⟩
  replace hq : w1.heap[g]? = some (.cells #[.int .i64 (k), .string nil8, .int .i64 (0), .int .i64 (0), .int .i64 (0), .string nil8, .string nil8] 25 (0, 0)) := hq
  obtain ⟨c0, c1, c2, c3, c4, c5, c6, c7⟩ := blk7 hq
  have HQ1 := Aside0.mk hq
  have HS1 := Aside0.mk hs
  have HC1 := Aside0.mk hch
  clear hq hs hch C0
  have C1 := int_get w0 w1 p g 2 25 _ 0 o x1 x2 1 n1 HS1.out B1.out HQ1.out rfl hgp hg0 (by decide)
  have B2 := Aside0.mk (numP_bys B1.out n1)
  clear n1
  go_wp2_with fail
  refine C1.mono ?_
  rintro e w2 ⟨rfl, hq, hs, hch⟩
  replace hq : w2.heap[g]? = some (.cells #[.int .i64 (k), .string nil8, .int .i64 (o), .int .i64 (0), .int .i64 (0), .string nil8, .string nil8] 25 (0, 0)) := hq
  clear c0 c1 c2 c3 c4 c5 c6 c7
  obtain ⟨c0, c1, c2, c3, c4, c5, c6, c7⟩ := blk7 hq
  have HQ2 := Aside0.mk hq
  have HS2 := Aside0.mk hs
  have HC2 := Aside0.mk (Ch.two HC1.out hch)
  clear hq hs hch C1
  have C2 := int_get w0 w2 p g 3 25 _ 0 i x2 x3 4 n2 HS2.out B2.out HQ2.out rfl hgp hg0 (by decide)
  have B3 := Aside0.mk (numP_bys B2.out n2)
  clear n2
  go_wp2_with fail
  refine C2.mono ?_
  rintro e w3 ⟨rfl, hq, hs, hch⟩
  replace hq : w3.heap[g]? = some (.cells #[.int .i64 (k), .string nil8, .int .i64 (o), .int .i64 (i), .int .i64 (0), .string nil8, .string nil8] 25 (0, 0)) := hq
  clear c0 c1 c2 c3 c4 c5 c6 c7
  obtain ⟨c0, c1, c2, c3, c4, c5, c6, c7⟩ := blk7 hq
  have HQ3 := Aside0.mk hq
  have HS3 := Aside0.mk hs
  have HC3 := Aside0.mk (Ch.two HC2.out hch)
  clear hq hs hch C2
  have C3 := int_get w0 w3 p g 4 25 _ 0 q x3 x4 4 n3 HS3.out B3.out HQ3.out rfl hgp hg0 (by decide)
  have B4 := Aside0.mk (numP_bys B3.out n3)
  clear n3
  go_wp2_with fail
  refine C3.mono ?_
  rintro e w4 ⟨rfl, hq, hs, hch⟩
  replace hq : w4.heap[g]? = some (.cells #[.int .i64 (k), .string nil8, .int .i64 (o), .int .i64 (i), .int .i64 (q), .string nil8, .string nil8] 25 (0, 0)) := hq
  clear c0 c1 c2 c3 c4 c5 c6 c7
  obtain ⟨c0, c1, c2, c3, c4, c5, c6, c7⟩ := blk7 hq
  have HQ4 := Aside0.mk hq
  have HS4 := Aside0.mk hs
  have HC4 := Aside0.mk (Ch.two HC3.out hch)
  clear hq hs hch C3
  have C4 := str_get w0 w4 p g 5 25 _ nil8 nm x4 x5 n4 HS4.out B4.out HQ4.out rfl hgp hg0
  have B5 := Aside0.mk (textP_bys B4.out n4)
  clear n4
  go_wp2_with fail
  refine C4.mono ?_
  rintro e w5 ⟨rfl, hq, hs, hch⟩
  replace hq : w5.heap[g]? = some (.cells #[.int .i64 (k), .string nil8, .int .i64 (o), .int .i64 (i), .int .i64 (q), .string nm, .string nil8] 25 (0, 0)) := hq
  clear c0 c1 c2 c3 c4 c5 c6 c7
  obtain ⟨c0, c1, c2, c3, c4, c5, c6, c7⟩ := blk7 hq
  have HQ5 := Aside0.mk hq
  have HS5 := Aside0.mk hs
  have HC5 := Aside0.mk (Ch.two HC4.out hch)
  clear hq hs hch C4
  have C5 := str_get w0 w5 p g 6 25 _ nil8 os x5 x6 n5 HS5.out B5.out HQ5.out rfl hgp hg0
  have B6 := Aside0.mk (textP_bys B5.out n5)
  clear n5
  go_wp2_with fail
  refine C5.mono ?_
  rintro e w6 ⟨rfl, hq, hs, hch⟩
  replace hq : w6.heap[g]? = some (.cells #[.int .i64 (k), .string nil8, .int .i64 (o), .int .i64 (i), .int .i64 (q), .string nm, .string os] 25 (0, 0)) := hq
  clear c0 c1 c2 c3 c4 c5 c6 c7
  obtain ⟨c0, c1, c2, c3, c4, c5, c6, c7⟩ := blk7 hq
  have HQ6 := Aside0.mk hq
  have HS6 := Aside0.mk hs
  have HC6 := Aside0.mk (Ch.two HC5.out hch)
  clear hq hs hch C5
  go_wp2_with fail
  refine bodyPost_end (results_none rfl _ _ _) rfl ?_
  exact ⟨rfl, HQ6.out, HS6.out, HC6.out⟩
set_option maxRecDepth 100000 in
set_option maxHeartbeats 1000000 in
theorem rget_3l0 (w0 w : World) (p g : Nat) (xs : List Int) (h : Src w0 w p xs) (hby : Bys xs) (hg : w.heap[g]? = some (.cells #[.int .i64 (0), .string nil8, .int .i64 (0), .int .i64 (0), .int .i64 (0), .string nil8, .string nil8] 25 (0, 0))) (hgp : g ≠ p) (hg0 : w0.heap.size ≤ g) {k : Int} {x1 : List Int} (n0 : numP 1 xs = some (k, x1)) (kk : k = 3)  (n1 : numP 1 x1 = none) :
    Calls Try.prog 21 #[.pointer (some ⟨p, 0, none⟩), .pointer (some ⟨g, 0, none⟩)] w (Res w0 w p g (none)) := by
  have C0 := int_get w0 w p g 0 25 _ 0 k xs x1 1 n0 h hby hg rfl hgp hg0 (by decide)
  have B1 := Aside0.mk (numP_bys hby n0)
  have b2 : (k == 2) = false := by simp [kk]
  have b3 : (k == 3) = true := by simpa using kk
  have b6 : (k == 6) = false := by simp [kk]
  have KK := Aside0.mk kk
  clear h hby hg kk n0
  go_enter Try.func21, Try.ntmps21
  go_wp2_with fail
  refine C0.mono ?_
  rintro e w1 ⟨rfl, hq, hs, hch⟩
  replace hq : w1.heap[g]? = some (.cells #[.int .i64 (k), .string nil8, .int .i64 (0), .int .i64 (0), .int .i64 (0), .string nil8, .string nil8] 25 (0, 0)) := hq
  obtain ⟨c0, c1, c2, c3, c4, c5, c6, c7⟩ := blk7 hq
  have HQ1 := Aside0.mk hq
  have HS1 := Aside0.mk hs
  have HC1 := Aside0.mk hch
  clear hq hs hch C0
  have C1 := int_lost w0 w1 p g 2 25 _ 0 x1 1 n1 HS1.out HQ1.out rfl hgp hg0
  clear n1
  go_wp2_with fail
  refine C1.mono ?_
  rintro e w2 ⟨rfl, hch⟩
  exact ⟨rfl, ⟨rfl, Ch.two HC1.out hch⟩⟩
set_option maxRecDepth 100000 in
set_option maxHeartbeats 1000000 in
theorem rget_3l1 (w0 w : World) (p g : Nat) (xs : List Int) (h : Src w0 w p xs) (hby : Bys xs) (hg : w.heap[g]? = some (.cells #[.int .i64 (0), .string nil8, .int .i64 (0), .int .i64 (0), .int .i64 (0), .string nil8, .string nil8] 25 (0, 0))) (hgp : g ≠ p) (hg0 : w0.heap.size ≤ g) {k : Int} {x1 : List Int} (n0 : numP 1 xs = some (k, x1)) (kk : k = 3) {o : Int} {x2 : List Int} (n1 : numP 1 x1 = some (o, x2)) (n2 : numP 4 x2 = none) :
    Calls Try.prog 21 #[.pointer (some ⟨p, 0, none⟩), .pointer (some ⟨g, 0, none⟩)] w (Res w0 w p g (none)) := by
  have C0 := int_get w0 w p g 0 25 _ 0 k xs x1 1 n0 h hby hg rfl hgp hg0 (by decide)
  have B1 := Aside0.mk (numP_bys hby n0)
  have b2 : (k == 2) = false := by simp [kk]
  have b3 : (k == 3) = true := by simpa using kk
  have b6 : (k == 6) = false := by simp [kk]
  have KK := Aside0.mk kk
  clear h hby hg kk n0
  go_enter Try.func21, Try.ntmps21
  go_wp2_with fail
  refine C0.mono ?_
  rintro e w1 ⟨rfl, hq, hs, hch⟩
  replace hq : w1.heap[g]? = some (.cells #[.int .i64 (k), .string nil8, .int .i64 (0), .int .i64 (0), .int .i64 (0), .string nil8, .string nil8] 25 (0, 0)) := hq
  obtain ⟨c0, c1, c2, c3, c4, c5, c6, c7⟩ := blk7 hq
  have HQ1 := Aside0.mk hq
  have HS1 := Aside0.mk hs
  have HC1 := Aside0.mk hch
  clear hq hs hch C0
  have C1 := int_get w0 w1 p g 2 25 _ 0 o x1 x2 1 n1 HS1.out B1.out HQ1.out rfl hgp hg0 (by decide)
  have B2 := Aside0.mk (numP_bys B1.out n1)
  clear n1
  go_wp2_with fail
  refine C1.mono ?_
  rintro e w2 ⟨rfl, hq, hs, hch⟩
  replace hq : w2.heap[g]? = some (.cells #[.int .i64 (k), .string nil8, .int .i64 (o), .int .i64 (0), .int .i64 (0), .string nil8, .string nil8] 25 (0, 0)) := hq
  clear c0 c1 c2 c3 c4 c5 c6 c7
  obtain ⟨c0, c1, c2, c3, c4, c5, c6, c7⟩ := blk7 hq
  have HQ2 := Aside0.mk hq
  have HS2 := Aside0.mk hs
  have HC2 := Aside0.mk (Ch.two HC1.out hch)
  clear hq hs hch C1
  have C2 := int_lost w0 w2 p g 3 25 _ 0 x2 4 n2 HS2.out HQ2.out rfl hgp hg0
  clear n2
  go_wp2_with fail
  refine C2.mono ?_
  rintro e w3 ⟨rfl, hch⟩
  exact ⟨rfl, ⟨rfl, Ch.two HC2.out hch⟩⟩
set_option maxRecDepth 100000 in
set_option maxHeartbeats 1000000 in
theorem rget_3l2 (w0 w : World) (p g : Nat) (xs : List Int) (h : Src w0 w p xs) (hby : Bys xs) (hg : w.heap[g]? = some (.cells #[.int .i64 (0), .string nil8, .int .i64 (0), .int .i64 (0), .int .i64 (0), .string nil8, .string nil8] 25 (0, 0))) (hgp : g ≠ p) (hg0 : w0.heap.size ≤ g) {k : Int} {x1 : List Int} (n0 : numP 1 xs = some (k, x1)) (kk : k = 3) {o : Int} {x2 : List Int} {i : Int} {x3 : List Int} (n1 : numP 1 x1 = some (o, x2)) (n2 : numP 4 x2 = some (i, x3)) (n3 : numP 4 x3 = none) :
    Calls Try.prog 21 #[.pointer (some ⟨p, 0, none⟩), .pointer (some ⟨g, 0, none⟩)] w (Res w0 w p g (none)) := by
  have C0 := int_get w0 w p g 0 25 _ 0 k xs x1 1 n0 h hby hg rfl hgp hg0 (by decide)
  have B1 := Aside0.mk (numP_bys hby n0)
  have b2 : (k == 2) = false := by simp [kk]
  have b3 : (k == 3) = true := by simpa using kk
  have b6 : (k == 6) = false := by simp [kk]
  have KK := Aside0.mk kk
  clear h hby hg kk n0
  go_enter Try.func21, Try.ntmps21
  go_wp2_with fail
  refine C0.mono ?_
  rintro e w1 ⟨rfl, hq, hs, hch⟩
  replace hq : w1.heap[g]? = some (.cells #[.int .i64 (k), .string nil8, .int .i64 (0), .int .i64 (0), .int .i64 (0), .string nil8, .string nil8] 25 (0, 0)) := hq
  obtain ⟨c0, c1, c2, c3, c4, c5, c6, c7⟩ := blk7 hq
  have HQ1 := Aside0.mk hq
  have HS1 := Aside0.mk hs
  have HC1 := Aside0.mk hch
  clear hq hs hch C0
  have C1 := int_get w0 w1 p g 2 25 _ 0 o x1 x2 1 n1 HS1.out B1.out HQ1.out rfl hgp hg0 (by decide)
  have B2 := Aside0.mk (numP_bys B1.out n1)
  clear n1
  go_wp2_with fail
  refine C1.mono ?_
  rintro e w2 ⟨rfl, hq, hs, hch⟩
  replace hq : w2.heap[g]? = some (.cells #[.int .i64 (k), .string nil8, .int .i64 (o), .int .i64 (0), .int .i64 (0), .string nil8, .string nil8] 25 (0, 0)) := hq
  clear c0 c1 c2 c3 c4 c5 c6 c7
  obtain ⟨c0, c1, c2, c3, c4, c5, c6, c7⟩ := blk7 hq
  have HQ2 := Aside0.mk hq
  have HS2 := Aside0.mk hs
  have HC2 := Aside0.mk (Ch.two HC1.out hch)
  clear hq hs hch C1
  have C2 := int_get w0 w2 p g 3 25 _ 0 i x2 x3 4 n2 HS2.out B2.out HQ2.out rfl hgp hg0 (by decide)
  have B3 := Aside0.mk (numP_bys B2.out n2)
  clear n2
  go_wp2_with fail
  refine C2.mono ?_
  rintro e w3 ⟨rfl, hq, hs, hch⟩
  replace hq : w3.heap[g]? = some (.cells #[.int .i64 (k), .string nil8, .int .i64 (o), .int .i64 (i), .int .i64 (0), .string nil8, .string nil8] 25 (0, 0)) := hq
  clear c0 c1 c2 c3 c4 c5 c6 c7
  obtain ⟨c0, c1, c2, c3, c4, c5, c6, c7⟩ := blk7 hq
  have HQ3 := Aside0.mk hq
  have HS3 := Aside0.mk hs
  have HC3 := Aside0.mk (Ch.two HC2.out hch)
  clear hq hs hch C2
  have C3 := int_lost w0 w3 p g 4 25 _ 0 x3 4 n3 HS3.out HQ3.out rfl hgp hg0
  clear n3
  go_wp2_with fail
  refine C3.mono ?_
  rintro e w4 ⟨rfl, hch⟩
  exact ⟨rfl, ⟨rfl, Ch.two HC3.out hch⟩⟩
set_option maxRecDepth 100000 in
set_option maxHeartbeats 1000000 in
theorem rget_3l3 (w0 w : World) (p g : Nat) (xs : List Int) (h : Src w0 w p xs) (hby : Bys xs) (hg : w.heap[g]? = some (.cells #[.int .i64 (0), .string nil8, .int .i64 (0), .int .i64 (0), .int .i64 (0), .string nil8, .string nil8] 25 (0, 0))) (hgp : g ≠ p) (hg0 : w0.heap.size ≤ g) {k : Int} {x1 : List Int} (n0 : numP 1 xs = some (k, x1)) (kk : k = 3) {o : Int} {x2 : List Int} {i : Int} {x3 : List Int} {q : Int} {x4 : List Int} (n1 : numP 1 x1 = some (o, x2)) (n2 : numP 4 x2 = some (i, x3)) (n3 : numP 4 x3 = some (q, x4)) (n4 : textP x4 = none) :
    Calls Try.prog 21 #[.pointer (some ⟨p, 0, none⟩), .pointer (some ⟨g, 0, none⟩)] w (Res w0 w p g (none)) := by
  have C0 := int_get w0 w p g 0 25 _ 0 k xs x1 1 n0 h hby hg rfl hgp hg0 (by decide)
  have B1 := Aside0.mk (numP_bys hby n0)
  have b2 : (k == 2) = false := by simp [kk]
  have b3 : (k == 3) = true := by simpa using kk
  have b6 : (k == 6) = false := by simp [kk]
  have KK := Aside0.mk kk
  clear h hby hg kk n0
  go_enter Try.func21, Try.ntmps21
  go_wp2_with fail
  refine C0.mono ?_
  rintro e w1 ⟨rfl, hq, hs, hch⟩
  replace hq : w1.heap[g]? = some (.cells #[.int .i64 (k), .string nil8, .int .i64 (0), .int .i64 (0), .int .i64 (0), .string nil8, .string nil8] 25 (0, 0)) := hq
  obtain ⟨c0, c1, c2, c3, c4, c5, c6, c7⟩ := blk7 hq
  have HQ1 := Aside0.mk hq
  have HS1 := Aside0.mk hs
  have HC1 := Aside0.mk hch
  clear hq hs hch C0
  have C1 := int_get w0 w1 p g 2 25 _ 0 o x1 x2 1 n1 HS1.out B1.out HQ1.out rfl hgp hg0 (by decide)
  have B2 := Aside0.mk (numP_bys B1.out n1)
  clear n1
  go_wp2_with fail
  refine C1.mono ?_
  rintro e w2 ⟨rfl, hq, hs, hch⟩
  replace hq : w2.heap[g]? = some (.cells #[.int .i64 (k), .string nil8, .int .i64 (o), .int .i64 (0), .int .i64 (0), .string nil8, .string nil8] 25 (0, 0)) := hq
  clear c0 c1 c2 c3 c4 c5 c6 c7
  obtain ⟨c0, c1, c2, c3, c4, c5, c6, c7⟩ := blk7 hq
  have HQ2 := Aside0.mk hq
  have HS2 := Aside0.mk hs
  have HC2 := Aside0.mk (Ch.two HC1.out hch)
  clear hq hs hch C1
  have C2 := int_get w0 w2 p g 3 25 _ 0 i x2 x3 4 n2 HS2.out B2.out HQ2.out rfl hgp hg0 (by decide)
  have B3 := Aside0.mk (numP_bys B2.out n2)
  clear n2
  go_wp2_with fail
  refine C2.mono ?_
  rintro e w3 ⟨rfl, hq, hs, hch⟩
  replace hq : w3.heap[g]? = some (.cells #[.int .i64 (k), .string nil8, .int .i64 (o), .int .i64 (i), .int .i64 (0), .string nil8, .string nil8] 25 (0, 0)) := hq
  clear c0 c1 c2 c3 c4 c5 c6 c7
  obtain ⟨c0, c1, c2, c3, c4, c5, c6, c7⟩ := blk7 hq
  have HQ3 := Aside0.mk hq
  have HS3 := Aside0.mk hs
  have HC3 := Aside0.mk (Ch.two HC2.out hch)
  clear hq hs hch C2
  have C3 := int_get w0 w3 p g 4 25 _ 0 q x3 x4 4 n3 HS3.out B3.out HQ3.out rfl hgp hg0 (by decide)
  have B4 := Aside0.mk (numP_bys B3.out n3)
  clear n3
  go_wp2_with fail
  refine C3.mono ?_
  rintro e w4 ⟨rfl, hq, hs, hch⟩
  replace hq : w4.heap[g]? = some (.cells #[.int .i64 (k), .string nil8, .int .i64 (o), .int .i64 (i), .int .i64 (q), .string nil8, .string nil8] 25 (0, 0)) := hq
  clear c0 c1 c2 c3 c4 c5 c6 c7
  obtain ⟨c0, c1, c2, c3, c4, c5, c6, c7⟩ := blk7 hq
  have HQ4 := Aside0.mk hq
  have HS4 := Aside0.mk hs
  have HC4 := Aside0.mk (Ch.two HC3.out hch)
  clear hq hs hch C3
  have C4 := str_lost w0 w4 p g 5 25 _ nil8 x4 n4 HS4.out B4.out HQ4.out rfl hgp hg0
  clear n4
  go_wp2_with fail
  refine C4.mono ?_
  rintro e w5 ⟨rfl, hch⟩
  exact ⟨rfl, ⟨rfl, Ch.two HC4.out hch⟩⟩
set_option maxRecDepth 100000 in
set_option maxHeartbeats 1000000 in
theorem rget_3l4 (w0 w : World) (p g : Nat) (xs : List Int) (h : Src w0 w p xs) (hby : Bys xs) (hg : w.heap[g]? = some (.cells #[.int .i64 (0), .string nil8, .int .i64 (0), .int .i64 (0), .int .i64 (0), .string nil8, .string nil8] 25 (0, 0))) (hgp : g ≠ p) (hg0 : w0.heap.size ≤ g) {k : Int} {x1 : List Int} (n0 : numP 1 xs = some (k, x1)) (kk : k = 3) {o : Int} {x2 : List Int} {i : Int} {x3 : List Int} {q : Int} {x4 : List Int} {nm : ByteArray} {x5 : List Int} (n1 : numP 1 x1 = some (o, x2)) (n2 : numP 4 x2 = some (i, x3)) (n3 : numP 4 x3 = some (q, x4)) (n4 : textP x4 = some (nm, x5)) (n5 : textP x5 = none) :
    Calls Try.prog 21 #[.pointer (some ⟨p, 0, none⟩), .pointer (some ⟨g, 0, none⟩)] w (Res w0 w p g (none)) := by
  have C0 := int_get w0 w p g 0 25 _ 0 k xs x1 1 n0 h hby hg rfl hgp hg0 (by decide)
  have B1 := Aside0.mk (numP_bys hby n0)
  have b2 : (k == 2) = false := by simp [kk]
  have b3 : (k == 3) = true := by simpa using kk
  have b6 : (k == 6) = false := by simp [kk]
  have KK := Aside0.mk kk
  clear h hby hg kk n0
  go_enter Try.func21, Try.ntmps21
  go_wp2_with fail
  refine C0.mono ?_
  rintro e w1 ⟨rfl, hq, hs, hch⟩
  replace hq : w1.heap[g]? = some (.cells #[.int .i64 (k), .string nil8, .int .i64 (0), .int .i64 (0), .int .i64 (0), .string nil8, .string nil8] 25 (0, 0)) := hq
  obtain ⟨c0, c1, c2, c3, c4, c5, c6, c7⟩ := blk7 hq
  have HQ1 := Aside0.mk hq
  have HS1 := Aside0.mk hs
  have HC1 := Aside0.mk hch
  clear hq hs hch C0
  have C1 := int_get w0 w1 p g 2 25 _ 0 o x1 x2 1 n1 HS1.out B1.out HQ1.out rfl hgp hg0 (by decide)
  have B2 := Aside0.mk (numP_bys B1.out n1)
  clear n1
  go_wp2_with fail
  refine C1.mono ?_
  rintro e w2 ⟨rfl, hq, hs, hch⟩
  replace hq : w2.heap[g]? = some (.cells #[.int .i64 (k), .string nil8, .int .i64 (o), .int .i64 (0), .int .i64 (0), .string nil8, .string nil8] 25 (0, 0)) := hq
  clear c0 c1 c2 c3 c4 c5 c6 c7
  obtain ⟨c0, c1, c2, c3, c4, c5, c6, c7⟩ := blk7 hq
  have HQ2 := Aside0.mk hq
  have HS2 := Aside0.mk hs
  have HC2 := Aside0.mk (Ch.two HC1.out hch)
  clear hq hs hch C1
  have C2 := int_get w0 w2 p g 3 25 _ 0 i x2 x3 4 n2 HS2.out B2.out HQ2.out rfl hgp hg0 (by decide)
  have B3 := Aside0.mk (numP_bys B2.out n2)
  clear n2
  go_wp2_with fail
  refine C2.mono ?_
  rintro e w3 ⟨rfl, hq, hs, hch⟩
  replace hq : w3.heap[g]? = some (.cells #[.int .i64 (k), .string nil8, .int .i64 (o), .int .i64 (i), .int .i64 (0), .string nil8, .string nil8] 25 (0, 0)) := hq
  clear c0 c1 c2 c3 c4 c5 c6 c7
  obtain ⟨c0, c1, c2, c3, c4, c5, c6, c7⟩ := blk7 hq
  have HQ3 := Aside0.mk hq
  have HS3 := Aside0.mk hs
  have HC3 := Aside0.mk (Ch.two HC2.out hch)
  clear hq hs hch C2
  have C3 := int_get w0 w3 p g 4 25 _ 0 q x3 x4 4 n3 HS3.out B3.out HQ3.out rfl hgp hg0 (by decide)
  have B4 := Aside0.mk (numP_bys B3.out n3)
  clear n3
  go_wp2_with fail
  refine C3.mono ?_
  rintro e w4 ⟨rfl, hq, hs, hch⟩
  replace hq : w4.heap[g]? = some (.cells #[.int .i64 (k), .string nil8, .int .i64 (o), .int .i64 (i), .int .i64 (q), .string nil8, .string nil8] 25 (0, 0)) := hq
  clear c0 c1 c2 c3 c4 c5 c6 c7
  obtain ⟨c0, c1, c2, c3, c4, c5, c6, c7⟩ := blk7 hq
  have HQ4 := Aside0.mk hq
  have HS4 := Aside0.mk hs
  have HC4 := Aside0.mk (Ch.two HC3.out hch)
  clear hq hs hch C3
  have C4 := str_get w0 w4 p g 5 25 _ nil8 nm x4 x5 n4 HS4.out B4.out HQ4.out rfl hgp hg0
  have B5 := Aside0.mk (textP_bys B4.out n4)
  clear n4
  go_wp2_with fail
  refine C4.mono ?_
  rintro e w5 ⟨rfl, hq, hs, hch⟩
  replace hq : w5.heap[g]? = some (.cells #[.int .i64 (k), .string nil8, .int .i64 (o), .int .i64 (i), .int .i64 (q), .string nm, .string nil8] 25 (0, 0)) := hq
  clear c0 c1 c2 c3 c4 c5 c6 c7
  obtain ⟨c0, c1, c2, c3, c4, c5, c6, c7⟩ := blk7 hq
  have HQ5 := Aside0.mk hq
  have HS5 := Aside0.mk hs
  have HC5 := Aside0.mk (Ch.two HC4.out hch)
  clear hq hs hch C4
  have C5 := str_lost w0 w5 p g 6 25 _ nil8 x5 n5 HS5.out B5.out HQ5.out rfl hgp hg0
  clear n5
  go_wp2_with fail
  refine C5.mono ?_
  rintro e w6 ⟨rfl, hch⟩
  exact ⟨rfl, ⟨rfl, Ch.two HC5.out hch⟩⟩
set_option maxRecDepth 100000 in
set_option maxHeartbeats 1000000 in
theorem rget_l (w0 w : World) (p g : Nat) (xs : List Int) (h : Src w0 w p xs) (hby : Bys xs) (hg : w.heap[g]? = some (.cells #[.int .i64 (0), .string nil8, .int .i64 (0), .int .i64 (0), .int .i64 (0), .string nil8, .string nil8] 25 (0, 0))) (hgp : g ≠ p) (hg0 : w0.heap.size ≤ g) (n0 : numP 1 xs = none) :
    Calls Try.prog 21 #[.pointer (some ⟨p, 0, none⟩), .pointer (some ⟨g, 0, none⟩)] w (Res w0 w p g none) := by
  have C0 := int_lost w0 w p g 0 25 _ 0 xs 1 n0 h hg rfl hgp hg0
  clear h hby hg n0
  go_enter Try.func21, Try.ntmps21
  go_wp2_with fail
  refine C0.mono ?_
  rintro e w1 ⟨rfl, hch⟩
  exact ⟨rfl, ⟨rfl, hch⟩⟩
theorem request_get (w0 w : World) (p g : Nat) (xs : List Int) (h : Src w0 w p xs) (hby : Bys xs) (hg : w.heap[g]? = some (.cells #[.int .i64 (0), .string nil8, .int .i64 (0), .int .i64 (0), .int .i64 (0), .string nil8, .string nil8] 25 (0, 0))) (hgp : g ≠ p) (hg0 : w0.heap.size ≤ g) :
    Calls Try.prog 21 #[.pointer (some ⟨p, 0, none⟩), .pointer (some ⟨g, 0, none⟩)] w (Res w0 w p g (parseReq xs)) := by
  rw [parseReq]
  split
  · next n0 => exact rget_l w0 w p g xs h hby hg hgp hg0 n0
  next k x1 n0 =>
  split
  · next k2 =>
    split
    · next n1 => exact rget_2l w0 w p g xs h hby hg hgp hg0 n0 k2 n1
    · next s x2 n1 => exact rget_2 w0 w p g xs h hby hg hgp hg0 n0 k2 n1
  next k2 =>
  split
  · next k3 =>
    split
    · next n1 => exact rget_3l0 w0 w p g xs h hby hg hgp hg0 n0 k3 n1
    next o x2 n1 =>
    split
    · next n2 => exact rget_3l1 w0 w p g xs h hby hg hgp hg0 n0 k3 n1 n2
    next i x3 n2 =>
    split
    · next n3 => exact rget_3l2 w0 w p g xs h hby hg hgp hg0 n0 k3 n1 n2 n3
    next q x4 n3 =>
    split
    · next n4 => exact rget_3l3 w0 w p g xs h hby hg hgp hg0 n0 k3 n1 n2 n3 n4
    next nm x5 n4 =>
    split
    · next n5 => exact rget_3l4 w0 w p g xs h hby hg hgp hg0 n0 k3 n1 n2 n3 n4 n5
    next os x6 n5 => exact rget_3 w0 w p g xs h hby hg hgp hg0 n0 k3 n1 n2 n3 n4 n5
  next k3 =>
  split
  · next k6 =>
    split
    · next n1 => exact rget_6l w0 w p g xs h hby hg hgp hg0 n0 k6 n1
    · next i x2 n1 => exact rget_6 w0 w p g xs h hby hg hgp hg0 n0 k6 n1
  next k6 => exact rget_0 w0 w p g xs h hby hg hgp hg0 n0 ⟨k2, k3, k6⟩
end Go.Proofs.Ythkdihpbdaehbaa.Pr
