import Derived.Test.YthkdihpbdaehbaaPrL
namespace Go.Proofs.Ythkdihpbdaehbaa.Pr
set_option linter.unusedVariables false
set_option linter.unusedSimpArgs false
open Go.RowKit Go.Proofs.YthkdihpbdaehbaaW.PrintWords Go.Proofs.YthkdihpbdaehbaaW.PrintLast Go.Proofs.YthkdihpbdaehbaaW.PrintMore Go.Proofs.Ythkdihpbdaehbaa.Bs
def LostCh (w : World) (p g : Nat) (e : Ending) (w' : World) : Prop := Gone e ∧ Ch (fun k => k = p ∨ k = g) w w'
theorem Ch.new {w w2 : World} {p g q : Nat} (o : Obj) (hq : q = w.heap.size) (h : Ch (fun k => k = p ∨ k = q) (w.alloc o) w2) : Ch (fun k => k = p ∨ k = g) w w2 := by
  subst hq
  exact ((Ch.refl _ w).alloc o).trans (h.mono (fun k hk _ => hk.elim (fun e => .inl (.inl e)) (fun e => .inr (by omega))))
theorem Src.lt {w0 w : World} {p : Nat} {xs : List Int} (h : Src w0 w p xs) : p < w.heap.size := by
  obtain ⟨⟨A, c, hc, hl, hC⟩, ho, hpp⟩ := h
  exact blk_lt hc
theorem Src.alloc {w0 w : World} {p : Nat} {xs : List Int} (h : Src w0 w p xs) (o : Obj) : Src w0 (w.alloc o) p xs :=
  h.step (S := fun _ => False) ((Ch.refl _ w).alloc o) (fun h => h) (fun _ h => h.elim)
set_option maxRecDepth 100000 in
set_option maxHeartbeats 400000 in
theorem integer_lost (w0 w : World) (p g i t : Nat) (cs : Array Value) (n0 : Int) (xs : List Int) (size : Nat) (h : Src w0 w p xs) (hg : w.heap[g]? = some (.cells cs t (0, 0))) (hi : cs[i]? = some (.int .i64 n0)) (hgp : g ≠ p) (hg0 : w0.heap.size ≤ g) (hs : xs.length < size) :
    Calls Try.prog 37 #[.pointer (some ⟨p, 0, none⟩), .pointer (some ⟨g, i, none⟩), .int .i64 size] w (LostCh w p g) := by
  have hgc := (blk_cell hg i).trans hi
  have hgf := blk_frozen hg i
  have hlt := h.lt
  have hz := h.old.size
  have C1 := number_lost w0 (w.alloc (.cells #[.int .u64 (IntKind.u64.wrap n0)] 37)) p w.heap.size 0 37 _ (IntKind.u64.wrap n0) xs size (h.alloc _) (heap_alloc_new w _) rfl (by omega) hz hs
  clear h hg hlt hz
  go_enter Try.func37, Try.ntmps37
  go_wp2_with fail
  refine C1.mono ?_
  rintro e w2 ⟨rfl, hch⟩
  exact ⟨rfl, ⟨rfl, Ch.new _ rfl hch⟩⟩
set_option maxRecDepth 100000 in
set_option maxHeartbeats 400000 in
theorem integer_get (w0 w : World) (p g i t : Nat) (cs : Array Value) (n0 : Int) (xs : List Int) (size : Nat) (h : Src w0 w p xs) (hby : ∀ x ∈ xs, 0 ≤ x ∧ x ≤ 255) (hg : w.heap[g]? = some (.cells cs t (0, 0))) (hi : cs[i]? = some (.int .i64 n0)) (hgp : g ≠ p) (hg0 : w0.heap.size ≤ g) (hs : size ≤ xs.length) (hs7 : size ≤ 7) :
    Calls Try.prog 37 #[.pointer (some ⟨p, 0, none⟩), .pointer (some ⟨g, i, none⟩), .int .i64 size] w fun e w' => e = .returned (.tuple #[]) ∧ Read w0 w p g (cs.setIfInBounds i (.int .i64 (val (xs.take size)))) t xs size w' := by
  have hgc := (blk_cell hg i).trans hi
  have hgf := blk_frozen hg i
  have hlt := h.lt
  have hglt := blk_lt hg
  have hz := h.old.size
  have C1 := number_get w0 (w.alloc (.cells #[.int .u64 (IntKind.u64.wrap n0)] 37)) p w.heap.size 0 37 _ (IntKind.u64.wrap n0) xs size (h.alloc _) hby (heap_alloc_new w _) rfl (by omega) hz hs (by omega)
  obtain ⟨v0, v1⟩ := val_bound7 (xs.take size) (fun x hx => hby x (List.mem_of_mem_take hx)) (by rw [List.length_take]; omega)
  have hwr : IntKind.i64.wrap (val (xs.take size)) = val (xs.take size) := IntWalk.i64_in _ ⟨by omega, by omega⟩
  have HG := Aside0.mk hg
  clear h hg
  go_enter Try.func37, Try.ntmps37
  go_wp2_with fail
  refine C1.mono ?_
  rintro e w2 ⟨rfl, ⟨hq, hs2, hch⟩⟩
  have hch2 : Ch (fun k => k = p ∨ k = g) w w2 := Ch.new _ rfl hch
  have hc1 := (blk_cell hq 0).trans (show _ = some (.int .u64 (val (xs.take size))) from rfl)
  have hch3 : Ch (fun k => k = p) w w2 := ((Ch.refl _ w).alloc _).trans (hch.mono (fun k hk _ => hk.elim (fun e => .inl e) (fun e => .inr (by omega))))
  have hg2 := hch3.heap HG.out hgp
  have hgc2 := (blk_cell hg2 i).trans hi
  have hgf2 := blk_frozen hg2 i
  have HR := Aside0.mk (show Read w0 w p g (cs.setIfInBounds i (.int .i64 (val (xs.take size)))) t xs size (w2.setCell ⟨g, i, none⟩ (.int .i64 (val (xs.take size)))) from ⟨blk_upd i _ hg2 rfl, hs2.step ((Ch.refl (fun k => k = g) w2).setCell (p := ⟨g, i, none⟩) (.inl rfl) _) (fun e => hgp e.symm) (fun k hk => by rw [hk]; exact hg0), hch2.setCell (p := ⟨g, i, none⟩) (.inl (.inr rfl)) _⟩)
  clear hq hs2 hch hch2 hch3 hg2 C1
  generalize hv : val (xs.take size) = v at *
  have HV := Aside0.mk hv
  clear hv
  go_wp2_with fail
  refine bodyPost_end (results_none rfl _ _ _) rfl ?_
  exact ⟨rfl, by rw [HV.out]; exact HR.out⟩
set_option maxRecDepth 100000 in
set_option maxHeartbeats 400000 in
theorem text_lost (w0 w : World) (p g i t : Nat) (cs : Array Value) (y : ByteArray) (xs : List Int) (h : Src w0 w p xs) (hby : ∀ x ∈ xs, 0 ≤ x ∧ x ≤ 255) (hg : w.heap[g]? = some (.cells cs t (0, 0))) (hi : cs[i]? = some (.string y)) (hgp : g ≠ p) (hg0 : w0.heap.size ≤ g) (hs : xs.length < 2 ∨ xs.length < 2 + (val (xs.take 2)).toNat) :
    Calls Try.prog 38 #[.pointer (some ⟨p, 0, none⟩), .pointer (some ⟨g, i, none⟩)] w (LostCh w p g) := by
  have hgc := (blk_cell hg i).trans hi
  have hgf := blk_frozen hg i
  have hlt := h.lt
  have hz := h.old.size
  by_cases h2 : xs.length < 2
  · have C1 := number_lost w0 (w.alloc (.cells #[.int .u64 (IntKind.u64.wrap (y.size : Int))] 37)) p w.heap.size 0 37 _ (IntKind.u64.wrap (y.size : Int)) xs 2 (h.alloc _) (heap_alloc_new w _) rfl (by omega) hz h2
    clear h hg hlt hz
    go_enter Try.func38, Try.ntmps38
    go_wp2_with fail
    refine C1.mono ?_
    rintro e w2 ⟨rfl, hch⟩
    exact ⟨rfl, ⟨rfl, Ch.new _ rfl hch⟩⟩
  · have hs' : (xs.drop 2).length < (val (xs.take 2)).toNat := by rw [List.length_drop]; omega
    obtain ⟨v0, v1⟩ := val_bound7 (xs.take 2) (fun x hx => hby x (List.mem_of_mem_take hx)) (by rw [List.length_take]; omega)
    have hwr : IntKind.i64.wrap (val (xs.take 2)) = val (xs.take 2) := IntWalk.i64_in _ ⟨by omega, by omega⟩
    have C1 := number_get w0 (w.alloc (.cells #[.int .u64 (IntKind.u64.wrap (y.size : Int))] 37)) p w.heap.size 0 37 _ (IntKind.u64.wrap (y.size : Int)) xs 2 (h.alloc _) hby (heap_alloc_new w _) rfl (by omega) hz (by omega) (by decide)
    clear h hg hs h2
    go_enter Try.func38, Try.ntmps38
    go_wp2_with fail
    refine C1.mono ?_
    rintro e w2 ⟨rfl, ⟨hq, hs2, hch⟩⟩
    have hch2 : Ch (fun k => k = p ∨ k = g) w w2 := Ch.new _ rfl hch
    have hc1 := (blk_cell hq 0).trans (show _ = some (.int .u64 (val (xs.take 2))) from rfl)
    have hc2 := blk_frozen hq 0
    obtain ⟨s1, s2⟩ := hs2.cells
    have C2 := take_short w0 w2 p (val (xs.take 2)).toNat (xs.drop 2) hs2 hs'
    have HCH := Aside0.mk hch2
    rw [show (((val (xs.take 2)).toNat : Nat) : Int) = val (xs.take 2) from Int.toNat_of_nonneg v0] at C2
    clear hq hs2 hch hch2 C1 hs'
    generalize val (xs.take 2) = v at *
    go_wp2_with fail
    refine C2.mono ?_
    rintro e w3 ⟨rfl, rfl⟩
    exact ⟨rfl, ⟨rfl, HCH.out⟩⟩
theorem Read.more {w0 w w1 w2 : World} {p g t : Nat} {cs : Array Value} {xs ys : List Int} {n m : Nat} (h : Ch (fun k => k = p ∨ k = g) w w1) (hs : Src w0 w2 p (ys.drop m)) (he : ys = xs.drop n) (hq : w2.heap[g]? = some (.cells cs t (0, 0))) (hch : Ch (fun k => k = p ∨ k = g) w1 w2) : Read w0 w p g cs t xs (n + m) w2 := by
  refine ⟨hq, ?_, h.trans (hch.mono (fun k hk _ => .inl hk))⟩
  rw [he, List.drop_drop] at hs
  exact hs
set_option maxRecDepth 100000 in
set_option maxHeartbeats 400000 in
theorem text_get (w0 w : World) (p g i t : Nat) (cs : Array Value) (y : ByteArray) (xs : List Int) (h : Src w0 w p xs) (hby : ∀ x ∈ xs, 0 ≤ x ∧ x ≤ 255) (hg : w.heap[g]? = some (.cells cs t (0, 0))) (hi : cs[i]? = some (.string y)) (hgp : g ≠ p) (hg0 : w0.heap.size ≤ g) (hs : 2 + (val (xs.take 2)).toNat ≤ xs.length) :
    Calls Try.prog 38 #[.pointer (some ⟨p, 0, none⟩), .pointer (some ⟨g, i, none⟩)] w fun e w' => e = .returned (.tuple #[]) ∧ Read w0 w p g (cs.setIfInBounds i (.string (strOfNums ((xs.drop 2).take (val (xs.take 2)).toNat)))) t xs (2 + (val (xs.take 2)).toNat) w' := by
  have hgc := (blk_cell hg i).trans hi
  have hgf := blk_frozen hg i
  have hlt := h.lt
  have hglt := blk_lt hg
  have hz := h.old.size
  have hs' : (val (xs.take 2)).toNat ≤ (xs.drop 2).length := by rw [List.length_drop]; omega
  obtain ⟨v0, v1⟩ := val_bound7 (xs.take 2) (fun x hx => hby x (List.mem_of_mem_take hx)) (by rw [List.length_take]; omega)
  have hwr : IntKind.i64.wrap (val (xs.take 2)) = val (xs.take 2) := IntWalk.i64_in _ ⟨by omega, by omega⟩
  have C1 := number_get w0 (w.alloc (.cells #[.int .u64 (IntKind.u64.wrap (y.size : Int))] 37)) p w.heap.size 0 37 _ (IntKind.u64.wrap (y.size : Int)) xs 2 (h.alloc _) hby (heap_alloc_new w _) rfl (by omega) hz (by omega) (by decide)
  have HG := Aside0.mk hg
  have HI := Aside0.mk hi
  clear h hg hs
  go_enter Try.func38, Try.ntmps38
  go_wp2_with fail
  refine C1.mono ?_
  rintro e w2 ⟨rfl, ⟨hq, hs2, hch⟩⟩
  have hch2 : Ch (fun k => k = p ∨ k = g) w w2 := Ch.new _ rfl hch
  have hch3 : Ch (fun k => k = p) w w2 := ((Ch.refl _ w).alloc _).trans (hch.mono (fun k hk _ => hk.elim (fun e => .inl e) (fun e => .inr (by omega))))
  have hg2 := hch3.heap HG.out hgp
  have hc1 := (blk_cell hq 0).trans (show _ = some (.int .u64 (val (xs.take 2))) from rfl)
  have hc2 := blk_frozen hq 0
  obtain ⟨s1, s2⟩ := hs2.cells
  have C2 := take_ok w0 w2 p (val (xs.take 2)).toNat (xs.drop 2) hs2 hs'
  have HCH := Aside0.mk hch2
  have HG2 := Aside0.mk hg2
  rw [show (((val (xs.take 2)).toNat : Nat) : Int) = val (xs.take 2) from Int.toNat_of_nonneg v0] at C2
  clear hq hs2 hch hch2 C1 hs' hch3 hg2
  generalize hv : val (xs.take 2) = v at *
  have HV := Aside0.mk hv
  clear hv
  go_wp2_with fail
  refine C2.mono ?_
  rintro e w3 ⟨⟨A, c, rfl, hC⟩, hs3, hch3⟩
  have hC3 := Kd.C_below hC hs3.old
  have hst : (convert 27 9 (.slice A v.toNat c)).run Try.prog w3 = .ok (.string (strOfNums ((xs.drop 2).take v.toNat))) w3 := Kd.C_string Try.underlying27 Try.underlying5 Try.underlying9 hC3
  have hg3 := hch3.heap HG2.out hgp
  have hgc3 := (blk_cell hg3 i).trans HI.out
  have hgf3 := blk_frozen hg3 i
  have HR := Aside0.mk (show Read w0 w p g (cs.setIfInBounds i (.string (strOfNums ((xs.drop 2).take v.toNat)))) t xs (2 + v.toNat) (w3.setCell ⟨g, i, none⟩ (.string (strOfNums ((xs.drop 2).take v.toNat)))) from
    Read.more HCH.out (hs3.step ((Ch.refl (fun k => k = g) w3).setCell (p := ⟨g, i, none⟩) (.inl rfl) _) (fun e => hgp e.symm) (fun k hk => by rw [hk]; exact hg0)) rfl (blk_upd i _ hg3 rfl) ((hch3.mono (fun k hk _ => .inl hk)).setCell (p := ⟨g, i, none⟩) (.inl (.inr rfl)) _))
  clear hC hs3 hch3 hC3 hg3 C2
  generalize hs : strOfNums ((xs.drop 2).take v.toNat) = s at *
  have HSS := Aside0.mk hs
  clear hs
  go_wp2_with fail
  refine bodyPost_ret (results_none rfl _ _ _) rfl ?_
  exact ⟨rfl, by rw [HV.out, HSS.out]; exact HR.out⟩
end Go.Proofs.Ythkdihpbdaehbaa.Pr
