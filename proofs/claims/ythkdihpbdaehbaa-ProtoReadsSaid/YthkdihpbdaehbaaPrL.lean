import Derived.Test.YthkdihpbdaehbaaPrK
import Derived.Laws.Bits64b
namespace Go.Proofs.Ythkdihpbdaehbaa.Pr
set_option linter.unusedVariables false
set_option linter.unusedSimpArgs false
open Go.RowKit Go.Proofs.YthkdihpbdaehbaaW.PrintWords Go.Proofs.YthkdihpbdaehbaaW.PrintLast Go.Proofs.YthkdihpbdaehbaaW.PrintMore Go.Proofs.Ythkdihpbdaehbaa.Bs
theorem Src.cells {w0 w : World} {p : Nat} {xs : List Int} (h : Src w0 w p xs) : w.cell? ⟨p, 1, none⟩ = some (.bool true) ∧ ∀ i, w.frozen? ⟨p, i, none⟩ = false := by
  obtain ⟨⟨A, c, hc, hl, hC⟩, ho, hp⟩ := h
  obtain ⟨k0, k1, k2⟩ := blk2 hc
  exact ⟨k1, k2⟩
theorem Src.step {w0 w w1 : World} {p : Nat} {xs : List Int} {S : Nat → Prop} (h : Src w0 w p xs) (hch : Ch S w w1) (hp : ¬ S p) (hS : ∀ k, S k → w0.heap.size ≤ k) : Src w0 w1 p xs := by
  obtain ⟨⟨A, c, hc, hl, hC⟩, ho, hpp⟩ := h
  exact ⟨⟨A, c, hch.heap hc hp, hl, hC⟩, ho.trans (Ch.to_below hch hS ho.size), hpp⟩
theorem or_byte (v y : Int) (h0 : 0 ≤ v) (h1 : v < 72057594037927936) (a : 0 ≤ y) (b : y ≤ 255) : bits BinOp.or IntKind.u64 (IntKind.u64.wrap (v * 256)) y = v * 256 + y := by
  rw [IntKind.wrap_u64]
  obtain ⟨m, rfl⟩ := Int.eq_ofNat_of_zero_le h0
  obtain ⟨n, rfl⟩ := Int.eq_ofNat_of_zero_le a
  have e1 : (m : Int) * 256 % 18446744073709551616 = ((m * 256 : Nat) : Int) := by omega
  rw [e1, bits_or_u64_nat _ _ (by omega) (by omega)]
  have e3 : m * 256 ||| n = m * 256 + n := by
    rw [show m * 256 = m <<< 8 from (Nat.shiftLeft_eq m 8).symm, ← Nat.shiftLeft_add_eq_or_of_lt (by omega : n < 2 ^ 8)]
  rw [e3]; omega
theorem val_snoc (l : List Int) (y : Int) : val (l ++ [y]) = val l * 256 + y := by simp [val]
theorem val_bound : ∀ (m : Nat) (l : List Int), l.length = m → (∀ x ∈ l, 0 ≤ x ∧ x ≤ 255) → 0 ≤ val l ∧ val l < ((256 ^ m : Nat) : Int) := by
  intro m
  induction m with
  | zero => intro l hl h; rw [List.eq_nil_of_length_eq_zero hl]; decide
  | succ m ih =>
    intro l hl h
    have hne : l ≠ [] := by intro e; rw [e] at hl; simp at hl
    have e := List.dropLast_concat_getLast hne
    have h1 := ih l.dropLast (by rw [List.length_dropLast, hl]; rfl) (fun x hx => h x (List.dropLast_subset l hx))
    have h2 := h (l.getLast hne) (List.getLast_mem hne)
    rw [← e, val_snoc, Nat.pow_succ]
    omega
theorem val_bound7 (l : List Int) (h : ∀ x ∈ l, 0 ≤ x ∧ x ≤ 255) (hl : l.length ≤ 7) : 0 ≤ val l ∧ val l < 72057594037927936 := by
  have h1 := val_bound _ l rfl h
  have h2 : (256 : Nat) ^ l.length ≤ 72057594037927936 := Nat.le_trans (Nat.pow_le_pow_right (by decide) hl) (by decide)
  omega
/-- A number has been read. -/
structure Read (w0 w : World) (p g : Nat) (cs : Array Value) (t : Nat) (xs : List Int) (size : Nat) (w' : World) : Prop where
  q : w'.heap[g]? = some (.cells cs t (0, 0))
  s : Src w0 w' p (xs.drop size)
  ch : Ch (fun k => k = p ∨ k = g) w w'
theorem set_at {cs : Array Value} {i : Nat} {u : Value} (h : cs[i]? = some u) (v : Value) : (cs.setIfInBounds i v)[i]? = some v := by
  have := (Array.getElem?_eq_some_iff.1 h).1
  simp [this]
structure RdRel (w0 w : World) (p g i t : Nat) (cs : Array Value) (T xs : List Int) (size j : Nat) (wr : World) : Prop where
  hj : j ≤ size
  q : wr.heap[g]? = some (.cells (cs.setIfInBounds i (.int .u64 (val (T.take j)))) t (0, 0))
  ch : Ch (fun k => k = p ∨ k = g) w wr
  s : Src w0 wr p (xs.drop size)
set_option maxRecDepth 100000 in
set_option maxHeartbeats 400000 in
theorem number_get (w0 w : World) (p g i t : Nat) (cs : Array Value) (n0 : Int) (xs : List Int) (size : Nat) (h : Src w0 w p xs) (hby : ∀ x ∈ xs, 0 ≤ x ∧ x ≤ 255) (hg : w.heap[g]? = some (.cells cs t (0, 0))) (hi : cs[i]? = some (.int .u64 n0)) (hgp : g ≠ p) (hg0 : w0.heap.size ≤ g) (hs : size ≤ xs.length) (hs8 : size ≤ 8) :
    Calls Try.prog 41 #[.pointer (some ⟨p, 0, none⟩), .pointer (some ⟨g, i, none⟩), .int .i64 size] w fun e w' => e = .returned (.tuple #[]) ∧ Read w0 w p g (cs.setIfInBounds i (.int .u64 (val (xs.take size)))) t xs size w' := by
  obtain ⟨s1, s2⟩ := h.cells
  have hgc := (blk_cell hg i).trans hi
  have hgf := blk_frozen hg i
  have hset : Ch (fun k => k = g) w (w.setCell ⟨g, i, none⟩ (.int .u64 0)) := (Ch.refl (fun k => k = g) w).setCell (p := ⟨g, i, none⟩) (.inl rfl) _
  have hS := h.step hset (fun e => hgp e.symm) (fun k hk => by rw [hk]; exact hg0)
  have hq := blk_upd i (.int .u64 0) hg rfl
  have C1 := take_ok w0 _ p size xs hS hs
  have HQ := Aside0.mk hq
  have HS := Aside0.mk hset
  clear h hq hset hS hg
  go_enter Try.func41, Try.ntmps41
  go_wp2_with fail
  refine C1.mono ?_
  rintro e w2 ⟨⟨A, c, rfl, hC⟩, hs2, hch⟩
  have HC := Aside0.mk hC
  have HS2 := Aside0.mk hs2
  have HCH := Aside0.mk hch
  clear hC hs2 hch C1
  go_wp2_with fail
  obtain ⟨T, hT⟩ : ∃ T, T = xs.take size := ⟨_, rfl⟩
  have HT := Aside0.mk hT
  have hTl : T.length = size := by rw [hT, List.length_take]; omega
  have hTb : ∀ x ∈ T, 0 ≤ x ∧ x ≤ 255 := fun x hx => hby x (by rw [hT] at hx; exact List.mem_of_mem_take hx)
  clear hT s1 s2 hgc hgf hby
  go_loopw [8, 42] (fun v8 v42 wr => ∃ j : Nat, v42 = .int .i64 j ∧ RdRel w0 w p g i t cs T xs size j wr) (fun v8 v42 _ => (size - intOf v42).toNat)
  case atStart =>
    refine ⟨0, rfl, ⟨Nat.zero_le _, ?_, (HS.out.mono (fun k hk _ => .inr hk)).trans (HCH.out.mono (fun k hk _ => .inl (.inl hk))), HS2.out⟩⟩
    exact HCH.out.heap HQ.out hgp
  case round =>
    obtain ⟨j, rfl, ⟨hj, hq, hch, hsr⟩⟩ := hrel
    have hcw : wr.cell? ⟨g, i, none⟩ = some (.int .u64 (val (T.take j))) := (blk_cell hq i).trans (set_at hi _)
    have hfw := blk_frozen hq i
    by_cases hjs : j < size
    · have hjs' : (j : Int) < size := by omega
      obtain ⟨ad, cc, rfl, hce, hK⟩ := Kd.C_get (Kd.C_below (HC.out) hsr.old) (0 : Int) j (by omega) (by omega)
      obtain ⟨hK1, hK2⟩ := hK
      have e1 : cc = [.int .u8 (rd T j)] := by rw [HT.out]; exact hK1
      have hcell : wr.cell? (ad.add j) = some (.int .u8 (rd T j)) := by
        have := hK2 0 (.int .u8 (rd T j)) (by rw [e1]; rfl)
        rw [show ((j : Int).toNat * (Kd.int .u8).sz + 0) = j from by show (j : Int).toNat * 1 + 0 = j; simp] at this
        exact this
      clear hK1 hK2 hce
      have hy : rd T j = T.getD j 0 := by simp [rd]
      have hyT : rd T j ∈ T := by
        rw [hy, List.getD_eq_getElem?_getD, List.getElem?_eq_getElem (by omega)]
        exact List.getElem_mem _
      obtain ⟨y0, y1⟩ := hTb _ hyT
      obtain ⟨v0, v1⟩ := val_bound7 (T.take j) (fun x hx => hTb x (List.mem_of_mem_take hx)) (by rw [List.length_take]; omega)
      have hnext : val (T.take (j + 1)) = val (T.take j) * 256 + rd T j := by
        rw [List.take_succ_eq_append_getElem (by omega), val_snoc]
        simp [rd, List.getD_eq_getElem?_getD, List.getElem?_eq_getElem (show j < T.length by omega)]
      have hor := or_byte _ _ v0 v1 y0 y1
      have HN := Aside0.mk hnext
      have hcs : (cs.setIfInBounds i (.int .u64 (val (T.take j)))).setIfInBounds i (.int .u64 (val (T.take j) * 256 + rd T j)) = cs.setIfInBounds i (.int .u64 (val (T.take (j + 1)))) := by rw [hnext, Array.setIfInBounds_setIfInBounds]
      have hset2 := hch.setCell (p := ⟨g, i, none⟩) (.inl (.inr rfl)) (.int .u64 (val (T.take j) * 256 + rd T j))
      have hs3 : Src w0 (wr.setCell ⟨g, i, none⟩ (.int .u64 (val (T.take j) * 256 + rd T j))) p (xs.drop size) := hsr.step ((Ch.refl (fun k => k = g) wr).setCell (p := ⟨g, i, none⟩) (.inl rfl) _) (fun e => hgp e.symm) (fun k hk => by rw [hk]; exact hg0)
      have HREL := Aside0.mk (show RdRel w0 w p g i t cs T xs size (j + 1) _ from ⟨hjs, blk_upd i (.int .u64 (val (T.take j) * 256 + rd T j)) hq hcs, hset2, hs3⟩)
      clear hq hch hsr hs3 hset2 hcs hnext hyT hy hTb hTl v0 v1
      generalize rd T j = y at *
      generalize val (List.take j T) = v at *
      go_wp2
      go_roundw
      case rel => exact ⟨j + 1, rfl, HREL.out⟩
      case measure => simp [intOf]; omega
    · have hjs' : ¬ (j : Int) < size := by omega
      have hj2 : j = size := by omega
      have HF := Aside0.mk (show Read w0 w p g (cs.setIfInBounds i (.int .u64 (val (xs.take size)))) t xs size wr from ⟨by rw [← HT.out, ← (show T.take j = T from List.take_of_length_le (by omega))]; exact hq, hsr, hch⟩)
      clear hq hch hsr hcw
      go_wp2
      refine bodyPost_end (results_none rfl _ _ _) rfl ?_
      exact ⟨rfl, HF.out⟩
set_option maxRecDepth 100000 in
set_option maxHeartbeats 400000 in
theorem number_lost (w0 w : World) (p g i t : Nat) (cs : Array Value) (n0 : Int) (xs : List Int) (size : Nat) (h : Src w0 w p xs) (hg : w.heap[g]? = some (.cells cs t (0, 0))) (hi : cs[i]? = some (.int .u64 n0)) (hgp : g ≠ p) (hg0 : w0.heap.size ≤ g) (hs : xs.length < size) :
    Calls Try.prog 41 #[.pointer (some ⟨p, 0, none⟩), .pointer (some ⟨g, i, none⟩), .int .i64 size] w fun e w' => Gone e ∧ Ch (fun k => k = p ∨ k = g) w w' := by
  obtain ⟨s1, s2⟩ := h.cells
  have hgc := (blk_cell hg i).trans hi
  have hgf := blk_frozen hg i
  have hset : Ch (fun k => k = g) w (w.setCell ⟨g, i, none⟩ (.int .u64 0)) := (Ch.refl (fun k => k = g) w).setCell (p := ⟨g, i, none⟩) (.inl rfl) _
  have hS := h.step hset (fun e => hgp e.symm) (fun k hk => by rw [hk]; exact hg0)
  have C1 := take_short w0 _ p size xs hS hs
  have HS := Aside0.mk (hset.mono (S' := fun k => k = p ∨ k = g) (fun k hk _ => .inr hk))
  clear h hset hS hg
  go_enter Try.func41, Try.ntmps41
  go_wp2_with fail
  refine C1.mono ?_
  rintro e w2 ⟨rfl, rfl⟩
  exact ⟨rfl, ⟨rfl, HS.out⟩⟩
end Go.Proofs.Ythkdihpbdaehbaa.Pr
