import Derived.Test.YthkdihpbdaehbaaPrA
namespace Go.Proofs.Ythkdihpbdaehbaa.Pr
set_option linter.unusedVariables false
set_option linter.unusedSimpArgs false
open Go.RowKit Go.Proofs.YthkdihpbdaehbaaW.PrintWords Go.Proofs.Ythkdihpbdaehbaa.Bs

theorem Laid.trans {B : Nat} {w w1 w2 : World} {p : Nat} {bv : Value} {xs ys : List Int} (h : Laid B w p bv xs w1) (k : ∀ bv', Put B w1 p bv' xs → Laid B w1 p bv' ys w2) : Laid B w p bv ys w2 := by
  obtain ⟨⟨bv', ⟨hp, hat⟩⟩, hch⟩ := h
  obtain ⟨⟨bv2, ⟨hp2, hat2⟩⟩, hch2⟩ := k bv' hp
  have hz := hch.size
  refine ⟨⟨bv2, And.intro hp2 (fun i hi => ?_)⟩, hch.trans (hch2.mono (fun i hi _ => ?_))⟩
  · rcases hat2 i hi with h | h
    · exact hat i h
    · exact .inr (Nat.le_trans hz h)
  · rcases hi with hi | hi
    · exact .inl (.inl hi)
    · exact (hat i hi).elim (fun h => .inl (.inr h)) .inr
theorem Laid.then_ {B : Nat} {w w1 w2 : World} {p : Nat} {bv bv' : Value} {ys : List Int} (hat : ∀ i, some i = bv'.ownBlock → some i = bv.ownBlock ∨ w.heap.size ≤ i) (hch : Ch (fun k => k = p ∨ some k = bv.ownBlock) w w1) (k : Laid B w1 p bv' ys w2) : Laid B w p bv ys w2 := by
  obtain ⟨⟨bv2, ⟨hp2, hat2⟩⟩, hch2⟩ := k
  have hz := hch.size
  refine ⟨⟨bv2, And.intro hp2 (fun i hi => ?_)⟩, hch.trans (hch2.mono (fun i hi _ => ?_))⟩
  · rcases hat2 i hi with h | h
    · exact hat i h
    · exact .inr (Nat.le_trans hz h)
  · rcases hi with hi | hi
    · exact .inl (.inl hi)
    · exact (hat i hi).elim (fun h => .inl (.inr h)) .inr
theorem Put.step {B : Nat} {w w1 : World} {p : Nat} {bv : Value} {xs : List Int} {S : Nat → Prop} (h : Put B w p bv xs) (hch : Ch S w w1) (hp : ¬ S p) (ho : ∀ k, some k = bv.ownBlock → ¬ S k) : Put B w1 p bv xs :=
  ⟨h.hB, hch.heap h.cells hp, Kd.R_mono (hch.R (Kd.R_of_own (ok := fun k => some k = bv.ownBlock) (Kd.own_of_R h.row) (fun k hk => hk.symm)) ho) (fun _ _ => trivial)⟩
set_option maxRecDepth 100000 in
set_option maxHeartbeats 400000 in
theorem integer_put (B : Nat) (w : World) (p : Nat) (bv : Value) (xs : List Int) (a : Addr) (n : Int) (size : Nat) (h : Put B w p bv xs) (ha : w.cell? a = some (.int .i64 n)) (hfr : w.frozen? a = false) (hap : a.block ≠ p) (hab : some a.block ≠ bv.ownBlock) (hBw : B ≤ w.heap.size) (h0 : 0 ≤ n) (h1 : n ≤ 9223372036854775807) (hs : size ≤ 8) (hl : xs.length ≤ 1000000) :
    Calls Try.prog 37 #[.pointer (some ⟨p, 0, none⟩), .pointer (some a), .int .i64 size] w fun e w' => e = .returned (.tuple #[]) ∧ Laid B w p bv (xs ++ be size n) w' := by
  have hpl := blk_lt h.cells
  have hown : ∀ k, some k = bv.ownBlock → k < w.heap.size := fun k hk => own_lt (Kd.own_of_R h.row) k hk.symm
  have HA := Aside0.mk ha
  have HAB := Aside0.mk hab
  have HO := Aside0.mk hown
  have hu : IntKind.u64.wrap n = n := by rw [IntKind.wrap_u64]; omega
  have hu2 : wrap64 n = n := IntWalk.wrap64_in n ⟨by omega, by omega⟩
  clear hown hab
  go_enter Try.func37, Try.ntmps37
  go_wp2_with fail
  have hW := below_alloc (Below.refl w.heap.size w) (.cells #[.int .u64 n] 37)
  have hq := heap_alloc_new w (.cells #[.int .u64 n] 37)
  have hz : (w.alloc (.cells #[.int .u64 n] 37)).heap.size = w.heap.size + 1 := by simp
  generalize w.alloc (.cells #[.int .u64 n] 37) = W at *
  refine (number_put B W p bv xs ⟨w.heap.size, 0, none⟩ n size (h.step (S := fun _ => False) (Ch.below (Ch.refl _ _) hW) (fun h => h) (fun _ _ h => h)) (blk_cell hq 0) (by show w.heap.size ≠ p; omega) (fun e => by have h : w.heap.size < w.heap.size := HO.out _ e; omega) (by omega) h0 hs hl).mono ?_
  rintro e w2 ⟨rfl, hL⟩
  have hq2 : w2.cell? ⟨w.heap.size, 0, none⟩ = some (.int .u64 n) := hL.ch.cell (blk_cell hq 0) (by show ¬ (w.heap.size = p ∨ some w.heap.size = bv.ownBlock); rintro (e | e); omega; have := HO.out _ e; omega)
  have halt := World.block_lt_of_cell? w a ha
  have ha2 : w2.cell? a = some (.int .i64 n) := hL.ch.cell (pw_cell_below hW ha) (by rintro (e | e); exact hap e; exact HAB.out e)
  have hf2 : w2.frozen? a = false := by
    have h1 := hL.ch.block a.block (by omega) (by rintro (e | e); exact hap e; exact HAB.out e)
    rw [World.frozen?_of_block (w := W) h1, World.frozen?_of_block (w := w) (hW.block a.block halt)]
    exact hfr
  have HL := Aside0.mk hL
  have HZ := Aside0.mk hz
  have HW := Aside0.mk hW
  clear hL hz hW h
  go_wp2_with fail
  refine bodyPost_end (results_none rfl _ _ _) rfl ?_
  obtain ⟨⟨bv', ⟨hp', hat⟩⟩, hch⟩ := HL.out
  have hz1 := HW.out.size
  have hch2 : Ch (fun k => k = p ∨ some k = bv.ownBlock) w w2 := (Ch.below (Ch.refl _ w) HW.out).trans (hch.mono (fun k hk _ => .inl hk))
  have hs2 := Ch.same (Ch.refl (fun _ => False) w2) ha2
  exact ⟨rfl, ⟨⟨bv', And.intro (hp'.step hs2 (fun h => h) (fun _ _ h => h)) (fun k hk => (hat k hk).elim .inl (fun h => .inr (by omega)))⟩, hch2.same ha2⟩⟩
theorem Laid.before {B : Nat} {w W w2 : World} {p : Nat} {bv : Value} {xs : List Int} (h : Laid B W p bv xs w2) (hW : Below w.heap.size w W) : Laid B w p bv xs w2 := by
  obtain ⟨⟨bv', ⟨hp', hat⟩⟩, hch⟩ := h
  have hz := hW.size
  exact ⟨⟨bv', And.intro hp' (fun k hk => (hat k hk).elim .inl (fun h => .inr (Nat.le_trans hz h)))⟩, (Ch.below (Ch.refl _ w) hW).trans (hch.mono (fun k hk _ => .inl hk))⟩
theorem Put.appended {B : Nat} {w2 w1 : World} {p : Nat} {bv : Value} {ys zs : List Int} {A : Option Addr} {m c : Nat} {ok : Nat → Prop} (hp : Put B w2 p bv ys) (h1 : w1.heap[p]? = some (.cells #[bv, .bool false] 56 (0, 0))) (hr : (Kd.int .u8).R 5 w1 B ok (.slice A m c) zs)
    (hc1 : Ch (fun k => some k = bv.ownBlock) w2.drew w1) (hat1 : ∀ k, (Value.slice A m c).ownBlock = some k → some k = bv.ownBlock ∨ w2.drew.heap.size ≤ k) : Laid B w2 p bv zs (w1.setCell ⟨p, 0, none⟩ (.slice A m c)) := by
  have hset : Ch (fun k => k = p) w1 (w1.setCell ⟨p, 0, none⟩ (.slice A m c)) := (Ch.refl (fun k => k = p) w1).setCell (p := ⟨p, 0, none⟩) (.inl rfl) _
  refine ⟨⟨.slice A m c, And.intro ⟨hp.hB, blk_upd 0 _ h1 rfl, Kd.R_mono (hset.R (Kd.R_types hr h1 (by decide)) (fun k hk => hk.2)) (fun _ _ => trivial)⟩ (fun k hk => hat1 k hk.symm)⟩, ?_⟩
  exact (((Ch.refl (fun k => k = p ∨ some k = bv.ownBlock) w2).drew).trans (hc1.mono (fun k hk _ => .inl (.inr hk)))).trans (hset.mono (fun k hk _ => .inl (.inl hk)))
set_option maxRecDepth 100000 in
set_option maxHeartbeats 400000 in
theorem text_put (B : Nat) (w : World) (p : Nat) (bv : Value) (xs : List Int) (a : Addr) (y : ByteArray) (h : Put B w p bv xs) (ha : w.cell? a = some (.string y)) (hap : a.block ≠ p) (hab : some a.block ≠ bv.ownBlock) (hBw : B ≤ w.heap.size) (hy : y.size ≤ 70000) (hl : xs.length ≤ 900000) :
    Calls Try.prog 38 #[.pointer (some ⟨p, 0, none⟩), .pointer (some a)] w fun e w' => e = .returned (.tuple #[]) ∧ Laid B w p bv (xs ++ be 2 y.size ++ bytesOf y) w' := by
  have hpl := blk_lt h.cells
  have hown : ∀ k, some k = bv.ownBlock → k < w.heap.size := fun k hk => own_lt (Kd.own_of_R h.row) k hk.symm
  have HA := Aside0.mk ha
  have HAB := Aside0.mk hab
  have HO := Aside0.mk hown
  have hu : IntKind.u64.wrap (y.size : Int) = y.size := by rw [IntKind.wrap_u64]; omega
  clear hown hab
  go_enter Try.func38, Try.ntmps38
  go_wp2_with fail
  have hW := below_alloc (Below.refl w.heap.size w) (.cells #[.int .u64 (y.size : Int)] 37)
  have hq := heap_alloc_new w (.cells #[.int .u64 (y.size : Int)] 37)
  have hz : (w.alloc (.cells #[.int .u64 (y.size : Int)] 37)).heap.size = w.heap.size + 1 := by simp
  generalize w.alloc (.cells #[.int .u64 (y.size : Int)] 37) = W at *
  refine (number_put B W p bv xs ⟨w.heap.size, 0, none⟩ (y.size : Int) 2 (h.step (S := fun _ => False) (Ch.below (Ch.refl _ _) hW) (fun h => h) (fun _ _ h => h)) (blk_cell hq 0) (by show w.heap.size ≠ p; omega) (fun e => by have h : w.heap.size < w.heap.size := HO.out _ e; omega) (by omega) (by omega) (by omega) (by omega)).mono ?_
  rintro e w2 ⟨rfl, hL⟩
  have ha2 : w2.cell? a = some (.string y) := hL.ch.cell (pw_cell_below hW ha) (by rintro (e | e); exact hap e; exact HAB.out e)
  have HL := Aside0.mk hL
  have HZ := Aside0.mk hz
  have HW := Aside0.mk hW
  obtain ⟨⟨bv', ⟨hp', hat⟩⟩, hch⟩ := hL
  obtain ⟨A, c, rfl⟩ := Kd.R_slice hp'.row
  obtain ⟨k0, k1, k2⟩ := blk2 hp'.cells
  have hlen : (xs ++ be 2 (y.size : Int)).length + y.size ≤ 140737488355328 := by rw [List.length_append, be_length]; omega
  generalize hys : xs ++ be 2 (y.size : Int) = ys at *
  have HP := Aside0.mk hp'
  have HR := Aside0.mk (Kd.R_drew hp'.row)
  have HN := Aside0.mk (Kd.R_ne hp'.row hp'.cells (by decide))
  have HAT := Aside0.mk hat
  have HCH := Aside0.mk hch
  have HBW := Aside0.mk (show B ≤ w2.drew.heap.size from Nat.le_trans (Nat.le_trans hBw hW.size) hch.size)
  have HLE := Aside0.mk hlen
  have HYS := Aside0.mk hys
  clear hz hW h hp' hat hch hlen hys
  go_wp2_with fail
  go_region_law (refine str_step B (W := w2.drew) rfl (.tmp 27) (.tmp 30) 27 9 5 rfl Try.underlying27 Try.underlying9 info5 (.slice A ys.length c) ys y (fun _ => True) rfl rfl HR.out HBW.out HLE.out ?_; intro A1 c1 w1 HR1 HC1 HAT1; have HC2 := HC1.heap (show w2.drew.heap[p]? = _ from HP.out.cells) HN.out; obtain ⟨m0, m1, m2⟩ := blk2 HC2; have HC3 := Aside0.mk HC2; have HR2 := Aside0.mk HR1; have HC4 := Aside0.mk HC1; have HAT2 := Aside0.mk HAT1; clear HC2 HR1 HC1 HAT1)
  all_goals
    refine bodyPost_end (results_none rfl _ _ _) rfl ?_
    refine ⟨rfl, Laid.before ?_ HW.out⟩
    rw [HYS.out]
    exact Laid.then_ HAT.out HCH.out (HP.out.appended HC3.out HR2.out HC4.out HAT2.out)
end Go.Proofs.Ythkdihpbdaehbaa.Pr
