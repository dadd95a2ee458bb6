import Derived.Test.YthkdihpbdaehbaaBt
namespace Go.Proofs.Ythkdihpbdaehbaa.Pr
set_option linter.unusedVariables false
set_option linter.unusedSimpArgs false
open Go.RowKit Go.Proofs.YthkdihpbdaehbaaW.PrintWords Go.Proofs.Ythkdihpbdaehbaa.Bs

/-- A number's bytes, the greatest first. -/
def be : Nat → Int → List Int
  | 0, _ => []
  | s + 1, n => n / 256 ^ s % 256 :: be s n
def val (l : List Int) : Int := l.foldl (fun a c => a * 256 + c) 0
theorem be_length (s : Nat) (n : Int) : (be s n).length = s := by
  induction s with
  | zero => rfl
  | succ s ih => simp [be, ih]
theorem be_bytes (s : Nat) (n : Int) : ∀ c ∈ be s n, 0 ≤ c ∧ c ≤ 255 := by
  induction s with
  | zero => simp [be]
  | succ s ih =>
    intro c hc
    simp only [be, List.mem_cons] at hc
    rcases hc with rfl | hc
    · omega
    · exact ih c hc
theorem info5 : (Try.prog.info? 5).map (fun i => (i.zero, i.size, i.bytes)) = some (some (.int .u8 0), 1, 1) := by kernel_rfl
theorem z5ok : (Value.int .u8 0).cells.size = (Kd.int .u8).sz ∧ 0 < (Kd.int .u8).sz ∧ 0 < 1 := ⟨rfl, by decide, by decide⟩
/-- A walk that lays bytes: its own row holds xs. -/
structure Put (B : Nat) (w : World) (p : Nat) (bv : Value) (xs : List Int) : Prop where
  hB : B ≤ p
  cells : w.heap[p]? = some (.cells #[bv, .bool false] 56 (0, 0))
  row : (Kd.int .u8).R 5 w B (fun _ => True) bv xs
theorem pow_bytes (n : Int) (j : Nat) (hj : 1 ≤ j) : n / 2 ^ (8 * ((j : Int) - 1)).toNat = n / 256 ^ (j - 1) := by
  rw [show (8 * ((j : Int) - 1)).toNat = 8 * (j - 1) by omega, Int.pow_mul]; rfl
theorem int_eq {k : IntKind} {a b : Int} (h : a = b) : Value.int k a = Value.int k b := by rw [h]
/-- What a call that lays leaves. -/
structure Laid (B : Nat) (w : World) (p : Nat) (bv : Value) (xs : List Int) (w' : World) : Prop where
  r : ∃ bv', Put B w' p bv' xs ∧ ∀ k, some k = bv'.ownBlock → some k = bv.ownBlock ∨ w.heap.size ≤ k
  ch : Ch (fun k => k = p ∨ some k = bv.ownBlock) w w'
structure LayRel (B : Nat) (w : World) (p : Nat) (bv : Value) (xs : List Int) (n : Int) (size j : Nat) (wr : World) : Prop where
  hj : j ≤ size
  r : ∃ bv' ys l, Put B wr p bv' ys ∧ Aside0 (ys = xs ++ l) ∧ l ++ be j n = be size n ∧ (∀ k, some k = bv'.ownBlock → some k = bv.ownBlock ∨ w.heap.size ≤ k)
  ch : Ch (fun k => k = p ∨ some k = bv.ownBlock) w wr
theorem LayRel.next {B : Nat} {w wr w1 : World} {p : Nat} {bv bv' : Value} {xs ys l : List Int} {n : Int} {size j : Nat} {A : Option Addr} {m c : Nat} (hj1 : 1 ≤ j) (hj : j ≤ size) (hch : Ch (fun k => k = p ∨ some k = bv.ownBlock) w wr)
    (hp : Put B wr p bv' ys) (hys : ys = xs ++ l) (hle : l ++ be j n = be size n) (hat : ∀ k, some k = bv'.ownBlock → some k = bv.ownBlock ∨ w.heap.size ≤ k)
    (h1 : w1.heap[p]? = some (.cells #[bv', .bool false] 56 (0, 0))) (hr : (Kd.int .u8).R 5 w1 B (fun k => True ∨ wr.drew.heap.size ≤ k) (.slice A m c) (ys ++ [IntKind.u8.wrap (n / 2 ^ (8 * ((j : Int) - 1)).toNat)]))
    (hc1 : Ch (fun k => some k = bv'.ownBlock) wr.drew w1) (hat1 : ∀ k, (Value.slice A m c).ownBlock = some k → some k = bv'.ownBlock ∨ wr.drew.heap.size ≤ k) :
    LayRel B w p bv xs n size (j - 1) (w1.setCell ⟨p, 0, none⟩ (.slice A m c)) := by
  have hz := hch.size
  have hset : Ch (fun k => k = p) w1 (w1.setCell ⟨p, 0, none⟩ (.slice A m c)) := (Ch.refl (fun k => k = p) w1).setCell (p := ⟨p, 0, none⟩) (.inl rfl) _
  refine ⟨by omega, ⟨.slice A m c, _, l ++ [n / 256 ^ (j - 1) % 256], ⟨hp.hB, blk_upd 0 _ h1 rfl, Kd.R_mono (hset.R (Kd.R_types hr h1 (by decide)) (fun k hk => hk.2)) (fun _ _ => trivial)⟩, ⟨?_⟩, ?_, fun k hk => ?_⟩, ?_⟩
  · rw [hys, List.append_assoc, IntKind.wrap_u8, pow_bytes n j hj1]
  · obtain ⟨j, rfl⟩ : ∃ i, j = i + 1 := ⟨j - 1, by omega⟩
    rw [← hle]; simp [be]
  · rcases hat1 k hk.symm with h | h
    · exact hat k h
    · exact .inr (Nat.le_trans hz h)
  · exact (hch.trans ((((Ch.refl (fun k => some k = bv'.ownBlock) wr).drew.trans (hc1.mono (fun k hk _ => .inl hk)))).mono (fun k hk _ => (hat k hk).elim (fun h => .inl (.inr h)) .inr))).trans (hset.mono (fun k hk _ => .inl (.inl hk)))
set_option maxRecDepth 100000 in
set_option maxHeartbeats 400000 in
theorem number_put (B : Nat) (w : World) (p : Nat) (bv : Value) (xs : List Int) (a : Addr) (n : Int) (size : Nat) (h : Put B w p bv xs) (ha : w.cell? a = some (.int .u64 n)) (hap : a.block ≠ p) (hab : some a.block ≠ bv.ownBlock) (hBw : B ≤ w.heap.size) (h0 : 0 ≤ n) (hs : size ≤ 8) (hl : xs.length ≤ 1000000) :
    Calls Try.prog 41 #[.pointer (some ⟨p, 0, none⟩), .pointer (some a), .int .i64 size] w fun e w' => e = .returned (.tuple #[]) ∧ Laid B w p bv (xs ++ be size n) w' := by
  have halt := World.block_lt_of_cell? w a ha
  obtain ⟨k0, k1, k2⟩ := blk2 h.cells
  have H := Aside0.mk h
  have HA := Aside0.mk ha
  have HAB := Aside0.mk hab
  clear h ha hab
  go_enter Try.func41, Try.ntmps41
  go_wp2
  go_loopw [6] (fun i wr => ∃ j : Nat, i = .int .i64 ((j : Int) - 1) ∧ LayRel B w p bv xs n size j wr) (fun i _ => (intOf i + 1).toNat)
  case atStart => exact ⟨size, rfl, Nat.le_refl _, ⟨bv, xs, [], H.out, ⟨by rw [List.append_nil]⟩, rfl, fun k hk => .inl hk⟩, Ch.refl _ _⟩
  case round =>
    clear k0 k1 k2
    obtain ⟨j, rfl, ⟨hj, ⟨bv', ys, l, hP, HYS, hle, hat⟩, hch⟩⟩ := hrel
    obtain ⟨A, c, rfl⟩ := Kd.R_slice hP.row
    obtain ⟨k0, k1, k2⟩ := blk2 hP.cells
    have hcell : wr.cell? a = some (.int .u64 n) := hch.cell HA.out (by rintro (e | e); exact hap e; exact HAB.out e)
    by_cases hj0 : 1 ≤ j
    · have hj1 : 0 ≤ (j : Int) - 1 := by omega
      have hka : ∀ o, (wr.alloc o).cell? ⟨p, 0, none⟩ = some (.slice A ys.length c) := fun o => pw_cell_below (below_alloc (Below.refl _ _) o) k0
      have hsw : IntKind.i64.wrap (8 * ((j : Int) - 1)) = 8 * ((j : Int) - 1) := IntWalk.i64_in _ ⟨by omega, by omega⟩
      have h8 : 0 ≤ 8 * ((j : Int) - 1) := by omega
      have h8' : 8 * ((j : Int) - 1) ≤ 56 := by omega
      have hlen : (ys.length + 1) * 1 ≤ 140737488355328 := by
        have h1 : (l ++ be j n).length = (be size n).length := by rw [hle]
        rw [List.length_append, be_length, be_length] at h1
        rw [HYS.out, List.length_append]; omega
      have HP := Aside0.mk hP
      have HLE := Aside0.mk hle
      have HAT := Aside0.mk hat
      have HCH := Aside0.mk hch
      have HL := Aside0.mk hlen
      have HR := Aside0.mk (Kd.R_drew hP.row)
      have HN := Aside0.mk (Kd.R_ne hP.row hP.cells (by decide))
      clear hP hle hat hch hlen
      go_wp2
      have HBW := Aside0.mk (show B ≤ wr.drew.heap.size from Nat.le_trans hBw HCH.out.size)
      go_region_law (refine app_step (Kd.int .u8) (W := wr.drew) B rfl (.tmp 24) (.tmp 32) 27 5 (.int .u8 0) 1 rfl Try.underlying27 info5 z5ok (.slice A ys.length c) ys (IntKind.u8.wrap (n / 2 ^ (8 * ((j : Int) - 1)).toNat)) [.int .u8 (IntKind.u8.wrap (n / 2 ^ (8 * ((j : Int) - 1)).toNat))] (fun _ => True) (fun _ => False) rfl rfl rfl (fun _ h => h.elim) HR.out HBW.out HL.out ?_; intro A1 c1 w1 HR1 HC1 HAT1; have HC2 := HC1.heap (show wr.drew.heap[p]? = _ from HP.out.cells) HN.out; obtain ⟨m0, m1, m2⟩ := blk2 HC2; have HC3 := Aside0.mk HC2; have HR2 := Aside0.mk HR1; have HC4 := Aside0.mk HC1; have HAT2 := Aside0.mk HAT1; clear HC2 HR1 HC1 HAT1)
      all_goals
        go_wp2
        go_roundw
        case rel => exact ⟨j - 1, int_eq (by omega), LayRel.next hj0 hj HCH.out HP.out HYS.out HLE.out HAT.out HC3.out HR2.out HC4.out HAT2.out⟩
        case measure => simp [intOf]; omega
    · have : j = 0 := by omega
      subst this
      have HL := Aside0.mk (show Laid B w p bv (xs ++ be size n) wr from ⟨⟨_, Eq.mp (congrArg (fun z => Put B wr p (.slice A ys.length c) z) (show ys = xs ++ be size n by rw [HYS.out, show l = be size n by rw [← hle]; simp [be]])) hP, hat⟩, hch⟩)
      clear hP hle hat hch
      go_wp2
      refine bodyPost_ret (results_none rfl _ _ _) rfl ?_
      exact ⟨rfl, HL.out⟩
end Go.Proofs.Ythkdihpbdaehbaa.Pr
