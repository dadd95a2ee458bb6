import Derived.Test.YtgndmbkkggjklaaMk1
import Derived.Test.YtgndmbkkggjklaaJoPc
import Derived.Deep.RegionHeld3
import Derived.BigRegion
import Derived.BigQuiet
import Derived.RangeFuncNested
import Derived.RangeFuncBound
import Derived.RangeFuncCalls
import Derived.RangeFuncLeaves
import Derived.Shelf.Abstract
import Derived.Shelf.RegionOpen
import Derived.OwnWalkIn
import Derived.TacticsInMore
import Derived.LoopNIn
import Derived.LoopIn
import Derived.BigRegionIn
import Derived.Test.YtgndmbkkggjklaaBo
namespace Go.Proofs.Ytgndmbkkggjklaa.Jo
set_option linter.unusedVariables false
set_option linter.unusedSimpArgs false
open Go.RowKit Go.Proofs.YtgndmbkkggjklaaW.PrintWords Go.Proofs.YtgndmbkkggjklaaW.PrintLast Go.Proofs.YtgndmbkkggjklaaW.PrintMore Go.Proofs.Ytgndmbkkggjklaa.Bs
/-- Where the reading of a change stands: the result's box, and the change's. -/
structure On (w0 w W : World) (g : Nat) (cs : Array Value) : Prop where
  t : W.heap[w.heap.size]? = some (.cells #[.int .i64 0, .int .i64 0, .string ⟨#[]⟩, .string ⟨#[]⟩, .int .i64 0, .slice none 0 0, .slice none 0 0, .bool false] 46 (0, 0))
  q : W.heap[g]? = some (.cells cs 46 (0, 0))
  b : Below w.heap.size w W
  b0 : Below w0.heap.size w0 W
  sz : w0.heap.size ≤ w.heap.size
  lt : w.heap.size < g
theorem On.next {w0 w W W' : World} {g : Nat} {cs : Array Value} (h : On w0 w W g cs) (hb : Below W.heap.size W W') : On w0 w W' g cs :=
  ⟨(hb.block _ (blk_lt h.t)).trans h.t, (hb.block _ (blk_lt h.q)).trans h.q, below_step h.b hb, below_step h.b0 hb, h.sz, h.lt⟩
theorem On.set {w0 w W : World} {g i : Nat} {cs cs' : Array Value} {v : Value} (h : On w0 w W g cs) (hq : (W.setCell ⟨g, i, none⟩ v).heap[g]? = some (.cells cs' 46 (0, 0))) : On w0 w (W.setCell ⟨g, i, none⟩ v) g cs' :=
  ⟨(Below.heap_setCell W ⟨g, i, none⟩ v w.heap.size (Nat.ne_of_lt h.lt)).trans h.t, hq, Below.setCell h.b (Nat.le_of_lt h.lt) _, Below.setCell h.b0 (Nat.le_trans h.sz (Nat.le_of_lt h.lt)) _, h.sz, h.lt⟩
theorem On.fresh {w0 w W : World} {cs : Array Value} (ht : W.heap[w.heap.size]? = some (.cells #[.int .i64 0, .int .i64 0, .string ⟨#[]⟩, .string ⟨#[]⟩, .int .i64 0, .slice none 0 0, .slice none 0 0, .bool false] 46 (0, 0))) (hb : Below w.heap.size w W) (hb0 : Below w0.heap.size w0 W) (hs : w0.heap.size ≤ w.heap.size) : On w0 w (W.alloc (.cells cs 46)) W.heap.size cs :=
  ⟨(Below.heap_alloc W _ _ (blk_lt ht)).trans ht, heap_alloc_new W _, below_alloc hb _, below_alloc hb0 _, hs, blk_lt ht⟩
theorem On.set8 {w0 w W : World} {g : Nat} {a0 a1 a2 a3 a4 a5 a6 a7 : Value} (h : On w0 w W g #[a0, a1, a2, a3, a4, a5, a6, a7]) (b0 b1 b2 b3 b4 b5 b6 b7 : Value) : On w0 w (set8 W g b0 b1 b2 b3 b4 b5 b6 b7) g #[b0, b1, b2, b3, b4, b5, b6, b7] := by
  have hc := set8_ch W g b0 b1 b2 b3 b4 b5 b6 b7
  have hlt := h.lt
  have hs := h.sz
  exact ⟨hc.heap h.t (fun e => by omega), set8_q h.q b0 b1 b2 b3 b4 b5 b6 b7, h.b.trans (Ch.to_below hc (fun k hk => by omega) h.b.size), h.b0.trans (Ch.to_below hc (fun k hk => by omega) h.b0.size), h.sz, h.lt⟩
theorem long_bys {each : Nat} {b x y : List Int} (h : longP each b = some (x, y)) (hb : Bys b) : Bys x ∧ Bys y := by
  unfold longP at h
  split at h
  · simp at h
  · split at h
    · simp at h
    · simp only [Option.some.injEq, Prod.mk.injEq] at h
      rw [← h.1, ← h.2]
      exact ⟨bys_take (bys_drop hb _) _, bys_drop (bys_drop hb _) _⟩
/-- What one gives. -/
def OneGave (w0 w : World) (o : Option (S46 × List Int)) (e : Ending) (w' : World) : Prop := match o with
  | none => ∃ a0 a1 a2 a3 a4 A5 n5 c5 A6 n6 c6 a7, e = .returned (.tuple #[.agg #[.int .i64 a0, .int .i64 a1, .string a2, .string a3, .int .i64 a4, .slice A5 n5 c5, .slice A6 n6 c6, .bool a7], .slice none 0 0, .bool false])
  | some (x, y) => ∃ (cs : List Value) (A : Option Addr) (c : Nat), e = .returned (.tuple #[.agg cs.toArray, .slice A y.length c, .bool true]) ∧ k46.M w' w.heap.size (fun k => w.heap.size ≤ k) x cs ∧ y.length ≤ c ∧ (Kd.int .u8).C w0 A y.length y
/-- The change, its head read. -/
def oneR (id k : Int) (y : List Int) : Option (S46 × List Int) :=
  if k = 0 then some (⟨id, ⟨0, ByteArray.empty, ByteArray.empty, 0, [], [], true⟩⟩, y)
  else if y.length < 4 then none
  else match longP 1 (y.drop 4) with
  | none => none
  | some (nm, r1) => match longP 1 r1 with
    | none => none
    | some (tx, r2) => match longP 4 r2 with
      | none => none
      | some (ks, r3) => match longP 4 r3 with
        | none => none
        | some (bs, r4) => some (⟨id, ⟨k, strOfNums nm, strOfNums tx, val (y.take 4), rowI (val (r2.take 2)).toNat ks, rowI (val (r3.take 2)).toNat bs, false⟩⟩, r4)
theorem one_eq (b : List Int) (h5 : ¬ b.length < 5) : oneP b = oneR (val (b.take 4)) (rd b 4) (b.drop 5) := by
  unfold oneP oneR
  rw [if_neg h5]
  rfl
set_option maxRecDepth 100000 in
set_option maxHeartbeats 4000000 in
theorem one_short (w0 w : World) (A : Option Addr) (c : Nat) (b : List Int) (hC : (Kd.int .u8).C w0 A b.length b) (h0 : Below w0.heap.size w0 w) (hs0 : w0.heap.size ≤ w.heap.size) (hc : b.length ≤ c) (hby : Bys b) (h5 : b.length < 5) :
    Calls Try.prog 39 #[.slice A b.length c] w fun e w' => OneGave w0 w (oneP b) e w' ∧ Below w.heap.size w w' := by
  have C1 := Aside0.mk (fun W => cut_short W A c 5 b h5)
  have E := Aside0.mk (show oneP b = none by unfold oneP; rw [if_pos h5])
  have hB := below_alloc (Below.refl w.heap.size w) (.cells #[.int .i64 0, .int .i64 0, .string ⟨#[]⟩, .string ⟨#[]⟩, .int .i64 0, .slice none 0 0, .slice none 0 0, .bool false] 46)
  have hT := heap_alloc_new w (.cells #[.int .i64 0, .int .i64 0, .string ⟨#[]⟩, .string ⟨#[]⟩, .int .i64 0, .slice none 0 0, .slice none 0 0, .bool false] 46)
  clear hC h5
  go_enter Try.func39, Try.ntmps39
  go_wp2_with fail
  obtain ⟨W1, hW1⟩ : ∃ x, x = w.alloc (.cells #[.int .i64 0, .int .i64 0, .string ⟨#[]⟩, .string ⟨#[]⟩, .int .i64 0, .slice none 0 0, .slice none 0 0, .bool false] 46) := ⟨_, rfl⟩
  rw [← hW1] at hB hT ⊢
  clear hW1
  refine (C1.out W1).mono ?_
  rintro e w2 ⟨rfl, hb⟩
  have HB := Aside0.mk (below_step hB hb)
  have HT := Aside0.mk ((hb.block _ (blk_lt hT)).trans hT)
  clear hb hB hT C1
  obtain ⟨t0, t1, t2, t3, t4, t5, t6, t7, t8⟩ := blk8 HT.out
  have S := Aside0.mk (set8_q HT.out (.int .i64 0) (.int .i64 0) (.string ⟨#[]⟩) (.string ⟨#[]⟩) (.int .i64 0) (.slice none 0 0) (.slice none 0 0) (.bool false))
  have SB := Aside0.mk (Ch.to_below (B := w.heap.size) (set8_ch w2 w.heap.size (.int .i64 0) (.int .i64 0) (.string ⟨#[]⟩) (.string ⟨#[]⟩) (.int .i64 0) (.slice none 0 0) (.slice none 0 0) (.bool false)) (fun k hk => Nat.le_of_eq hk.symm) (HB.out.size))
  go_wp2_with fail
  change bodyPost Try.prog Try.f39 _ Exit.ret _ (set8 w2 w.heap.size (.int .i64 0) (.int .i64 0) (.string ⟨#[]⟩) (.string ⟨#[]⟩) (.int .i64 0) (.slice none 0 0) (.slice none 0 0) (.bool false))
  clear t0 t1 t2 t3 t4 t5 t6 t7 t8
  generalize set8 w2 w.heap.size (.int .i64 0) (.int .i64 0) (.string ⟨#[]⟩) (.string ⟨#[]⟩) (.int .i64 0) (.slice none 0 0) (.slice none 0 0) (.bool false) = w99 at *
  obtain ⟨d0, d1, d2, d3, d4, d5, d6, d7, d8⟩ := blk8 S.out
  refine bodyPost_ret (v := .tuple #[.agg #[.int .i64 0, .int .i64 0, .string ⟨#[]⟩, .string ⟨#[]⟩, .int .i64 0, .slice none 0 0, .slice none 0 0, .bool false], .slice none 0 0, .bool false]) (by simp [results, Try.results39, go_sem, d0, d1, d2, d3, d4, d5, d6, d7]) rfl ?_
  rw [E.out]
  exact ⟨⟨_, _, _, _, _, _, _, _, _, _, _, _, rfl⟩, HB.out.trans SB.out⟩
set_option maxRecDepth 100000 in
set_option maxHeartbeats 4000000 in
theorem one_long (w0 w : World) (A : Option Addr) (c : Nat) (b : List Int) (hC : (Kd.int .u8).C w0 A b.length b) (h0 : Below w0.heap.size w0 w) (hs0 : w0.heap.size ≤ w.heap.size) (hc : b.length ≤ c) (hby : Bys b) (h5 : ¬ b.length < 5) :
    Calls Try.prog 39 #[.slice A b.length c] w fun e w' => OneGave w0 w (oneP b) e w' ∧ Below w.heap.size w w' := by
  have C1 := cut_ok w0 (w.alloc (.cells #[.int .i64 0, .int .i64 0, .string ⟨#[]⟩, .string ⟨#[]⟩, .int .i64 0, .slice none 0 0, .slice none 0 0, .bool false] 46)) A c 5 b hC hc (by omega)
  have hlx : (b.take 5).length = 5 := by rw [List.length_take]; omega
  have hk0 := hby (rd b 4) (by rw [show rd b 4 = b[4] by simp [rd, List.getD, show 4 < b.length by omega]]; exact List.getElem_mem _)
  have hrd : rd (b.take 5) 4 = rd b 4 := by simp [rd, List.getD_eq_getElem?_getD]
  have ht4 : (b.take 5).take 4 = b.take 4 := by rw [List.take_take]; rfl
  have hid := val_le (b.take 4) (bys_take hby 4) 4 (by rw [List.length_take]; omega)
  have HX4 := Aside0.mk (show Bys ((b.take 5).take 4) from bys_take (bys_take hby 5) 4)
  have hl4 : ((b.take 5).take 4).length = 4 := by rw [List.length_take]; omega
  have E := one_eq b h5
  have HBY := Aside0.mk (bys_drop hby 5)
  rw [← ht4] at E hid
  rw [← hrd] at E hk0
  have hB := below_alloc (Below.refl w.heap.size w) (.cells #[.int .i64 0, .int .i64 0, .string ⟨#[]⟩, .string ⟨#[]⟩, .int .i64 0, .slice none 0 0, .slice none 0 0, .bool false] 46)
  have hT := heap_alloc_new w (.cells #[.int .i64 0, .int .i64 0, .string ⟨#[]⟩, .string ⟨#[]⟩, .int .i64 0, .slice none 0 0, .slice none 0 0, .bool false] 46)
  have H0 := Aside0.mk h0
  have HE := Aside0.mk E
  clear hC h5 hby hrd ht4 E h0
  generalize oneP b = res at *
  generalize b.take 5 = x at *
  generalize b.drop 5 = y at *
  go_enter Try.func39, Try.ntmps39
  go_wp2_with fail
  obtain ⟨W1, hW1⟩ : ∃ x, x = w.alloc (.cells #[.int .i64 0, .int .i64 0, .string ⟨#[]⟩, .string ⟨#[]⟩, .int .i64 0, .slice none 0 0, .slice none 0 0, .bool false] 46) := ⟨_, rfl⟩
  rw [← hW1] at hB hT C1 ⊢
  clear hW1
  refine C1.mono ?_
  rintro e w2 ⟨⟨A1, c1, A2, c2, rfl, l1, l2, g1, g2⟩, hb⟩
  have HB := Aside0.mk (below_step hB hb)
  have HB0 := Aside0.mk (below_step (H0.out.trans (hB.mono hs0)) hb)
  have HT := Aside0.mk ((hb.block _ (blk_lt hT)).trans hT)
  have G1 := Aside0.mk g1
  have G2 := Aside0.mk g2
  clear hb hB hT C1 H0
  obtain ⟨ad, ea, hcell⟩ := Kd.at_int (Kd.C_below g1 HB0.out) 4 (by omega) (by omega)
  cases ea
  have CV := Aside0.mk (fun (W : World) (hW : Below w0.heap.size w0 W) => value_calls W (some ad) c1 (x.take 4) (Kd.C_below (Kd.C_take G1.out (by omega)) hW) (by omega) HX4.out (by omega))
  rw [hl4] at CV
  rw [hlx]
  clear g1 g2
  generalize rd x 4 = k at *
  have hc4 : 4 ≤ c1 := by omega
  have hc4i : (4 : Int) ≤ (c1 : Int) := by omega
  clear l1 hlx
  have hkw : IntKind.i64.wrap k = k := by rw [IntKind.wrap_i64]; omega
  generalize val (x.take 4) = id at *
  clear hl4 HX4

  have HC4 : w2.drew.cell? ⟨ad.block, ad.off + 4, none⟩ = some (.int .u8 k) := hcell
  have HTd := Aside0.mk (show w2.drew.heap[w.heap.size]? = _ from HT.out)
  have HBd := Aside0.mk (below_drew1 HB.out)
  have HB0d := Aside0.mk (below_drew1 HB0.out)
  have HCa : ∀ o, (w2.drew.alloc o).cell? ⟨ad.block, ad.off + 4, none⟩ = some (.int .u8 k) := fun o => pw_cell_below (below_alloc (Below.refl _ _) o) HC4
  have HCb : (w2.alloc (.cells #[.int .i64 0, .int .i64 0, .string ⟨#[]⟩, .string ⟨#[]⟩, .int .i64 0, .slice none 0 0, .slice none 0 0, .bool false] 46)).drew.cell? ⟨ad.block, ad.off + 4, none⟩ = some (.int .u8 k) := pw_cell_below (below_alloc (Below.refl _ _) _) hcell
  clear hcell
  go_upto_region 4 with (fail)
  go_region_held3 (fun w' => w'.cell? ⟨ad.block, ad.off + 4, none⟩ = some (.int .u8 k)) (first | with_reducible exact HC4 | with_reducible exact HCb | with_reducible exact HCa _ | with_reducible exact hk9 | with_reducible exact hk9a _ | with_reducible exact hk9s) (first
    | (go_at_call 27; (with_reducible refine (CV.out w2.drew HB0d.out).mono ?_); rintro e w3 ⟨rfl, hb⟩; have hk9 := pw_cell_below hb HC4; have hk9a : ∀ o, (w3.alloc o).cell? ⟨ad.block, ad.off + 4, none⟩ = some (.int .u8 k) := fun o => pw_cell_below (below_alloc (Below.refl _ _) o) hk9; have O3 := On.fresh (cs := #[.int .i64 id, .int .i64 k, .string ⟨#[]⟩, .string ⟨#[]⟩, .int .i64 0, .slice none 0 0, .slice none 0 0, .bool false]) ((hb.block _ (blk_lt HTd.out)).trans HTd.out) (below_step HBd.out hb) (below_step HB0d.out hb) hs0; have O4 := Aside0.mk O3; have hx4 := hk9a (.cells #[.int .i64 id, .int .i64 k, .string ⟨#[]⟩, .string ⟨#[]⟩, .int .i64 0, .slice none 0 0, .slice none 0 0, .bool false] 46); clear hb O3)
    | (go_at_call 27; (with_reducible refine (CV.out (w2.alloc (.cells #[.int .i64 0, .int .i64 0, .string ⟨#[]⟩, .string ⟨#[]⟩, .int .i64 0, .slice none 0 0, .slice none 0 0, .bool false] 46)).drew (below_drew1 (below_alloc HB0.out _))).mono ?_); rintro e w3 ⟨rfl, hb⟩; have hk9 := pw_cell_below hb HCb; have O3 := ((On.fresh (cs := #[.int .i64 0, .int .i64 0, .string ⟨#[]⟩, .string ⟨#[]⟩, .int .i64 0, .slice none 0 0, .slice none 0 0, .bool false]) HT.out HB.out HB0.out hs0).next (below_drew1 (Below.refl _ _))).next hb; obtain ⟨a0, a1, a2, a3, a4, a5, a6, a7, a8⟩ := blk8 O3.q; have O4' := O3.set8 (.int .i64 id) (.int .i64 k) (.string ⟨#[]⟩) (.string ⟨#[]⟩) (.int .i64 0) (.slice none 0 0) (.slice none 0 0) (.bool false); simp only [set8] at O4'; have O4 := Aside0.mk O4'; have hk9s : (set8 w3 w2.heap.size (.int .i64 id) (.int .i64 k) (.string ⟨#[]⟩) (.string ⟨#[]⟩) (.int .i64 0) (.slice none 0 0) (.slice none 0 0) (.bool false)).cell? ⟨ad.block, ad.off + 4, none⟩ = some (.int .u8 k) := (set8_ch w3 w2.heap.size (.int .i64 id) (.int .i64 k) (.string ⟨#[]⟩) (.string ⟨#[]⟩) (.int .i64 0) (.slice none 0 0) (.slice none 0 0) (.bool false)).cell hk9 (fun e => by have := World.block_lt_of_cell? _ _ HC4; exact absurd e (Nat.ne_of_lt this)); simp only [set8] at hk9s; have hx4 := hk9s; clear hb O3 O4'))
  · clear hk9 hk9a HC4 HCa HCb HTd HBd HB0d HT HB HB0 CV hc4i
    obtain ⟨W4, hW⟩ : ∃ x, x = w3.alloc (.cells #[.int .i64 id, .int .i64 k, .string ⟨#[]⟩, .string ⟨#[]⟩, .int .i64 0, .slice none 0 0, .slice none 0 0, .bool false] 46) := ⟨_, rfl⟩
    rw [← hW] at O4 hx4 ⊢
    obtain ⟨g, hg⟩ : ∃ x, x = w3.heap.size := ⟨_, rfl⟩
    rw [← hg] at O4 ⊢
    clear hW hg
    by_cases hk : k = 0
    · subst hk
      have HE0 := Aside0.mk (show res = some (⟨id, ⟨0, ⟨#[]⟩, ⟨#[]⟩, 0, [], [], true⟩⟩, y) by rw [HE.out]; unfold oneR; rw [if_pos rfl]; rfl)
      clear HE
      obtain ⟨a0, a1, a2, a3, a4, a5, a6, a7, a8⟩ := blk8 O4.out.q
      go_upto_region 7 with (fail)
      have O6x := O4.out.set (i := 7) (v := .bool true) (blk_upd (cs' := #[.int .i64 id, .int .i64 0, .string ⟨#[]⟩, .string ⟨#[]⟩, .int .i64 0, .slice none 0 0, .slice none 0 0, .bool true]) 7 (.bool true) O4.out.q rfl)
      obtain ⟨W6, hW⟩ : ∃ x, x = World.setCell W4 ⟨g, 7, none⟩ (.bool true) := ⟨_, rfl⟩
      rw [← hW] at O6x ⊢
      clear hW
      have O6 := Aside0.mk O6x
      clear O6x O4 a0 a1 a2 a3 a4 a5 a6 a7 a8
      have HB := Aside0.mk O6.out.b
      obtain ⟨t0, t1, t2, t3, t4, t5, t6, t7, t8⟩ := blk8 O6.out.t
      obtain ⟨a0, a1, a2, a3, a4, a5, a6, a7, a8⟩ := blk8 O6.out.q
      have S := Aside0.mk (set8_q O6.out.t (.int .i64 id) (.int .i64 0) (.string ⟨#[]⟩) (.string ⟨#[]⟩) (.int .i64 0) (.slice none 0 0) (.slice none 0 0) (.bool true))
      have SB := Aside0.mk (Ch.to_below (B := w.heap.size) (set8_ch W6 w.heap.size (.int .i64 id) (.int .i64 0) (.string ⟨#[]⟩) (.string ⟨#[]⟩) (.int .i64 0) (.slice none 0 0) (.slice none 0 0) (.bool true)) (fun k hk => Nat.le_of_eq hk.symm) (HB.out.size))
      go_wp2_with fail
      change bodyPost Try.prog Try.f39 _ Exit.ret _ (set8 W6 w.heap.size (.int .i64 id) (.int .i64 0) (.string ⟨#[]⟩) (.string ⟨#[]⟩) (.int .i64 0) (.slice none 0 0) (.slice none 0 0) (.bool true))
      clear t0 t1 t2 t3 t4 t5 t6 t7 t8 a0 a1 a2 a3 a4 a5 a6 a7 a8
      generalize set8 W6 w.heap.size (.int .i64 id) (.int .i64 0) (.string ⟨#[]⟩) (.string ⟨#[]⟩) (.int .i64 0) (.slice none 0 0) (.slice none 0 0) (.bool true) = w99 at *
      obtain ⟨d0, d1, d2, d3, d4, d5, d6, d7, d8⟩ := blk8 S.out
      refine bodyPost_ret (v := .tuple #[.agg #[.int .i64 id, .int .i64 0, .string ⟨#[]⟩, .string ⟨#[]⟩, .int .i64 0, .slice none 0 0, .slice none 0 0, .bool true], .slice A2 y.length c2, .bool true]) (by simp [results, Try.results39, go_sem, d0, d1, d2, d3, d4, d5, d6, d7]) rfl ?_
      rw [HE0.out]
      exact ⟨⟨[.int .i64 id, .int .i64 0, .string ⟨#[]⟩, .string ⟨#[]⟩, .int .i64 0, .slice none 0 0, .slice none 0 0, .bool true], A2, c2, rfl, k46_mkM _ _ _ ⟨id, ⟨0, ⟨#[]⟩, ⟨#[]⟩, 0, [], [], true⟩⟩ (Kd.R_nil _ _ _ _ _) (Kd.R_nil _ _ _ _ _), l2, G2.out⟩, HB.out.trans SB.out⟩
    · have hk' : (k == 0) = false := by simpa using hk
      have HK := Aside0.mk hk
      clear hk
      obtain ⟨a0, a1, a2, a3, a4, a5, a6, a7, a8⟩ := blk8 O4.out.q
      go_wp2_with fail
      clear a0 a1 a2 a3 a4 a5 a6 a7 a8 hx4 hk'
      by_cases h9 : y.length < 4
      · refine (cut_short W4 A2 c2 4 y h9).mono ?_
        rintro e w5 ⟨rfl, hb⟩
        have O5 := Aside0.mk (O4.out.next hb)
        have H9 := Aside0.mk h9
        clear hb O4 h9
        have HB := Aside0.mk O5.out.b
        obtain ⟨t0, t1, t2, t3, t4, t5, t6, t7, t8⟩ := blk8 O5.out.t
        obtain ⟨a0, a1, a2, a3, a4, a5, a6, a7, a8⟩ := blk8 O5.out.q
        have S := Aside0.mk (set8_q O5.out.t (.int .i64 id) (.int .i64 k) (.string ⟨#[]⟩) (.string ⟨#[]⟩) (.int .i64 0) (.slice none 0 0) (.slice none 0 0) (.bool false))
        have SB := Aside0.mk (Ch.to_below (B := w.heap.size) (set8_ch w5 w.heap.size (.int .i64 id) (.int .i64 k) (.string ⟨#[]⟩) (.string ⟨#[]⟩) (.int .i64 0) (.slice none 0 0) (.slice none 0 0) (.bool false)) (fun k hk => Nat.le_of_eq hk.symm) (HB.out.size))
        go_wp2_with fail
        change bodyPost Try.prog Try.f39 _ Exit.ret _ (set8 w5 w.heap.size (.int .i64 id) (.int .i64 k) (.string ⟨#[]⟩) (.string ⟨#[]⟩) (.int .i64 0) (.slice none 0 0) (.slice none 0 0) (.bool false))
        clear t0 t1 t2 t3 t4 t5 t6 t7 t8 a0 a1 a2 a3 a4 a5 a6 a7 a8
        generalize set8 w5 w.heap.size (.int .i64 id) (.int .i64 k) (.string ⟨#[]⟩) (.string ⟨#[]⟩) (.int .i64 0) (.slice none 0 0) (.slice none 0 0) (.bool false) = w99 at *
        obtain ⟨d0, d1, d2, d3, d4, d5, d6, d7, d8⟩ := blk8 S.out
        refine bodyPost_ret (v := .tuple #[.agg #[.int .i64 id, .int .i64 k, .string ⟨#[]⟩, .string ⟨#[]⟩, .int .i64 0, .slice none 0 0, .slice none 0 0, .bool false], .slice none 0 0, .bool false]) (by simp [results, Try.results39, go_sem, d0, d1, d2, d3, d4, d5, d6, d7]) rfl ?_
        rw [show res = none by rw [HE.out]; unfold oneR; rw [if_neg HK.out, if_pos H9.out]]
        exact ⟨⟨_, _, _, _, _, _, _, _, _, _, _, _, rfl⟩, HB.out.trans SB.out⟩
      · have C4 := cut_ok w0 W4 A2 c2 4 y G2.out l2 (by omega)
        have H9 := Aside0.mk h9
        have HPL := Aside0.mk (show (y.take 4).length ≤ 4 from List.length_take_le _ _)
        have HPB := Aside0.mk (bys_take HBY.out 4)
        have HRB := Aside0.mk (bys_drop HBY.out 4)
        clear h9
        obtain ⟨p, hp⟩ : ∃ p, p = y.take 4 := ⟨_, rfl⟩
        obtain ⟨r0, hr0⟩ : ∃ p, p = y.drop 4 := ⟨_, rfl⟩
        rw [← hp] at C4 HPL HPB
        rw [← hr0] at C4 HRB
        have EP := Aside0.mk hp
        have ER := Aside0.mk hr0
        clear hp hr0
        refine C4.mono ?_
        rintro e w5 ⟨⟨A3, c3, A4, c4, rfl, l3, l4, g3, g4⟩, hb⟩
        have O5 := Aside0.mk (O4.out.next hb)
        have G3 := Aside0.mk g3
        have G4 := Aside0.mk g4
        clear hb O4 g3 g4 C4
        go_wp2_with fail
        refine (value_calls w5 A3 c3 p (Kd.C_below G3.out O5.out.b0) l3 HPB.out HPL.out).mono ?_
        rintro e w6 ⟨rfl, hb⟩
        have O6 := Aside0.mk (O5.out.next hb)
        clear hb O5 G3 HPB HPL
        obtain ⟨a0, a1, a2, a3, a4, a5, a6, a7, a8⟩ := blk8 O6.out.q
        go_wp2_with fail
        have O7x := O6.out.set (i := 4) (v := .int .i64 (val p)) (blk_upd (cs' := #[.int .i64 id, .int .i64 k, .string ⟨#[]⟩, .string ⟨#[]⟩, .int .i64 (val p), .slice none 0 0, .slice none 0 0, .bool false]) 4 (.int .i64 (val p)) O6.out.q rfl)
        obtain ⟨W7, hW⟩ : ∃ x, x = World.setCell w6 ⟨g, 4, none⟩ (.int .i64 (val p)) := ⟨_, rfl⟩
        rw [← hW] at O7x ⊢
        clear hW
        have O7 := Aside0.mk O7x
        clear O7x O6 a0 a1 a2 a3 a4 a5 a6 a7 a8
        have CL0 : Calls Try.prog 46 #[.slice A4 r0.length c4, .int .i64 1] W7 _ := long_calls w0 W7 A4 c4 1 r0 G4.out O7.out.b0 l4 HRB.out (by decide)
        have LB0 := Aside0.mk (fun x y h => long_bys (each := 1) (b := r0) (x := x) (y := y) h HRB.out)
        cases hl0 : longP 1 r0 with
        | none =>
          rw [hl0] at CL0
          have E0 := Aside0.mk hl0
          clear hl0
          refine CL0.mono ?_
          rintro e w8 ⟨rfl, hb⟩
          have O8 := Aside0.mk (O7.out.next hb)
          clear hb O7 CL0
          have HB := Aside0.mk O8.out.b
          obtain ⟨t0, t1, t2, t3, t4, t5, t6, t7, t8⟩ := blk8 O8.out.t
          obtain ⟨a0, a1, a2, a3, a4, a5, a6, a7, a8⟩ := blk8 O8.out.q
          have S := Aside0.mk (set8_q O8.out.t (.int .i64 id) (.int .i64 k) (.string ⟨#[]⟩) (.string ⟨#[]⟩) (.int .i64 (val p)) (.slice none 0 0) (.slice none 0 0) (.bool false))
          have SB := Aside0.mk (Ch.to_below (B := w.heap.size) (set8_ch w8 w.heap.size (.int .i64 id) (.int .i64 k) (.string ⟨#[]⟩) (.string ⟨#[]⟩) (.int .i64 (val p)) (.slice none 0 0) (.slice none 0 0) (.bool false)) (fun k hk => Nat.le_of_eq hk.symm) (HB.out.size))
          go_wp2_with fail
          change bodyPost Try.prog Try.f39 _ Exit.ret _ (set8 w8 w.heap.size (.int .i64 id) (.int .i64 k) (.string ⟨#[]⟩) (.string ⟨#[]⟩) (.int .i64 (val p)) (.slice none 0 0) (.slice none 0 0) (.bool false))
          clear t0 t1 t2 t3 t4 t5 t6 t7 t8 a0 a1 a2 a3 a4 a5 a6 a7 a8
          generalize set8 w8 w.heap.size (.int .i64 id) (.int .i64 k) (.string ⟨#[]⟩) (.string ⟨#[]⟩) (.int .i64 (val p)) (.slice none 0 0) (.slice none 0 0) (.bool false) = w99 at *
          obtain ⟨d0, d1, d2, d3, d4, d5, d6, d7, d8⟩ := blk8 S.out
          refine bodyPost_ret (v := .tuple #[.agg #[.int .i64 id, .int .i64 k, .string ⟨#[]⟩, .string ⟨#[]⟩, .int .i64 (val p), .slice none 0 0, .slice none 0 0, .bool false], .slice none 0 0, .bool false]) (by simp [results, Try.results39, go_sem, d0, d1, d2, d3, d4, d5, d6, d7]) rfl ?_
          rw [show res = none by rw [HE.out]; unfold oneR; rw [if_neg HK.out, if_neg H9.out]; simp only [← EP.out, ← ER.out, E0.out]]
          exact ⟨⟨_, _, _, _, _, _, _, _, _, _, _, _, rfl⟩, HB.out.trans SB.out⟩
        | some pr =>
          obtain ⟨nm, r1⟩ := pr
          rw [hl0] at CL0
          have E0 := Aside0.mk hl0
          have BX0 := Aside0.mk (LB0.out _ _ hl0).1
          have BY0 := Aside0.mk (LB0.out _ _ hl0).2
          clear hl0 LB0
          refine CL0.mono ?_
          rintro e w8 ⟨⟨X0, x0, Y0, y0, rfl, lx0, ly0, gx0, gy0⟩, hb⟩
          have O8 := Aside0.mk (O7.out.next hb)
          have GX0 := Aside0.mk gx0
          have GY0 := Aside0.mk gy0
          clear hb O7 CL0 gx0 gy0
          go_wp2_with fail
          have CL1 : Calls Try.prog 46 #[.slice Y0 r1.length y0, .int .i64 1] w8 _ := long_calls w0 w8 Y0 y0 1 r1 GY0.out O8.out.b0 ly0 BY0.out (by decide)
          have LB1 := Aside0.mk (fun x y h => long_bys (each := 1) (b := r1) (x := x) (y := y) h BY0.out)
          cases hl1 : longP 1 r1 with
          | none =>
            rw [hl1] at CL1
            have E1 := Aside0.mk hl1
            clear hl1
            refine CL1.mono ?_
            rintro e w9 ⟨rfl, hb⟩
            have O9 := Aside0.mk (O8.out.next hb)
            clear hb O8 CL1
            have HB := Aside0.mk O9.out.b
            obtain ⟨t0, t1, t2, t3, t4, t5, t6, t7, t8⟩ := blk8 O9.out.t
            obtain ⟨a0, a1, a2, a3, a4, a5, a6, a7, a8⟩ := blk8 O9.out.q
            have S := Aside0.mk (set8_q O9.out.t (.int .i64 id) (.int .i64 k) (.string ⟨#[]⟩) (.string ⟨#[]⟩) (.int .i64 (val p)) (.slice none 0 0) (.slice none 0 0) (.bool false))
            have SB := Aside0.mk (Ch.to_below (B := w.heap.size) (set8_ch w9 w.heap.size (.int .i64 id) (.int .i64 k) (.string ⟨#[]⟩) (.string ⟨#[]⟩) (.int .i64 (val p)) (.slice none 0 0) (.slice none 0 0) (.bool false)) (fun k hk => Nat.le_of_eq hk.symm) (HB.out.size))
            go_wp2_with fail
            change bodyPost Try.prog Try.f39 _ Exit.ret _ (set8 w9 w.heap.size (.int .i64 id) (.int .i64 k) (.string ⟨#[]⟩) (.string ⟨#[]⟩) (.int .i64 (val p)) (.slice none 0 0) (.slice none 0 0) (.bool false))
            clear t0 t1 t2 t3 t4 t5 t6 t7 t8 a0 a1 a2 a3 a4 a5 a6 a7 a8
            generalize set8 w9 w.heap.size (.int .i64 id) (.int .i64 k) (.string ⟨#[]⟩) (.string ⟨#[]⟩) (.int .i64 (val p)) (.slice none 0 0) (.slice none 0 0) (.bool false) = w99 at *
            obtain ⟨d0, d1, d2, d3, d4, d5, d6, d7, d8⟩ := blk8 S.out
            refine bodyPost_ret (v := .tuple #[.agg #[.int .i64 id, .int .i64 k, .string ⟨#[]⟩, .string ⟨#[]⟩, .int .i64 (val p), .slice none 0 0, .slice none 0 0, .bool false], .slice none 0 0, .bool false]) (by simp [results, Try.results39, go_sem, d0, d1, d2, d3, d4, d5, d6, d7]) rfl ?_
            rw [show res = none by rw [HE.out]; unfold oneR; rw [if_neg HK.out, if_neg H9.out]; simp only [← EP.out, ← ER.out, E0.out, E1.out]]
            exact ⟨⟨_, _, _, _, _, _, _, _, _, _, _, _, rfl⟩, HB.out.trans SB.out⟩
          | some pr =>
            obtain ⟨tx, r2⟩ := pr
            rw [hl1] at CL1
            have E1 := Aside0.mk hl1
            have BX1 := Aside0.mk (LB1.out _ _ hl1).1
            have BY1 := Aside0.mk (LB1.out _ _ hl1).2
            clear hl1 LB1
            refine CL1.mono ?_
            rintro e w9 ⟨⟨X1, x1, Y1, y1, rfl, lx1, ly1, gx1, gy1⟩, hb⟩
            have O9 := Aside0.mk (O8.out.next hb)
            have GX1 := Aside0.mk gx1
            have GY1 := Aside0.mk gy1
            clear hb O8 CL1 gx1 gy1
            go_wp2_with fail
            have CL2 : Calls Try.prog 46 #[.slice Y1 r2.length y1, .int .i64 4] w9 _ := long_calls w0 w9 Y1 y1 4 r2 GY1.out O9.out.b0 ly1 BY1.out (by decide)
            have LB2 := Aside0.mk (fun x y h => long_bys (each := 4) (b := r2) (x := x) (y := y) h BY1.out)
            cases hl2 : longP 4 r2 with
            | none =>
              rw [hl2] at CL2
              have E2 := Aside0.mk hl2
              clear hl2
              refine CL2.mono ?_
              rintro e w10 ⟨rfl, hb⟩
              have O10 := Aside0.mk (O9.out.next hb)
              clear hb O9 CL2
              have HB := Aside0.mk O10.out.b
              obtain ⟨t0, t1, t2, t3, t4, t5, t6, t7, t8⟩ := blk8 O10.out.t
              obtain ⟨a0, a1, a2, a3, a4, a5, a6, a7, a8⟩ := blk8 O10.out.q
              have S := Aside0.mk (set8_q O10.out.t (.int .i64 id) (.int .i64 k) (.string ⟨#[]⟩) (.string ⟨#[]⟩) (.int .i64 (val p)) (.slice none 0 0) (.slice none 0 0) (.bool false))
              have SB := Aside0.mk (Ch.to_below (B := w.heap.size) (set8_ch w10 w.heap.size (.int .i64 id) (.int .i64 k) (.string ⟨#[]⟩) (.string ⟨#[]⟩) (.int .i64 (val p)) (.slice none 0 0) (.slice none 0 0) (.bool false)) (fun k hk => Nat.le_of_eq hk.symm) (HB.out.size))
              go_wp2_with fail
              change bodyPost Try.prog Try.f39 _ Exit.ret _ (set8 w10 w.heap.size (.int .i64 id) (.int .i64 k) (.string ⟨#[]⟩) (.string ⟨#[]⟩) (.int .i64 (val p)) (.slice none 0 0) (.slice none 0 0) (.bool false))
              clear t0 t1 t2 t3 t4 t5 t6 t7 t8 a0 a1 a2 a3 a4 a5 a6 a7 a8
              generalize set8 w10 w.heap.size (.int .i64 id) (.int .i64 k) (.string ⟨#[]⟩) (.string ⟨#[]⟩) (.int .i64 (val p)) (.slice none 0 0) (.slice none 0 0) (.bool false) = w99 at *
              obtain ⟨d0, d1, d2, d3, d4, d5, d6, d7, d8⟩ := blk8 S.out
              refine bodyPost_ret (v := .tuple #[.agg #[.int .i64 id, .int .i64 k, .string ⟨#[]⟩, .string ⟨#[]⟩, .int .i64 (val p), .slice none 0 0, .slice none 0 0, .bool false], .slice none 0 0, .bool false]) (by simp [results, Try.results39, go_sem, d0, d1, d2, d3, d4, d5, d6, d7]) rfl ?_
              rw [show res = none by rw [HE.out]; unfold oneR; rw [if_neg HK.out, if_neg H9.out]; simp only [← EP.out, ← ER.out, E0.out, E1.out, E2.out]]
              exact ⟨⟨_, _, _, _, _, _, _, _, _, _, _, _, rfl⟩, HB.out.trans SB.out⟩
            | some pr =>
              obtain ⟨ks, r3⟩ := pr
              rw [hl2] at CL2
              have E2 := Aside0.mk hl2
              have BX2 := Aside0.mk (LB2.out _ _ hl2).1
              have BY2 := Aside0.mk (LB2.out _ _ hl2).2
              have LR2 := Aside0.mk ((long_row r2).2 _ _ hl2).2
              have LV2 := Aside0.mk (val_two (bys_take BY1.out 2) (List.length_take_le _ _))
              clear hl2 LB2
              refine CL2.mono ?_
              rintro e w10 ⟨⟨X2, x2, Y2, y2, rfl, lx2, ly2, gx2, gy2⟩, hb⟩
              have O10 := Aside0.mk (O9.out.next hb)
              have GX2 := Aside0.mk gx2
              have GY2 := Aside0.mk gy2
              clear hb O9 CL2 gx2 gy2
              go_wp2_with fail
              have CL3 : Calls Try.prog 46 #[.slice Y2 r3.length y2, .int .i64 4] w10 _ := long_calls w0 w10 Y2 y2 4 r3 GY2.out O10.out.b0 ly2 BY2.out (by decide)
              have LB3 := Aside0.mk (fun x y h => long_bys (each := 4) (b := r3) (x := x) (y := y) h BY2.out)
              cases hl3 : longP 4 r3 with
              | none =>
                rw [hl3] at CL3
                have E3 := Aside0.mk hl3
                clear hl3
                refine CL3.mono ?_
                rintro e w11 ⟨rfl, hb⟩
                have O11 := Aside0.mk (O10.out.next hb)
                clear hb O10 CL3
                have HB := Aside0.mk O11.out.b
                obtain ⟨t0, t1, t2, t3, t4, t5, t6, t7, t8⟩ := blk8 O11.out.t
                obtain ⟨a0, a1, a2, a3, a4, a5, a6, a7, a8⟩ := blk8 O11.out.q
                have S := Aside0.mk (set8_q O11.out.t (.int .i64 id) (.int .i64 k) (.string ⟨#[]⟩) (.string ⟨#[]⟩) (.int .i64 (val p)) (.slice none 0 0) (.slice none 0 0) (.bool false))
                have SB := Aside0.mk (Ch.to_below (B := w.heap.size) (set8_ch w11 w.heap.size (.int .i64 id) (.int .i64 k) (.string ⟨#[]⟩) (.string ⟨#[]⟩) (.int .i64 (val p)) (.slice none 0 0) (.slice none 0 0) (.bool false)) (fun k hk => Nat.le_of_eq hk.symm) (HB.out.size))
                go_wp2_with fail
                change bodyPost Try.prog Try.f39 _ Exit.ret _ (set8 w11 w.heap.size (.int .i64 id) (.int .i64 k) (.string ⟨#[]⟩) (.string ⟨#[]⟩) (.int .i64 (val p)) (.slice none 0 0) (.slice none 0 0) (.bool false))
                clear t0 t1 t2 t3 t4 t5 t6 t7 t8 a0 a1 a2 a3 a4 a5 a6 a7 a8
                generalize set8 w11 w.heap.size (.int .i64 id) (.int .i64 k) (.string ⟨#[]⟩) (.string ⟨#[]⟩) (.int .i64 (val p)) (.slice none 0 0) (.slice none 0 0) (.bool false) = w99 at *
                obtain ⟨d0, d1, d2, d3, d4, d5, d6, d7, d8⟩ := blk8 S.out
                refine bodyPost_ret (v := .tuple #[.agg #[.int .i64 id, .int .i64 k, .string ⟨#[]⟩, .string ⟨#[]⟩, .int .i64 (val p), .slice none 0 0, .slice none 0 0, .bool false], .slice none 0 0, .bool false]) (by simp [results, Try.results39, go_sem, d0, d1, d2, d3, d4, d5, d6, d7]) rfl ?_
                rw [show res = none by rw [HE.out]; unfold oneR; rw [if_neg HK.out, if_neg H9.out]; simp only [← EP.out, ← ER.out, E0.out, E1.out, E2.out, E3.out]]
                exact ⟨⟨_, _, _, _, _, _, _, _, _, _, _, _, rfl⟩, HB.out.trans SB.out⟩
              | some pr =>
                obtain ⟨bs, r4⟩ := pr
                rw [hl3] at CL3
                have E3 := Aside0.mk hl3
                have BX3 := Aside0.mk (LB3.out _ _ hl3).1
                have BY3 := Aside0.mk (LB3.out _ _ hl3).2
                have LR3 := Aside0.mk ((long_row r3).2 _ _ hl3).2
                have LV3 := Aside0.mk (val_two (bys_take BY2.out 2) (List.length_take_le _ _))
                clear hl3 LB3
                refine CL3.mono ?_
                rintro e w11 ⟨⟨X3, x3, Y3, y3, rfl, lx3, ly3, gx3, gy3⟩, hb⟩
                have O11 := Aside0.mk (O10.out.next hb)
                have GX3 := Aside0.mk gx3
                have GY3 := Aside0.mk gy3
                clear hb O10 CL3 gx3 gy3
                obtain ⟨a0, a1, a2, a3, a4, a5, a6, a7, a8⟩ := blk8 O11.out.q
                have hcv1 : (convert 28 9 (.slice X0 nm.length x0)).run Try.prog w11 = .ok (.string (strOfNums nm)) w11 := Kd.C_string Try.underlying28 Try.underlying5 Try.underlying9 (Kd.C_below GX0.out O11.out.b0)
                have O12 := O11.out.set (i := 2) (v := .string (strOfNums nm)) (blk_upd (cs' := #[.int .i64 id, .int .i64 k, .string (strOfNums nm), .string ⟨#[]⟩, .int .i64 (val p), .slice none 0 0, .slice none 0 0, .bool false]) 2 (.string (strOfNums nm)) O11.out.q rfl)
                have hcv2 : (convert 28 9 (.slice X1 tx.length x1)).run Try.prog (w11.setCell ⟨g, 2, none⟩ (.string (strOfNums nm))) = .ok (.string (strOfNums tx)) (w11.setCell ⟨g, 2, none⟩ (.string (strOfNums nm))) := Kd.C_string Try.underlying28 Try.underlying5 Try.underlying9 (Kd.C_below GX1.out O12.b0)
                have O13x := O12.set (i := 3) (v := .string (strOfNums tx)) (blk_upd (cs' := #[.int .i64 id, .int .i64 k, .string (strOfNums nm), .string (strOfNums tx), .int .i64 (val p), .slice none 0 0, .slice none 0 0, .bool false]) 3 (.string (strOfNums tx)) O12.q rfl)
                clear O12
                go_wp2_with fail
                obtain ⟨W13, hW⟩ : ∃ x, x = (w11.setCell ⟨g, 2, none⟩ (.string (strOfNums nm))).setCell ⟨g, 3, none⟩ (.string (strOfNums tx)) := ⟨_, rfl⟩
                rw [← hW] at O13x ⊢
                have O13 := Aside0.mk O13x
                clear hW O13x O11 hcv1 hcv2 a0 a1 a2 a3 a4 a5 a6 a7 a8
                have I2 := ints_calls W13 X2 x2 ks (Kd.C_below GX2.out O13.out.b0) lx2 BX2.out (val (r2.take 2)).toNat LR2.out (by have := LV2.out; omega)
                obtain ⟨kl, hkl⟩ : ∃ x, x = rowI (val (r2.take 2)).toNat ks := ⟨_, rfl⟩
                rw [← hkl] at I2
                have EK := Aside0.mk hkl
                clear hkl
                refine I2.mono ?_
                rintro e w14 ⟨v14, rfl, hR, hb⟩
                obtain ⟨Ak, ck, rfl⟩ := Kd.R_slice hR
                have FK1 := R_at_base hR
                have HZ13 := Aside0.mk (blk_lt O13.out.t)
                have HG13 := Aside0.mk (blk_lt O13.out.q)
                have O14 := Aside0.mk (O13.out.next hb)
                have FKx := ((Ch.refl (fun i => i = g) w14).setCell (p := ⟨g, 5, none⟩) (.inl rfl) (.slice Ak kl.length ck)).R FK1 (fun i hi e => by have := HG13.out; omega)
                clear hb O13 hR FK1 I2
                obtain ⟨a0, a1, a2, a3, a4, a5, a6, a7, a8⟩ := blk8 O14.out.q
                have O15x := O14.out.set (i := 5) (v := .slice Ak kl.length ck) (blk_upd (cs' := #[.int .i64 id, .int .i64 k, .string (strOfNums nm), .string (strOfNums tx), .int .i64 (val p), .slice Ak kl.length ck, .slice none 0 0, .bool false]) 5 (.slice Ak kl.length ck) O14.out.q rfl)
                have HFK := Aside0.mk FKx
                clear FKx
                go_wp2_with fail
                obtain ⟨W15, hW⟩ : ∃ x, x = w14.setCell ⟨g, 5, none⟩ (.slice Ak kl.length ck) := ⟨_, rfl⟩
                rw [← hW] at O15x HFK ⊢
                have O15 := Aside0.mk O15x
                clear hW O15x O14 a0 a1 a2 a3 a4 a5 a6 a7 a8
                have I3 := ints_calls W15 X3 x3 bs (Kd.C_below GX3.out O15.out.b0) lx3 BX3.out (val (r3.take 2)).toNat LR3.out (by have := LV3.out; omega)
                obtain ⟨bl, hbl⟩ : ∃ x, x = rowI (val (r3.take 2)).toNat bs := ⟨_, rfl⟩
                rw [← hbl] at I3
                have EB := Aside0.mk hbl
                clear hbl
                refine I3.mono ?_
                rintro e w16 ⟨v16, rfl, hR, hb⟩
                obtain ⟨Ab, cb, rfl⟩ := Kd.R_slice hR
                have HZ15 := Aside0.mk (blk_lt O15.out.t)
                have HG15 := Aside0.mk (blk_lt O15.out.q)
                have O16 := Aside0.mk (O15.out.next hb)
                have hch := (Ch.refl (fun i => i = g) w16).setCell (p := ⟨g, 6, none⟩) (.inl rfl) (.slice Ab bl.length cb)
                have FKy := Aside0.mk (hch.R (Kd.R_below HFK.out hb) (fun i hi e => by have := HG13.out; omega))
                have FBy := Aside0.mk (hch.R (R_at_base hR) (fun i hi e => by have := HG15.out; omega))
                clear hb O15 hR I3 HFK hch
                obtain ⟨a0, a1, a2, a3, a4, a5, a6, a7, a8⟩ := blk8 O16.out.q
                have O17x := O16.out.set (i := 6) (v := .slice Ab bl.length cb) (blk_upd (cs' := #[.int .i64 id, .int .i64 k, .string (strOfNums nm), .string (strOfNums tx), .int .i64 (val p), .slice Ak kl.length ck, .slice Ab bl.length cb, .bool false]) 6 (.slice Ab bl.length cb) O16.out.q rfl)
                go_upto_region 28 with (fail)
                obtain ⟨W17, hW⟩ : ∃ x, x = w16.setCell ⟨g, 6, none⟩ (.slice Ab bl.length cb) := ⟨_, rfl⟩
                rw [← hW] at O17x FKy FBy ⊢
                have O17 := Aside0.mk O17x
                clear hW O17x O16 a0 a1 a2 a3 a4 a5 a6 a7 a8
                have hc8 := set8_ch W17 w.heap.size (.int .i64 id) (.int .i64 k) (.string (strOfNums nm)) (.string (strOfNums tx)) (.int .i64 (val p)) (.slice Ak kl.length ck) (.slice Ab bl.length cb) (.bool false)
                have FK5 := Aside0.mk (hc8.R FKy.out (fun i hi e => by have := HZ13.out; omega))
                have FB5 := Aside0.mk (hc8.R FBy.out (fun i hi e => by have := HZ15.out; omega))
                clear hc8 FKy FBy
                have HB := Aside0.mk O17.out.b
                obtain ⟨t0, t1, t2, t3, t4, t5, t6, t7, t8⟩ := blk8 O17.out.t
                obtain ⟨a0, a1, a2, a3, a4, a5, a6, a7, a8⟩ := blk8 O17.out.q
                have S := Aside0.mk (set8_q O17.out.t (.int .i64 id) (.int .i64 k) (.string (strOfNums nm)) (.string (strOfNums tx)) (.int .i64 (val p)) (.slice Ak kl.length ck) (.slice Ab bl.length cb) (.bool false))
                have SB := Aside0.mk (Ch.to_below (B := w.heap.size) (set8_ch W17 w.heap.size (.int .i64 id) (.int .i64 k) (.string (strOfNums nm)) (.string (strOfNums tx)) (.int .i64 (val p)) (.slice Ak kl.length ck) (.slice Ab bl.length cb) (.bool false)) (fun k hk => Nat.le_of_eq hk.symm) (HB.out.size))
                go_wp2_with fail
                change bodyPost Try.prog Try.f39 _ Exit.ret _ (set8 W17 w.heap.size (.int .i64 id) (.int .i64 k) (.string (strOfNums nm)) (.string (strOfNums tx)) (.int .i64 (val p)) (.slice Ak kl.length ck) (.slice Ab bl.length cb) (.bool false))
                clear t0 t1 t2 t3 t4 t5 t6 t7 t8 a0 a1 a2 a3 a4 a5 a6 a7 a8
                generalize set8 W17 w.heap.size (.int .i64 id) (.int .i64 k) (.string (strOfNums nm)) (.string (strOfNums tx)) (.int .i64 (val p)) (.slice Ak kl.length ck) (.slice Ab bl.length cb) (.bool false) = w99 at *
                obtain ⟨d0, d1, d2, d3, d4, d5, d6, d7, d8⟩ := blk8 S.out
                refine bodyPost_ret (v := .tuple #[.agg #[.int .i64 id, .int .i64 k, .string (strOfNums nm), .string (strOfNums tx), .int .i64 (val p), .slice Ak kl.length ck, .slice Ab bl.length cb, .bool false], .slice Y3 r4.length y3, .bool true]) (by simp [results, Try.results39, go_sem, d0, d1, d2, d3, d4, d5, d6, d7]) rfl ?_
                rw [show res = some (⟨id, ⟨k, strOfNums nm, strOfNums tx, val p, kl, bl, false⟩⟩, r4) by rw [HE.out]; unfold oneR; rw [if_neg HK.out, if_neg H9.out]; simp only [← EP.out, ← ER.out, E0.out, E1.out, E2.out, E3.out, ← EK.out, ← EB.out]]
                exact ⟨⟨[.int .i64 id, .int .i64 k, .string (strOfNums nm), .string (strOfNums tx), .int .i64 (val p), .slice Ak kl.length ck, .slice Ab bl.length cb, .bool false], Y3, y3, rfl, k46_mkM _ _ _ ⟨id, ⟨k, strOfNums nm, strOfNums tx, val p, kl, bl, false⟩⟩ (Kd.R_mono (Kd.R_lower FK5.out (Nat.le_of_lt HZ13.out)) (fun i hi => by have := HZ13.out; show w.heap.size ≤ i; have : W13.heap.size ≤ i := hi; omega)) (Kd.R_mono (Kd.R_lower FB5.out (Nat.le_of_lt HZ15.out)) (fun i hi => by have := HZ15.out; show w.heap.size ≤ i; have : W15.heap.size ≤ i := hi; omega)), ly3, GY3.out⟩, HB.out.trans SB.out⟩
  · clear a0 a1 a2 a3 a4 a5 a6 a7 a8 hk9 hk9s HC4 HCa HCb HTd HBd HB0d HT HB HB0 CV hc4i
    obtain ⟨W4, hW⟩ : ∃ x, x = (World.setCell (World.setCell (World.setCell (World.setCell (World.setCell (World.setCell (World.setCell (World.setCell w3 ⟨w2.heap.size, 0, none⟩ (.int .i64 id)) ⟨w2.heap.size, 1, none⟩ (.int .i64 k)) ⟨w2.heap.size, 2, none⟩ (.string ⟨#[]⟩)) ⟨w2.heap.size, 3, none⟩ (.string ⟨#[]⟩)) ⟨w2.heap.size, 4, none⟩ (.int .i64 0)) ⟨w2.heap.size, 5, none⟩ (.slice none 0 0)) ⟨w2.heap.size, 6, none⟩ (.slice none 0 0)) ⟨w2.heap.size, 7, none⟩ (.bool false)) := ⟨_, rfl⟩
    rw [← hW] at O4 hx4 ⊢
    obtain ⟨g, hg⟩ : ∃ x, x = w2.heap.size := ⟨_, rfl⟩
    rw [← hg] at O4 ⊢
    clear hW hg
    by_cases hk : k = 0
    · subst hk
      have HE0 := Aside0.mk (show res = some (⟨id, ⟨0, ⟨#[]⟩, ⟨#[]⟩, 0, [], [], true⟩⟩, y) by rw [HE.out]; unfold oneR; rw [if_pos rfl]; rfl)
      clear HE
      obtain ⟨a0, a1, a2, a3, a4, a5, a6, a7, a8⟩ := blk8 O4.out.q
      go_upto_region 7 with (fail)
      have O6x := O4.out.set (i := 7) (v := .bool true) (blk_upd (cs' := #[.int .i64 id, .int .i64 0, .string ⟨#[]⟩, .string ⟨#[]⟩, .int .i64 0, .slice none 0 0, .slice none 0 0, .bool true]) 7 (.bool true) O4.out.q rfl)
      obtain ⟨W6, hW⟩ : ∃ x, x = World.setCell W4 ⟨g, 7, none⟩ (.bool true) := ⟨_, rfl⟩
      rw [← hW] at O6x ⊢
      clear hW
      have O6 := Aside0.mk O6x
      clear O6x O4 a0 a1 a2 a3 a4 a5 a6 a7 a8
      have HB := Aside0.mk O6.out.b
      obtain ⟨t0, t1, t2, t3, t4, t5, t6, t7, t8⟩ := blk8 O6.out.t
      obtain ⟨a0, a1, a2, a3, a4, a5, a6, a7, a8⟩ := blk8 O6.out.q
      have S := Aside0.mk (set8_q O6.out.t (.int .i64 id) (.int .i64 0) (.string ⟨#[]⟩) (.string ⟨#[]⟩) (.int .i64 0) (.slice none 0 0) (.slice none 0 0) (.bool true))
      have SB := Aside0.mk (Ch.to_below (B := w.heap.size) (set8_ch W6 w.heap.size (.int .i64 id) (.int .i64 0) (.string ⟨#[]⟩) (.string ⟨#[]⟩) (.int .i64 0) (.slice none 0 0) (.slice none 0 0) (.bool true)) (fun k hk => Nat.le_of_eq hk.symm) (HB.out.size))
      go_wp2_with fail
      change bodyPost Try.prog Try.f39 _ Exit.ret _ (set8 W6 w.heap.size (.int .i64 id) (.int .i64 0) (.string ⟨#[]⟩) (.string ⟨#[]⟩) (.int .i64 0) (.slice none 0 0) (.slice none 0 0) (.bool true))
      clear t0 t1 t2 t3 t4 t5 t6 t7 t8 a0 a1 a2 a3 a4 a5 a6 a7 a8
      generalize set8 W6 w.heap.size (.int .i64 id) (.int .i64 0) (.string ⟨#[]⟩) (.string ⟨#[]⟩) (.int .i64 0) (.slice none 0 0) (.slice none 0 0) (.bool true) = w99 at *
      obtain ⟨d0, d1, d2, d3, d4, d5, d6, d7, d8⟩ := blk8 S.out
      refine bodyPost_ret (v := .tuple #[.agg #[.int .i64 id, .int .i64 0, .string ⟨#[]⟩, .string ⟨#[]⟩, .int .i64 0, .slice none 0 0, .slice none 0 0, .bool true], .slice A2 y.length c2, .bool true]) (by simp [results, Try.results39, go_sem, d0, d1, d2, d3, d4, d5, d6, d7]) rfl ?_
      rw [HE0.out]
      exact ⟨⟨[.int .i64 id, .int .i64 0, .string ⟨#[]⟩, .string ⟨#[]⟩, .int .i64 0, .slice none 0 0, .slice none 0 0, .bool true], A2, c2, rfl, k46_mkM _ _ _ ⟨id, ⟨0, ⟨#[]⟩, ⟨#[]⟩, 0, [], [], true⟩⟩ (Kd.R_nil _ _ _ _ _) (Kd.R_nil _ _ _ _ _), l2, G2.out⟩, HB.out.trans SB.out⟩
    · have hk' : (k == 0) = false := by simpa using hk
      have HK := Aside0.mk hk
      clear hk
      obtain ⟨a0, a1, a2, a3, a4, a5, a6, a7, a8⟩ := blk8 O4.out.q
      go_wp2_with fail
      clear a0 a1 a2 a3 a4 a5 a6 a7 a8 hx4 hk'
      by_cases h9 : y.length < 4
      · refine (cut_short W4 A2 c2 4 y h9).mono ?_
        rintro e w5 ⟨rfl, hb⟩
        have O5 := Aside0.mk (O4.out.next hb)
        have H9 := Aside0.mk h9
        clear hb O4 h9
        have HB := Aside0.mk O5.out.b
        obtain ⟨t0, t1, t2, t3, t4, t5, t6, t7, t8⟩ := blk8 O5.out.t
        obtain ⟨a0, a1, a2, a3, a4, a5, a6, a7, a8⟩ := blk8 O5.out.q
        have S := Aside0.mk (set8_q O5.out.t (.int .i64 id) (.int .i64 k) (.string ⟨#[]⟩) (.string ⟨#[]⟩) (.int .i64 0) (.slice none 0 0) (.slice none 0 0) (.bool false))
        have SB := Aside0.mk (Ch.to_below (B := w.heap.size) (set8_ch w5 w.heap.size (.int .i64 id) (.int .i64 k) (.string ⟨#[]⟩) (.string ⟨#[]⟩) (.int .i64 0) (.slice none 0 0) (.slice none 0 0) (.bool false)) (fun k hk => Nat.le_of_eq hk.symm) (HB.out.size))
        go_wp2_with fail
        change bodyPost Try.prog Try.f39 _ Exit.ret _ (set8 w5 w.heap.size (.int .i64 id) (.int .i64 k) (.string ⟨#[]⟩) (.string ⟨#[]⟩) (.int .i64 0) (.slice none 0 0) (.slice none 0 0) (.bool false))
        clear t0 t1 t2 t3 t4 t5 t6 t7 t8 a0 a1 a2 a3 a4 a5 a6 a7 a8
        generalize set8 w5 w.heap.size (.int .i64 id) (.int .i64 k) (.string ⟨#[]⟩) (.string ⟨#[]⟩) (.int .i64 0) (.slice none 0 0) (.slice none 0 0) (.bool false) = w99 at *
        obtain ⟨d0, d1, d2, d3, d4, d5, d6, d7, d8⟩ := blk8 S.out
        refine bodyPost_ret (v := .tuple #[.agg #[.int .i64 id, .int .i64 k, .string ⟨#[]⟩, .string ⟨#[]⟩, .int .i64 0, .slice none 0 0, .slice none 0 0, .bool false], .slice none 0 0, .bool false]) (by simp [results, Try.results39, go_sem, d0, d1, d2, d3, d4, d5, d6, d7]) rfl ?_
        rw [show res = none by rw [HE.out]; unfold oneR; rw [if_neg HK.out, if_pos H9.out]]
        exact ⟨⟨_, _, _, _, _, _, _, _, _, _, _, _, rfl⟩, HB.out.trans SB.out⟩
      · have C4 := cut_ok w0 W4 A2 c2 4 y G2.out l2 (by omega)
        have H9 := Aside0.mk h9
        have HPL := Aside0.mk (show (y.take 4).length ≤ 4 from List.length_take_le _ _)
        have HPB := Aside0.mk (bys_take HBY.out 4)
        have HRB := Aside0.mk (bys_drop HBY.out 4)
        clear h9
        obtain ⟨p, hp⟩ : ∃ p, p = y.take 4 := ⟨_, rfl⟩
        obtain ⟨r0, hr0⟩ : ∃ p, p = y.drop 4 := ⟨_, rfl⟩
        rw [← hp] at C4 HPL HPB
        rw [← hr0] at C4 HRB
        have EP := Aside0.mk hp
        have ER := Aside0.mk hr0
        clear hp hr0
        refine C4.mono ?_
        rintro e w5 ⟨⟨A3, c3, A4, c4, rfl, l3, l4, g3, g4⟩, hb⟩
        have O5 := Aside0.mk (O4.out.next hb)
        have G3 := Aside0.mk g3
        have G4 := Aside0.mk g4
        clear hb O4 g3 g4 C4
        go_wp2_with fail
        refine (value_calls w5 A3 c3 p (Kd.C_below G3.out O5.out.b0) l3 HPB.out HPL.out).mono ?_
        rintro e w6 ⟨rfl, hb⟩
        have O6 := Aside0.mk (O5.out.next hb)
        clear hb O5 G3 HPB HPL
        obtain ⟨a0, a1, a2, a3, a4, a5, a6, a7, a8⟩ := blk8 O6.out.q
        go_wp2_with fail
        have O7x := O6.out.set (i := 4) (v := .int .i64 (val p)) (blk_upd (cs' := #[.int .i64 id, .int .i64 k, .string ⟨#[]⟩, .string ⟨#[]⟩, .int .i64 (val p), .slice none 0 0, .slice none 0 0, .bool false]) 4 (.int .i64 (val p)) O6.out.q rfl)
        obtain ⟨W7, hW⟩ : ∃ x, x = World.setCell w6 ⟨g, 4, none⟩ (.int .i64 (val p)) := ⟨_, rfl⟩
        rw [← hW] at O7x ⊢
        clear hW
        have O7 := Aside0.mk O7x
        clear O7x O6 a0 a1 a2 a3 a4 a5 a6 a7 a8
        have CL0 : Calls Try.prog 46 #[.slice A4 r0.length c4, .int .i64 1] W7 _ := long_calls w0 W7 A4 c4 1 r0 G4.out O7.out.b0 l4 HRB.out (by decide)
        have LB0 := Aside0.mk (fun x y h => long_bys (each := 1) (b := r0) (x := x) (y := y) h HRB.out)
        cases hl0 : longP 1 r0 with
        | none =>
          rw [hl0] at CL0
          have E0 := Aside0.mk hl0
          clear hl0
          refine CL0.mono ?_
          rintro e w8 ⟨rfl, hb⟩
          have O8 := Aside0.mk (O7.out.next hb)
          clear hb O7 CL0
          have HB := Aside0.mk O8.out.b
          obtain ⟨t0, t1, t2, t3, t4, t5, t6, t7, t8⟩ := blk8 O8.out.t
          obtain ⟨a0, a1, a2, a3, a4, a5, a6, a7, a8⟩ := blk8 O8.out.q
          have S := Aside0.mk (set8_q O8.out.t (.int .i64 id) (.int .i64 k) (.string ⟨#[]⟩) (.string ⟨#[]⟩) (.int .i64 (val p)) (.slice none 0 0) (.slice none 0 0) (.bool false))
          have SB := Aside0.mk (Ch.to_below (B := w.heap.size) (set8_ch w8 w.heap.size (.int .i64 id) (.int .i64 k) (.string ⟨#[]⟩) (.string ⟨#[]⟩) (.int .i64 (val p)) (.slice none 0 0) (.slice none 0 0) (.bool false)) (fun k hk => Nat.le_of_eq hk.symm) (HB.out.size))
          go_wp2_with fail
          change bodyPost Try.prog Try.f39 _ Exit.ret _ (set8 w8 w.heap.size (.int .i64 id) (.int .i64 k) (.string ⟨#[]⟩) (.string ⟨#[]⟩) (.int .i64 (val p)) (.slice none 0 0) (.slice none 0 0) (.bool false))
          clear t0 t1 t2 t3 t4 t5 t6 t7 t8 a0 a1 a2 a3 a4 a5 a6 a7 a8
          generalize set8 w8 w.heap.size (.int .i64 id) (.int .i64 k) (.string ⟨#[]⟩) (.string ⟨#[]⟩) (.int .i64 (val p)) (.slice none 0 0) (.slice none 0 0) (.bool false) = w99 at *
          obtain ⟨d0, d1, d2, d3, d4, d5, d6, d7, d8⟩ := blk8 S.out
          refine bodyPost_ret (v := .tuple #[.agg #[.int .i64 id, .int .i64 k, .string ⟨#[]⟩, .string ⟨#[]⟩, .int .i64 (val p), .slice none 0 0, .slice none 0 0, .bool false], .slice none 0 0, .bool false]) (by simp [results, Try.results39, go_sem, d0, d1, d2, d3, d4, d5, d6, d7]) rfl ?_
          rw [show res = none by rw [HE.out]; unfold oneR; rw [if_neg HK.out, if_neg H9.out]; simp only [← EP.out, ← ER.out, E0.out]]
          exact ⟨⟨_, _, _, _, _, _, _, _, _, _, _, _, rfl⟩, HB.out.trans SB.out⟩
        | some pr =>
          obtain ⟨nm, r1⟩ := pr
          rw [hl0] at CL0
          have E0 := Aside0.mk hl0
          have BX0 := Aside0.mk (LB0.out _ _ hl0).1
          have BY0 := Aside0.mk (LB0.out _ _ hl0).2
          clear hl0 LB0
          refine CL0.mono ?_
          rintro e w8 ⟨⟨X0, x0, Y0, y0, rfl, lx0, ly0, gx0, gy0⟩, hb⟩
          have O8 := Aside0.mk (O7.out.next hb)
          have GX0 := Aside0.mk gx0
          have GY0 := Aside0.mk gy0
          clear hb O7 CL0 gx0 gy0
          go_wp2_with fail
          have CL1 : Calls Try.prog 46 #[.slice Y0 r1.length y0, .int .i64 1] w8 _ := long_calls w0 w8 Y0 y0 1 r1 GY0.out O8.out.b0 ly0 BY0.out (by decide)
          have LB1 := Aside0.mk (fun x y h => long_bys (each := 1) (b := r1) (x := x) (y := y) h BY0.out)
          cases hl1 : longP 1 r1 with
          | none =>
            rw [hl1] at CL1
            have E1 := Aside0.mk hl1
            clear hl1
            refine CL1.mono ?_
            rintro e w9 ⟨rfl, hb⟩
            have O9 := Aside0.mk (O8.out.next hb)
            clear hb O8 CL1
            have HB := Aside0.mk O9.out.b
            obtain ⟨t0, t1, t2, t3, t4, t5, t6, t7, t8⟩ := blk8 O9.out.t
            obtain ⟨a0, a1, a2, a3, a4, a5, a6, a7, a8⟩ := blk8 O9.out.q
            have S := Aside0.mk (set8_q O9.out.t (.int .i64 id) (.int .i64 k) (.string ⟨#[]⟩) (.string ⟨#[]⟩) (.int .i64 (val p)) (.slice none 0 0) (.slice none 0 0) (.bool false))
            have SB := Aside0.mk (Ch.to_below (B := w.heap.size) (set8_ch w9 w.heap.size (.int .i64 id) (.int .i64 k) (.string ⟨#[]⟩) (.string ⟨#[]⟩) (.int .i64 (val p)) (.slice none 0 0) (.slice none 0 0) (.bool false)) (fun k hk => Nat.le_of_eq hk.symm) (HB.out.size))
            go_wp2_with fail
            change bodyPost Try.prog Try.f39 _ Exit.ret _ (set8 w9 w.heap.size (.int .i64 id) (.int .i64 k) (.string ⟨#[]⟩) (.string ⟨#[]⟩) (.int .i64 (val p)) (.slice none 0 0) (.slice none 0 0) (.bool false))
            clear t0 t1 t2 t3 t4 t5 t6 t7 t8 a0 a1 a2 a3 a4 a5 a6 a7 a8
            generalize set8 w9 w.heap.size (.int .i64 id) (.int .i64 k) (.string ⟨#[]⟩) (.string ⟨#[]⟩) (.int .i64 (val p)) (.slice none 0 0) (.slice none 0 0) (.bool false) = w99 at *
            obtain ⟨d0, d1, d2, d3, d4, d5, d6, d7, d8⟩ := blk8 S.out
            refine bodyPost_ret (v := .tuple #[.agg #[.int .i64 id, .int .i64 k, .string ⟨#[]⟩, .string ⟨#[]⟩, .int .i64 (val p), .slice none 0 0, .slice none 0 0, .bool false], .slice none 0 0, .bool false]) (by simp [results, Try.results39, go_sem, d0, d1, d2, d3, d4, d5, d6, d7]) rfl ?_
            rw [show res = none by rw [HE.out]; unfold oneR; rw [if_neg HK.out, if_neg H9.out]; simp only [← EP.out, ← ER.out, E0.out, E1.out]]
            exact ⟨⟨_, _, _, _, _, _, _, _, _, _, _, _, rfl⟩, HB.out.trans SB.out⟩
          | some pr =>
            obtain ⟨tx, r2⟩ := pr
            rw [hl1] at CL1
            have E1 := Aside0.mk hl1
            have BX1 := Aside0.mk (LB1.out _ _ hl1).1
            have BY1 := Aside0.mk (LB1.out _ _ hl1).2
            clear hl1 LB1
            refine CL1.mono ?_
            rintro e w9 ⟨⟨X1, x1, Y1, y1, rfl, lx1, ly1, gx1, gy1⟩, hb⟩
            have O9 := Aside0.mk (O8.out.next hb)
            have GX1 := Aside0.mk gx1
            have GY1 := Aside0.mk gy1
            clear hb O8 CL1 gx1 gy1
            go_wp2_with fail
            have CL2 : Calls Try.prog 46 #[.slice Y1 r2.length y1, .int .i64 4] w9 _ := long_calls w0 w9 Y1 y1 4 r2 GY1.out O9.out.b0 ly1 BY1.out (by decide)
            have LB2 := Aside0.mk (fun x y h => long_bys (each := 4) (b := r2) (x := x) (y := y) h BY1.out)
            cases hl2 : longP 4 r2 with
            | none =>
              rw [hl2] at CL2
              have E2 := Aside0.mk hl2
              clear hl2
              refine CL2.mono ?_
              rintro e w10 ⟨rfl, hb⟩
              have O10 := Aside0.mk (O9.out.next hb)
              clear hb O9 CL2
              have HB := Aside0.mk O10.out.b
              obtain ⟨t0, t1, t2, t3, t4, t5, t6, t7, t8⟩ := blk8 O10.out.t
              obtain ⟨a0, a1, a2, a3, a4, a5, a6, a7, a8⟩ := blk8 O10.out.q
              have S := Aside0.mk (set8_q O10.out.t (.int .i64 id) (.int .i64 k) (.string ⟨#[]⟩) (.string ⟨#[]⟩) (.int .i64 (val p)) (.slice none 0 0) (.slice none 0 0) (.bool false))
              have SB := Aside0.mk (Ch.to_below (B := w.heap.size) (set8_ch w10 w.heap.size (.int .i64 id) (.int .i64 k) (.string ⟨#[]⟩) (.string ⟨#[]⟩) (.int .i64 (val p)) (.slice none 0 0) (.slice none 0 0) (.bool false)) (fun k hk => Nat.le_of_eq hk.symm) (HB.out.size))
              go_wp2_with fail
              change bodyPost Try.prog Try.f39 _ Exit.ret _ (set8 w10 w.heap.size (.int .i64 id) (.int .i64 k) (.string ⟨#[]⟩) (.string ⟨#[]⟩) (.int .i64 (val p)) (.slice none 0 0) (.slice none 0 0) (.bool false))
              clear t0 t1 t2 t3 t4 t5 t6 t7 t8 a0 a1 a2 a3 a4 a5 a6 a7 a8
              generalize set8 w10 w.heap.size (.int .i64 id) (.int .i64 k) (.string ⟨#[]⟩) (.string ⟨#[]⟩) (.int .i64 (val p)) (.slice none 0 0) (.slice none 0 0) (.bool false) = w99 at *
              obtain ⟨d0, d1, d2, d3, d4, d5, d6, d7, d8⟩ := blk8 S.out
              refine bodyPost_ret (v := .tuple #[.agg #[.int .i64 id, .int .i64 k, .string ⟨#[]⟩, .string ⟨#[]⟩, .int .i64 (val p), .slice none 0 0, .slice none 0 0, .bool false], .slice none 0 0, .bool false]) (by simp [results, Try.results39, go_sem, d0, d1, d2, d3, d4, d5, d6, d7]) rfl ?_
              rw [show res = none by rw [HE.out]; unfold oneR; rw [if_neg HK.out, if_neg H9.out]; simp only [← EP.out, ← ER.out, E0.out, E1.out, E2.out]]
              exact ⟨⟨_, _, _, _, _, _, _, _, _, _, _, _, rfl⟩, HB.out.trans SB.out⟩
            | some pr =>
              obtain ⟨ks, r3⟩ := pr
              rw [hl2] at CL2
              have E2 := Aside0.mk hl2
              have BX2 := Aside0.mk (LB2.out _ _ hl2).1
              have BY2 := Aside0.mk (LB2.out _ _ hl2).2
              have LR2 := Aside0.mk ((long_row r2).2 _ _ hl2).2
              have LV2 := Aside0.mk (val_two (bys_take BY1.out 2) (List.length_take_le _ _))
              clear hl2 LB2
              refine CL2.mono ?_
              rintro e w10 ⟨⟨X2, x2, Y2, y2, rfl, lx2, ly2, gx2, gy2⟩, hb⟩
              have O10 := Aside0.mk (O9.out.next hb)
              have GX2 := Aside0.mk gx2
              have GY2 := Aside0.mk gy2
              clear hb O9 CL2 gx2 gy2
              go_wp2_with fail
              have CL3 : Calls Try.prog 46 #[.slice Y2 r3.length y2, .int .i64 4] w10 _ := long_calls w0 w10 Y2 y2 4 r3 GY2.out O10.out.b0 ly2 BY2.out (by decide)
              have LB3 := Aside0.mk (fun x y h => long_bys (each := 4) (b := r3) (x := x) (y := y) h BY2.out)
              cases hl3 : longP 4 r3 with
              | none =>
                rw [hl3] at CL3
                have E3 := Aside0.mk hl3
                clear hl3
                refine CL3.mono ?_
                rintro e w11 ⟨rfl, hb⟩
                have O11 := Aside0.mk (O10.out.next hb)
                clear hb O10 CL3
                have HB := Aside0.mk O11.out.b
                obtain ⟨t0, t1, t2, t3, t4, t5, t6, t7, t8⟩ := blk8 O11.out.t
                obtain ⟨a0, a1, a2, a3, a4, a5, a6, a7, a8⟩ := blk8 O11.out.q
                have S := Aside0.mk (set8_q O11.out.t (.int .i64 id) (.int .i64 k) (.string ⟨#[]⟩) (.string ⟨#[]⟩) (.int .i64 (val p)) (.slice none 0 0) (.slice none 0 0) (.bool false))
                have SB := Aside0.mk (Ch.to_below (B := w.heap.size) (set8_ch w11 w.heap.size (.int .i64 id) (.int .i64 k) (.string ⟨#[]⟩) (.string ⟨#[]⟩) (.int .i64 (val p)) (.slice none 0 0) (.slice none 0 0) (.bool false)) (fun k hk => Nat.le_of_eq hk.symm) (HB.out.size))
                go_wp2_with fail
                change bodyPost Try.prog Try.f39 _ Exit.ret _ (set8 w11 w.heap.size (.int .i64 id) (.int .i64 k) (.string ⟨#[]⟩) (.string ⟨#[]⟩) (.int .i64 (val p)) (.slice none 0 0) (.slice none 0 0) (.bool false))
                clear t0 t1 t2 t3 t4 t5 t6 t7 t8 a0 a1 a2 a3 a4 a5 a6 a7 a8
                generalize set8 w11 w.heap.size (.int .i64 id) (.int .i64 k) (.string ⟨#[]⟩) (.string ⟨#[]⟩) (.int .i64 (val p)) (.slice none 0 0) (.slice none 0 0) (.bool false) = w99 at *
                obtain ⟨d0, d1, d2, d3, d4, d5, d6, d7, d8⟩ := blk8 S.out
                refine bodyPost_ret (v := .tuple #[.agg #[.int .i64 id, .int .i64 k, .string ⟨#[]⟩, .string ⟨#[]⟩, .int .i64 (val p), .slice none 0 0, .slice none 0 0, .bool false], .slice none 0 0, .bool false]) (by simp [results, Try.results39, go_sem, d0, d1, d2, d3, d4, d5, d6, d7]) rfl ?_
                rw [show res = none by rw [HE.out]; unfold oneR; rw [if_neg HK.out, if_neg H9.out]; simp only [← EP.out, ← ER.out, E0.out, E1.out, E2.out, E3.out]]
                exact ⟨⟨_, _, _, _, _, _, _, _, _, _, _, _, rfl⟩, HB.out.trans SB.out⟩
              | some pr =>
                obtain ⟨bs, r4⟩ := pr
                rw [hl3] at CL3
                have E3 := Aside0.mk hl3
                have BX3 := Aside0.mk (LB3.out _ _ hl3).1
                have BY3 := Aside0.mk (LB3.out _ _ hl3).2
                have LR3 := Aside0.mk ((long_row r3).2 _ _ hl3).2
                have LV3 := Aside0.mk (val_two (bys_take BY2.out 2) (List.length_take_le _ _))
                clear hl3 LB3
                refine CL3.mono ?_
                rintro e w11 ⟨⟨X3, x3, Y3, y3, rfl, lx3, ly3, gx3, gy3⟩, hb⟩
                have O11 := Aside0.mk (O10.out.next hb)
                have GX3 := Aside0.mk gx3
                have GY3 := Aside0.mk gy3
                clear hb O10 CL3 gx3 gy3
                obtain ⟨a0, a1, a2, a3, a4, a5, a6, a7, a8⟩ := blk8 O11.out.q
                have hcv1 : (convert 28 9 (.slice X0 nm.length x0)).run Try.prog w11 = .ok (.string (strOfNums nm)) w11 := Kd.C_string Try.underlying28 Try.underlying5 Try.underlying9 (Kd.C_below GX0.out O11.out.b0)
                have O12 := O11.out.set (i := 2) (v := .string (strOfNums nm)) (blk_upd (cs' := #[.int .i64 id, .int .i64 k, .string (strOfNums nm), .string ⟨#[]⟩, .int .i64 (val p), .slice none 0 0, .slice none 0 0, .bool false]) 2 (.string (strOfNums nm)) O11.out.q rfl)
                have hcv2 : (convert 28 9 (.slice X1 tx.length x1)).run Try.prog (w11.setCell ⟨g, 2, none⟩ (.string (strOfNums nm))) = .ok (.string (strOfNums tx)) (w11.setCell ⟨g, 2, none⟩ (.string (strOfNums nm))) := Kd.C_string Try.underlying28 Try.underlying5 Try.underlying9 (Kd.C_below GX1.out O12.b0)
                have O13x := O12.set (i := 3) (v := .string (strOfNums tx)) (blk_upd (cs' := #[.int .i64 id, .int .i64 k, .string (strOfNums nm), .string (strOfNums tx), .int .i64 (val p), .slice none 0 0, .slice none 0 0, .bool false]) 3 (.string (strOfNums tx)) O12.q rfl)
                clear O12
                go_wp2_with fail
                obtain ⟨W13, hW⟩ : ∃ x, x = (w11.setCell ⟨g, 2, none⟩ (.string (strOfNums nm))).setCell ⟨g, 3, none⟩ (.string (strOfNums tx)) := ⟨_, rfl⟩
                rw [← hW] at O13x ⊢
                have O13 := Aside0.mk O13x
                clear hW O13x O11 hcv1 hcv2 a0 a1 a2 a3 a4 a5 a6 a7 a8
                have I2 := ints_calls W13 X2 x2 ks (Kd.C_below GX2.out O13.out.b0) lx2 BX2.out (val (r2.take 2)).toNat LR2.out (by have := LV2.out; omega)
                obtain ⟨kl, hkl⟩ : ∃ x, x = rowI (val (r2.take 2)).toNat ks := ⟨_, rfl⟩
                rw [← hkl] at I2
                have EK := Aside0.mk hkl
                clear hkl
                refine I2.mono ?_
                rintro e w14 ⟨v14, rfl, hR, hb⟩
                obtain ⟨Ak, ck, rfl⟩ := Kd.R_slice hR
                have FK1 := R_at_base hR
                have HZ13 := Aside0.mk (blk_lt O13.out.t)
                have HG13 := Aside0.mk (blk_lt O13.out.q)
                have O14 := Aside0.mk (O13.out.next hb)
                have FKx := ((Ch.refl (fun i => i = g) w14).setCell (p := ⟨g, 5, none⟩) (.inl rfl) (.slice Ak kl.length ck)).R FK1 (fun i hi e => by have := HG13.out; omega)
                clear hb O13 hR FK1 I2
                obtain ⟨a0, a1, a2, a3, a4, a5, a6, a7, a8⟩ := blk8 O14.out.q
                have O15x := O14.out.set (i := 5) (v := .slice Ak kl.length ck) (blk_upd (cs' := #[.int .i64 id, .int .i64 k, .string (strOfNums nm), .string (strOfNums tx), .int .i64 (val p), .slice Ak kl.length ck, .slice none 0 0, .bool false]) 5 (.slice Ak kl.length ck) O14.out.q rfl)
                have HFK := Aside0.mk FKx
                clear FKx
                go_wp2_with fail
                obtain ⟨W15, hW⟩ : ∃ x, x = w14.setCell ⟨g, 5, none⟩ (.slice Ak kl.length ck) := ⟨_, rfl⟩
                rw [← hW] at O15x HFK ⊢
                have O15 := Aside0.mk O15x
                clear hW O15x O14 a0 a1 a2 a3 a4 a5 a6 a7 a8
                have I3 := ints_calls W15 X3 x3 bs (Kd.C_below GX3.out O15.out.b0) lx3 BX3.out (val (r3.take 2)).toNat LR3.out (by have := LV3.out; omega)
                obtain ⟨bl, hbl⟩ : ∃ x, x = rowI (val (r3.take 2)).toNat bs := ⟨_, rfl⟩
                rw [← hbl] at I3
                have EB := Aside0.mk hbl
                clear hbl
                refine I3.mono ?_
                rintro e w16 ⟨v16, rfl, hR, hb⟩
                obtain ⟨Ab, cb, rfl⟩ := Kd.R_slice hR
                have HZ15 := Aside0.mk (blk_lt O15.out.t)
                have HG15 := Aside0.mk (blk_lt O15.out.q)
                have O16 := Aside0.mk (O15.out.next hb)
                have hch := (Ch.refl (fun i => i = g) w16).setCell (p := ⟨g, 6, none⟩) (.inl rfl) (.slice Ab bl.length cb)
                have FKy := Aside0.mk (hch.R (Kd.R_below HFK.out hb) (fun i hi e => by have := HG13.out; omega))
                have FBy := Aside0.mk (hch.R (R_at_base hR) (fun i hi e => by have := HG15.out; omega))
                clear hb O15 hR I3 HFK hch
                obtain ⟨a0, a1, a2, a3, a4, a5, a6, a7, a8⟩ := blk8 O16.out.q
                have O17x := O16.out.set (i := 6) (v := .slice Ab bl.length cb) (blk_upd (cs' := #[.int .i64 id, .int .i64 k, .string (strOfNums nm), .string (strOfNums tx), .int .i64 (val p), .slice Ak kl.length ck, .slice Ab bl.length cb, .bool false]) 6 (.slice Ab bl.length cb) O16.out.q rfl)
                go_upto_region 28 with (fail)
                obtain ⟨W17, hW⟩ : ∃ x, x = w16.setCell ⟨g, 6, none⟩ (.slice Ab bl.length cb) := ⟨_, rfl⟩
                rw [← hW] at O17x FKy FBy ⊢
                have O17 := Aside0.mk O17x
                clear hW O17x O16 a0 a1 a2 a3 a4 a5 a6 a7 a8
                have hc8 := set8_ch W17 w.heap.size (.int .i64 id) (.int .i64 k) (.string (strOfNums nm)) (.string (strOfNums tx)) (.int .i64 (val p)) (.slice Ak kl.length ck) (.slice Ab bl.length cb) (.bool false)
                have FK5 := Aside0.mk (hc8.R FKy.out (fun i hi e => by have := HZ13.out; omega))
                have FB5 := Aside0.mk (hc8.R FBy.out (fun i hi e => by have := HZ15.out; omega))
                clear hc8 FKy FBy
                have HB := Aside0.mk O17.out.b
                obtain ⟨t0, t1, t2, t3, t4, t5, t6, t7, t8⟩ := blk8 O17.out.t
                obtain ⟨a0, a1, a2, a3, a4, a5, a6, a7, a8⟩ := blk8 O17.out.q
                have S := Aside0.mk (set8_q O17.out.t (.int .i64 id) (.int .i64 k) (.string (strOfNums nm)) (.string (strOfNums tx)) (.int .i64 (val p)) (.slice Ak kl.length ck) (.slice Ab bl.length cb) (.bool false))
                have SB := Aside0.mk (Ch.to_below (B := w.heap.size) (set8_ch W17 w.heap.size (.int .i64 id) (.int .i64 k) (.string (strOfNums nm)) (.string (strOfNums tx)) (.int .i64 (val p)) (.slice Ak kl.length ck) (.slice Ab bl.length cb) (.bool false)) (fun k hk => Nat.le_of_eq hk.symm) (HB.out.size))
                go_wp2_with fail
                change bodyPost Try.prog Try.f39 _ Exit.ret _ (set8 W17 w.heap.size (.int .i64 id) (.int .i64 k) (.string (strOfNums nm)) (.string (strOfNums tx)) (.int .i64 (val p)) (.slice Ak kl.length ck) (.slice Ab bl.length cb) (.bool false))
                clear t0 t1 t2 t3 t4 t5 t6 t7 t8 a0 a1 a2 a3 a4 a5 a6 a7 a8
                generalize set8 W17 w.heap.size (.int .i64 id) (.int .i64 k) (.string (strOfNums nm)) (.string (strOfNums tx)) (.int .i64 (val p)) (.slice Ak kl.length ck) (.slice Ab bl.length cb) (.bool false) = w99 at *
                obtain ⟨d0, d1, d2, d3, d4, d5, d6, d7, d8⟩ := blk8 S.out
                refine bodyPost_ret (v := .tuple #[.agg #[.int .i64 id, .int .i64 k, .string (strOfNums nm), .string (strOfNums tx), .int .i64 (val p), .slice Ak kl.length ck, .slice Ab bl.length cb, .bool false], .slice Y3 r4.length y3, .bool true]) (by simp [results, Try.results39, go_sem, d0, d1, d2, d3, d4, d5, d6, d7]) rfl ?_
                rw [show res = some (⟨id, ⟨k, strOfNums nm, strOfNums tx, val p, kl, bl, false⟩⟩, r4) by rw [HE.out]; unfold oneR; rw [if_neg HK.out, if_neg H9.out]; simp only [← EP.out, ← ER.out, E0.out, E1.out, E2.out, E3.out, ← EK.out, ← EB.out]]
                exact ⟨⟨[.int .i64 id, .int .i64 k, .string (strOfNums nm), .string (strOfNums tx), .int .i64 (val p), .slice Ak kl.length ck, .slice Ab bl.length cb, .bool false], Y3, y3, rfl, k46_mkM _ _ _ ⟨id, ⟨k, strOfNums nm, strOfNums tx, val p, kl, bl, false⟩⟩ (Kd.R_mono (Kd.R_lower FK5.out (Nat.le_of_lt HZ13.out)) (fun i hi => by have := HZ13.out; show w.heap.size ≤ i; have : W13.heap.size ≤ i := hi; omega)) (Kd.R_mono (Kd.R_lower FB5.out (Nat.le_of_lt HZ15.out)) (fun i hi => by have := HZ15.out; show w.heap.size ≤ i; have : W15.heap.size ≤ i := hi; omega)), ly3, GY3.out⟩, HB.out.trans SB.out⟩
theorem one_calls (w0 w : World) (A : Option Addr) (c : Nat) (b : List Int) (hC : (Kd.int .u8).C w0 A b.length b) (h0 : Below w0.heap.size w0 w) (hs0 : w0.heap.size ≤ w.heap.size) (hc : b.length ≤ c) (hby : Bys b) :
    Calls Try.prog 39 #[.slice A b.length c] w fun e w' => OneGave w0 w (oneP b) e w' ∧ Below w.heap.size w w' := by
  by_cases h5 : b.length < 5
  · exact one_short w0 w A c b hC h0 hs0 hc hby h5
  · exact one_long w0 w A c b hC h0 hs0 hc hby h5
end Go.Proofs.Ytgndmbkkggjklaa.Jo
namespace Go.Proofs.Ytgndmbkkggjklaa.Jo
set_option linter.unusedVariables false
set_option linter.unusedSimpArgs false
open Go.RowKit Go.Proofs.YtgndmbkkggjklaaW.PrintWords Go.Proofs.YtgndmbkkggjklaaW.PrintLast Go.Proofs.YtgndmbkkggjklaaW.PrintMore Go.Proofs.Ytgndmbkkggjklaa.Bs
/-- So many changes, as the reference reads them. -/
def comL : Nat → List Int → List S46 → Option (List S46 × List Int)
  | 0, r, acc => some (acc, r)
  | n + 1, r, acc => match oneP r with
    | none => none
    | some (x, y) => comL n y (acc ++ [x])
/-- A commit, as the reference reads it, and what is left. -/
def comR (b : List Int) : Option (S25 × List Int) :=
  if b.length < 22 then none
  else match comL (val ((b.drop 20).take 2)).toNat (b.drop 22) [] with
    | none => none
    | some (l, r) => some (⟨val (b.take 4), val ((b.drop 4).take 8), val ((b.drop 12).take 8), l⟩, r)
theorem changesL_sh : ∀ (n : Nat) (s : St) (acc : List S46), s.sh = true → (changesL n s acc).2.sh = true
  | 0, s, acc, h => h
  | n + 1, s, acc, h => by rw [changesL, if_pos h]; exact h
theorem comL_changes : ∀ (n : Nat) (r : List Int) (acc : List S46), (comL n r acc = none → (changesL n ⟨r, false⟩ acc).2.sh = true) ∧ ∀ l y, comL n r acc = some (l, y) → changesL n ⟨r, false⟩ acc = (l, ⟨y, false⟩)
  | 0, r, acc => by
    refine ⟨fun h => by simp [comL] at h, fun l y h => ?_⟩
    simp only [comL, Option.some.injEq, Prod.mk.injEq] at h
    rw [changesL, h.1, h.2]
  | n + 1, r, acc => by
    have hc := one_change r
    rw [comL, changesL, if_neg (by simp)]
    cases e : oneP r with
    | none => exact ⟨fun _ => changesL_sh _ _ _ (hc.1 e), fun l y h => by simp at h⟩
    | some p =>
      obtain ⟨x, y⟩ := p
      rw [hc.2 x y e]
      exact comL_changes n y (acc ++ [x])
theorem com_commit (b : List Int) : (comR b = none → (commitP b).2 = false) ∧ ∀ c r, comR b = some (c, r) → commitP b = (c, decide (r.length = 0) && rightC c) := by
  unfold comR commitP
  by_cases h : b.length < 22
  · rw [if_pos h]
    refine ⟨fun _ => ?_, fun c r h => by simp at h⟩
    have hsh : (numP 2 (numP 8 (numP 8 (numP 4 ⟨b, false⟩).2).2).2).2.sh = true := by
      by_cases h4 : b.length < 4
      · rw [num_no h4]; exact numP_sh (numP_sh (numP_sh rfl))
      rw [num_ok h4]
      by_cases h8 : (b.drop 4).length < 8
      · simp only [num_no h8]; exact numP_sh (numP_sh rfl)
      simp only [num_ok h8]
      by_cases h12 : ((b.drop 4).drop 8).length < 8
      · simp only [num_no h12]; exact numP_sh rfl
      simp only [num_ok h12]
      have h20 : (((b.drop 4).drop 8).drop 8).length < 2 := by
        simp only [List.length_drop] at h8 h12 ⊢; omega
      simp only [num_no h20]
    simp only [changesL_sh _ _ _ hsh, Bool.not_true, Bool.false_and]
  · rw [if_neg h]
    have h4 : ¬ b.length < 4 := by omega
    have h8 : ¬ (b.drop 4).length < 8 := by rw [List.length_drop]; omega
    have h12 : ¬ (b.drop 12).length < 8 := by rw [List.length_drop]; omega
    have h20 : ¬ (b.drop 20).length < 2 := by rw [List.length_drop]; omega
    simp only [num_ok h4, num_ok h8, List.drop_drop, num_ok h12, num_ok h20]
    have hc := comL_changes (val ((b.drop 20).take 2)).toNat (b.drop 22) []
    cases e : comL (val ((b.drop 20).take 2)).toNat (b.drop 22) [] with
    | none => exact ⟨fun _ => by simp only [hc.1 e, Bool.not_true, Bool.false_and], fun c r h => by simp at h⟩
    | some p =>
      obtain ⟨l, r⟩ := p
      rw [hc.2 l r e]
      refine ⟨fun h => by simp at h, fun c r' h => ?_⟩
      simp only [Option.some.injEq, Prod.mk.injEq] at h
      rw [← h.1, ← h.2]
      simp
end Go.Proofs.Ytgndmbkkggjklaa.Jo
namespace Go.Proofs.Ytgndmbkkggjklaa.Jo
set_option linter.unusedVariables false
set_option linter.unusedSimpArgs false
open Go.RowKit Go.Proofs.YtgndmbkkggjklaaW.PrintWords Go.Proofs.YtgndmbkkggjklaaW.PrintMore Go.Proofs.Ytgndmbkkggjklaa.Bs
theorem rd_at (l : List Int) (j : Nat) (hj : j < l.length) : rd l (j : Int) = l[j] := by simp [rd, List.getD, hj]
theorem low9_step (ns : List Int) (hl : ns.length ≤ 9223372036854775807) : ∀ (d j k : Nat), j + d = ns.length → d < k → breviaryref09_low.l0 k ns j = some (anyLo (ns.drop j)) := by
  intro d
  induction d with
  | zero => intro j k hj hk; obtain ⟨k, rfl⟩ : ∃ i, k = i + 1 := ⟨k - 1, by omega⟩
            rw [breviaryref09_low.l0, if_neg (by omega), show j = ns.length by omega]; simp [anyLo]
  | succ d ih =>
    intro j k hj hk
    obtain ⟨k, rfl⟩ : ∃ i, k = i + 1 := ⟨k - 1, by omega⟩
    have hjl : j < ns.length := by omega
    have e : anyLo (ns.drop j) = (isLo ns[j] || anyLo (ns.drop (j + 1))) := by rw [List.drop_eq_getElem_cons hjl]; rfl
    rw [breviaryref09_low.l0, if_pos (by omega), if_pos (by omega), rd_at _ _ hjl, e]
    by_cases h : ns[j] < 1
    · rw [if_pos h]; simp [isLo, h]
    · rw [if_neg h, wrap_succ j (by omega), ih (j + 1) k (by omega) (by omega)]; simp [isLo, h]
theorem low9 (ns : List Int) (hl : ns.length ≤ 9223372036854775807) (k : Nat) (hk : ns.length < k) : breviaryref09_low.f k ns = some (anyLo ns) := by
  have := low9_step ns hl ns.length 0 k (by omega) hk
  simpa [breviaryref09_low.f] using this
theorem low32_step (ns : List Int) (hl : ns.length ≤ 9223372036854775807) : ∀ (d j k : Nat), j + d = ns.length → d < k → breviaryref32_low.l0 k ns j = some (!anyHi (ns.drop j) && decide (ns.length ≤ 1000)) := by
  intro d
  induction d with
  | zero => intro j k hj hk; obtain ⟨k, rfl⟩ : ∃ i, k = i + 1 := ⟨k - 1, by omega⟩
            rw [breviaryref32_low.l0, if_neg (by omega), show j = ns.length by omega]; simp [anyHi]; omega
  | succ d ih =>
    intro j k hj hk
    obtain ⟨k, rfl⟩ : ∃ i, k = i + 1 := ⟨k - 1, by omega⟩
    have hjl : j < ns.length := by omega
    have e : anyHi (ns.drop j) = (isHi ns[j] || anyHi (ns.drop (j + 1))) := by rw [List.drop_eq_getElem_cons hjl]; rfl
    rw [breviaryref32_low.l0, if_pos (by omega), if_pos (by omega), rd_at _ _ hjl, e]
    by_cases h : ns[j] > 20000
    · rw [if_pos h]; simp [isHi, h]
    · rw [if_neg h, wrap_succ j (by omega), ih (j + 1) k (by omega) (by omega)]; simp [isHi, h]
theorem low32 (ns : List Int) (hl : ns.length ≤ 9223372036854775807) (k : Nat) (hk : ns.length < k) : breviaryref32_low.f k ns = some (rowB' ns) := by
  have := low32_step ns hl ns.length 0 k (by omega) hk
  rw [breviaryref32_low.f, show ((0 : Int)) = ((0 : Nat) : Int) from rfl, this, List.drop_zero, rowB', Bool.and_comm]
theorem right9 (r : S44) (h4 : r.f4.length ≤ 9223372036854775807) (h5 : r.f5.length ≤ 9223372036854775807) (k : Nat) (k4 : r.f4.length < k) (k5 : r.f5.length < k) : breviaryref09_Right.f k r.f0 r.f1 r.f2 r.f3 r.f4 r.f5 r.f6 = some (rightR r) := by
  obtain ⟨a, n, t, p, ks, bs, g⟩ := r
  simp only at *
  unfold breviaryref09_Right.f
  cases g with
  | true =>
    simp only [rightR, if_pos, goneR]
    by_cases c0 : a = 0 <;> by_cases c1 : n.toList = [] <;> by_cases c2 : t.toList = [] <;> by_cases c3 : p = 0 <;> cases ks <;> cases bs <;> simp [c0, c1, c2, c3] <;> try omega
  | false =>
    simp only [rightR, hereR, Bool.false_eq_true, if_false, low9 ks h4 k k4, low9 bs h5 k k5, Option.bind_some]
    by_cases c0 : a ≥ 1 <;> by_cases c1 : a ≤ 6 <;> by_cases c2 : p ≥ 0 <;> simp [c0, c1, c2] <;> cases anyLo ks <;> cases anyLo bs <;> simp <;> omega
end Go.Proofs.Ytgndmbkkggjklaa.Jo
namespace Go.Proofs.Ytgndmbkkggjklaa.Jo
set_option linter.unusedVariables false
set_option linter.unusedSimpArgs false
open Go.RowKit Go.Proofs.YtgndmbkkggjklaaW.PrintWords Go.Proofs.YtgndmbkkggjklaaW.PrintMore Go.Proofs.Ytgndmbkkggjklaa.Bs
theorem rdT_at (l : List S46) (j : Nat) (hj : j < l.length) : rd_T46 l (j : Int) = l[j] := by simp [rd_T46, List.getD, hj]
/-- The check of one change, behind the first ones. -/
def restX (x : S46) : Bool := decide (x.f1.f1.size ≤ 65535) && decide (x.f1.f2.size ≤ 65535) && decide (x.f1.f3 ≤ 20000) && rowB' x.f1.f4 && rowB' x.f1.f5
theorem j2_at (k : Nat) (j : Nat) (y : Bool) (a0 a1 a2 : Int) (l : List S46) (x : S46) (hj : j < 9223372036854775807) (h4 : x.f1.f4.length ≤ 9223372036854775807) (h5 : x.f1.f5.length ≤ 9223372036854775807) (k4 : x.f1.f4.length < k) (k5 : x.f1.f5.length < k) :
    breviaryref32_Right.j2 (k + 1) j y a0 a1 a2 l x.f0 x.f1.f0 x.f1.f1 x.f1.f2 x.f1.f3 x.f1.f4 x.f1.f5 x.f1.f6 = if y = true then some false else if restX x = true then breviaryref32_Right.l0 k ((j + 1 : Nat) : Int) a0 a1 a2 l else some false := by
  rw [breviaryref32_Right.j2, low32 _ h4 k k4, low32 _ h5 k k5, wrap_succ j hj]
  simp only [Option.bind_some, restX]
  cases y with
  | true => simp
  | false =>
    by_cases c1 : x.f1.f1.size ≤ 65535
    · by_cases c2 : x.f1.f2.size ≤ 65535
      · by_cases c3 : x.f1.f3 ≤ 20000
        · rw [if_neg (by simp), if_neg (by omega), if_neg (by omega), if_neg (by omega)]
          by_cases e4 : rowB' x.f1.f4 = true <;> by_cases e5 : rowB' x.f1.f5 = true <;> simp [c1, c2, c3, e4, e5]
        · rw [if_neg (by simp), if_neg (by omega), if_neg (by omega), if_pos (by omega)]; simp [c3]
      · rw [if_neg (by simp), if_neg (by omega), if_pos (by omega)]; simp [c2]
    · rw [if_neg (by simp), if_pos (by omega)]; simp [c1]
theorem rightX_parts (x : S46) (b : Int) : rightX x b = (decide (b < x.f0) && decide (x.f0 ≤ 20000) && rightR x.f1 && restX x) := by
  simp only [rightX, restX]
  cases decide (b < x.f0) <;> cases decide (x.f0 ≤ 20000) <;> cases rightR x.f1 <;> cases decide (x.f1.f1.size ≤ 65535) <;> cases decide (x.f1.f2.size ≤ 65535) <;> cases rowB' x.f1.f4 <;> cases rowB' x.f1.f5 <;> cases decide (x.f1.f3 ≤ 20000) <;> rfl
theorem right_step (a0 a1 a2 : Int) (l : List S46) (hl : l.length ≤ 9223372036854775807) (M : Nat) (hs : ∀ x ∈ l, sized x ∧ x.f1.f4.length < M ∧ x.f1.f5.length < M) :
    ∀ (d j k : Nat) (b : Int), j + d = l.length → 2 * d + M < k → 0 ≤ b → (j = 0 ∧ b = 0 ∨ ∃ h : j - 1 < l.length, 0 < j ∧ b = (l[j - 1]'h).f0) → breviaryref32_Right.l0 k j a0 a1 a2 l = some (rightL b (l.drop j)) := by
  intro d
  induction d with
  | zero =>
    intro j k b hj hk hb hp
    obtain ⟨k, rfl⟩ : ∃ i, k = i + 1 := ⟨k - 1, by omega⟩
    rw [breviaryref32_Right.l0, if_neg (by omega), show j = l.length by omega]; simp [rightL]
  | succ d ih =>
    intro j k b hj hk hb hp
    obtain ⟨k, rfl⟩ : ∃ i, k = i + 2 := ⟨k - 2, by omega⟩
    have hjl : j < l.length := by omega
    obtain ⟨⟨s1, s2, s3, s4⟩, m4, m5⟩ := hs _ (List.getElem_mem hjl)
    have hnext : ∀ c, c = l[j].f0 → 0 ≤ c → breviaryref32_Right.l0 k ((j + 1 : Nat) : Int) a0 a1 a2 l = some (rightL c (l.drop (j + 1))) := fun c hc h0 => ih (j + 1) k c (by omega) (by omega) h0 (.inr ⟨by simpa using hjl, by omega, by simpa using hc⟩)
    have hr9 := right9 l[j].f1 s3 s4 (k + 1) (by omega) (by omega)
    have hJ := fun y => j2_at k j y a0 a1 a2 l l[j] (by omega) s3 s4 (by omega) (by omega)
    rw [List.drop_eq_getElem_cons hjl]
    simp only [rightL]
    rw [rightX_parts, breviaryref32_Right.l0, if_pos (by omega), if_pos (by omega)]
    simp only [rdT_at l j hjl, hr9, hJ, Option.bind_some]
    by_cases c1 : l[j].f0 < 1
    · rw [if_pos c1]; simp; intro; omega
    · rw [if_neg c1]
      by_cases c2 : l[j].f0 > 20000
      · rw [if_pos c2]; simp; intro; omega
      · rw [if_neg c2, hnext _ rfl (by omega)]
        rcases hp with ⟨rfl, rfl⟩ | ⟨hp1, hp2, rfl⟩
        · rw [if_neg (by simp)]
          have e1 : (0 : Int) < (l[0]'hjl).f0 := by omega
          cases hR : rightR (l[0]'hjl).f1 <;> cases hX : restX (l[0]'hjl) <;> simp [e1, c2] <;> omega
        · have hw : wrap64 ((j : Int) - 1) = ((j - 1 : Nat) : Int) := by unfold wrap64; omega
          rw [if_pos (by omega), hw, if_pos (by omega), if_pos (by omega), rdT_at l (j - 1) hp1]
          by_cases c3 : (l[j - 1]'hp1).f0 ≥ l[j].f0
          · rw [if_pos c3]; simp; intro; omega
          · rw [if_neg c3]
            have e1 : (l[j - 1]'hp1).f0 < l[j].f0 := by omega
            cases hR : rightR l[j].f1 <;> cases hX : restX l[j] <;> simp [e1, c2] <;> omega
theorem bound_rows : ∀ (l : List S46), ∃ M, ∀ x ∈ l, x.f1.f4.length < M ∧ x.f1.f5.length < M
  | [] => ⟨0, by simp⟩
  | x :: l => by
    obtain ⟨M, hM⟩ := bound_rows l
    refine ⟨M + x.f1.f4.length + x.f1.f5.length + 1, fun y hy => ?_⟩
    rcases List.mem_cons.1 hy with rfl | hy
    · omega
    · have := hM y hy; omega
theorem right32 (c : S25) (hl : c.f3.length ≤ 9223372036854775807) (hs : ∀ x ∈ c.f3, sized x) : ∃ k, breviaryref32_Right.f k c.f0 c.f1 c.f2 c.f3 = some (rightC c) := by
  obtain ⟨M, hM⟩ := bound_rows c.f3
  refine ⟨2 * c.f3.length + M + 2, ?_⟩
  obtain ⟨t, s, e, l⟩ := c
  simp only at *
  have hst := right_step t s e l hl M (fun x hx => ⟨hs x hx, hM x hx⟩) l.length 0 (2 * l.length + M + 1) 0 (by omega) (by omega) (by omega) (.inl ⟨rfl, rfl⟩)
  unfold breviaryref32_Right.f
  simp only [breviaryref32_Right.j0, rightC]
  rw [show ((0 : Int)) = ((0 : Nat) : Int) from rfl, hst, List.drop_zero]
  by_cases c1 : t < 1
  · rw [if_pos c1]; simp; intro; omega
  · rw [if_neg c1]
    by_cases c2 : t > 2147483647
    · rw [if_pos c2]; simp; intros; omega
    · rw [if_neg c2]
      by_cases c3 : s ≥ e
      · rw [if_pos c3]; simp; intros; omega
      · rw [if_neg c3]
        cases l with
        | nil => simp
        | cons x l =>
          have e1 : 1 ≤ t := by omega
          have e2 : t ≤ 2147483647 := by omega
          have e3 : s < e := by omega
          rw [if_neg (by simp; omega)]
          simp [e1, e2, e3]
theorem refright_calls (w : World) (A : Option Addr) (cp : Nat) (c : S25) (hC : k46.C w A c.f3.length c.f3) (hc : c.f3.length ≤ cp) (hs : ∀ x ∈ c.f3, sized x) (hl : c.f3.length ≤ 9223372036854775807) :
    Calls Try.prog 10 #[.agg #[.int .i64 c.f0, .int .u64 c.f1, .int .u64 c.f2, .slice A c.f3.length cp]] w fun e w' => e = .returned (.bool (rightC c)) ∧ Below w.heap.size w w' := by
  obtain ⟨k, hk⟩ := right32 c hl hs
  exact breviaryref32_Right.calls k c.f0 c.f1 c.f2 A cp c.f3 _ w hC hc hk
end Go.Proofs.Ytgndmbkkggjklaa.Jo
namespace Go.Proofs.Ytgndmbkkggjklaa.Jo
set_option linter.unusedVariables false
set_option linter.unusedSimpArgs false
open Go.RowKit Go.Proofs.YtgndmbkkggjklaaW.PrintWords Go.Proofs.YtgndmbkkggjklaaW.PrintLast Go.Proofs.YtgndmbkkggjklaaW.PrintMore Go.Proofs.Ytgndmbkkggjklaa.Bs
/-- Where the reading of a commit stands: the result's box, and the commit's. -/
structure Oc (w W : World) (g : Nat) (cs : Array Value) : Prop where
  t : W.heap[w.heap.size]? = some (.cells #[.int .i64 0, .int .u64 0, .int .u64 0, .slice none 0 0] 25 (0, 0))
  q : W.heap[g]? = some (.cells cs 25 (0, 0))
  b : Below w.heap.size w W
  lt : w.heap.size < g
theorem Oc.next {w W W' : World} {g : Nat} {cs : Array Value} (h : Oc w W g cs) (hb : Below W.heap.size W W') : Oc w W' g cs :=
  ⟨(hb.block _ (blk_lt h.t)).trans h.t, (hb.block _ (blk_lt h.q)).trans h.q, below_step h.b hb, h.lt⟩
theorem Oc.set {w W : World} {g i : Nat} {cs cs' : Array Value} {v : Value} (h : Oc w W g cs) (hq : (W.setCell ⟨g, i, none⟩ v).heap[g]? = some (.cells cs' 25 (0, 0))) : Oc w (W.setCell ⟨g, i, none⟩ v) g cs' :=
  ⟨(Below.heap_setCell W ⟨g, i, none⟩ v w.heap.size (Nat.ne_of_lt h.lt)).trans h.t, hq, Below.setCell h.b (Nat.le_of_lt h.lt) _, h.lt⟩
theorem Oc.fresh {w W : World} {cs : Array Value} (ht : W.heap[w.heap.size]? = some (.cells #[.int .i64 0, .int .u64 0, .int .u64 0, .slice none 0 0] 25 (0, 0))) (hb : Below w.heap.size w W) : Oc w (W.alloc (.cells cs 25)) W.heap.size cs :=
  ⟨(Below.heap_alloc W _ _ (blk_lt ht)).trans ht, heap_alloc_new W _, below_alloc hb _, blk_lt ht⟩
theorem Oc.drew {w W : World} {g : Nat} {cs : Array Value} (h : Oc w W g cs) : Oc w W.drew g cs := ⟨h.t, h.q, below_drew1 h.b, h.lt⟩
set_option maxRecDepth 100000 in
set_option maxHeartbeats 400000 in
/-- One round of the header's loop, told apart: the two stores. -/
theorem val_u64 {T : List Int} (hT : Bys T) (j : Nat) (hj : j < T.length) (hl : T.length ≤ 8) : IntKind.u64.wrap (IntKind.u64.wrap (val (T.take j) * 256) + IntKind.u64.wrap (rd T j)) = val (T.take (j + 1)) := by
  have hyT : rd T j ∈ T := by
    rw [show rd T j = T[j] by simp [rd, List.getD, hj]]
    exact List.getElem_mem _
  have hy := hT _ hyT
  have hv := val_le (T.take j) (fun x hx => hT x (List.mem_of_mem_take hx)) 7 (by rw [List.length_take]; omega)
  rw [show (256 : Nat) ^ 7 = 72057594037927936 by decide] at hv
  rw [val_next T j hj]
  simp only [IntKind.wrap_u64]
  omega
theorem rd_sub (h : List Int) (a n j : Nat) (hj : j < n) : rd ((h.drop a).take n) (j : Int) = rd h ((a + j : Nat) : Int) := by
  simp [rd, List.getD_eq_getElem?_getD, List.getElem?_take, List.getElem?_drop, hj, Int.toNat_add]
theorem com_eq (b h : List Int) (h22 : ¬ b.length < 22) (hh : h = b.take 22) : (comL (val ((h.drop 20).take 2)).toNat (b.drop 22) [] = none → (commitP b).2 = false) ∧ ∀ l r, comL (val ((h.drop 20).take 2)).toNat (b.drop 22) [] = some (l, r) → commitP b = (⟨val (h.take 4), val ((h.drop 4).take 8), val ((h.drop 12).take 8), l⟩, decide (r.length = 0) && rightC ⟨val (h.take 4), val ((h.drop 4).take 8), val ((h.drop 12).take 8), l⟩) := by
  have e1 : h.take 4 = b.take 4 := by rw [hh, List.take_take]; rfl
  have e2 : (h.drop 4).take 8 = (b.drop 4).take 8 := by rw [hh, List.drop_take, List.take_take]; rfl
  have e3 : (h.drop 12).take 8 = (b.drop 12).take 8 := by rw [hh, List.drop_take, List.take_take]; rfl
  have e4 : (h.drop 20).take 2 = (b.drop 20).take 2 := by rw [hh, List.drop_take, List.take_take]; rfl
  have hc := com_commit b
  rw [e1, e2, e3, e4]
  unfold comR at hc
  rw [if_neg h22] at hc
  refine ⟨fun h => hc.1 (by rw [h]), fun l r h => ?_⟩
  exact hc.2 _ r (by rw [h])
theorem C_mid {w : World} {A : Option Addr} {c : Nat} {h : List Int} (hC : (Kd.int .u8).C w A h.length h) (hc : h.length ≤ c) (n m : Nat) (hn0 : 0 < n) (hn : n + m ≤ h.length) (hm : 0 < m) : (Kd.int .u8).C w (A.map fun x => ⟨x.block, x.off + n, none⟩) m ((h.drop n).take m) := by
  have h2 := Kd.C_drop (m := n) (c := c) hC (by omega) hc
  rw [if_neg (by omega)] at h2
  have h3 := Kd.C_take (m := m) h2 (by rw [List.length_drop]; omega)
  have e : ((h.drop n).take m).length = m := by rw [List.length_take, List.length_drop]; omega
  rw [e, show n * (Kd.int .u8).sz = n from Nat.mul_one n] at h3
  have e2 : (fun x : Addr => x.add n) = fun x => ⟨x.block, x.off + n, none⟩ := by funext x; unfold Addr.add; rw [if_neg (by omega)]
  rw [e2] at h3
  exact h3
/-- What a commit gives. -/
def ComGave (w : World) (p : S25 × Bool) (e : Ending) (w' : World) : Prop := ∃ a0 a1 a2 A3 n3 c3, e = .returned (.tuple #[.agg #[.int .i64 a0, .int .u64 a1, .int .u64 a2, .slice A3 n3 c3], .bool p.2]) ∧ (p.2 = true → k25.M w' w.heap.size (fun k => w.heap.size ≤ k) p.1 [.int .i64 a0, .int .u64 a1, .int .u64 a2, .slice A3 n3 c3])
/-- The loop over the changes. -/
structure Cm (w W : World) (g : Nat) (tx st tm : Int) (A : Option Addr) (c : Nat) (acc : List S46) (wr : World) : Prop where
  blk : wr.heap[g]? = some (.cells #[.int .i64 tx, .int .u64 st, .int .u64 tm, .slice A acc.length c] 25 (0, 0))
  row : k46.R 46 wr W.heap.size (fun k => W.heap.size ≤ k) (.slice A acc.length c) acc
  ch : Ch (fun k => k = g) W wr
  siz : ∀ x ∈ acc, sized x
theorem Cm.below {w W wr w' : World} {g : Nat} {tx st tm : Int} {A : Option Addr} {c : Nat} {acc : List S46} (h : Cm w W g tx st tm A c acc wr) (hb : Below wr.heap.size wr w') : Cm w W g tx st tm A c acc w' :=
  ⟨(hb.block _ (blk_lt h.blk)).trans h.blk, Kd.R_below h.row hb, h.ch.below hb, h.siz⟩
theorem Cm.add {w W w1 wr : World} {g : Nat} {tx st tm : Int} {A A1 : Option Addr} {c c1 m : Nat} {acc : List S46} {x : S46} (h : Cm w W g tx st tm A c acc wr) (hg : g < W.heap.size) (hx : sized x) (hm : m = (acc ++ [x]).length)
    (hr : k46.R 46 w1 W.heap.size (fun k => W.heap.size ≤ k) (.slice A1 m c1) (acc ++ [x])) (hch : Ch (fun k => some k = (Value.slice A acc.length c).ownBlock) wr w1) : Cm w W g tx st tm A1 c1 (acc ++ [x]) (w1.setCell ⟨g, 3, none⟩ (.slice A1 m c1)) := by
  subst hm
  have hb : ∀ k, some k = (Value.slice A acc.length c).ownBlock → W.heap.size ≤ k := fun k hk => h.row.1 k hk.symm
  have hset : Ch (fun k => k = g) w1 (w1.setCell ⟨g, 3, none⟩ (.slice A1 (acc ++ [x]).length c1)) := (Ch.refl (fun k => k = g) w1).setCell (p := ⟨g, 3, none⟩) (.inl rfl) _
  refine ⟨blk_upd 3 _ (hch.heap h.blk (fun e => by have := hb g e; omega)) rfl, Kd.R_step hr (fun k hk hlt => hset.block k hlt (fun e => by omega)), (h.ch.trans (hch.mono (fun k hk _ => .inr (hb k hk)))).trans (hset.mono (fun k hk _ => .inl hk)), ?_⟩
  intro y hy
  rcases List.mem_append.1 hy with hy | hy
  · exact h.siz y hy
  · rw [List.mem_singleton] at hy; subst hy; exact hx
theorem Cm.result {w W wr w9 : World} {g : Nat} {tx st tm : Int} {A : Option Addr} {c : Nat} {acc : List S46} (h : Cm w W g tx st tm A c acc wr) (hb : Below wr.heap.size wr w9) (hW : Below w.heap.size w W) (hlt : w.heap.size < W.heap.size) (hg : w.heap.size ≤ g) :
    k25.M (set4 w9 w.heap.size (.int .i64 tx) (.int .u64 st) (.int .u64 tm) (.slice A acc.length c)) w.heap.size (fun k => w.heap.size ≤ k) ⟨tx, st, tm, acc⟩ [.int .i64 tx, .int .u64 st, .int .u64 tm, .slice A acc.length c] ∧ Below w.heap.size w (set4 w9 w.heap.size (.int .i64 tx) (.int .u64 st) (.int .u64 tm) (.slice A acc.length c)) := by
  have hch := set4_ch w9 w.heap.size (.int .i64 tx) (.int .u64 st) (.int .u64 tm) (.slice A acc.length c)
  have hR := hch.R (Kd.R_below h.row hb) (fun k hk e => by omega)
  refine ⟨k25_mkM _ _ _ ⟨tx, st, tm, acc⟩ (Kd.R_mono (Kd.R_lower hR (Nat.le_of_lt hlt)) (fun k hk => by omega)), ?_⟩
  have h1 := Ch.to_below h.ch (B := w.heap.size) (fun k hk => by omega) (by omega)
  have h2 := below_step (hW.trans h1) hb
  exact h2.trans (Ch.to_below hch (fun k hk => by omega) h2.size)
set_option maxRecDepth 100000 in
set_option maxHeartbeats 2000000 in
theorem com_long (w : World) (A : Option Addr) (c : Nat) (b : List Int) (hC : (Kd.int .u8).C w A b.length b) (hc : b.length ≤ c) (hby : Bys b) (h22 : ¬ b.length < 22) (hlen : b.length ≤ 9000000000000000000) :
    Calls Try.prog 28 #[.slice A b.length c] w fun e w' => ComGave w (commitP b) e w' ∧ Below w.heap.size w w' := by
  have C1 := cut_ok w (w.alloc (.cells #[.int .i64 0, .int .u64 0, .int .u64 0, .slice none 0 0] 25)) A c 22 b hC hc (by omega)
  have hlx : (b.take 22).length = 22 := by rw [List.length_take]; omega
  have HXB := Aside0.mk (bys_take hby 22)
  have HYB := Aside0.mk (bys_drop hby 22)
  have hB := below_alloc (Below.refl w.heap.size w) (.cells #[.int .i64 0, .int .u64 0, .int .u64 0, .slice none 0 0] 25)
  have hT := heap_alloc_new w (.cells #[.int .i64 0, .int .u64 0, .int .u64 0, .slice none 0 0] 25)
  obtain ⟨h, hh⟩ : ∃ x, x = b.take 22 := ⟨_, rfl⟩
  obtain ⟨y, hy⟩ : ∃ x, x = b.drop 22 := ⟨_, rfl⟩
  rw [← hh] at C1 hlx HXB
  rw [← hy] at C1 HYB
  have HCP := Aside0.mk (com_eq b h h22 hh)
  rw [← hy] at HCP
  generalize commitP b = cp0 at HCP ⊢
  replace hlen : y.length ≤ 9000000000000000000 := by rw [hy, List.length_drop]; omega
  clear hC h22 hby hh hy
  go_enter Try.func28, Try.ntmps28
  go_wp2_with fail
  obtain ⟨W1, hW1⟩ : ∃ x, x = w.alloc (.cells #[.int .i64 0, .int .u64 0, .int .u64 0, .slice none 0 0] 25) := ⟨_, rfl⟩
  rw [← hW1] at hB hT C1 ⊢
  clear hW1
  refine C1.mono ?_
  rintro e w2 ⟨⟨A1, c1, A2, c2, rfl, l1, l2, g1, g2⟩, hb⟩
  have HB := Aside0.mk (below_step hB hb)
  have HT := Aside0.mk ((hb.block _ (blk_lt hT)).trans hT)
  have G1 := Aside0.mk g1
  have G2 := Aside0.mk g2
  have hl4 : (h.take 4).length = 4 := by rw [List.length_take]; omega
  have CV := value_calls w2 A1 c1 (h.take 4) (Kd.C_below (Kd.C_take g1 (by omega)) HB.out) (by omega) (bys_take HXB.out 4) (by omega)
  rw [hl4] at CV
  have hc22 : (22 : Int) ≤ (c1 : Int) := by omega
  have HLX := Aside0.mk hlx
  rw [hlx]
  clear hb hB hT C1 g1 g2 hl4 l1 hlx
  go_wp2_with fail
  refine CV.mono ?_
  rintro e w3 ⟨rfl, hb⟩
  obtain ⟨tx, htx⟩ : ∃ x, x = val (h.take 4) := ⟨_, rfl⟩
  rw [← htx]
  have ET := Aside0.mk htx
  have O3 := Aside0.mk (Oc.fresh (cs := #[.int .i64 tx, .int .u64 0, .int .u64 0, .slice none 0 0]) ((hb.block _ (blk_lt HT.out)).trans HT.out) (below_step HB.out hb))
  clear hb CV htx HT HB
  go_wp2_with fail
  obtain ⟨W4, hW⟩ : ∃ x, x = w3.alloc (.cells #[.int .i64 tx, .int .u64 0, .int .u64 0, .slice none 0 0] 25) := ⟨_, rfl⟩
  rw [← hW] at O3 ⊢
  obtain ⟨g, hg⟩ : ∃ x, x = w3.heap.size := ⟨_, rfl⟩
  rw [← hg] at O3 ⊢
  clear hW hg
  have HC22 := Aside0.mk hc22
  go_loopw [8] (fun v8 wr => ∃ i : Nat, v8 = .int .i64 i ∧ (4 ≤ i ∧ i ≤ 12) ∧ Aside0 (Oc w wr g #[.int .i64 tx, .int .u64 (val (((h.drop 4).take 8).take (i - 4))), .int .u64 (val (((h.drop 12).take 8).take (i - 4))), .slice none 0 0])) (fun v8 _ => 12 - (intOf v8).toNat)
  case atStart => exact ⟨4, rfl, by omega, O3⟩
  case round =>
    clear O3
    obtain ⟨i, rfl, hj, O⟩ := hrel
    obtain ⟨j, hij⟩ : ∃ j : Nat, j = i - 4 := ⟨_, rfl⟩
    rw [← hij] at O
    obtain ⟨i12, h12⟩ : ∃ x : Nat, x = i + 8 := ⟨_, rfl⟩
    obtain ⟨q0, q1, q2, q3, q4⟩ := blk4 O.out.q
    by_cases hj8 : i < 12
    · obtain ⟨ad, e, hx⟩ := Kd.at_int (Kd.C_below G1.out O.out.b) (i : Int) (by omega) (by have := HLX.out; omega)
      cases e
      obtain ⟨ad', e, hz⟩ := Kd.at_int G1.out (i12 : Int) (by omega) (by have := HLX.out; omega)
      cases e
      have h0 : (0 : Int) ≤ (i : Int) := by omega
      have h1 : (i : Int) < 22 := by omega
      have h2 : (i : Int) < 12 := by omega
      have hw8 : wrap64 ((i : Int) + 8) = (i12 : Int) := (IntWalk.wrap64_in _ ⟨by omega, by omega⟩).trans (by omega)
      have h3 : (0 : Int) ≤ (i12 : Int) := by omega
      have h4 : (i12 : Int) < 22 := by omega
      have L1 : ((h.drop 4).take 8).length = 8 := by rw [List.length_take, List.length_drop]; have := HLX.out; omega
      have L2 : ((h.drop 12).take 8).length = 8 := by rw [List.length_take, List.length_drop]; have := HLX.out; omega
      have E1 := val_u64 (T := (h.drop 4).take 8) (bys_take (bys_drop HXB.out 4) 8) j (by omega) (by omega)
      have E2 := val_u64 (T := (h.drop 12).take 8) (bys_take (bys_drop HXB.out 12) 8) j (by omega) (by omega)
      rw [rd_sub h 4 8 j (by omega), show 4 + j = i by omega] at E1
      rw [rd_sub h 12 8 j (by omega), show 12 + j = i12 by omega] at E2
      obtain ⟨n1, hn1⟩ : ∃ x, x = val (((h.drop 4).take 8).take (j + 1)) := ⟨_, rfl⟩
      obtain ⟨n2, hn2⟩ : ∃ x, x = val (((h.drop 12).take 8).take (j + 1)) := ⟨_, rfl⟩
      obtain ⟨v1, hv1⟩ : ∃ x, x = val (((h.drop 4).take 8).take j) := ⟨_, rfl⟩
      obtain ⟨v2, hv2⟩ : ∃ x, x = val (((h.drop 12).take 8).take j) := ⟨_, rfl⟩
      obtain ⟨y1, hy1⟩ : ∃ x, x = rd h (i : Int) := ⟨_, rfl⟩
      obtain ⟨y2, hy2⟩ : ∃ x, x = rd h (i12 : Int) := ⟨_, rfl⟩
      rw [← hn1, ← hv1, ← hy1] at E1
      rw [← hn2, ← hv2, ← hy2] at E2
      rw [← hv1] at q1 O
      rw [← hv2] at q2 O
      rw [← hy1, Int.toNat_natCast] at hx
      rw [← hy2, Int.toNat_natCast] at hz
      have N1 := Aside0.mk hn1
      have N2 := Aside0.mk hn2
      have I12 := Aside0.mk h12
      have IJ := Aside0.mk hij
      have HJ := Aside0.mk (And.intro hj hj8)
      clear hn1 hn2 hv1 hv2 hy1 hy2 L1 L2 hij h12 hj hj8
      go_upto_region 8 with (fail)
      go_region
      have O6x := (O.out.set (i := 1) (v := .int .u64 n1) (blk_upd (cs' := #[.int .i64 tx, .int .u64 n1, .int .u64 v2, .slice none 0 0]) 1 (.int .u64 n1) O.out.q rfl)).drew
      obtain ⟨W6, hW⟩ : ∃ x, x = (wr.setCell ⟨g, 1, none⟩ (.int .u64 n1)).drew := ⟨_, rfl⟩
      rw [← hW] at O6x ⊢
      have O6 := Aside0.mk O6x
      have hz6 := pw_cell_below O6x.b hz
      rw [I12.out] at hz6
      have hz7 : W6.cell? ⟨ad.block, ad.off + (i + 8), none⟩ = some (.int .u8 y2) := hz6
      have hz8 : W6.cell? ⟨ad.block, ad.off + i + 8, none⟩ = some (.int .u8 y2) := by rw [Nat.add_assoc]; exact hz7
      clear hW O6x hx hz q0 q1 q2 q3 q4 O E1
      obtain ⟨q0, q1, q2, q3, q4⟩ := blk4 O6.out.q
      go_upto_region 9 with (fail)
      go_region
      have O8x := (O6.out.set (i := 2) (v := .int .u64 n2) (blk_upd (cs' := #[.int .i64 tx, .int .u64 n1, .int .u64 n2, .slice none 0 0]) 2 (.int .u64 n2) O6.out.q rfl)).drew
      have O8 := Aside0.mk O8x
      clear O8x q0 q1 q2 q3 q4
      go_wp2
      go_roundw
      case rel => exact ⟨i + 1, by first | rfl | rw [wrap_succ i (by have := HJ.out; omega)] | simp, by have := HJ.out; omega, by rw [show i + 1 - 4 = j + 1 by have := IJ.out; have := HJ.out; omega, ← N1.out, ← N2.out]; exact O8⟩
      case measure => have hj := HJ.out.2; first | exact meas_in i 12 hj | exact meas_up i 12 hj (by omega)
    · have hi : i = 12 := by omega
      subst hi
      have e8 : j = 8 := by omega
      subst e8
      rw [List.take_take, List.take_take, show min 8 8 = 8 from rfl] at O
      clear q0 q1 q2 q3 q4 hij h12 hj8
      have hl2 : ((h.drop 20).take 2).length = 2 := by rw [List.length_take, List.length_drop]; have := HLX.out; omega
      have h12 : ¬ (12 : Int) < 12 := by omega
      have hc22 := HC22.out
      have CV := value_calls wr (A1.map fun x => ⟨x.block, x.off + 20, none⟩) (c1 - 20) ((h.drop 20).take 2) (by rw [hl2]; exact Kd.C_below (C_mid (c := c1) G1.out (by have := HLX.out; omega) 20 2 (by omega) (by have := HLX.out; omega) (by omega)) O.out.b) (by omega) (bys_take (bys_drop HXB.out 20) 2) (by omega)
      rw [hl2] at CV
      have hv2 := val_two (bys_take (bys_drop HXB.out 20) 2) (by omega)
      obtain ⟨m, hm⟩ : ∃ m : Nat, val ((h.drop 20).take 2) = m := ⟨(val ((h.drop 20).take 2)).toNat, by omega⟩
      rw [hm] at CV hv2
      rw [hm, Int.toNat_natCast, ← ET.out] at HCP
      obtain ⟨st, hst⟩ : ∃ x, x = val (List.take 8 (List.drop 4 h)) := ⟨_, rfl⟩
      obtain ⟨tm, htm⟩ : ∃ x, x = val (List.take 8 (List.drop 12 h)) := ⟨_, rfl⟩
      rw [← hst, ← htm] at HCP O
      have HM := Aside0.mk (show m < 65536 by omega)
      clear hst htm hm hv2 hl2 hc22 ET
      go_wp2_with fail
      refine CV.mono ?_
      rintro e w7 ⟨rfl, hb⟩
      have O7 := O.out.next hb
      have CM := Aside0.mk (show Cm w w7 g tx st tm none 0 [] w7 from ⟨O7.q, Kd.R_nil _ _ _ _ _, Ch.refl _ _, by simp⟩)
      have HW7 := Aside0.mk O7.b
      have T7 := Aside0.mk O7.t
      have HGL := Aside0.mk (show g < w7.heap.size from blk_lt O7.q)
      have HLT := Aside0.mk O7.lt
      obtain ⟨cl, hcl⟩ : ∃ x, x = comL m y [] := ⟨_, rfl⟩
      rw [← hcl] at HCP
      have E0 := Aside0.mk hcl
      clear hcl
      have HLY := Aside0.mk (show y.length ≤ 9000000000000000000 from hlen)
      clear hb O7 O CV hlen h12
      go_wp2_with fail
      go_loopw [5, 9] (fun v5 v9 wr => ∃ (j : Nat) (Ay : Option Addr) (cy : Nat) (z : List Int) (Ac : Option Addr) (cc : Nat) (acc : List S46), v9 = .int .i64 j ∧ v5 = .slice Ay z.length cy ∧ z.length ≤ cy ∧ j + acc.length = m ∧ Aside0 (cl = comL j z acc) ∧ Aside0 (Bys z) ∧ Aside0 ((Kd.int .u8).C w Ay z.length z) ∧ Aside0 (z.length ≤ 9000000000000000000) ∧ Aside0 (Cm w w7 g tx st tm Ac cc acc wr)) (fun _ v9 _ => (intOf v9).toNat)
      case atStart => exact ⟨m, A2, c2, y, none, 0, [], rfl, rfl, l2, by simp, E0, HYB, G2, HLY, CM⟩
      case round =>
        clear CM E0 HYB G2 HLY l2
        obtain ⟨j, Ay, cy, z, Ac, cc, acc, rfl, rfl, ly, hj, E5, HBY, HCY, HLY, CM⟩ := hrel
        have HBR := Aside0.mk (show Below w.heap.size w wr from HW7.out.trans (Ch.to_below CM.out.ch (B := w.heap.size) (fun k hk => by have := HLT.out; omega) (by have := HLT.out; have := HGL.out; omega)))
        have TR := Aside0.mk (CM.out.ch.heap T7.out (by have := HLT.out; omega))
        by_cases hj0 : 0 < j
        · obtain ⟨j, rfl⟩ : ∃ i, j = i + 1 := ⟨j - 1, by omega⟩
          have hj1 : (0 : Int) < ((j + 1 : Nat) : Int) := by omega
          have hj2 : (j : Int) < 65536 := by have := HM.out; omega
          have CO := one_calls w wr Ay cy z HCY.out HBR.out (HBR.out.size) ly HBY.out
          have HC1 := one_change z
          cases eo : oneP z with
          | none =>
            have HN := Aside0.mk (HCP.out.1 (E5.out.trans (by rw [comL, eo])))
            rw [eo] at CO
            clear E5 HBY HCY HLY hj hj0 HC1 eo ly HCP
            go_wp2_with fail
            refine CO.mono ?_
            rintro e w9 ⟨⟨b0, b1, b2, b3, b4, A5, n5, c5, A6, n6, c6, b7, rfl⟩, hb⟩
            go_upto_region 14 with (fail)
            obtain ⟨WB, hWB⟩ : ∃ x, x = w9.alloc (.cells #[.int .i64 b0, .int .i64 b1, .string b2, .string b3, .int .i64 b4, .slice A5 n5 c5, .slice A6 n6 c6, .bool b7] 46) := ⟨_, rfl⟩
            rw [← hWB]
            have hbb := below_step hb (show Below w9.heap.size w9 WB from hWB ▸ below_alloc (Below.refl _ _) _)
            have T9 := Aside0.mk ((hbb.block _ (blk_lt TR.out)).trans TR.out)
            have HB9 := Aside0.mk (below_step HBR.out hbb)
            clear hb CO hWB hbb
            obtain ⟨t0, t1, t2, t3, t4⟩ := blk4 T9.out
            go_wp2_with fail
            change bodyPost Try.prog Try.f28 _ Exit.ret _ (set4 WB w.heap.size (.int .i64 0) (.int .u64 0) (.int .u64 0) (.slice none 0 0))
            have hs := set4_q T9.out (.int .i64 0) (.int .u64 0) (.int .u64 0) (.slice none 0 0)
            have hbl := HB9.out.trans (Ch.to_below (B := w.heap.size) (set4_ch WB w.heap.size (.int .i64 0) (.int .u64 0) (.int .u64 0) (.slice none 0 0)) (fun k hk => Nat.le_of_eq hk.symm) HB9.out.size)
            clear t0 t1 t2 t3 t4
            generalize set4 WB w.heap.size (.int .i64 0) (.int .u64 0) (.int .u64 0) (.slice none 0 0) = W9 at *
            obtain ⟨d0, d1, d2, d3, d4⟩ := blk4 hs
            refine bodyPost_ret (v := .tuple #[.agg #[.int .i64 0, .int .u64 0, .int .u64 0, .slice none 0 0], .bool false]) (by simp [results, Try.results28, go_sem, d0, d1, d2, d3]) rfl ?_
            exact ⟨⟨_, _, _, _, _, _, by rw [HN.out], fun h => by rw [HN.out] at h; cases h⟩, hbl⟩
          | some p =>
            obtain ⟨x, z2⟩ := p
            rw [eo] at CO
            have E6 := Aside0.mk (show cl = comL j z2 (acc ++ [x]) by rw [E5.out, comL, eo])
            have hch := HC1.2 x z2 eo
            have hsz := changeP_sized (s := ⟨z, false⟩) HBY.out HLY.out
            have hby2 := changeP_bys (s := ⟨z, false⟩) HBY.out
            rw [hch] at hsz hby2
            have HSX := Aside0.mk hsz.1
            have HLZ := Aside0.mk (Nat.le_trans hsz.2 HLY.out)
            have HBZ := Aside0.mk hby2
            have HLEN := Aside0.mk (show (acc.length + 1) * 112 ≤ 140737488355328 by have := HM.out; omega)
            clear E5 HBY HCY HLY hj0 HC1 eo ly hch hsz hby2 HCP
            go_wp2_with fail
            refine CO.mono ?_
            rintro e w9 ⟨⟨cs, Az, cz, rfl, hfk, lz, hcz⟩, hb⟩
            obtain ⟨A5, c5, A6, c6, rfl⟩ := M46_open hfk
            go_upto_region 14 with (fail)
            obtain ⟨WB, hWB⟩ : ∃ q, q = w9.alloc (.cells #[.int .i64 x.f0, .int .i64 x.f1.f0, .string x.f1.f1, .string x.f1.f2, .int .i64 x.f1.f3, .slice A5 x.f1.f4.length c5, .slice A6 x.f1.f5.length c6, .bool x.f1.f6] 46) := ⟨_, rfl⟩
            rw [← hWB]
            have hb9 := show Below w9.heap.size w9 WB from hWB ▸ below_alloc (Below.refl _ _) _
            have hbb := below_step hb hb9
            have QB := Aside0.mk (show WB.heap[w9.heap.size]? = _ from hWB ▸ heap_alloc_new w9 _)
            have CMB := Aside0.mk (CM.out.below hbb)
            have HFK := Aside0.mk (Kd.M_below hfk hb9)
            have HCZ := Aside0.mk hcz
            have HZD := Aside0.mk (show w7.heap.size ≤ wr.heap.size from CM.out.ch.size)
            have HZB := Aside0.mk (show wr.heap.size ≤ WB.heap.size from hbb.size)
            obtain ⟨nb, hnb⟩ : ∃ q, q = w9.heap.size := ⟨_, rfl⟩
            rw [← hnb] at QB ⊢
            clear hb CO hWB hbb hb9 hfk hcz hnb
            obtain ⟨q0, q1, q2, q3, q4⟩ := blk4 CMB.out.blk
            obtain ⟨a0, a1, a2, a3, a4, a5, a6, a7, a8⟩ := blk8 QB.out
            go_wp2_with (first | ((with_reducible refine gate_builtin (b := .append) (xs := #[.tmp 68, .tmp 70]) rfl ?_); at_builtin; go_loud (refine app_list k46 (W := WB) w7.heap.size rfl (.tmp 68) (.tmp 70) 23 46 _ 112 rfl Try.underlying23 info46 ⟨rfl, by decide, by decide⟩ (.slice Ac acc.length cc) acc x _ (fun k => w7.heap.size ≤ k) (fun k => wr.heap.size ≤ k) rfl rfl (k46.M_lower HZD.out HFK.out) (fun k hk => ⟨Nat.le_trans HZD.out hk, fun e => by have := Kd.R_lt CM.out.row k e.symm; omega⟩) CMB.out.row (Nat.le_trans HZD.out HZB.out) HLEN.out ?_); intro A1' c1' w10 hr10 hch10 hat10; have hne : ¬ some g = (Value.slice Ac acc.length cc).ownBlock := fun e => (by have := CMB.out.row.1 g e.symm; have := HGL.out; omega); obtain ⟨f0, f1, f2, f3, f4⟩ := blk4 (hch10.heap CMB.out.blk hne); have CM10 := Aside0.mk (CMB.out.add HGL.out HSX.out (by simp) (Kd.R_mono hr10 (fun k hk => hk.elim id (fun h => Nat.le_trans (Nat.le_trans HZD.out HZB.out) h))) hch10); clear hr10 hch10 hat10 hne))
            go_roundw
            case rel => exact ⟨j, Az, cz, z2, A1', c1', acc ++ [x], by first | rfl | simp, rfl, lz, by rw [List.length_append, List.length_singleton]; omega, E6, HBZ, HCZ, HLZ, CM10⟩
            case measure => simp [intOf]; try omega
        · have hj3 : j = 0 := by omega
          subst hj3
          have E9 := HCP.out.2 acc z E5.out
          obtain ⟨q0, q1, q2, q3, q4⟩ := blk4 CM.out.blk
          obtain ⟨t0, t1, t2, t3, t4⟩ := blk4 TR.out
          have CR := Aside0.mk (fun (W : World) (hW : Below wr.heap.size wr W) => refright_calls W Ac cc ⟨tx, st, tm, acc⟩ (Kd.F_now (Kd.F_below (Kd.R_F CM.out.row) hW)) (Kd.R_reads' CM.out.row).2.1 CM.out.siz (by have := HM.out; show acc.length ≤ _; omega))
          simp only at CR
          clear HCP E5 HBY HCY HLY hj hj0 ly
          have hgw : ¬ g = w.heap.size := by have := HLT.out; omega
          cases z with
          | nil =>
            have EX := Aside0.mk (show cp0 = (⟨tx, st, tm, acc⟩, rightC ⟨tx, st, tm, acc⟩) by rw [E9]; simp)
            clear E9
            simp only [List.length_nil]
            generalize rightC ⟨tx, st, tm, acc⟩ = rb at *
            go_upto_region 18 with (fail)
            go_region_held3 (fun w' => w'.cell? ⟨g, 0, none⟩ = some (.int .i64 tx) ∧ w'.cell? ⟨g, 1, none⟩ = some (.int .u64 st) ∧ w'.cell? ⟨g, 2, none⟩ = some (.int .u64 tm) ∧ w'.cell? ⟨g, 3, none⟩ = some (.slice Ac acc.length cc)) (first | exact ⟨q0, q1, q2, q3⟩ | exact ⟨z0, z1, z2, z3⟩ | exact ⟨(set4_ch w9 w.heap.size (.int .i64 tx) (.int .u64 st) (.int .u64 tm) (.slice Ac acc.length cc)).cell z0 hgw, (set4_ch w9 w.heap.size (.int .i64 tx) (.int .u64 st) (.int .u64 tm) (.slice Ac acc.length cc)).cell z1 hgw, (set4_ch w9 w.heap.size (.int .i64 tx) (.int .u64 st) (.int .u64 tm) (.slice Ac acc.length cc)).cell z2 hgw, (set4_ch w9 w.heap.size (.int .i64 tx) (.int .u64 st) (.int .u64 tm) (.slice Ac acc.length cc)).cell z3 hgw⟩ | go_keep) (first | (go_at_call 10; (with_reducible refine (CR.out _ (below_drew (Below.refl _ _))).mono ?_); rintro e w9 ⟨rfl, hb9⟩; have HB9 := Aside0.mk hb9; have hT9 := (hb9.block w.heap.size (blk_lt (show wr.drew.heap[w.heap.size]? = _ from TR.out))).trans TR.out; obtain ⟨y0, y1, y2, y3, y4⟩ := blk4 hT9; have TR9 := Aside0.mk hT9; have hq9 := (hb9.block g (blk_lt (show wr.drew.heap[g]? = _ from CM.out.blk))).trans CM.out.blk; obtain ⟨z0, z1, z2, z3, z4⟩ := blk4 hq9; clear hb9 hT9 hq9))
            go_wp2
            change bodyPost Try.prog Try.f28 _ Exit.ret _ (set4 w9 w.heap.size (.int .i64 tx) (.int .u64 st) (.int .u64 tm) (.slice Ac acc.length cc))
            have hs : (set4 w9 w.heap.size (.int .i64 tx) (.int .u64 st) (.int .u64 tm) (.slice Ac acc.length cc)).heap[w.heap.size]? = some (.cells #[.int .i64 tx, .int .u64 st, .int .u64 tm, .slice Ac acc.length cc] 25 (0, 0)) := set4_q TR9.out (.int .i64 tx) (.int .u64 st) (.int .u64 tm) (.slice Ac acc.length cc)
            have hres := CM.out.result (below_step (below_drew (Below.refl wr.heap.size wr)) HB9.out) HW7.out (Nat.lt_trans HLT.out HGL.out) (Nat.le_of_lt HLT.out)
            have hfk := hres.1
            have hbl := hres.2
            clear t0 t1 t2 t3 t4 q0 q1 q2 q3 q4 hres y0 y1 y2 y3 y4 z0 z1 z2 z3 z4
            generalize set4 w9 w.heap.size (.int .i64 tx) (.int .u64 st) (.int .u64 tm) (.slice Ac acc.length cc) = W9 at *
            obtain ⟨d0, d1, d2, d3, d4⟩ := blk4 hs
            refine bodyPost_ret (v := .tuple #[.agg #[.int .i64 tx, .int .u64 st, .int .u64 tm, .slice Ac acc.length cc], .bool rb]) (by simp [results, Try.results28, go_sem, d0, d1, d2, d3]) rfl ?_
            rw [EX.out]
            exact ⟨⟨_, _, _, _, _, _, rfl, fun _ => hfk⟩, hbl⟩
          | cons sx sl =>
            have EX := Aside0.mk (show cp0.2 = false by rw [E9]; simp)
            clear E9
            simp only [List.length_cons]
            obtain ⟨n0, hn0⟩ : ∃ n0, n0 = sl.length + 1 := ⟨_, rfl⟩
            rw [← hn0]
            have hb1 : ((n0 : Int) == 0) = false := by rw [hn0]; simp; omega
            have hb2 : ¬ n0 = 0 := by omega
            have hb3 : decide ((n0 : Int) = 0) = false := by simp; omega
            clear hn0
            go_upto_region 18 with (fail)
            go_region
            go_wp2
            change bodyPost Try.prog Try.f28 _ Exit.ret _ (set4 wr w.heap.size (.int .i64 tx) (.int .u64 st) (.int .u64 tm) (.slice Ac acc.length cc)).drew
            have hs : (set4 wr w.heap.size (.int .i64 tx) (.int .u64 st) (.int .u64 tm) (.slice Ac acc.length cc)).drew.heap[w.heap.size]? = some (.cells #[.int .i64 tx, .int .u64 st, .int .u64 tm, .slice Ac acc.length cc] 25 (0, 0)) := set4_q TR.out (.int .i64 tx) (.int .u64 st) (.int .u64 tm) (.slice Ac acc.length cc)
            have hres := CM.out.result (Below.refl wr.heap.size wr) HW7.out (Nat.lt_trans HLT.out HGL.out) (Nat.le_of_lt HLT.out)
            have hbl := below_step hres.2 (below_drew (Below.refl _ _))
            clear t0 t1 t2 t3 t4 q0 q1 q2 q3 q4 hres
            generalize (set4 wr w.heap.size (.int .i64 tx) (.int .u64 st) (.int .u64 tm) (.slice Ac acc.length cc)).drew = W9 at *
            obtain ⟨d0, d1, d2, d3, d4⟩ := blk4 hs
            refine bodyPost_ret (v := .tuple #[.agg #[.int .i64 tx, .int .u64 st, .int .u64 tm, .slice Ac acc.length cc], .bool false]) (by simp [results, Try.results28, go_sem, d0, d1, d2, d3]) rfl ?_
            exact ⟨⟨_, _, _, _, _, _, by rw [EX.out], fun h => by rw [EX.out] at h; cases h⟩, hbl⟩
set_option maxRecDepth 100000 in
set_option maxHeartbeats 400000 in
theorem com_short (w : World) (A : Option Addr) (c : Nat) (b : List Int) (h22 : b.length < 22) :
    Calls Try.prog 28 #[.slice A b.length c] w fun e w' => ComGave w (commitP b) e w' ∧ Below w.heap.size w w' := by
  have C1 := Aside0.mk (fun W => cut_short W A c 22 b h22)
  have E := Aside0.mk ((com_commit b).1 (by unfold comR; rw [if_pos h22]))
  generalize commitP b = cp0 at E ⊢
  have hB := below_alloc (Below.refl w.heap.size w) (.cells #[.int .i64 0, .int .u64 0, .int .u64 0, .slice none 0 0] 25)
  have hT := heap_alloc_new w (.cells #[.int .i64 0, .int .u64 0, .int .u64 0, .slice none 0 0] 25)
  clear h22
  go_enter Try.func28, Try.ntmps28
  go_wp2_with fail
  obtain ⟨W1, hW1⟩ : ∃ x, x = w.alloc (.cells #[.int .i64 0, .int .u64 0, .int .u64 0, .slice none 0 0] 25) := ⟨_, rfl⟩
  rw [← hW1] at hB hT ⊢
  clear hW1
  refine (C1.out W1).mono ?_
  rintro e w2 ⟨rfl, hb⟩
  have HB9 := Aside0.mk (below_step hB hb)
  have T9 := Aside0.mk ((hb.block _ (blk_lt hT)).trans hT)
  clear hb hB hT C1
  obtain ⟨t0, t1, t2, t3, t4⟩ := blk4 T9.out
  go_wp2_with fail
  change bodyPost Try.prog Try.f28 _ Exit.ret _ (set4 w2 w.heap.size (.int .i64 0) (.int .u64 0) (.int .u64 0) (.slice none 0 0))
  have hs := set4_q T9.out (.int .i64 0) (.int .u64 0) (.int .u64 0) (.slice none 0 0)
  have hbl := HB9.out.trans (Ch.to_below (B := w.heap.size) (set4_ch w2 w.heap.size (.int .i64 0) (.int .u64 0) (.int .u64 0) (.slice none 0 0)) (fun k hk => Nat.le_of_eq hk.symm) HB9.out.size)
  clear t0 t1 t2 t3 t4
  generalize set4 w2 w.heap.size (.int .i64 0) (.int .u64 0) (.int .u64 0) (.slice none 0 0) = W9 at *
  obtain ⟨d0, d1, d2, d3, d4⟩ := blk4 hs
  refine bodyPost_ret (v := .tuple #[.agg #[.int .i64 0, .int .u64 0, .int .u64 0, .slice none 0 0], .bool false]) (by simp [results, Try.results28, go_sem, d0, d1, d2, d3]) rfl ?_
  exact ⟨⟨_, _, _, _, _, _, by rw [E.out], fun h => by rw [E.out] at h; cases h⟩, hbl⟩
theorem com_calls (w : World) (A : Option Addr) (c : Nat) (b : List Int) (hC : (Kd.int .u8).C w A b.length b) (hc : b.length ≤ c) (hby : Bys b) (hlen : b.length ≤ 9000000000000000000) :
    Calls Try.prog 28 #[.slice A b.length c] w fun e w' => ComGave w (commitP b) e w' ∧ Below w.heap.size w w' := by
  by_cases h : b.length < 22
  · exact com_short w A c b h
  · exact com_long w A c b hC hc hby h hlen
end Go.Proofs.Ytgndmbkkggjklaa.Jo
namespace Go.Proofs.Ytgndmbkkggjklaa.Jo
set_option linter.unusedVariables false
set_option linter.unusedSimpArgs false
open Go.RowKit Go.Proofs.YtgndmbkkggjklaaW.PrintWords Go.Proofs.YtgndmbkkggjklaaW.PrintLast Go.Proofs.YtgndmbkkggjklaaW.PrintMore Go.Proofs.Ytgndmbkkggjklaa.Bs
attribute [local go_sem] Oper.semAt_some
/-- A piece that the iterator tells, and where it lies. -/
structure Item (w0 : World) where
  pos : Nat
  A : Option Addr
  c : Nat
  t : List Int
  hC : (Kd.int .u8).C w0 A t.length t
  hc : t.length ≤ c
  hb : Bys t
  hl : t.length ≤ 9000000000000000000
def Item.got {w0 : World} (x : Item w0) : Nat × List Int := (x.pos, x.t)
/-- The pieces of bytes, and where each ends. -/
def wholeP (pos : Nat) (rest : List Int) : List (Nat × List Int) :=
  if rest.length < 4 then []
  else if rest.length < 4 + (val (rest.take 4)).toNat then []
  else (pos + 4 + (val (rest.take 4)).toNat, (rest.drop 4).take (val (rest.take 4)).toNat) :: wholeP (pos + 4 + (val (rest.take 4)).toNat) (rest.drop (4 + (val (rest.take 4)).toNat))
termination_by rest.length
decreasing_by simp only [List.length_drop]; omega
/-- What a round keeps. -/
def Kw (n0 Bs : Nat) (W W' : World) : Prop := Below n0 W W' ∧ (Bs < W.heap.size → W'.heap[Bs]? = W.heap[Bs]?)
theorem wholeP_stop {pos : Nat} {rest : List Int} (h : rest.length < 4 + (val (rest.take 4)).toNat) : wholeP pos rest = [] := by
  rw [wholeP]
  by_cases h4 : rest.length < 4
  · rw [if_pos h4]
  · rw [if_neg h4, if_pos h]
theorem wholeP_next {pos : Nat} {rest : List Int} (h : 4 + (val (rest.take 4)).toNat ≤ rest.length) : wholeP pos rest = (pos + 4 + (val (rest.take 4)).toNat, (rest.drop 4).take (val (rest.take 4)).toNat) :: wholeP (pos + 4 + (val (rest.take 4)).toNat) (rest.drop (4 + (val (rest.take 4)).toNat)) := by
  rw [wholeP, if_neg (by omega), if_neg (by omega)]
theorem grown_none {w w' : World} (h : Ch (fun k => w.heap.size ≤ k) w w') : w.grownBy w' none :=
  ⟨h.os, h.tape, h.output, h.size, fun k hk _ => h.block k hk (by omega)⟩
set_option maxRecDepth 100000 in
set_option maxHeartbeats 2000000 in
theorem whole1_in (n : Nat) (hn : 1 ≤ n) (l Bs : Nat) (w0 W : World) (A : Option Addr) (cp : Nat) (bs : List Int) (hC : (Kd.int .u8).C w0 A bs.length bs) (hcp : bs.length ≤ cp) (hby : Bys bs) (hlen : bs.length ≤ 4000000000000000000) (J Jx : List (Item w0) → World → Prop) (hJ : AbidesFrom W.heap.size J)
    (hY : ∀ pre x W1, J pre W1 → pre.length < bs.length + 1 → YieldAt Fence.wide (n - 1) Try.prog l #[.int .i64 (x.pos : Int), .slice x.A x.t.length x.c] W1 fun e W' =>
      (e = .returned (.bool true) ∧ J (pre ++ [x]) W' ∧ Kw w0.heap.size Bs W1 W') ∨ (e = .returned (.bool false) ∧ Jx (pre ++ [x]) W'))
    (hBs : W.heap[Bs]? = some (.cells #[.slice A bs.length cp] 28 (0, 0))) (hold : Below w0.heap.size w0 W) (h0 : J [] W) :
    CallsIn Fence.wide n Try.prog 32 #[.func (.yield l) #[] #[], .pointer (some ⟨Bs, 0, none⟩)] W fun e W' => (∃ v, e = .returned v) ∧
      ((∃ ys : List (Item w0), ys.map Item.got = wholeP 0 bs ∧ J ys W') ∨ (∃ pre : List (Item w0), pre.map Item.got <+: wholeP 0 bs ∧ Jx pre W')) := by
  have b0 := (blk1 hBs).1
  refine callsIn_of_wp Try.func32 rfl trivial ?_ rfl
  simp only [Try.ntmps32, List.size_toArray, List.length_cons, List.length_nil, Nat.reduceAdd, Nat.reduceSub, Array.replicate_succ, Array.replicate_zero, List.push_toArray, List.append_toArray, List.nil_append, List.cons_append]
  gi_wp2
  gi_loopw [3] (fun v3 wr => ∃ (pos : Nat) (pre : List (Item w0)), v3 = .int .i64 pos ∧ pos ≤ bs.length ∧ Aside0 (pre.map Item.got ++ wholeP pos (bs.drop pos) = wholeP 0 bs) ∧ Aside0 (pre.length * 4 ≤ pos) ∧ Aside0 (J pre wr) ∧ Aside0 (Below w0.heap.size w0 wr) ∧ Aside0 (wr.heap[Bs]? = some (.cells #[.slice A bs.length cp] 28 (0, 0))) ∧ Aside0 (W.heap.size ≤ wr.heap.size)) (fun v3 _ => bs.length - (intOf v3).toNat)
  case atStart => exact ⟨0, [], rfl, Nat.zero_le _, ⟨by simp⟩, ⟨by simp⟩, ⟨h0⟩, ⟨hold⟩, ⟨hBs⟩, ⟨Nat.le_refl _⟩⟩
  case round =>
    clear b0
    obtain ⟨pos, pre, rfl, hpos, HE, HL, HJ, HO, HB, HZ⟩ := hrel
    obtain ⟨b0, bf⟩ := blk1 HB.out
    have hsub : IntKind.i64.wrap ((bs.length : Int) - pos) = (bs.length : Int) - pos := IntWalk.i64_in _ ⟨by omega, by omega⟩
    by_cases h4 : 4 ≤ bs.length - pos
    · have h4' : (4 : Int) ≤ (bs.length : Int) - pos := by omega
      have hpc : ¬ cp = pos := by omega
      have hpc2 : pos ≤ cp := by omega
      have hp0 : (0 : Int) ≤ pos := by omega
      have hp1 : (pos : Int) ≤ (bs.length : Int) := by omega
      obtain ⟨rest, hrest⟩ : ∃ rest, rest = bs.drop pos := ⟨_, rfl⟩
      have hrl : rest.length = bs.length - pos := by rw [hrest, List.length_drop]
      have hDr := Kd.C_drop (m := pos) (c := cp) hC hpos hcp
      rw [if_neg hpc, ← hrest] at hDr
      have hrb : Bys rest := fun x hx => hby x (by rw [hrest] at hx; exact List.mem_of_mem_drop hx)
      have hW := below_alloc (Below.refl wr.heap.size wr) (.cells #[.slice (Option.map (fun x => x.add pos) A) (bs.length - pos) (cp - pos), .bool false] 69)
      have hP := heap_alloc_new wr (.cells #[.slice (Option.map (fun x => x.add pos) A) (bs.length - pos) (cp - pos), .bool false] 69)
      have hS : Src w0 (wr.alloc (.cells #[.slice (Option.map (fun x => x.add pos) A) (bs.length - pos) (cp - pos), .bool false] 69)) wr.heap.size ⟨rest, false⟩ :=
        ⟨⟨Option.map (fun x => x.add pos) A, cp - pos, by rw [← hrl] at hP; rw [← hrl]; exact hP, by show rest.length ≤ _; omega, by
          have : (fun x : Addr => x.add (pos * (Kd.int .u8).sz)) = (fun x => x.add pos) := by funext x; rw [show pos * (Kd.int .u8).sz = pos from Nat.mul_one pos]
          rw [this] at hDr; exact hDr⟩, below_step HO.out hW, HO.out.size⟩
      have C1 := integer_get w0 _ wr.heap.size 4 ⟨rest, false⟩ hS hrb (by decide)
      have hn4 : numP 4 ⟨rest, false⟩ = (val (rest.take 4), ⟨rest.drop 4, false⟩) := by simp [numP, takeP, show ¬ rest.length < 4 by omega]
      rw [hn4] at C1
      have hvb := val_bound 4 (rest.take 4) (by rw [List.length_take]; omega) (fun x hx => hrb x (List.mem_of_mem_take hx))
      rw [show (256 : Nat) ^ 4 = 4294967296 by decide] at hvb
      obtain ⟨m, hm⟩ : ∃ m : Nat, val (rest.take 4) = m := ⟨(val (rest.take 4)).toNat, by have := hvb.1; omega⟩
      rw [hm] at C1
      have HM := Aside0.mk hm
      have HRB := Aside0.mk hrb
      have HRE := Aside0.mk hrest
      have CH0 := Aside0.mk (Ch.below (Ch.refl (fun k => wr.heap.size ≤ k) wr) hW)
      have C2 := Aside0.mk (fun (V : World) (hV : Src w0 V wr.heap.size ⟨rest.drop 4, false⟩) => take_calls w0 V wr.heap.size m ⟨rest.drop 4, false⟩ hV)
      clear hrb hDr hP hn4 hvb hm hrest hW
      gi_wp2_with fail
      refine ⟨trivial, (callsIn_wide.2 C1).mono ?_⟩
      rintro e w2 ⟨rfl, hR⟩
      have R2 := Aside0.mk hR
      have CH2 := Aside0.mk (CH0.out.trans (hR.ch.mono (fun k hk _ => .inl (Nat.le_of_eq hk.symm))))
      clear C1 hS hR CH0
      gi_wp2_with fail
      refine ⟨trivial, (callsIn_wide.2 (C2.out w2 R2.out.s)).mono ?_⟩
      rintro e w3 ⟨⟨A3, c3, rfl, hc3, hC3⟩, hR⟩
      have R3 := Aside0.mk hR
      have CH3 := Aside0.mk (CH2.out.trans (hR.ch.mono (fun k hk _ => .inl (Nat.le_of_eq hk.symm))))
      have hd4 : (rest.drop 4).length = rest.length - 4 := List.length_drop
      clear C2 R2 CH2 hR
      by_cases hsh : rest.length - 4 < m
      · have ht : takeP m ⟨rest.drop 4, false⟩ = ([], ⟨rest.drop 4, true⟩) := by simp [takeP, hd4, hsh]
        rw [ht] at R3 hc3 hC3 ⊢
        obtain ⟨k1, k2⟩ := R3.out.s.cells
        simp only at k1 hc3 hC3 ⊢
        have HE2 := Aside0.mk (show pre.map Item.got = wholeP 0 bs by
          rw [← HE.out, ← HRE.out, wholeP_stop (by rw [HM.out]; simp; omega)]; simp)
        have HJ2 := Aside0.mk (hJ _ _ _ none HJ.out (grown_none CH3.out) (fun r hr => by cases hr))
        gi_wp2
        refine bodyPost_ret (results_none rfl _ _ _) rfl ?_
        exact ⟨⟨_, rfl⟩, .inl ⟨pre, HE2.out, HJ2.out⟩⟩
      · have ht : takeP m ⟨rest.drop 4, false⟩ = ((rest.drop 4).take m, ⟨(rest.drop 4).drop m, false⟩) := by simp [takeP, hd4, hsh]
        rw [ht] at R3 hc3 hC3 ⊢
        obtain ⟨T, hT⟩ : ∃ T, T = (rest.drop 4).take m := ⟨_, rfl⟩
        obtain ⟨U, hU⟩ : ∃ U, U = (rest.drop 4).drop m := ⟨_, rfl⟩
        have hul : U.length = bs.length - pos - 4 - m := by rw [hU, List.length_drop, hd4]; omega
        simp only at hc3 hC3 ⊢
        rw [← hT] at hC3 hc3 ⊢
        rw [← hU] at R3
        obtain ⟨⟨A5, c5, hP5, hl5, hC5⟩, _, _⟩ := R3.out.s
        obtain ⟨k0, k1, k2⟩ := blk2 hP5
        simp only at k0 k1
        have HB3 := Aside0.mk (CH3.out.heap HB.out (by have := blk_lt HB.out; omega))
        obtain ⟨b3, bf3⟩ := blk1 HB3.out
        have HX := Aside0.mk (show pos + 4 + m ≤ bs.length by omega)
        obtain ⟨q, hq⟩ : ∃ q, q = pos + 4 + m := ⟨_, rfl⟩
        have hend : (bs.length : Int) - (U.length : Int) = (q : Int) := by omega
        have hsub2 : IntKind.i64.wrap ((bs.length : Int) - (U.length : Int)) = (q : Int) := by rw [hend]; exact IntWalk.i64_in _ ⟨by omega, by omega⟩
        have hsub3 : wrap64 ((bs.length : Int) - (U.length : Int)) = (q : Int) := by rw [hend]; exact IntWalk.wrap64_in _ ⟨by omega, by omega⟩
        have HQ := Aside0.mk hq
        have HNX := Aside0.mk (show pre.map Item.got ++ [(q, T)] ++ wholeP q (bs.drop q) = wholeP 0 bs by
          have hmm : (val (rest.take 4)).toNat = m := by rw [HM.out]; simp
          rw [← HE.out, ← HRE.out, wholeP_next (pos := pos) (rest := rest) (by rw [hmm]; omega), hmm, ← hq, ← hT, List.append_assoc, List.singleton_append]
          congr 3
          rw [HRE.out, List.drop_drop, hq]
          congr 1; omega)
        have HUL := Aside0.mk hul
        have HTT := Aside0.mk hT
        have HUU := Aside0.mk hU
        have HJ2 := Aside0.mk (hJ _ _ _ none HJ.out (grown_none CH3.out) (fun r hr => by cases hr))
        have HTB := Aside0.mk (show Bys T from fun x hx => HRB.out x (by rw [hT] at hx; exact List.mem_of_mem_drop (List.mem_of_mem_take hx)))
        have HC3 := Aside0.mk hC3
        have HHC3 := Aside0.mk hc3
        have HTL := Aside0.mk (show T.length ≤ 9000000000000000000 by rw [hT, List.length_take, hd4]; omega)
        have HJ3 := hJ _ _ _ none HJ.out (grown_none CH3.out.drew) (fun r hr => by cases hr)
        obtain ⟨fn, tmps, assign, body, hy, hRd⟩ := hY pre ⟨q, A3, c3, T, hC3, hc3, HTB.out, HTL.out⟩ w3.drew HJ3 (by have := HL.out; omega)
        dsimp only at hy
        clear b0 bf hP5 hl5 hC5 hsub hT hU HJ3 hul hq hend hd4 hrl
        gi_wp2_with fail
        gi_region
        gi_wp2
        refine hRd.mono ?_
        rintro e W4 (⟨rfl, hJ4, hk4⟩ | ⟨rfl, hJx4⟩)
        · have HJ4 := Aside0.mk hJ4
          have HB4 := Aside0.mk (show W4.heap[Bs]? = some (.cells #[.slice A bs.length cp] 28 (0, 0)) from (hk4.2 (blk_lt HB3.out)).trans HB3.out)
          have HO4 := Aside0.mk ((R3.out.s.old.trans (below_drew (Below.refl _ w3) |>.mono R3.out.s.old.size)).trans hk4.1)
          have HZ4 := Aside0.mk (show W.heap.size ≤ W4.heap.size from Nat.le_trans (Nat.le_trans HZ.out CH3.out.size) hk4.1.size)
          clear hJ4 hk4
          gi_wp2
          go_roundw
          case rel => exact ⟨q, pre ++ [_], rfl, by have := HX.out; have := HQ.out; omega, ⟨by rw [List.map_append]; exact HNX.out⟩, ⟨by rw [List.length_append]; have := HL.out; have := HQ.out; simp; omega⟩, HJ4, HO4, HB4, HZ4⟩
          case measure => simp [intOf]; have := HX.out; have := HQ.out; omega
        · have HJx := Aside0.mk hJx4
          clear hJx4
          gi_wp2
          refine bodyPost_ret (results_none rfl _ _ _) rfl ?_
          exact ⟨⟨_, rfl⟩, .inr ⟨pre ++ [_], ⟨wholeP q (bs.drop q), by rw [List.map_append]; exact HNX.out⟩, HJx.out⟩⟩
    · have h4' : ¬ (4 : Int) ≤ (bs.length : Int) - pos := by omega
      have HE2 := Aside0.mk (show pre.map Item.got = wholeP 0 bs by
        rw [← HE.out]
        rw [show wholeP pos (bs.drop pos) = [] by rw [wholeP, if_pos (by rw [List.length_drop]; omega)]]
        simp)
      gi_wp2
      go_end0
      exact ⟨⟨_, rfl⟩, .inl ⟨pre, HE2.out, HJ.out⟩⟩
end Go.Proofs.Ytgndmbkkggjklaa.Jo
namespace Go.Proofs.Ytgndmbkkggjklaa.Jo
set_option linter.unusedVariables false
set_option linter.unusedSimpArgs false
open Go.RowKit Go.Proofs.YtgndmbkkggjklaaW.PrintWords Go.Proofs.YtgndmbkkggjklaaW.PrintLast Go.Proofs.YtgndmbkkggjklaaW.PrintMore Go.Proofs.Ytgndmbkkggjklaa.Bs
attribute [local go_sem] Oper.semAt_some
section
variable {F : Fence} {n : Nat} {P : Program} {ops : Array Oper} {rest : List Oper} {o : Oper} {a : Act} {Q : Exit → Act → World → Prop} {α : Type}
/-- append(v, x) within a fence: only the row's own block changes. -/
theorem app_in (d : Kd α) {W : World} (base : Nat) (hgd : o.guard = none) (s x : Operand) (t e : TypeId) (z : Value) (bytes : Nat)
    (ho : o.op = .call { callee := .builtin .append, args := #[s, x], argTypes := #[t, t] })
    (ht : P.underlying t = some (.slice e)) (hinfo : (P.info? e).map (fun i => (i.zero, i.size, i.bytes)) = some (some z, d.sz, bytes)) (hz : z.cells.size = d.sz ∧ 0 < d.sz ∧ 0 < bytes)
    (v : Value) (xs : List α) (p : α) (cs : List Value) (ok okp : Nat → Prop) (hs : a.eval s = v) (hx : a.eval x = .slice (some ⟨W.heap.size, 0, none⟩) 1 1) (hp : d.M W base okp p cs) (hokp : ∀ k, okp k → ok k ∧ some k ≠ v.ownBlock)
    (HO : d.R e W base ok v xs) (hbase : base ≤ W.heap.size) (hl : (xs.length + 1) * bytes ≤ 140737488355328)
    (h : ∀ A c w1, d.R e w1 base (fun k => ok k ∨ W.heap.size ≤ k) (.slice A (xs.length + 1) c) (xs ++ [p]) → Ch (fun k => some k = v.ownBlock) W w1 → wpListIn F n P ops Q rest (a.put o.dst (.slice A (xs.length + 1) c)) w1) :
    wpListIn F n P ops Q (o :: rest) a (W.alloc (.cells cs.toArray e)) := by
  obtain ⟨i0, hi, hzz⟩ := Option.map_eq_some_iff.1 hinfo
  simp only [Prod.mk.injEq] at hzz
  obtain ⟨hz0, hz1, hz2⟩ := hzz
  obtain ⟨h0, inner, hown, hr⟩ := HO
  have hlen : xs.length + 1 ≤ 140737488355328 := Nat.le_trans (Nat.le_mul_of_pos_right _ hz.2.2) hl
  refine wpListIn_plain hgd fun K hK => ?_
  obtain ⟨v1, w1, hrun, r1, r2, _, r4⟩ := run_append_own_at (P := P) (w := W.alloc (.cells cs.toArray e)) base t o.type e i0 z d.sz bytes ht hi hz0 hz1 hz2 hz.1 hz.2.1 v xs.length inner (hown.alloc _) ⟨W.heap.size, 0, none⟩ 1 1 cs (by rw [d.K_len (d.K_of_M hp)]; simp)
    (by simpa using World.news_of_block (cs := cs.toArray) (t := e) (fr := (0, 0)) (heap_alloc_new W (.cells cs.toArray e))) (d.K_one (d.K_of_M hp)) (by simp only [maxLen]; omega) hl (by simp; omega)
  have hg := World.grownBy.trans (World.grownBy_alloc W (.cells cs.toArray e) v.ownBlock) r2
  have hat : v1.ownBlock = v.ownBlock ∨ ∃ b, v1.ownBlock = some b ∧ W.heap.size ≤ b := r4.elim .inl (fun h => .inr ⟨_, h, by simp⟩)
  have hR := Kd.R_appended (okp := okp) (ok := fun k => ok k ∨ W.heap.size ≤ k) (fun k hk => .inl (h0 k hk)) (hr.imp_ (fun q c hq => d.M_mono (fun k hk => ⟨.inl hk.1, hk.2⟩) hq)) hp (fun k hk => ⟨.inl (hokp k hk).1, (hokp k hk).2⟩) (fun _ hk => .inr hk) r1 hg hat
  obtain ⟨A, c, rfl⟩ := Kd.R_slice hR
  rw [List.length_append, List.length_singleton] at hR hrun
  unfold Oper.wpIn
  refine ⟨?_, ?_⟩
  · simp [Oper.about, ho, resolve, Target.leads, Sem.run_pure]
  · rw [Oper.semAt_plain F _ _ (by rw [ho]; intro c hc'; cases hc')]
    simp [execOp, ho, resolve, invoke, builtin, hs, hx, hrun, Result.andThen]
    exact hK _ _ (h A c w1 hR ⟨hg.os, hg.tape, hg.output, hg.size, fun k hk hn => hg.block k hk (fun e => hn e)⟩)
end
set_option maxRecDepth 100000 in
theorem whole_in (A : Option Addr) (len cap : Nat) (w : World) : Calls Try.prog 21 #[.slice A len cap] w fun e w' => e = .returned (.func (.func 32) #[] #[.pointer (some ⟨w.heap.size, 0, none⟩)]) ∧ w' = w.alloc (.cells #[.slice A len cap] 28) := by
  go_enter Try.func21, Try.ntmps21
  go_wp2
  go_ret
  exact ⟨rfl, rfl⟩
theorem Kw.trans {n0 Bs : Nat} {A B C : World} (h : Kw n0 Bs A B) (k : Kw n0 Bs B C) : Kw n0 Bs A C :=
  ⟨h.1.trans k.1, fun hb => (k.2 (Nat.lt_of_lt_of_le hb h.1.size)).trans (h.2 hb)⟩
theorem Kw.put {n0 Bs : Nat} {w : World} (hn : n0 ≤ w.heap.size) (hb : Bs < w.heap.size) (W : World) (l : Nat) (o o' : Obj) (hl : w.heap.size ≤ l) (h : W.heap[l]? = some o) (h1 : o.isCells = false) (h2 : o.isWalk = false) : Kw n0 Bs W (W.putObj l o') :=
  ⟨belowK_b hn W l o o' hl h h1 h2, fun _ => World.putObj_heap_other (by omega)⟩
def readL : List (Nat × List Int) → List S25 → Nat → List S25 × Nat × Int
  | [], acc, pos => (acc, pos, 0)
  | (q, t) :: ps, acc, pos => if (commitP t).2 = true then readL ps (acc ++ [(commitP t).1]) q else (acc, pos, 61)
def readP (bs : List Int) : List S25 × Nat × Int := readL (wholeP 0 bs) [] 0
def endOf : List (Nat × List Int) → Nat → Nat
  | [], d => d
  | (q, _) :: ps, d => endOf ps q
theorem endOf_snoc (ps : List (Nat × List Int)) (x : Nat × List Int) : ∀ d, endOf (ps ++ [x]) d = x.1 := by
  induction ps with
  | nil => intro d; rfl
  | cons y ps ih => intro d; exact ih y.1
theorem readL_ok : ∀ (ps qs : List (Nat × List Int)) (acc : List S25) (pos : Nat), (∀ x ∈ ps, (commitP x.2).2 = true) → readL (ps ++ qs) acc pos = readL qs (acc ++ ps.map (fun x => (commitP x.2).1)) (endOf ps pos)
  | [], qs, acc, pos, _ => by simp [endOf]
  | (q, t) :: ps, qs, acc, pos, h => by
    rw [List.cons_append, readL, if_pos (h _ (List.mem_cons_self))]
    rw [readL_ok ps qs _ _ (fun x hx => h x (List.mem_cons_of_mem _ hx))]
    simp [endOf]
/-- What stands between two rounds. -/
structure RI (w : World) (er : Int) (gs : List (Nat × List Int)) (W : World) : Prop where
  ok : ∀ x ∈ gs, (commitP x.2).2 = true
  bx : ∃ A c, W.heap[w.heap.size]? = some (.cells #[.slice A (gs.map (fun x => (commitP x.2).1)).length c] 32 (0, 0)) ∧ k25.R 25 W (w.heap.size + 4) (fun k => w.heap.size + 4 ≤ k) (.slice A (gs.map (fun x => (commitP x.2).1)).length c) (gs.map (fun x => (commitP x.2).1))
  en : W.heap[w.heap.size + 1]? = some (.cells #[.int .i64 (endOf gs 0)] 3 (0, 0))
  er : W.heap[w.heap.size + 2]? = some (.cells #[.int .i64 er] 29 (0, 0))
  old : Below w.heap.size w W
  siz : w.heap.size + 4 ≤ W.heap.size
theorem RI.own {w : World} {er : Int} {gs : List (Nat × List Int)} {A B : World} {row : Option Nat} (h : RI w er gs A) (hg : A.grownBy B row) (hr : ∀ r, row = some r → w.heap.size + 4 ≤ r ∧ ∃ o : Obj, A.heap[r]? = some o ∧ o.isCells = false) : RI w er gs B := by
  have hlow : ∀ k, k < w.heap.size + 4 → some k ≠ row := fun k hk e => by have := (hr k e.symm).1; omega
  obtain ⟨Ax, c, hb, hR⟩ := h.bx
  refine ⟨h.ok, ⟨Ax, c, (hg.block _ (blk_lt hb) (hlow _ (by omega))).trans hb, ?_⟩, (hg.block _ (blk_lt h.en) (hlow _ (by omega))).trans h.en, (hg.block _ (blk_lt h.er) (hlow _ (by omega))).trans h.er, h.old.grown hg h.old.size (fun k e => by have := (hr k e).1; omega), Nat.le_trans h.siz hg.size⟩
  refine Kd.R_mono (Kd.R_step (Kd.R_bound hR) (fun k hk hlt => hg.block k hlt (fun e => ?_))) (fun k hk => hk.1)
  obtain ⟨_, _, _, q, _, cs, hc⟩ := hk
  obtain ⟨_, o, ho, hn⟩ := hr k e.symm
  rw [hc] at ho
  cases ho
  cases hn
theorem RI.below {w : World} {er : Int} {gs : List (Nat × List Int)} {A B : World} (h : RI w er gs A) (hb : Below A.heap.size A B) : RI w er gs B := by
  obtain ⟨Ax, c, hbx, hR⟩ := h.bx
  exact ⟨h.ok, ⟨Ax, c, (hb.block _ (blk_lt hbx)).trans hbx, Kd.R_below hR hb⟩, (hb.block _ (blk_lt h.en)).trans h.en, (hb.block _ (blk_lt h.er)).trans h.er, below_step h.old hb, Nat.le_trans h.siz hb.size⟩
theorem keeps_of_Ch {S : Nat → Prop} {W W' : World} (h : Ch S W W') (hS : ∀ k, S k → k < W.heap.size → ∃ cs t fr, W.heap[k]? = some (.cells cs t fr)) : KeepsOthers W W' := by
  refine ⟨h.size, fun k o ho hn => ?_⟩
  have hlt := blk_lt ho
  by_cases hk : S k
  · obtain ⟨cs, t, fr, e⟩ := hS k hk hlt
    rw [e] at ho
    cases ho
    cases hn
  · exact (h.block k hlt hk).trans ho
theorem RI.stop {w : World} {gs : List (Nat × List Int)} {W : World} (h : RI w 0 gs W) {W' : World} (hb : Below W.heap.size W W') : RI w 61 gs (W'.setCell ⟨w.heap.size + 2, 0, none⟩ (.int .i64 61)) ∧ KeepsOthers W (W'.setCell ⟨w.heap.size + 2, 0, none⟩ (.int .i64 61)) := by
  have h' := h.below hb
  have hch : Ch (fun k => k = w.heap.size + 2) W' (W'.setCell ⟨w.heap.size + 2, 0, none⟩ (.int .i64 61)) := (Ch.refl (fun k => k = w.heap.size + 2) W').setCell (p := ⟨w.heap.size + 2, 0, none⟩) (.inl rfl) _
  obtain ⟨Ax, c, hbx, hR⟩ := h'.bx
  have hall : Ch (fun k => k = w.heap.size + 2) W (W'.setCell ⟨w.heap.size + 2, 0, none⟩ (.int .i64 61)) := (Ch.below (Ch.refl (fun k => k = w.heap.size + 2) W) hb).setCell (p := ⟨w.heap.size + 2, 0, none⟩) (.inl rfl) _
  refine ⟨⟨h.ok, ⟨Ax, c, hch.heap hbx (by omega), hch.R hR (fun k hk e => by omega)⟩, hch.heap h'.en (by omega), blk_upd 0 _ h'.er rfl, h'.old.trans (Ch.to_below hch (fun k hk => by omega) h'.old.size), Nat.le_trans h'.siz hch.size⟩, keeps_of_Ch hall (fun k hk _ => ⟨_, _, _, hk ▸ h.er⟩)⟩
theorem RI.next {w : World} {gs : List (Nat × List Int)} {W V w4 : World} {q : Nat} {t : List Int} {A1 : Option Addr} {c1 m : Nat} {Ax : Option Addr} {cx : Nat} (h : RI w 0 gs W) (hok : (commitP t).2 = true) (hb : Below W.heap.size W V)
    (hbx : W.heap[w.heap.size]? = some (.cells #[.slice Ax (gs.map (fun x => (commitP x.2).1)).length cx] 32 (0, 0))) (hRx : k25.R 25 W (w.heap.size + 4) (fun k => w.heap.size + 4 ≤ k) (.slice Ax (gs.map (fun x => (commitP x.2).1)).length cx) (gs.map (fun x => (commitP x.2).1)))
    (hm : m = (gs.map (fun x => (commitP x.2).1)).length + 1) (hR : k25.R 25 w4 (w.heap.size + 4) (fun k => w.heap.size + 4 ≤ k ∨ V.heap.size ≤ k) (.slice A1 m c1) (gs.map (fun x => (commitP x.2).1) ++ [(commitP t).1]))
    (hch : Ch (fun k => some k = (Value.slice Ax (gs.map (fun x => (commitP x.2).1)).length cx).ownBlock) V w4) :
    KeepsOthers W ((w4.setCell ⟨w.heap.size, 0, none⟩ (.slice A1 m c1)).setCell ⟨w.heap.size + 1, 0, none⟩ (.int .i64 (q : Int))) ∧ Kw w.heap.size (w.heap.size + 3) W ((w4.setCell ⟨w.heap.size, 0, none⟩ (.slice A1 m c1)).setCell ⟨w.heap.size + 1, 0, none⟩ (.int .i64 (q : Int))) ∧
      RI w 0 (gs ++ [(q, t)]) ((w4.setCell ⟨w.heap.size, 0, none⟩ (.slice A1 m c1)).setCell ⟨w.heap.size + 1, 0, none⟩ (.int .i64 (q : Int))) := by
  have hV := h.below hb
  have hown : ∀ k, some k = (Value.slice Ax (gs.map (fun x => (commitP x.2).1)).length cx).ownBlock → w.heap.size + 4 ≤ k := fun k hk => hRx.1 k hk.symm
  have hset : Ch (fun k => k = w.heap.size ∨ k = w.heap.size + 1) w4 ((w4.setCell ⟨w.heap.size, 0, none⟩ (.slice A1 m c1)).setCell ⟨w.heap.size + 1, 0, none⟩ (.int .i64 (q : Int))) :=
    ((Ch.refl (fun k => k = w.heap.size ∨ k = w.heap.size + 1) w4).setCell (p := ⟨w.heap.size, 0, none⟩) (.inl (.inl rfl)) _).setCell (p := ⟨w.heap.size + 1, 0, none⟩) (.inl (.inr rfl)) _
  have hall : Ch (fun k => (k = w.heap.size ∨ k = w.heap.size + 1) ∨ some k = (Value.slice Ax (gs.map (fun x => (commitP x.2).1)).length cx).ownBlock) W ((w4.setCell ⟨w.heap.size, 0, none⟩ (.slice A1 m c1)).setCell ⟨w.heap.size + 1, 0, none⟩ (.int .i64 (q : Int))) :=
    ((Ch.below (Ch.refl (fun k => (k = w.heap.size ∨ k = w.heap.size + 1) ∨ some k = (Value.slice Ax (gs.map (fun x => (commitP x.2).1)).length cx).ownBlock) W) hb).trans (hch.mono (fun k hk _ => .inl (.inr hk)))).trans (hset.mono (fun k hk _ => .inl (.inl hk)))
  have h4x := hch.heap ((hb.block _ (blk_lt hbx)).trans hbx) (fun e => by have := hown _ e; omega)
  have h4n := hch.heap hV.en (fun e => by have := hown _ e; omega)
  have h4r := hch.heap hV.er (fun e => by have := hown _ e; omega)
  have hB : Below w.heap.size W ((w4.setCell ⟨w.heap.size, 0, none⟩ (.slice A1 m c1)).setCell ⟨w.heap.size + 1, 0, none⟩ (.int .i64 (q : Int))) := Ch.to_below hall (fun k hk => by rcases hk with (e | e) | e; omega; omega; have := hown _ e; omega) h.old.size
  refine ⟨keeps_of_Ch hall (fun k hk hlt => ?_), ⟨hB, fun hlt => hall.block _ hlt (by rintro ((e | e) | e); omega; omega; have := hown _ e; omega)⟩, ⟨?_, ⟨A1, c1, ?_, ?_⟩, ?_, ?_, h.old.trans hB, ?_⟩⟩
  · rcases hk with (e | e) | e
    · exact ⟨_, _, _, e ▸ hbx⟩
    · exact ⟨_, _, _, e ▸ h.en⟩
    · obtain ⟨inner, ho⟩ := Kd.R_own hRx
      obtain ⟨cells, hc⟩ := own_typed ho k e.symm
      exact ⟨_, _, _, hc⟩
  · intro x hx
    rcases List.mem_append.1 hx with hx | hx
    · exact h.ok x hx
    · rw [List.mem_singleton] at hx; subst hx; exact hok
  · have hl : ((gs ++ [(q, t)]).map (fun x => (commitP x.2).1)).length = m := by rw [hm]; simp
    rw [hl]
    have s1 : (w4.setCell ⟨w.heap.size, 0, none⟩ (.slice A1 m c1)).heap[w.heap.size]? = some (.cells #[.slice A1 m c1] 32 (0, 0)) := blk_upd 0 _ h4x rfl
    exact (Below.heap_setCell _ _ _ _ (by show w.heap.size ≠ w.heap.size + 1; omega)).trans s1
  · have hl : ((gs ++ [(q, t)]).map (fun x => (commitP x.2).1)).length = m := by rw [hm]; simp
    rw [hl, List.map_append]
    exact hset.R (Kd.R_mono hR (fun k hk => hk.elim id (fun h => Nat.le_trans hV.siz h))) (fun k hk e => by omega)
  · rw [endOf_snoc]
    exact blk_upd 0 _ ((Below.heap_setCell _ _ _ _ (by show w.heap.size + 1 ≠ w.heap.size; omega)).trans h4n) rfl
  · exact (Below.heap_setCell _ _ _ _ (by show w.heap.size + 2 ≠ w.heap.size + 1; omega)).trans ((Below.heap_setCell _ _ _ _ (by show w.heap.size + 2 ≠ w.heap.size; omega)).trans h4r)
  · exact Nat.le_trans h.siz hall.size
theorem M25_open {w : World} {base : Nat} {ok : Nat → Prop} {x : S25} {cs : List Value} (h : k25.M w base ok x cs) : ∃ A3 c3, cs = [.int .i64 x.f0, .int .u64 x.f1, .int .u64 x.f2, .slice A3 x.f3.length c3] := by
  obtain ⟨A3, c3, e, _⟩ := k25_open (k25.K_of_M h)
  exact ⟨A3, c3, e⟩
end Go.Proofs.Ytgndmbkkggjklaa.Jo
namespace Go.Proofs.Ytgndmbkkggjklaa.Jo
set_option linter.unusedVariables false
set_option linter.unusedSimpArgs false
open Go.RowKit Go.Proofs.YtgndmbkkggjklaaW.PrintWords Go.Proofs.YtgndmbkkggjklaaW.PrintLast Go.Proofs.YtgndmbkkggjklaaW.PrintMore Go.Proofs.Ytgndmbkkggjklaa.Bs
theorem C_mid2 {w : World} {A : Option Addr} {c : Nat} {h : List Int} (hC : (Kd.int .u8).C w A h.length h) (hc : h.length ≤ c) (n m : Nat) (hn : n + m ≤ h.length) : (Kd.int .u8).C w (if c = n then A else A.map (·.add n)) m ((h.drop n).take m) := by
  have h2 := Kd.C_drop (m := n) (c := c) hC (by omega) hc
  have h3 := Kd.C_take (m := m) h2 (by rw [List.length_drop]; omega)
  have e : ((h.drop n).take m).length = m := by rw [List.length_take, List.length_drop]; omega
  rw [e, show n * (Kd.int .u8).sz = n from Nat.mul_one n] at h3
  exact h3
theorem comG_open {w' : World} {p : S25} {a0 a1 a2 : Int} {A3 : Option Addr} {n3 c3 base : Nat} {ok : Nat → Prop} (h : k25.M w' base ok p [.int .i64 a0, .int .u64 a1, .int .u64 a2, .slice A3 n3 c3]) : a0 = p.f0 ∧ a1 = p.f1 ∧ a2 = p.f2 ∧ n3 = p.f3.length := by
  obtain ⟨A3', c3', e⟩ := M25_open h
  simp only [List.cons.injEq, Value.int.injEq, Value.slice.injEq, true_and, and_true] at e
  exact ⟨e.1, e.2.1, e.2.2.1, e.2.2.2.2.1⟩
theorem read_end {bs : List Int} {at' : Nat} {acc : List S25} (h : bs.length - at' < 4) : readL (wholeP at' (bs.drop at')) acc at' = (acc, at', 0) := by
  rw [wholeP, if_pos (by rw [List.length_drop]; omega), readL]
theorem read_torn {bs : List Int} {at' n : Nat} {acc : List S25} (hv : (val ((bs.drop at').take 4)).toNat = n) (h : bs.length < at' + 4 + n) : readL (wholeP at' (bs.drop at')) acc at' = (acc, at', 0) := by
  by_cases ha : at' ≤ bs.length
  · rw [wholeP_stop (by rw [hv, List.length_drop]; omega), readL]
  · exact read_end (by omega)
theorem read_step {bs : List Int} {at' n : Nat} {acc : List S25} (hv : (val ((bs.drop at').take 4)).toNat = n) (h : at' + 4 + n ≤ bs.length) : readL (wholeP at' (bs.drop at')) acc at' = if (commitP ((bs.drop (at' + 4)).take n)).2 = true then readL (wholeP (at' + 4 + n) (bs.drop (at' + 4 + n))) (acc ++ [(commitP ((bs.drop (at' + 4)).take n)).1]) (at' + 4 + n) else (acc, at', 61) := by
  rw [wholeP_next (by rw [hv, List.length_drop]; omega), readL, hv, List.drop_drop, List.drop_drop, Nat.add_assoc at' 4 n]
theorem val_four {l : List Int} (h : Bys l) (hl : l.length ≤ 4) : 0 ≤ val l ∧ val l < 4294967296 := by
  have := val_le l h 4 hl
  rw [show (256 : Nat) ^ 4 = 4294967296 by decide] at this
  omega
set_option maxRecDepth 100000 in
set_option maxHeartbeats 2000000 in
theorem refread_calls (w : World) (A : Option Addr) (cp : Nat) (bs : List Int) (hC : (Kd.int .u8).C w A bs.length bs) (hcp : bs.length ≤ cp) (hby : Bys bs) (hlen : bs.length ≤ 1000000000000) :
    Calls Try.prog 14 #[.slice A bs.length cp] w fun e w' => (∃ v, e = .returned (.tuple #[v, .int .i64 ((readP bs).2.1 : Int), .int .i64 (readP bs).2.2]) ∧ k25.R 25 w' w.heap.size (fun k => w.heap.size ≤ k) v (readP bs).1) ∧ Below w.heap.size w w' := by
  obtain ⟨rp, hrp⟩ : ∃ x, x = readP bs := ⟨_, rfl⟩
  rw [← hrp]
  have E0 := Aside0.mk (show rp = readL (wholeP 0 (bs.drop 0)) [] 0 by rw [hrp]; rfl)
  have HB0 := Aside0.mk (Below.refl w.heap.size w)
  have HR0 := Aside0.mk (Kd.R_nil k25 25 w w.heap.size (fun k => w.heap.size ≤ k))
  have HCC := Aside0.mk hC
  have HBY := Aside0.mk hby
  clear hrp hC hby
  go_enter Try.func14, Try.ntmps14
  go_wp2_with fail
  go_loopw [5, 6] (fun v5 v6 wr => ∃ (i : Nat) (Al : Option Addr) (cl : Nat) (acc : List S25), v5 = .slice Al acc.length cl ∧ v6 = .int .i64 i ∧ i ≤ bs.length ∧ 4 * acc.length ≤ i ∧ Aside0 (rp = readL (wholeP i (bs.drop i)) acc i) ∧ Aside0 (k25.R 25 wr w.heap.size (fun k => w.heap.size ≤ k) (.slice Al acc.length cl) acc) ∧ Aside0 (Below w.heap.size w wr)) (fun _ v6 _ => bs.length - (intOf v6).toNat)
  case atStart => exact ⟨0, none, 0, [], rfl, rfl, by omega, by simp, E0, HR0, HB0⟩
  case round =>
    clear E0 HR0 HB0
    obtain ⟨i, Al, cl, acc, rfl, rfl, hi, ha, E, HR, HB⟩ := hrel
    by_cases h4 : i + 4 ≤ bs.length
    · have h4' : (4 : Int) ≤ (bs.length : Int) - (i : Int) := by omega
      have hci : ¬ cp = i := by omega
      have CM := C_mid2 HCC.out hcp i 4 h4
      rw [if_neg hci] at CM
      have hl4 : ((bs.drop i).take 4).length = 4 := by rw [List.length_take, List.length_drop]; omega
      have hv := val_four (bys_take (bys_drop HBY.out i) 4) (by omega)
      obtain ⟨n, hn⟩ : ∃ n : Nat, val ((bs.drop i).take 4) = n := ⟨(val ((bs.drop i).take 4)).toNat, by omega⟩
      have CV := Aside0.mk (fun W (hW : Below w.heap.size w W) => value_calls W (A.map (·.add i)) (cp - i) ((bs.drop i).take 4) (by rw [hl4]; exact Kd.C_below CM hW) (by omega) (bys_take (bys_drop HBY.out i) 4) (by omega))
      rw [hl4, hn] at CV
      have HN := Aside0.mk (show (val ((bs.drop i).take 4)).toNat = n by rw [hn]; rfl)
      rw [hn] at hv
      clear hn hl4 CM
      have HV2 := Aside0.mk (show (n : Int) < 4294967296 from hv.2)
      clear hv
      have hw4 : wrap64 ((i : Int) + 4) = ((i + 4 : Nat) : Int) := by unfold wrap64; omega
      go_wp2_with fail
      (with_reducible refine (CV.out _ HB.out).mono ?_)
      rintro e w7 ⟨rfl, hb⟩
      have HB7 := Aside0.mk (below_step HB.out hb)
      have HR7 := Aside0.mk (Kd.R_below HR.out hb)
      clear hb CV HR HB
      by_cases hn : i + 4 + n ≤ bs.length
      · have hn1 : decide ((bs.length : Int) - (i : Int) - 4 < (n : Int)) = false := by simp; omega
        have CM2 := C_mid2 HCC.out hcp (i + 4) n hn
        have hxl : ((bs.drop (i + 4)).take n).length = n := by rw [List.length_take, List.length_drop]; omega
        have HE := Aside0.mk (E.out.trans (read_step HN.out hn))
        have hbx := bys_take (bys_drop HBY.out (i + 4)) n
        obtain ⟨A', hA⟩ : ∃ x, x = if cp = i + 4 then A else A.map (·.add (i + 4)) := ⟨_, rfl⟩
        rw [← hA] at CM2
        have CC := Aside0.mk (fun W (hW : Below w.heap.size w W) => com_calls W A' (cp - (i + 4)) ((bs.drop (i + 4)).take n) (by rw [hxl]; exact Kd.C_below CM2 hW) (by omega) hbx (by omega))
        rw [hxl] at CC
        generalize commitP ((bs.drop (i + 4)).take n) = p at HE CC
        clear E HN CM2 hxl hbx hw4
        obtain ⟨pc, pf⟩ := p
        by_cases hcn : cp = i + 4
        · rw [if_pos hcn] at hA
          subst hA
          have hcp0 : cp - (i + 4) = 0 := by omega
          rw [hcp0] at CC
          clear hcp0
          go_wp2_with fail
          rw [← hcn]
          clear hcn
          (with_reducible refine (CC.out _ HB7.out).mono ?_)
          rintro e w9 ⟨⟨b0, b1, b2, A3, n3, c3, rfl, hfk⟩, hb⟩
          obtain ⟨WB, hWB⟩ : ∃ q, q = w9.alloc (.cells #[.int .i64 b0, .int .u64 b1, .int .u64 b2, .slice A3 n3 c3] 25) := ⟨_, rfl⟩
          have hb9 := show Below w9.heap.size w9 WB from hWB ▸ below_alloc (Below.refl _ _) _
          have hbb := below_step hb hb9
          have HBB := Aside0.mk (below_step HB7.out hbb)
          have HRB := Aside0.mk (Kd.R_below HR7.out hbb)
          cases pf with
          | false =>
            have HE2 := Aside0.mk (show rp = (acc, i, 61) by rw [HE.out]; rfl)
            go_upto_region 8 with (fail)
            rw [← hWB]
            clear hWB hb9 hbb hb hfk HE CC
            go_wp2_with fail
            go_ret3
            rw [HE2.out]
            exact ⟨⟨_, rfl, HRB.out⟩, HBB.out⟩
          | true =>
            have hfk := hfk rfl
            obtain ⟨rfl, rfl, rfl, rfl⟩ := comG_open hfk
            have HFK := Aside0.mk (Kd.M_below hfk hb9)
            have QB := Aside0.mk (show WB.heap[w9.heap.size]? = _ from hWB ▸ heap_alloc_new w9 _)
            have HZ7 := Aside0.mk (show w.heap.size ≤ w7.heap.size from HB7.out.size)
            have HZB := Aside0.mk (show w7.heap.size ≤ WB.heap.size from hbb.size)
            have HE2 := Aside0.mk (show rp = readL (wholeP (i + 4 + n) (bs.drop (i + 4 + n))) (acc ++ [pc]) (i + 4 + n) by rw [HE.out]; rfl)
            have HLEN := Aside0.mk (show (acc.length + 1) * 48 ≤ 140737488355328 by omega)
            go_upto_region 8 with (fail)
            rw [← hWB]
            obtain ⟨nb, hnb⟩ : ∃ q, q = w9.heap.size := ⟨_, rfl⟩
            rw [← hnb] at QB ⊢
            clear hWB hb9 hbb hb hfk HE CC hnb
            obtain ⟨q0, q1, q2, q3, q4⟩ := blk4 QB.out
            go_wp2_with (first | ((with_reducible refine gate_builtin (b := .append) (xs := #[.tmp 46, .tmp 48]) rfl ?_); at_builtin; go_loud (refine app_list k25 (W := WB) w.heap.size rfl (.tmp 46) (.tmp 48) 32 25 _ 48 rfl Try.underlying32 info25 ⟨rfl, by decide, by decide⟩ (.slice Al acc.length cl) acc pc _ (fun k => w.heap.size ≤ k) (fun k => w7.heap.size ≤ k) rfl rfl (k25.M_lower HZ7.out HFK.out) (fun k hk => ⟨Nat.le_trans HZ7.out hk, fun e => by have := Kd.R_lt HR7.out k e.symm; omega⟩) HRB.out (Nat.le_trans HZ7.out HZB.out) HLEN.out ?_); intro A1' c1' w10 hr10 hch10 hat10; have HR10 := Aside0.mk (Kd.R_mono hr10 (fun k hk => hk.elim id (fun h => Nat.le_trans (Nat.le_trans HZ7.out HZB.out) h))); have HB10 := Aside0.mk (HBB.out.trans (Ch.to_below hch10 (fun k hk => HRB.out.1 k hk.symm) (Nat.le_trans HZ7.out HZB.out))); clear hr10 hch10 hat10))
            go_roundw
            case rel => exact ⟨i + 4 + n, A1', c1', acc ++ [pc], by first | rfl | simp, by first | rfl | simp, hn, by rw [List.length_append, List.length_singleton]; omega, HE2, by rw [List.length_append, List.length_singleton]; exact HR10, HB10⟩
            case measure => simp [intOf]; try omega
        · rw [if_neg hcn, show (fun x : Addr => x.add (i + 4)) = fun x => ⟨x.block, x.off + (i + 4), none⟩ from by funext x; unfold Addr.add; rw [if_neg (by omega)]] at hA
          subst hA
          go_wp2_with fail
          (with_reducible refine (CC.out _ HB7.out).mono ?_)
          rintro e w9 ⟨⟨b0, b1, b2, A3, n3, c3, rfl, hfk⟩, hb⟩
          obtain ⟨WB, hWB⟩ : ∃ q, q = w9.alloc (.cells #[.int .i64 b0, .int .u64 b1, .int .u64 b2, .slice A3 n3 c3] 25) := ⟨_, rfl⟩
          have hb9 := show Below w9.heap.size w9 WB from hWB ▸ below_alloc (Below.refl _ _) _
          have hbb := below_step hb hb9
          have HBB := Aside0.mk (below_step HB7.out hbb)
          have HRB := Aside0.mk (Kd.R_below HR7.out hbb)
          cases pf with
          | false =>
            have HE2 := Aside0.mk (show rp = (acc, i, 61) by rw [HE.out]; rfl)
            go_upto_region 8 with (fail)
            rw [← hWB]
            clear hWB hb9 hbb hb hfk HE CC
            go_wp2_with fail
            go_ret3
            rw [HE2.out]
            exact ⟨⟨_, rfl, HRB.out⟩, HBB.out⟩
          | true =>
            have hfk := hfk rfl
            obtain ⟨rfl, rfl, rfl, rfl⟩ := comG_open hfk
            have HFK := Aside0.mk (Kd.M_below hfk hb9)
            have QB := Aside0.mk (show WB.heap[w9.heap.size]? = _ from hWB ▸ heap_alloc_new w9 _)
            have HZ7 := Aside0.mk (show w.heap.size ≤ w7.heap.size from HB7.out.size)
            have HZB := Aside0.mk (show w7.heap.size ≤ WB.heap.size from hbb.size)
            have HE2 := Aside0.mk (show rp = readL (wholeP (i + 4 + n) (bs.drop (i + 4 + n))) (acc ++ [pc]) (i + 4 + n) by rw [HE.out]; rfl)
            have HLEN := Aside0.mk (show (acc.length + 1) * 48 ≤ 140737488355328 by omega)
            go_upto_region 8 with (fail)
            rw [← hWB]
            obtain ⟨nb, hnb⟩ : ∃ q, q = w9.heap.size := ⟨_, rfl⟩
            rw [← hnb] at QB ⊢
            clear hWB hb9 hbb hb hfk HE CC hnb
            obtain ⟨q0, q1, q2, q3, q4⟩ := blk4 QB.out
            go_wp2_with (first | ((with_reducible refine gate_builtin (b := .append) (xs := #[.tmp 46, .tmp 48]) rfl ?_); at_builtin; go_loud (refine app_list k25 (W := WB) w.heap.size rfl (.tmp 46) (.tmp 48) 32 25 _ 48 rfl Try.underlying32 info25 ⟨rfl, by decide, by decide⟩ (.slice Al acc.length cl) acc pc _ (fun k => w.heap.size ≤ k) (fun k => w7.heap.size ≤ k) rfl rfl (k25.M_lower HZ7.out HFK.out) (fun k hk => ⟨Nat.le_trans HZ7.out hk, fun e => by have := Kd.R_lt HR7.out k e.symm; omega⟩) HRB.out (Nat.le_trans HZ7.out HZB.out) HLEN.out ?_); intro A1' c1' w10 hr10 hch10 hat10; have HR10 := Aside0.mk (Kd.R_mono hr10 (fun k hk => hk.elim id (fun h => Nat.le_trans (Nat.le_trans HZ7.out HZB.out) h))); have HB10 := Aside0.mk (HBB.out.trans (Ch.to_below hch10 (fun k hk => HRB.out.1 k hk.symm) (Nat.le_trans HZ7.out HZB.out))); clear hr10 hch10 hat10))
            go_roundw
            case rel => exact ⟨i + 4 + n, A1', c1', acc ++ [pc], by first | rfl | simp, by first | rfl | simp, hn, by rw [List.length_append, List.length_singleton]; omega, HE2, by rw [List.length_append, List.length_singleton]; exact HR10, HB10⟩
            case measure => simp [intOf]; try omega
      · have hn1 : decide ((bs.length : Int) - (i : Int) - 4 < (n : Int)) = true := by simp; omega
        have HE := Aside0.mk (E.out.trans (read_torn HN.out (by omega)))
        clear E HN hn hw4
        go_wp2_with fail
        go_ret3
        rw [HE.out]
        exact ⟨⟨_, rfl, HR7.out⟩, HB7.out⟩
    · have HE := Aside0.mk (E.out.trans (read_end (by omega)))
      have h4' : ¬ (4 : Int) ≤ (bs.length : Int) - (i : Int) := by omega
      clear E h4
      go_wp2_with fail
      go_ret3
      rw [HE.out]
      exact ⟨⟨_, rfl, HR.out⟩, HB.out⟩
end Go.Proofs.Ytgndmbkkggjklaa.Jo
namespace Go.Proofs.Ytgndmbkkggjklaa.Jo
set_option linter.unusedVariables false
set_option linter.unusedSimpArgs false
open Go.RowKit Go.Proofs.YtgndmbkkggjklaaW.PrintWords Go.Proofs.YtgndmbkkggjklaaW.PrintMore Go.Proofs.Ytgndmbkkggjklaa.Bs
theorem drawn0_drew {a b : World} (h : Drawn0 a b) : Drawn0 a b.drew := h.step 1
set_option maxRecDepth 100000 in
set_option maxHeartbeats 1000000 in
theorem ints_same (w : World) (A B : Option Addr) (c d : Nat) (ns : List Int) (hA : (Kd.int .i64).C w A ns.length ns) (hB : (Kd.int .i64).C w B ns.length ns) (hl : ns.length ≤ 9223372036854775807) :
    Calls Try.prog 45 #[.slice A ns.length c, .slice B ns.length d] w fun e w' => e = .returned (.bool true) ∧ Below w.heap.size w w' := by
  have HA := Aside0.mk hA
  have HB := Aside0.mk hB
  clear hA hB
  go_enter Try.func45, Try.ntmps45
  go_wp2
  go_loopw [5] (fun v5 wr => ∃ j : Nat, v5 = .int .i64 j ∧ j ≤ ns.length ∧ Aside0 (Below w.heap.size w wr)) (fun v5 _ => ns.length - (intOf v5).toNat)
  case atStart => exact ⟨0, rfl, Nat.zero_le _, ⟨Below.refl _ _⟩⟩
  case round =>
    obtain ⟨j, rfl, hj, HD⟩ := hrel
    by_cases hjl : j < ns.length
    · obtain ⟨a, ea, ha⟩ := Kd.at_int (Kd.C_below HA.out HD.out) j (by omega) (by omega)
      obtain ⟨b, eb, hb⟩ := Kd.at_int (Kd.C_below HB.out HD.out) j (by omega) (by omega)
      cases ea
      cases eb
      rw [Int.toNat_natCast] at ha hb
      generalize rd ns (j : Int) = x at *
      have hj0 : (0 : Int) ≤ (j : Int) := by omega
      have hj1 : (j : Int) < (ns.length : Int) := by omega
      go_wp2_with fail
      go_region
      all_goals
        go_wp2
        go_roundw
        case rel => exact ⟨j + 1, by first | rfl | rw [wrap_succ j (by omega)] | simp, by omega, ⟨below_drew1 HD.out⟩⟩
        case measure => first | exact meas_in j _ hjl | exact meas_up j _ hjl hl
    · have hjn : j = ns.length := by omega
      subst hjn
      go_wp2
      go_ret
      exact ⟨rfl, HD.out⟩
set_option maxRecDepth 100000 in
set_option maxHeartbeats 1000000 in
theorem rec_same (w : World) (A4 A5 B4 B5 : Option Addr) (c4 c5 d4 d5 : Nat) (k p : Int) (n t : ByteArray) (ks bs : List Int) (g : Bool) (ha4 : (Kd.int .i64).C w A4 ks.length ks) (hb4 : (Kd.int .i64).C w B4 ks.length ks) (ha5 : (Kd.int .i64).C w A5 bs.length bs) (hb5 : (Kd.int .i64).C w B5 bs.length bs) (h4 : ks.length ≤ 9223372036854775807) (h5 : bs.length ≤ 9223372036854775807) :
    Calls Try.prog 37 #[.agg #[.int .i64 k, .string n, .string t, .int .i64 p, .slice A4 ks.length c4, .slice A5 bs.length c5, .bool g], .agg #[.int .i64 k, .string n, .string t, .int .i64 p, .slice B4 ks.length d4, .slice B5 bs.length d5, .bool g]] w fun e w' => e = .returned (.bool true) ∧ Below w.heap.size w w' := by
  have C4 := Aside0.mk (fun W (hW : Below w.heap.size w W) => ints_same W A4 B4 c4 d4 ks (Kd.C_below ha4 hW) (Kd.C_below hb4 hW) h4)
  have C5 := Aside0.mk (fun W (hW : Below w.heap.size w W) => ints_same W A5 B5 c5 d5 bs (Kd.C_below ha5 hW) (Kd.C_below hb5 hW) h5)
  clear ha4 hb4 ha5 hb5 h4 h5
  go_enter Try.func37, Try.ntmps37
  go_wp2_with fail
  have hb0 := below_alloc (below_alloc (Below.refl w.heap.size w) (.cells #[.int .i64 k, .string n, .string t, .int .i64 p, .slice A4 ks.length c4, .slice A5 bs.length c5, .bool g] 44)) (.cells #[.int .i64 k, .string n, .string t, .int .i64 p, .slice B4 ks.length d4, .slice B5 bs.length d5, .bool g] 44)
  have hq1 := (Below.heap_alloc (w.alloc (.cells #[.int .i64 k, .string n, .string t, .int .i64 p, .slice A4 ks.length c4, .slice A5 bs.length c5, .bool g] 44)) (.cells #[.int .i64 k, .string n, .string t, .int .i64 p, .slice B4 ks.length d4, .slice B5 bs.length d5, .bool g] 44) w.heap.size (by simp)).trans (heap_alloc_new w _)
  have hq2 := heap_alloc_new (w.alloc (.cells #[.int .i64 k, .string n, .string t, .int .i64 p, .slice A4 ks.length c4, .slice A5 bs.length c5, .bool g] 44)) (.cells #[.int .i64 k, .string n, .string t, .int .i64 p, .slice B4 ks.length d4, .slice B5 bs.length d5, .bool g] 44)
  rw [show (w.alloc (.cells #[.int .i64 k, .string n, .string t, .int .i64 p, .slice A4 ks.length c4, .slice A5 bs.length c5, .bool g] 44)).heap.size = w.heap.size + 1 by simp] at hq2
  refine (C4.out _ hb0).mono ?_
  rintro e w2 ⟨rfl, hb⟩
  have h1 := (hb.block _ (blk_lt hq1)).trans hq1
  have h2 := (hb.block _ (blk_lt hq2)).trans hq2
  have x5 : w2.cell? ⟨w.heap.size, 5, none⟩ = some (.slice A5 bs.length c5) := blk_cell h1 5
  have y5 : w2.cell? ⟨w.heap.size + 1, 5, none⟩ = some (.slice B5 bs.length d5) := blk_cell h2 5
  have hb2 := below_step hb0 hb
  have HB2 := Aside0.mk hb2
  clear hb h1 h2 hq1 hq2 hb0 C4 hb2
  go_wp2_with fail
  refine (C5.out _ HB2.out).mono ?_
  rintro e w3 ⟨rfl, hb⟩
  have HB3 := Aside0.mk (below_step HB2.out hb)
  clear hb C5
  go_wp2
  go_ret
  exact ⟨rfl, HB3.out⟩
set_option maxRecDepth 100000 in
set_option maxHeartbeats 8000000 in
theorem changes_same (w : World) (A B : Option Addr) (c d : Nat) (l : List S46) (hA : k46.C w A l.length l) (hB : k46.C w B l.length l) (hl : l.length ≤ 9223372036854775807) (hs : ∀ x ∈ l, sized x) :
    Calls Try.prog 26 #[.slice A l.length c, .slice B l.length d] w fun e w' => e = .returned (.bool true) ∧ Below w.heap.size w w' := by
  have HA := Aside0.mk hA
  have HB := Aside0.mk hB
  have HS := Aside0.mk hs
  clear hA hB hs
  go_enter Try.func26, Try.ntmps26
  go_wp2
  go_loopw [5] (fun v5 wr => ∃ j : Nat, v5 = .int .i64 j ∧ j ≤ l.length ∧ Aside0 (Below w.heap.size w wr)) (fun v5 _ => l.length - (intOf v5).toNat)
  case atStart => exact ⟨0, rfl, Nat.zero_le _, ⟨Below.refl _ _⟩⟩
  case round =>
    obtain ⟨j, rfl, hj, HD⟩ := hrel
    by_cases hjl : j < l.length
    · obtain ⟨a, A5, c5, A6, c6, ea, a0, a1, a2, a3, a4, a5, a6, a7, l5, g5, l6, g6⟩ := at46 (Kd.C_below HA.out HD.out) j hjl
      obtain ⟨b, B5, d5, B6, d6, eb, b0, b1, b2, b3, b4, b5, b6, b7, m5, n5, m6, n6⟩ := at46 (Kd.C_below HB.out HD.out) j hjl
      cases ea
      cases eb
      obtain ⟨s1, s2, s3, s4⟩ := HS.out _ (List.getElem_mem hjl)
      have CR := Aside0.mk (fun W (hW : Below wr.heap.size wr W) => rec_same W A5 A6 B5 B6 c5 c6 d5 d6 l[j].f1.f0 l[j].f1.f3 l[j].f1.f1 l[j].f1.f2 l[j].f1.f4 l[j].f1.f5 l[j].f1.f6 (Kd.C_below g5 hW) (Kd.C_below n5 hW) (Kd.C_below g6 hW) (Kd.C_below n6 hW) s3 s4)
      clear g5 g6 n5 n6 s1 s2 s3 s4 l5 l6 m5 m6
      generalize l[j] = x at *
      obtain ⟨i0, ⟨x0, x1, x2, x3, x4, x5, x6⟩⟩ := x
      simp only at a0 a1 a2 a3 a4 a5 a6 a7 b0 b1 b2 b3 b4 b5 b6 b7 CR
      have hj0 : (0 : Int) ≤ (j : Int) := by omega
      have hj1 : (j : Int) < (l.length : Int) := by omega
      have hra : ∀ m v, wr.cell? ⟨(a.add (j * 8)).block, (a.add (j * 8)).off + m, none⟩ = some v → True := fun _ _ _ => trivial
      go_upto_region 6 with (fail)
      go_region_held3 (fun w' => w'.cell? (a.add (j * 8)) = some (.int .i64 i0) ∧ w'.cell? (b.add (j * 8)) = some (.int .i64 i0) ∧ w'.cell? ⟨(a.add (j * 8)).block, (a.add (j * 8)).off + 1, none⟩ = some (.int .i64 x0) ∧ w'.cell? ⟨(a.add (j * 8)).block, (a.add (j * 8)).off + 2, none⟩ = some (.string x1) ∧ w'.cell? ⟨(a.add (j * 8)).block, (a.add (j * 8)).off + 3, none⟩ = some (.string x2) ∧ w'.cell? ⟨(a.add (j * 8)).block, (a.add (j * 8)).off + 4, none⟩ = some (.int .i64 x3) ∧ w'.cell? ⟨(a.add (j * 8)).block, (a.add (j * 8)).off + 5, none⟩ = some (.slice A5 x4.length c5) ∧ w'.cell? ⟨(a.add (j * 8)).block, (a.add (j * 8)).off + 6, none⟩ = some (.slice A6 x5.length c6) ∧ w'.cell? ⟨(a.add (j * 8)).block, (a.add (j * 8)).off + 7, none⟩ = some (.bool x6) ∧ w'.cell? ⟨(b.add (j * 8)).block, (b.add (j * 8)).off + 1, none⟩ = some (.int .i64 x0) ∧ w'.cell? ⟨(b.add (j * 8)).block, (b.add (j * 8)).off + 2, none⟩ = some (.string x1) ∧ w'.cell? ⟨(b.add (j * 8)).block, (b.add (j * 8)).off + 3, none⟩ = some (.string x2) ∧ w'.cell? ⟨(b.add (j * 8)).block, (b.add (j * 8)).off + 4, none⟩ = some (.int .i64 x3) ∧ w'.cell? ⟨(b.add (j * 8)).block, (b.add (j * 8)).off + 5, none⟩ = some (.slice B5 x4.length d5) ∧ w'.cell? ⟨(b.add (j * 8)).block, (b.add (j * 8)).off + 6, none⟩ = some (.slice B6 x5.length d6) ∧ w'.cell? ⟨(b.add (j * 8)).block, (b.add (j * 8)).off + 7, none⟩ = some (.bool x6)) (first | exact ⟨a0, b0, a1, a2, a3, a4, a5, a6, a7, b1, b2, b3, b4, b5, b6, b7⟩ | exact hk9 | go_keep) (first | (go_at_call 37; (with_reducible refine (CR.out _ (below_drew (Below.refl _ _))).mono ?_); rintro e w9 ⟨rfl, hb9⟩; have hk9 := And.intro (pw_cell_below hb9 (show wr.drew.cell? _ = _ from a0)) (And.intro (pw_cell_below hb9 (show wr.drew.cell? _ = _ from b0)) (And.intro (pw_cell_below hb9 (show wr.drew.cell? _ = _ from a1)) (And.intro (pw_cell_below hb9 (show wr.drew.cell? _ = _ from a2)) (And.intro (pw_cell_below hb9 (show wr.drew.cell? _ = _ from a3)) (And.intro (pw_cell_below hb9 (show wr.drew.cell? _ = _ from a4)) (And.intro (pw_cell_below hb9 (show wr.drew.cell? _ = _ from a5)) (And.intro (pw_cell_below hb9 (show wr.drew.cell? _ = _ from a6)) (And.intro (pw_cell_below hb9 (show wr.drew.cell? _ = _ from a7)) (And.intro (pw_cell_below hb9 (show wr.drew.cell? _ = _ from b1)) (And.intro (pw_cell_below hb9 (show wr.drew.cell? _ = _ from b2)) (And.intro (pw_cell_below hb9 (show wr.drew.cell? _ = _ from b3)) (And.intro (pw_cell_below hb9 (show wr.drew.cell? _ = _ from b4)) (And.intro (pw_cell_below hb9 (show wr.drew.cell? _ = _ from b5)) (And.intro (pw_cell_below hb9 (show wr.drew.cell? _ = _ from b6)) (pw_cell_below hb9 (show wr.drew.cell? _ = _ from b7)))))))))))))))); have HB9 := Aside0.mk (below_step (below_drew1 HD.out) hb9); clear hb9))
      all_goals
        go_wp2
        go_roundw
        case rel => exact ⟨j + 1, by first | rfl | rw [wrap_succ j (by omega)] | simp, by omega, ⟨HB9.out⟩⟩
        case measure => first | exact meas_in j _ hjl | exact meas_up j _ hjl hl
    · have hjn : j = l.length := by omega
      subst hjn
      go_wp2
      go_ret
      exact ⟨rfl, HD.out⟩
theorem at25 {w : World} {A : Option Addr} {l : List S25} (h : k25.C w A l.length l) (j : Nat) (hj : j < l.length) : ∃ ad A3 c3, A = some ad ∧ w.cell? (ad.add (j * 4)) = some (.int .i64 l[j].f0) ∧ w.cell? ⟨(ad.add (j * 4)).block, (ad.add (j * 4)).off + 1, none⟩ = some (.int .u64 l[j].f1) ∧ w.cell? ⟨(ad.add (j * 4)).block, (ad.add (j * 4)).off + 2, none⟩ = some (.int .u64 l[j].f2) ∧ w.cell? ⟨(ad.add (j * 4)).block, (ad.add (j * 4)).off + 3, none⟩ = some (.slice A3 l[j].f3.length c3) ∧ l[j].f3.length ≤ c3 ∧ k46.C w A3 l[j].f3.length l[j].f3 := by
  have := at_T25 h (j : Int) (by omega) (by omega)
  rw [show rd_T25 l (j : Int) = l[j] by simp [rd_T25, List.getD, hj], Int.toNat_natCast] at this
  exact this
def sizedC (c : S25) : Prop := c.f3.length ≤ 9223372036854775807 ∧ ∀ x ∈ c.f3, sized x
set_option maxRecDepth 100000 in
set_option maxHeartbeats 8000000 in
theorem commits_same (w : World) (A B : Option Addr) (c d : Nat) (l : List S25) (hA : k25.C w A l.length l) (hB : k25.C w B l.length l) (hl : l.length ≤ 9223372036854775807) (hs : ∀ x ∈ l, sizedC x) :
    Calls Try.prog 13 #[.slice A l.length c, .slice B l.length d] w fun e w' => e = .returned (.bool true) ∧ Below w.heap.size w w' := by
  have HA := Aside0.mk hA
  have HB := Aside0.mk hB
  have HS := Aside0.mk hs
  clear hA hB hs
  go_enter Try.func13, Try.ntmps13
  go_wp2
  go_loopw [5] (fun v5 wr => ∃ j : Nat, v5 = .int .i64 j ∧ j ≤ l.length ∧ Aside0 (Below w.heap.size w wr)) (fun v5 _ => l.length - (intOf v5).toNat)
  case atStart => exact ⟨0, rfl, Nat.zero_le _, ⟨Below.refl _ _⟩⟩
  case round =>
    obtain ⟨j, rfl, hj, HD⟩ := hrel
    by_cases hjl : j < l.length
    · obtain ⟨a, A3, c3, ea, a0, a1, a2, a3, l3, g3⟩ := at25 (Kd.C_below HA.out HD.out) j hjl
      obtain ⟨b, B3, d3, eb, b0, b1, b2, b3, m3, n3⟩ := at25 (Kd.C_below HB.out HD.out) j hjl
      cases ea
      cases eb
      obtain ⟨s1, s2⟩ := HS.out _ (List.getElem_mem hjl)
      have CR := Aside0.mk (fun W (hW : Below wr.heap.size wr W) => changes_same W A3 B3 c3 d3 l[j].f3 (Kd.C_below g3 hW) (Kd.C_below n3 hW) s1 s2)
      clear g3 n3 s1 s2 l3 m3
      generalize l[j] = x at *
      obtain ⟨i0, x0, x1, x2⟩ := x
      simp only at a0 a1 a2 a3 b0 b1 b2 b3 CR
      have hj0 : (0 : Int) ≤ (j : Int) := by omega
      have hj1 : (j : Int) < (l.length : Int) := by omega
      go_upto_region 6 with (fail)
      go_region_held3 (fun w' => w'.cell? (a.add (j * 4)) = some (.int .i64 i0) ∧ w'.cell? (b.add (j * 4)) = some (.int .i64 i0) ∧ w'.cell? ⟨(a.add (j * 4)).block, (a.add (j * 4)).off + 1, none⟩ = some (.int .u64 x0) ∧ w'.cell? ⟨(a.add (j * 4)).block, (a.add (j * 4)).off + 2, none⟩ = some (.int .u64 x1) ∧ w'.cell? ⟨(a.add (j * 4)).block, (a.add (j * 4)).off + 3, none⟩ = some (.slice A3 x2.length c3) ∧ w'.cell? ⟨(b.add (j * 4)).block, (b.add (j * 4)).off + 1, none⟩ = some (.int .u64 x0) ∧ w'.cell? ⟨(b.add (j * 4)).block, (b.add (j * 4)).off + 2, none⟩ = some (.int .u64 x1) ∧ w'.cell? ⟨(b.add (j * 4)).block, (b.add (j * 4)).off + 3, none⟩ = some (.slice B3 x2.length d3)) (first | exact ⟨a0, b0, a1, a2, a3, b1, b2, b3⟩ | exact hk9 | go_keep) (first | (go_at_call 26; (with_reducible refine (CR.out _ (below_drew (Below.refl _ _))).mono ?_); rintro e w9 ⟨rfl, hb9⟩; have hk9 := And.intro (pw_cell_below hb9 (show wr.drew.cell? _ = _ from a0)) (And.intro (pw_cell_below hb9 (show wr.drew.cell? _ = _ from b0)) (And.intro (pw_cell_below hb9 (show wr.drew.cell? _ = _ from a1)) (And.intro (pw_cell_below hb9 (show wr.drew.cell? _ = _ from a2)) (And.intro (pw_cell_below hb9 (show wr.drew.cell? _ = _ from a3)) (And.intro (pw_cell_below hb9 (show wr.drew.cell? _ = _ from b1)) (And.intro (pw_cell_below hb9 (show wr.drew.cell? _ = _ from b2)) (pw_cell_below hb9 (show wr.drew.cell? _ = _ from b3)))))))); have HB9 := Aside0.mk (below_step (below_drew1 HD.out) hb9); clear hb9))
      all_goals
        go_wp2
        go_roundw
        case rel => exact ⟨j + 1, by first | rfl | rw [wrap_succ j (by omega)] | simp, by omega, ⟨HB9.out⟩⟩
        case measure => first | exact meas_in j _ hjl | exact meas_up j _ hjl hl
    · have hjn : j = l.length := by omega
      subst hjn
      go_wp2
      go_ret
      exact ⟨rfl, HD.out⟩
end Go.Proofs.Ytgndmbkkggjklaa.Jo
namespace Go.Proofs.Ytgndmbkkggjklaa.Jo
set_option linter.unusedVariables false
set_option linter.unusedSimpArgs false
open Go.RowKit Go.Proofs.YtgndmbkkggjklaaW.PrintWords Go.Proofs.YtgndmbkkggjklaaW.PrintLast Go.Proofs.YtgndmbkkggjklaaW.PrintMore Go.Proofs.Ytgndmbkkggjklaa.Bs
attribute [local go_sem] Oper.semAt_some
/-- How the loop may be left early. -/
def RX (w : World) (c : Code) (gs : List (Nat × List Int)) (W : World) : Prop := c = .exit 0 ∧ ∃ ps x, gs = ps ++ [x] ∧ (commitP x.2).2 = false ∧ RI w 61 ps W
theorem whole_stops (n : Nat) (hn : 1 ≤ n) (w W2 : World) (A : Option Addr) (cp Bs : Nat) (bs : List Int) (hC : (Kd.int .u8).C w A bs.length bs) (hcp : bs.length ≤ cp) (hby : Bys bs) (hlen : bs.length ≤ 4000000000000000000)
    (hBs : W2.heap[Bs]? = some (.cells #[.slice A bs.length cp] 28 (0, 0))) (hold : Below w.heap.size w W2) :
    SeqStopsK Fence.wide n Try.prog 32 #[.pointer (some ⟨Bs, 0, none⟩)] (fun x : Item w => #[Value.int .i64 (x.pos : Int), Value.slice x.A x.t.length x.c]) (Kw w.heap.size Bs) (fun ys => ys.map Item.got = wholeP 0 bs) (fun pre => pre.map Item.got <+: wholeP 0 bs) (bs.length + 1) W2 :=
  fun l J Jx W hW hJ hJx hY h0 => whole1_in n hn l Bs w W A cp bs hC hcp hby hlen J Jx hJ hY ((hW.block Bs (blk_lt hBs)).trans hBs) (hold.trans (hW.mono hold.size)) h0
set_option maxRecDepth 100000 in
set_option maxHeartbeats 4000000 in
theorem read_in (w : World) (A : Option Addr) (cp : Nat) (bs : List Int) (hC : (Kd.int .u8).C w A bs.length bs) (hcp : bs.length ≤ cp) (hby : Bys bs) (hlen : bs.length ≤ 1000000000000) :
    CallsIn Fence.wide 3 Try.prog 11 #[.slice A bs.length cp] w fun e w' => (∃ v, e = .returned (.tuple #[v, .int .i64 ((readP bs).2.1 : Int), .int .i64 (readP bs).2.2]) ∧ k25.R 25 w' w.heap.size (fun k => w.heap.size ≤ k) v (readP bs).1) ∧ Below w.heap.size w w' := by
  refine callsIn_of_wp_marks Try.func11 rfl trivial ?_ rfl
  simp only [Try.ntmps11, List.size_toArray, List.length_cons, List.length_nil, Nat.reduceAdd, Nat.reduceSub, Array.replicate_succ, Array.replicate_zero, List.push_toArray, List.append_toArray, List.nil_append, List.cons_append]
  gi_wp2_with fail
  refine ⟨trivial, (callsIn_wide.2 (whole_in A bs.length cp _)).mono ?_⟩
  rintro e w' ⟨rfl, rfl⟩
  have hz3 : (((w.alloc (.cells #[.slice none 0 0] 32)).alloc (.cells #[.int .i64 0] 3)).alloc (.cells #[.int .i64 0] 29)).heap.size = w.heap.size + 3 := by simp
  have hI0 : RI w 0 [] ((((w.alloc (.cells #[.slice none 0 0] 32)).alloc (.cells #[.int .i64 0] 3)).alloc (.cells #[.int .i64 0] 29)).alloc (.cells #[.slice A bs.length cp] 28)) := by
    have b1 := below_alloc (Below.refl w.heap.size w) (.cells #[.slice none 0 0] 32)
    have b2 := below_alloc b1 (.cells #[.int .i64 0] 3)
    have b3 := below_alloc b2 (.cells #[.int .i64 0] 29)
    have b4 := below_alloc b3 (.cells #[.slice A bs.length cp] 28)
    refine ⟨by simp, ⟨none, 0, ?_, Kd.R_nil _ _ _ _ _⟩, ?_, ?_, b4, by simp⟩
    · exact (Below.heap_alloc _ _ _ (by simp; omega)).trans ((Below.heap_alloc _ _ _ (by simp; omega)).trans ((Below.heap_alloc _ _ _ (by simp)).trans (heap_alloc_new w _)))
    · have h := heap_alloc_new (w.alloc (.cells #[.slice none 0 0] 32)) (.cells #[.int .i64 0] 3)
      rw [show (w.alloc (.cells #[.slice none 0 0] 32)).heap.size = w.heap.size + 1 by simp] at h
      exact (Below.heap_alloc _ _ _ (by simp)).trans ((Below.heap_alloc _ _ _ (by simp)).trans h)
    · have h := heap_alloc_new ((w.alloc (.cells #[.slice none 0 0] 32)).alloc (.cells #[.int .i64 0] 3)) (.cells #[.int .i64 0] 29)
      rw [show ((w.alloc (.cells #[.slice none 0 0] 32)).alloc (.cells #[.int .i64 0] 3)).heap.size = w.heap.size + 2 by simp] at h
      exact (Below.heap_alloc _ _ _ (by simp)).trans h
  have hBs := heap_alloc_new (((w.alloc (.cells #[.slice none 0 0] 32)).alloc (.cells #[.int .i64 0] 3)).alloc (.cells #[.int .i64 0] 29)) (.cells #[.slice A bs.length cp] 28)
  rw [hz3] at hBs ⊢
  obtain ⟨W2, hW2⟩ : ∃ W2, W2 = ((((w.alloc (.cells #[.slice none 0 0] 32)).alloc (.cells #[.int .i64 0] 3)).alloc (.cells #[.int .i64 0] 29)).alloc (.cells #[.slice A bs.length cp] 28)) := ⟨_, rfl⟩
  have hz4 : W2.heap.size = w.heap.size + 4 := by rw [hW2]; simp
  rw [← hW2] at hI0 hBs ⊢
  clear hW2 hz3
  have hst := whole_stops 2 (by decide) w W2 A cp (w.heap.size + 3) bs hC hcp hby (by omega) hBs hI0.old
  gi_wp2_with fail
  refine wpIn_rangeFunc_ownF rfl (by decide) (gf := 32) (lb := #[.pointer (some ⟨w.heap.size + 3, 0, none⟩)]) rfl trivial (enters_of Try.func32 (by kernel_rfl) rfl)
    hst (fun h k => Kw.trans h k) (Kw.put (by omega) (by omega)) (Below.refl _ _) (fun _ => rfl)
    (fun pre W => RI w 0 (pre.map Item.got) W) (fun c pre W => RX w c (pre.map Item.got) W)
    (fun s X Y row hs hg hr => hs.own hg (fun r e => ⟨by have := (hr r e).1; omega, (hr r e).2⟩))
    (fun c s X Y row hs hg hr => ⟨hs.1, by obtain ⟨_, ps, x, e1, e2, e3⟩ := hs; exact ⟨ps, x, e1, e2, e3.own hg (fun r e => ⟨by have := (hr r e).1; omega, (hr r e).2⟩)⟩⟩)
    (by simpa using hI0)
    (fun x => { tmps := #[.slice A bs.length cp, undef, .slice none 0 0, .int .i64 0, .int .i64 0, .pointer (some ⟨w.heap.size, 0, none⟩), .pointer (some ⟨w.heap.size + 1, 0, none⟩), .pointer (some ⟨w.heap.size + 1 + 1, 0, none⟩), .int .i64 (x.pos : Int), .slice x.A x.t.length x.c, undef, undef, .slice A bs.length cp, .func (.func 32) #[] #[.pointer (some ⟨w.heap.size + 3, 0, none⟩)], .int .i64 (x.pos : Int), .slice x.A x.t.length x.c, undef, undef, undef, undef, undef, undef, undef, undef, undef, undef, undef, undef, undef, undef, undef], defers := [] }) ?assign ?body ?done ?stop
  case assign =>
    intro l x W K hK
    gi_wp2
    exact hK
  case body =>
    rintro l pre x W hI hpl
    have HGL := Aside0.mk (show (pre.map Item.got).length ≤ bs.length by rw [List.length_map]; omega)
    have CM := commit_get W x.A x.c x.t (Kd.C_below x.hC hI.old) x.hc x.hb x.hl
    have hgx : Item.got x = (x.pos, x.t) := rfl
    have HGX := Aside0.mk (show (pre ++ [x]).map Item.got = pre.map Item.got ++ [(x.pos, x.t)] by simp [hgx])
    generalize pre.map Item.got = gs at *
    obtain ⟨pos, xA, xc, xt, xC, xhc, xhb, xhl⟩ := x
    simp only at CM HGX ⊢
    have HI := Aside0.mk hI
    obtain ⟨Ax, cx, hbx, hRx⟩ := hI.bx
    have HBX := Aside0.mk hbx
    have HRX := Aside0.mk hRx
    clear hI hbx hRx hgx
    gi_wp2_with fail
    refine ⟨trivial, (CallsIn.inRound l (callsIn_wide.2 CM)).mono ?_⟩
    rintro e w2 ⟨⟨cs, rfl, hM⟩, hB2⟩
    obtain ⟨A3, c3, rfl⟩ := M25_open hM
    have HI2 := Aside0.mk (HI.out.below hB2)
    obtain ⟨s0, s1⟩ := blk1 HI2.out.er
    have s0' : w2.cell? ⟨w.heap.size + 1 + 1, 0, none⟩ = some (.int .i64 0) := s0
    have s1' : ∀ i, w2.frozen? ⟨w.heap.size + 1 + 1, i, none⟩ = false := s1
    have s2 : ∀ o, (w2.alloc o).cell? ⟨w.heap.size + 1 + 1, 0, none⟩ = some (.int .i64 0) := fun o => pw_cell_below (below_alloc (Below.refl _ _) o) s0'
    have s3 : ∀ o, (w2.alloc o).frozen? ⟨w.heap.size + 1 + 1, 0, none⟩ = false := fun o => (World.frozen?_of_block ((below_alloc (Below.refl w2.heap.size w2) o).block _ (blk_lt HI2.out.er))).trans (s1' 0)
    have HM := Aside0.mk hM
    have HB2 := Aside0.mk hB2
    obtain ⟨ok, hok⟩ : ∃ b, b = (commitP xt).2 := ⟨_, rfl⟩
    have HOK := Aside0.mk hok
    rw [← hok]
    obtain ⟨K0, hK0⟩ : ∃ c, c = (commitP xt).1 := ⟨_, rfl⟩
    have HK0 := Aside0.mk hK0
    rw [← hK0] at HM ⊢
    clear hM hB2 CM hok hK0 s0 s1
    obtain ⟨n1, n2, n3, n4⟩ := K0
    simp only at HM ⊢
    have hW := below_alloc (Below.refl w2.heap.size w2) (.cells #[.int .i64 n1, .int .u64 n2, .int .u64 n3, .slice A3 n4.length c3] 25)
    have hV0 := heap_alloc_new w2 (.cells #[.int .i64 n1, .int .u64 n2, .int .u64 n3, .slice A3 n4.length c3] 25)
    cases ok with
    | false =>
      gi_wp2_with fail
      have hst := HI.out.stop (below_step HB2.out hW)
      exact ⟨hst.2, rfl, gs, (pos, xt), HGX.out, HOK.out.symm, hst.1⟩
    | true =>
      obtain ⟨Ax2, cx2, hbx2, hRx2⟩ := (HI2.out.below hW).bx
      have hAx : Ax2 = Ax ∧ cx2 = cx := by
        have h1 := (hW.block _ (by have := HI2.out.siz; omega)).trans ((HB2.out.block _ (blk_lt HBX.out)).trans HBX.out)
        rw [hbx2] at h1
        simp at h1
        exact h1
      obtain ⟨rfl, rfl⟩ := hAx
      have HRX2 := Aside0.mk hRx2
      have hq0 := (HB2.out.block _ (blk_lt HBX.out)).trans HBX.out
      have q0 : ∀ o, (w2.alloc o).cell? ⟨w.heap.size, 0, none⟩ = some (.slice Ax2 (gs.map (fun x => (commitP x.2).1)).length cx2) := fun o => pw_cell_below (below_alloc (Below.refl _ _) o) (blk1 hq0).1
      have HMV := Aside0.mk (Kd.M_below HM.out hW)
      have HVS := Aside0.mk (show w.heap.size + 4 ≤ (w2.alloc (.cells #[.int .i64 n1, .int .u64 n2, .int .u64 n3, .slice A3 n4.length c3] 25)).heap.size from Nat.le_trans HI2.out.siz hW.size)
      have hws : (w2.alloc (.cells #[.int .i64 n1, .int .u64 n2, .int .u64 n3, .slice A3 n4.length c3] 25)).heap.size = w2.heap.size + 1 := by simp
      have hbxV := hbx2
      have henV := (HI2.out.below hW).en
      clear hbx2 hRx2 hq0
      have hgl := HGL.out
      have HLEN := Aside0.mk (show ((gs.map (fun x => (commitP x.2).1)).length + 1) * 48 ≤ 140737488355328 by rw [List.length_map]; omega)
      generalize hcl : gs.map (fun x => (commitP x.2).1) = L at *
      gi_wp2_with (first | (gi_at_builtin; refine app_in k25 (W := w2.alloc (.cells #[.int .i64 n1, .int .u64 n2, .int .u64 n3, .slice A3 n4.length c3] 25)) (w.heap.size + 4) rfl (.tmp 23) (.tmp 25) 32 25 _ 48 rfl Try.underlying32 info25 ⟨rfl, by decide, by decide⟩ (.slice Ax2 L.length cx2) L ⟨n1, n2, n3, n4⟩ _ (fun k => w.heap.size + 4 ≤ k) (fun k => W.heap.size ≤ k) rfl ?hx (k25.M_lower HI.out.siz HMV.out) (fun k hk => ⟨Nat.le_trans HI.out.siz hk, fun e => (by have := Kd.R_lt HRX.out k e.symm; omega)⟩) HRX2.out HVS.out HLEN.out ?_; (case hx => exact (congrArg (fun z => Value.slice (some ⟨z, 0, none⟩) 1 1) hws.symm)); intro A5 c5 w5 hR5 hch5; have hq5 := hch5.heap hbxV (fun e => by have := HRX.out.1 _ e.symm; omega); have HR5 := Aside0.mk hR5; have HCH5 := Aside0.mk hch5; have x0 := (blk1 hq5).1; have x1 := (blk1 hq5).2; have hn5 := hch5.heap henV (fun e => by have := HRX.out.1 _ e.symm; omega); have y0 := (blk1 hn5).1; have y1 := (blk1 hn5).2; clear hR5 hch5 hq5 hn5))
      subst hcl
      have hnx := HI.out.next (q := pos) (t := xt) HOK.out.symm (below_step HB2.out hW) HBX.out HRX.out rfl (by rw [← HK0.out]; exact HR5.out) HCH5.out
      refine ⟨hnx.1, hnx.2.1, ?_⟩
      show RI w 0 ((pre ++ [_]).map Item.got) _
      rw [HGX.out]
      exact hnx.2.2
  case done =>
    rintro D ys W hD hS hI hK
    have HI := Aside0.mk hI
    have hres : readP bs = ((ys.map Item.got).map (fun x => (commitP x.2).1), endOf (ys.map Item.got) 0, 0) := by
      have := readL_ok (ys.map Item.got) [] [] 0 hI.ok
      rw [List.append_nil, hS] at this
      rw [readP, this, readL, hS]
      simp
    have HRES := Aside0.mk hres
    obtain ⟨Ax, cx, hbx, _⟩ := hI.bx
    have x0 := (blk1 hbx).1
    have x1 := (blk1 hI.en).1
    have x2 : W.cell? ⟨w.heap.size + 1 + 1, 0, none⟩ = some (.int .i64 0) := (blk1 hI.er).1
    have HBX := Aside0.mk hbx
    clear hI hres hbx hS
    generalize ys.map Item.got = gs at *
    generalize hcl : gs.map (fun x => (commitP x.2).1) = L at *
    have HCL := Aside0.mk hcl
    clear hcl
    gi_wp2_with fail
    gi_region
    all_goals gi_wp2
    refine ⟨by simp, .inl ⟨_, _, rfl, run_takeDeferred (show W.drew.heap[D]? = _ from hK), ?_⟩⟩
    have hI' := (HI.out.below (below_drew (Below.refl _ W))).own (grownBy_putObj' W.drew D (.deferred none)) (fun r e => by cases e; exact ⟨by omega, _, hK, rfl⟩)
    obtain ⟨Az, cz, hbz, hRz⟩ := hI'.bx
    have hAz : Az = Ax ∧ cz = cx := by
      have h1 : (W.drew.putObj D (.deferred none)).heap[w.heap.size]? = _ := (World.putObj_heap_other (by omega)).trans (show W.drew.heap[w.heap.size]? = _ from HBX.out)
      rw [hbz, HCL.out] at h1
      simp at h1
      exact h1
    obtain ⟨rfl, rfl⟩ := hAz
    rw [HCL.out] at hRz
    refine ⟨.tuple #[.slice Az L.length cz, .int .i64 (endOf gs 0 : Nat), .int .i64 0], by simp [results, Try.results11, go_sem], ?_⟩
    rw [HRES.out]
    exact ⟨⟨_, rfl, Kd.R_mono (Kd.R_lower hRz (by omega)) (fun k hk => by omega)⟩, hI'.old⟩
  case stop =>
    rintro D c pre W hD hS ⟨rfl, ps, x, e1, e2, hI⟩ hK
    have HI := Aside0.mk hI
    have hres : readP bs = (ps.map (fun x => (commitP x.2).1), endOf ps 0, 61) := by
      obtain ⟨rest, hr⟩ := hS
      rw [e1, List.append_assoc] at hr
      have := readL_ok ps ([x] ++ rest) [] 0 hI.ok
      rw [hr] at this
      obtain ⟨xq, xt⟩ := x
      rw [readP, this, List.singleton_append, readL, if_neg (by simpa using e2)]
      simp
    have HRES := Aside0.mk hres
    obtain ⟨Ax, cx, hbx, _⟩ := hI.bx
    have x0 := (blk1 hbx).1
    have x1 := (blk1 hI.en).1
    have x2 : W.cell? ⟨w.heap.size + 1 + 1, 0, none⟩ = some (.int .i64 61) := (blk1 hI.er).1
    have HBX := Aside0.mk hbx
    clear hI hres hbx e1 e2 hS
    generalize hcl : ps.map (fun x => (commitP x.2).1) = L at *
    have HCL := Aside0.mk hcl
    clear hcl
    gi_wp2_with fail
    gi_region
    all_goals gi_wp2
    refine ⟨by simp, .inl ⟨_, _, rfl, run_takeDeferred (show W.drew.heap[D]? = _ from hK), ?_⟩⟩
    have hI' := (HI.out.below (below_drew (Below.refl _ W))).own (grownBy_putObj' W.drew D (.deferred none)) (fun r e => by cases e; exact ⟨by omega, _, hK, rfl⟩)
    obtain ⟨Az, cz, hbz, hRz⟩ := hI'.bx
    have hAz : Az = Ax ∧ cz = cx := by
      have h1 : (W.drew.putObj D (.deferred none)).heap[w.heap.size]? = _ := (World.putObj_heap_other (by omega)).trans (show W.drew.heap[w.heap.size]? = _ from HBX.out)
      rw [hbz, HCL.out] at h1
      simp at h1
      exact h1
    obtain ⟨rfl, rfl⟩ := hAz
    rw [HCL.out] at hRz
    refine ⟨.tuple #[.slice Az L.length cz, .int .i64 (endOf ps 0 : Nat), .int .i64 61], by simp [results, Try.results11, go_sem], ?_⟩
    rw [HRES.out]
    exact ⟨⟨_, rfl, Kd.R_mono (Kd.R_lower hRz (by omega)) (fun k hk => by omega)⟩, hI'.old⟩
end Go.Proofs.Ytgndmbkkggjklaa.Jo
namespace Go.Proofs.Ytgndmbkkggjklaa.Jo
set_option linter.unusedVariables false
set_option linter.unusedSimpArgs false
open Go.RowKit Go.Proofs.YtgndmbkkggjklaaW.PrintWords Go.Proofs.YtgndmbkkggjklaaW.PrintLast Go.Proofs.YtgndmbkkggjklaaW.PrintMore Go.Proofs.Ytgndmbkkggjklaa.Bs
theorem fold_be (m : Nat) : ∀ (s : Nat) (a : Int), (be s m).foldl (fun a c => a * 256 + c) a = a * ((256 ^ s : Nat) : Int) + ((m % 256 ^ s : Nat) : Int)
  | 0, a => by simp [be, Nat.mod_one]
  | s + 1, a => by
    have e1 : (m : Int) / 256 ^ s % 256 = ((m / 256 ^ s % 256 : Nat) : Int) := by
      rw [Int.natCast_emod, Int.natCast_ediv, Int.natCast_pow]; rfl
    rw [be, List.foldl_cons, fold_be m s, e1, Nat.pow_succ, Nat.mod_mul]
    generalize 256 ^ s = P
    generalize m / P % 256 = x
    generalize m % P = r
    rw [Int.natCast_mul, Int.natCast_add, Int.natCast_mul, Int.add_mul, Int.mul_assoc, Int.mul_comm (256 : Int) (P : Int)]
    rw [Int.mul_comm (x : Int) (P : Int)]
    show _ = a * ((P : Int) * 256) + _
    omega
theorem val_be (s : Nat) (n : Int) (h0 : 0 ≤ n) (h1 : n < ((256 ^ s : Nat) : Int)) : val (be s n) = n := by
  obtain ⟨m, rfl⟩ := Int.eq_ofNat_of_zero_le h0
  rw [val, fold_be, Nat.mod_eq_of_lt (by omega)]
  omega
theorem strOf_bytes (s : ByteArray) : strOfNums (bytesOf s) = s := by
  apply ByteArray.ext
  show ((bytesOf s).map fun n => UInt8.ofNat n.toNat).toArray = s.data
  rw [bytesOf, List.map_map]
  have : (fun n : Int => UInt8.ofNat n.toNat) ∘ (fun b : UInt8 => (b.toNat : Int)) = id := by
    funext b; simp
  rw [this, List.map_id]
theorem takeP_left (l r : List Int) (n : Nat) (h : l.length = n) : takeP n ⟨l ++ r, false⟩ = (l, ⟨r, false⟩) := by
  unfold takeP
  rw [if_neg (by simp; omega)]
  simp only [List.take_left' h, List.drop_left' h]
theorem numP_be (s : Nat) (n : Int) (r : List Int) (h0 : 0 ≤ n) (h1 : n < ((256 ^ s : Nat) : Int)) : numP s ⟨be s n ++ r, false⟩ = (n, ⟨r, false⟩) := by
  unfold numP
  rw [takeP_left _ _ s (be_length s n)]
  simp only [val_be s n h0 h1]
theorem textP_b (s : ByteArray) (r : List Int) (h : s.size < 65536) : textP ⟨textB s ++ r, false⟩ = (s, ⟨r, false⟩) := by
  have h1 := numP_be 2 (s.size : Int) (bytesOf s ++ r) (by omega) (by show (s.size : Int) < 65536; omega)
  unfold textP
  rw [show textB s ++ r = be 2 (s.size : Int) ++ (bytesOf s ++ r) by rw [textB, List.append_assoc], h1]
  simp only [Int.toNat_natCast]
  rw [takeP_left _ _ s.size (bytesOf_length s)]
  simp only [strOf_bytes]
theorem rowL_b (r : List Int) : ∀ (ns acc : List Int), (∀ n ∈ ns, 0 ≤ n ∧ n < 4294967296) → rowL ns.length ⟨ns.flatMap (be 4) ++ r, false⟩ acc = (acc ++ ns, ⟨r, false⟩)
  | [], acc, _ => by simp [rowL]
  | n :: ns, acc, h => by
    have hn := h n (List.mem_cons_self)
    rw [List.length_cons, rowL, if_neg (by simp), List.flatMap_cons, List.append_assoc, numP_be 4 n _ hn.1 (by show n < 4294967296; omega)]
    simp only
    rw [rowL_b r ns _ (fun m hm => h m (List.mem_cons_of_mem _ hm))]
    simp
theorem rowP_b (ns r : List Int) (hl : ns.length < 65536) (h : ∀ n ∈ ns, 0 ≤ n ∧ n < 4294967296) : rowP ⟨rowB ns ++ r, false⟩ = (ns, ⟨r, false⟩) := by
  have h1 := numP_be 2 (ns.length : Int) (ns.flatMap (be 4) ++ r) (by omega) (by show (ns.length : Int) < 65536; omega)
  unfold rowP
  rw [show rowB ns ++ r = be 2 (ns.length : Int) ++ (ns.flatMap (be 4) ++ r) by rw [rowB, List.append_assoc], h1]
  simp only [Int.toNat_natCast]
  rw [rowL_b r ns [] h]
  simp
theorem empty_of (s : ByteArray) (h : s.toList = []) : s = ByteArray.empty := by
  rw [ByteArray.toList_eq] at h
  apply ByteArray.ext
  exact Array.toList_eq_nil_iff.1 h
theorem changeP_b (x : S46) (b : Int) (hb : 0 ≤ b) (hr : rightX x b = true) (r : List Int) : changeP ⟨putX x ++ r, false⟩ = (x, ⟨r, false⟩) := by
  have hR : rightR x.f1 = true := by
    rw [rightX] at hr
    simp only [Bool.and_eq_true] at hr
    exact hr.1.1.1.1.1.2
  obtain ⟨⟨g1, g2, g3, g4, g5, g6, g7⟩, _⟩ := good_of_right x b hb hr
  obtain ⟨i, k, n, t, p, ks, bs, g⟩ := x
  simp only at g1 g2 g3 g4 g5 g6 g7 hR
  have P4 := fun (m : Int) (h0 : 0 ≤ m) (h1 : m ≤ 20000) r => numP_be 4 m r h0 (by show m < 4294967296; omega)
  have P1 := fun r => numP_be 1 k r g2.1 (by show k < 256; omega)
  cases g with
  | true =>
    simp only [rightR, if_pos, goneR, Bool.and_eq_true, decide_eq_true_eq, List.isEmpty_iff] at hR
    obtain ⟨⟨⟨⟨⟨rfl, a2⟩, a3⟩, rfl⟩, rfl⟩, rfl⟩ := hR
    rw [empty_of n a2, empty_of t a3]
    simp only [putX, if_true, List.append_nil, List.append_assoc]
    unfold changeP
    rw [P4 i (by omega) g1.2]
    simp only [P1]
    simp
  | false =>
    simp only [rightR, hereR, Bool.false_eq_true, if_false, Bool.and_eq_true, decide_eq_true_eq] at hR
    have hk : ¬ k = 0 := by have := hR.1.1.1.1; omega
    simp only [putX, Bool.false_eq_true, if_false, List.append_assoc]
    unfold changeP
    rw [P4 i (by omega) g1.2]
    simp only [P1, if_neg hk, P4 p g3.1 g3.2, textP_b n _ (by omega), textP_b t _ (by omega), rowP_b ks _ (by omega) (fun m hm => by have := g6.2 m hm; omega), rowP_b bs _ (by omega) (fun m hm => by have := g7.2 m hm; omega)]
theorem changesL_b (r : List Int) : ∀ (l acc : List S46) (b : Int), 0 ≤ b → rightL b l = true → changesL l.length ⟨l.flatMap putX ++ r, false⟩ acc = (acc ++ l, ⟨r, false⟩)
  | [], acc, b, _, _ => by simp [changesL]
  | x :: l, acc, b, hb, h => by
    simp only [rightL, Bool.and_eq_true] at h
    have hx := (good_of_right x b hb h.1).1.id
    rw [List.length_cons, changesL, if_neg (by simp), List.flatMap_cons, List.append_assoc, changeP_b x b hb h.1]
    simp only
    rw [changesL_b r l _ x.f0 (by omega) h.2]
    simp
theorem commitP_b (c : S25) (hr : rightC c = true) (h1 : 0 ≤ c.f1 ∧ c.f1 < 18446744073709551616) (h2 : 0 ≤ c.f2 ∧ c.f2 < 18446744073709551616) : commitP (bodyC c) = (c, true) := by
  have g := good_of_rightC c hr
  obtain ⟨t, s, e, l⟩ := c
  have hL : rightL 0 l = true := by
    simp only [rightC, Bool.and_eq_true] at hr
    exact hr.2
  simp only at h1 h2
  have gt := g.txn
  have gl := g.len
  simp only at gt gl
  have e1 : bodyC ⟨t, s, e, l⟩ = be 4 t ++ (be 8 s ++ (be 8 e ++ (be 2 (l.length : Int) ++ (l.flatMap putX ++ [])))) := by simp [bodyC]
  unfold commitP
  rw [e1, numP_be 4 t _ (by omega) (by show t < 4294967296; omega)]
  simp only
  rw [numP_be 8 s _ h1.1 h1.2]
  simp only
  rw [numP_be 8 e _ h2.1 h2.2]
  simp only
  rw [numP_be 2 (l.length : Int) _ (by omega) (by show (l.length : Int) < 65536; omega)]
  have hcl := changesL_b [] l [] 0 (by omega) hL
  simp only [List.append_nil, List.nil_append] at hcl
  simp [hcl, hr]
theorem bodyC_len (c : S25) (hr : rightC c = true) : (bodyC c).length ≤ 22 + 20000 * 139087 := by
  have g := good_of_rightC c hr
  have h1 := flatX_len c.f3 g.all
  have h2 : c.f3.length * 139087 ≤ 20000 * 139087 := Nat.mul_le_mul_right _ g.len.2
  simp only [bodyC, List.length_append, be_length]
  omega
theorem wholeP_b (c : S25) (hr : rightC c = true) (pos : Nat) (r : List Int) : wholeP pos (putC c ++ r) = (pos + (putC c).length, bodyC c) :: wholeP (pos + (putC c).length) r := by
  have hl := bodyC_len c hr
  have e : putC c ++ r = be 4 ((bodyC c).length : Int) ++ (bodyC c ++ r) := by rw [putC, List.append_assoc]
  have h4 := be_length 4 ((bodyC c).length : Int)
  have hv : val ((putC c ++ r).take 4) = ((bodyC c).length : Int) := by
    rw [e, List.take_left' h4, val_be 4 _ (by omega) (by show ((bodyC c).length : Int) < 4294967296; omega)]
  have hpl : (putC c).length = 4 + (bodyC c).length := by rw [putC, List.length_append, be_length]
  rw [wholeP_next (by rw [hv, List.length_append, hpl]; simp), hv, Int.toNat_natCast, hpl]
  congr 1
  · congr 1
    · omega
    · rw [e, List.drop_left' h4, List.take_left' rfl]
  · rw [show pos + (4 + (bodyC c).length) = pos + 4 + (bodyC c).length by omega]
    congr 1
    rw [← List.drop_drop, e, List.drop_left' h4, List.drop_left' rfl]
theorem wholeP_nil (pos : Nat) (r : List Int) (h : r.length < 4) : wholeP pos r = [] := by rw [wholeP, if_pos h]
theorem readP_b (c : S25) (hr : rightC c = true) (h1 : 0 ≤ c.f1 ∧ c.f1 < 18446744073709551616) (h2 : 0 ≤ c.f2 ∧ c.f2 < 18446744073709551616) (r : List Int) (h4 : r.length < 4) : readP (putC c ++ r) = ([c], (putC c).length, 0) := by
  rw [readP, wholeP_b c hr 0 r, wholeP_nil _ r h4, readL, commitP_b c hr h1 h2, if_pos rfl, readL]
  simp
end Go.Proofs.Ytgndmbkkggjklaa.Jo
namespace Go.Proofs.Ytgndmbkkggjklaa.Jo
set_option linter.unusedVariables false
set_option linter.unusedSimpArgs false
open Go.RowKit Go.Proofs.YtgndmbkkggjklaaW.PrintWords Go.Proofs.YtgndmbkkggjklaaW.PrintLast Go.Proofs.YtgndmbkkggjklaaW.PrintMore Go.Proofs.Ytgndmbkkggjklaa.Bs
theorem read_calls (w : World) (A : Option Addr) (cp : Nat) (bs : List Int) (hC : (Kd.int .u8).C w A bs.length bs) (hcp : bs.length ≤ cp) (hby : Bys bs) (hlen : bs.length ≤ 1000000000000) :
    Calls Try.prog 11 #[.slice A bs.length cp] w fun e w' => (∃ v, e = .returned (.tuple #[v, .int .i64 ((readP bs).2.1 : Int), .int .i64 (readP bs).2.2]) ∧ k25.R 25 w' w.heap.size (fun k => w.heap.size ≤ k) v (readP bs).1) ∧ Below w.heap.size w w' :=
  callsIn_wide.1 (read_in w A cp bs hC hcp hby hlen)
def c1 : S25 := ⟨1, 0, 1, [⟨1, ⟨1, ⟨#[]⟩, ⟨#[]⟩, 0, [], [], false⟩⟩]⟩
theorem c1_right : rightC c1 = true := by decide
theorem c1_len : (putC c1).length = 43 := by decide
theorem putC_bys (c : S25) : Bys (putC c) := by
  have hbe : ∀ s n, Bys (be s n) := fun s n x hx => be_bytes s n x hx
  have hap : ∀ {a b : List Int}, Bys a → Bys b → Bys (a ++ b) := fun ha hb x hx => (List.mem_append.1 hx).elim (ha x) (hb x)
  have hst : ∀ s, Bys (bytesOf s) := fun s x hx => by
    simp only [bytesOf, List.mem_map] at hx
    obtain ⟨b, _, rfl⟩ := hx
    have := UInt8.toNat_lt b
    exact ⟨by omega, by omega⟩
  have hfl : ∀ (ns : List Int) s, Bys (ns.flatMap (be s)) := fun ns s x hx => by
    obtain ⟨n, _, h⟩ := List.mem_flatMap.1 hx
    exact hbe s n x h
  have hX : ∀ x, Bys (putX x) := fun x => by
    unfold putX
    split
    · exact hap (hap (hbe _ _) (hbe _ _)) (by intro y hy; simp at hy)
    · exact hap (hap (hbe _ _) (hbe _ _)) (hap (hap (hap (hap (hbe _ _) (hap (hbe _ _) (hst _))) (hap (hbe _ _) (hst _))) (hap (hbe _ _) (hfl _ _))) (hap (hbe _ _) (hfl _ _)))
  refine hap (hbe _ _) (hap (hap (hap (hap (hbe _ _) (hbe _ _)) (hbe _ _)) (hbe _ _)) ?_)
  intro x hx
  obtain ⟨y, _, h⟩ := List.mem_flatMap.1 hx
  exact hX y x h
set_option maxRecDepth 100000 in
set_option maxHeartbeats 1000000 in
theorem works_calls (w : World) : Calls Try.prog 7 #[] w fun e w' => e = .returned (.bool true) ∧ Below w.heap.size w w' := by
  go_enter Try.func7, Try.ntmps7
  go_wp2_with fail
  have hb0 := below_alloc (below_alloc (Below.refl w.heap.size w) (.cells #[.int .i64 1, .int .i64 1, .string ⟨#[]⟩, .string ⟨#[]⟩, .int .i64 0, .slice none 0 0, .slice none 0 0, .bool false] 46)) (.cells #[.int .i64 1, .int .u64 0, .int .u64 1, .slice (some ⟨w.heap.size, 0, none⟩) 1 1] 25)
  have hq1 := (Below.heap_alloc (w.alloc (.cells #[.int .i64 1, .int .i64 1, .string ⟨#[]⟩, .string ⟨#[]⟩, .int .i64 0, .slice none 0 0, .slice none 0 0, .bool false] 46)) (.cells #[.int .i64 1, .int .u64 0, .int .u64 1, .slice (some ⟨w.heap.size, 0, none⟩) 1 1] 25) w.heap.size (by simp)).trans (heap_alloc_new w _)
  have hq2 := heap_alloc_new (w.alloc (.cells #[.int .i64 1, .int .i64 1, .string ⟨#[]⟩, .string ⟨#[]⟩, .int .i64 0, .slice none 0 0, .slice none 0 0, .bool false] 46)) (.cells #[.int .i64 1, .int .u64 0, .int .u64 1, .slice (some ⟨w.heap.size, 0, none⟩) 1 1] 25)
  rw [show (w.alloc (.cells #[.int .i64 1, .int .i64 1, .string ⟨#[]⟩, .string ⟨#[]⟩, .int .i64 0, .slice none 0 0, .slice none 0 0, .bool false] 46)).heap.size = w.heap.size + 1 by simp] at hq2
  obtain ⟨W2, hW2⟩ : ∃ W2, W2 = (w.alloc (.cells #[.int .i64 1, .int .i64 1, .string ⟨#[]⟩, .string ⟨#[]⟩, .int .i64 0, .slice none 0 0, .slice none 0 0, .bool false] 46)).alloc (.cells #[.int .i64 1, .int .u64 0, .int .u64 1, .slice (some ⟨w.heap.size, 0, none⟩) 1 1] 25) := ⟨_, rfl⟩
  rw [← hW2] at hb0 hq1 hq2 ⊢
  have hFX : Kd.F k46 W2 (fun k => False ∨ k = w.heap.size) (some ⟨w.heap.size, 0, none⟩) c1.f3.length c1.f3 := by
    refine F_block k46 (xs := c1.f3) hq1 ?_ (by simp [c1])
    have := (Reps.none (fun x c => Kd.FK k46 W2 (fun _ => False) x c) k46.sz).snoc (p := ⟨1, ⟨1, ⟨#[]⟩, ⟨#[]⟩, 0, [], [], false⟩⟩) (c := [.int .i64 1, .int .i64 1, .string ⟨#[]⟩, .string ⟨#[]⟩, .int .i64 0, .slice none 0 0, .slice none 0 0, .bool false]) (fun W' _ => k46_mk W' ⟨1, ⟨1, ⟨#[]⟩, ⟨#[]⟩, 0, [], [], false⟩⟩ (Nat.le_refl _) (Kd.C_nil _ _) (Nat.le_refl _) (Kd.C_nil _ _)) rfl
    exact this
  have hsz : ∀ x ∈ c1.f3, sized x := by intro x hx; simp [c1] at hx; subst hx; exact ⟨Nat.zero_le _, Nat.zero_le _, Nat.zero_le _, Nat.zero_le _⟩
  have CP : Calls Try.prog 8 #[.agg #[.int .i64 1, .int .u64 0, .int .u64 1, .slice (some ⟨w.heap.size, 0, none⟩) 1 1]] W2 _ := put_calls W2 (some ⟨w.heap.size, 0, none⟩) 1 c1 (Kd.F_now hFX) (by simp [c1]) hsz (by simp [c1]) c1_right (by simp [c1]) (by simp [c1])
  have HB0 := Aside0.mk hb0
  have HFX := Aside0.mk hFX
  have HQ1 := Aside0.mk hq1
  have HQ2 := Aside0.mk hq2
  have HL := Aside0.mk c1_len
  have HBY := Aside0.mk (putC_bys c1)
  have HRD := Aside0.mk (readP_b c1 c1_right (by simp [c1]) (by simp [c1]) [0, 0, 0] (by simp))
  have CS := Aside0.mk (fun (W : World) (A B : Option Addr) (c d : Nat) (hA : k25.C W A [c1].length [c1]) (hB : k25.C W B [c1].length [c1]) => commits_same W A B c d [c1] hA hB (by simp) (by intro x hx; simp at hx; subst hx; exact ⟨by simp [c1], hsz⟩))
  clear hb0 hq1 hq2 hW2 hFX
  generalize putC c1 = pc at *
  refine CP.mono ?_
  rintro e w3 ⟨⟨v3, rfl, hR3⟩, hb3⟩
  obtain ⟨A3, d3, rfl⟩ := Kd.R_slice hR3
  have hq3 := (hb3.block _ (blk_lt HQ2.out)).trans HQ2.out
  have HB3 := Aside0.mk (below_step HB0.out hb3)
  have HC3 := Aside0.mk (Kd.R_reads' hR3).2.2
  have HFX3 := Aside0.mk (Kd.F_below HFX.out hb3)
  obtain ⟨y0, y1, y2, y3, y4⟩ := blk4 hq3
  have HQ3 := Aside0.mk hq3
  clear hb3 hR3 CP HFX HQ1 HQ2 hsz hq3
  have hW4 := below_alloc (Below.refl w3.heap.size w3) (.cells #[] 5)
  have ho4 := own_lit w3 w.heap.size 5 .u8 [] HB3.out.size (by simp)
  have hws4 : (w3.alloc (.cells #[] 5)).heap.size = w3.heap.size + 1 := by simp
  have hy4 : ∀ o, (w3.alloc o).cell? ⟨w.heap.size + 1, 0, none⟩ = some (.int .i64 1) := fun o => pw_cell_below (below_alloc (Below.refl _ _) o) y0
  have HR4 := Aside0.mk (show (Kd.int .u8).R 5 (w3.alloc (.cells #[] 5)) w.heap.size (fun _ => True) (.slice (some ⟨w3.heap.size, 0, none⟩) 0 0) [] from Kd.R_of_own (h1 := fun _ => rfl) ho4 (fun _ _ => trivial))
  have HC4 := Aside0.mk (Kd.C_below HC3.out hW4)
  have HZ4 := Aside0.mk (Nat.le_trans HB3.out.size hW4.size)
  have HW4 := Aside0.mk hW4
  have HL4 := Aside0.mk (show ([] : List Int).length + pc.length ≤ 140737488355328 by rw [HL.out]; decide)
  clear ho4 hW4
  go_wp2_with (first
    | ((with_reducible refine gate_builtin (b := .append) (xs := #[.tmp 17, .tmp 18]) rfl ?_); at_builtin; go_loud (refine gcat w.heap.size rfl (.tmp 17) (.tmp 18) 28 rfl Try.underlying28 info5 (.slice (some ⟨w3.heap.size, 0, none⟩) 0 0) [] pc _ _ rfl rfl HR4.out HC4.out HZ4.out HL4.out ?_); intro A5 c5 w5 z5 N5 G5; have HZ5 := Nat.le_trans HZ4.out G5.ch.size; have hW6 := below_alloc (Below.refl w5.heap.size w5) (.cells #[.int .u8 0, .int .u8 0, .int .u8 0] 5); have ho6 := own_lit w5 w.heap.size 5 .u8 [0, 0, 0] HZ5 (by simp); have HC6 := Aside0.mk (Kd.R_reads' (Kd.R_of_own (h1 := fun _ => rfl) (ok := fun _ => True) ho6 (fun _ _ => trivial) : (Kd.int .u8).R 5 (w5.alloc (.cells #[.int .u8 0, .int .u8 0, .int .u8 0] 5)) w.heap.size (fun _ => True) (.slice (some ⟨w5.heap.size, 0, none⟩) 3 3) [0, 0, 0])).2.2; have HR6 := Aside0.mk (Kd.R_below G5.row hW6); have HZ6 := Aside0.mk (Nat.le_trans HZ5 hW6.size); have HG6 := Aside0.mk (G5.after hW6); have HL6 := Aside0.mk (show z5.length + ([0, 0, 0] : List Int).length ≤ 140737488355328 by rw [N5.out, List.nil_append, HL.out]; decide); clear G5 HZ5 hW6 ho6)
    | ((with_reducible refine gate_builtin (b := .append) (xs := #[.tmp 19, .tmp 20]) rfl ?_); at_builtin; go_loud (refine gcat w.heap.size rfl (.tmp 19) (.tmp 20) 28 rfl Try.underlying28 info5 (.slice A5 z5.length c5) z5 [0, 0, 0] _ _ rfl rfl HR6.out HC6.out HZ6.out HL6.out ?_); intro A7 c7 w7 z7 N7 G7; have HG7 := Aside0.mk (HG6.out.trans G7); clear G7))
  have hz7 : z7 = pc ++ [0, 0, 0] := by rw [N7.out, N5.out, List.nil_append]
  have hby7 : Bys z7 := by
    rw [hz7]
    intro x hx
    rcases List.mem_append.1 hx with hx | hx
    · exact HBY.out x hx
    · simp at hx; subst hx; decide
  have CR := read_calls w7 A7 c7 z7 (Kd.R_reads' HG7.out.row).2.2 (Kd.R_reads' HG7.out.row).2.1 hby7 (by rw [hz7, List.length_append, HL.out]; decide)
  rw [hz7, HRD.out, ← hz7] at CR
  have HB7 := Aside0.mk (HB3.out.trans ((HW4.out.mono HB3.out.size).trans (Ch.to_below HG7.out.ch (fun k hk => by simp [Value.ownBlock] at hk; have := HB3.out.size; omega) (by have := HZ4.out; omega))))
  have hq7 := (HG7.out.ch.heap ((HW4.out.block _ (blk_lt HQ3.out)).trans HQ3.out) (fun e => by simp [Value.ownBlock] at e; have := blk_lt HQ3.out; omega))
  have HFX7 := Aside0.mk (HG7.out.ch.F (Kd.F_mono (Kd.F_below HFX3.out HW4.out) (fun k hk => hk.elim False.elim (fun h => (h : k = w.heap.size)))) (fun k hk e => by simp [Value.ownBlock] at e; have := blk_lt HQ3.out; omega))
  refine CR.mono ?_
  rintro e w8 ⟨⟨v8, rfl, hR8⟩, hb8⟩
  have hq8 := (hb8.block _ (blk_lt hq7)).trans hq7
  obtain ⟨y0, y1, y2, y3, y4⟩ := blk4 hq8
  have HFX8 := Aside0.mk (Kd.F_below HFX7.out hb8)
  have HB8 := Aside0.mk (below_step HB7.out hb8)
  obtain ⟨A8, c8, rfl⟩ := Kd.R_slice hR8
  have HR8 := Aside0.mk hR8
  have hl43 := HL.out
  clear hR8 hb8 hq7 hz7 hby7 CR hy4 hq8
  go_wp2_with fail
  have hW9 := below_alloc (Below.refl w8.heap.size w8) (.cells #[.int .i64 1, .int .u64 0, .int .u64 1, .slice (some ⟨w.heap.size, 0, none⟩) 1 1] 25)
  have hq9 := heap_alloc_new w8 (.cells #[.int .i64 1, .int .u64 0, .int .u64 1, .slice (some ⟨w.heap.size, 0, none⟩) 1 1] 25)
  have hF9 : Kd.F k25 (w8.alloc (.cells #[.int .i64 1, .int .u64 0, .int .u64 1, .slice (some ⟨w.heap.size, 0, none⟩) 1 1] 25)) (fun k => k = w.heap.size ∨ k = w8.heap.size) (some ⟨w8.heap.size, 0, none⟩) [c1].length [c1] := by
    refine F_block k25 hq9 ?_ (by simp)
    have := (Reps.none (fun x c => Kd.FK k25 (w8.alloc (.cells #[.int .i64 1, .int .u64 0, .int .u64 1, .slice (some ⟨w.heap.size, 0, none⟩) 1 1] 25)) (fun k => k = w.heap.size) x c) k25.sz).snoc (p := c1) (c := [.int .i64 1, .int .u64 0, .int .u64 1, .slice (some ⟨w.heap.size, 0, none⟩) 1 1]) (fun W' hW' => k25_mk W' c1 (Nat.le_refl _) ((Kd.F_below HFX8.out hW9) W' hW')) rfl
    exact this
  refine (CS.out _ A8 (some ⟨w8.heap.size, 0, none⟩) c8 1 (Kd.C_below (Kd.R_reads' HR8.out).2.2 hW9) (Kd.F_now hF9)).mono ?_
  rintro e w10 ⟨rfl, hb10⟩
  have HB10 := Aside0.mk (below_step (below_step HB8.out hW9) hb10)
  clear hb10 hF9 hq9 hW9
  go_wp2
  go_ret
  exact ⟨rfl, HB10.out⟩
/-- 'small' answers. -/
theorem small_step (a0 a1 a2 : Int) (l : List S46) : ∀ (d : Nat) (x3 : Int) (j k : Nat), 60 ≤ j + d → 2 * d + 1 < k → ∃ r, breviarylaw32_small.l0 k x3 j a0 a1 a2 l = some r := by
  intro d
  induction d with
  | zero =>
    intro x3 j k hj hk
    obtain ⟨k, rfl⟩ : ∃ i, k = i + 2 := ⟨k - 2, by omega⟩
    rw [breviarylaw32_small.l0]
    have hd : decide ((j : Int) < 60) = false := by simp; omega
    split
    · rw [breviarylaw32_small.j1, hd, if_neg (by simp)]; exact ⟨_, rfl⟩
    · rw [breviarylaw32_small.j1, if_neg (by simp)]; exact ⟨_, rfl⟩
  | succ d ih =>
    intro x3 j k hj hk
    obtain ⟨k, rfl⟩ : ∃ i, k = i + 2 := ⟨k - 2, by omega⟩
    rw [breviarylaw32_small.l0]
    split
    · rename_i hlt
      rw [breviarylaw32_small.j1]
      split
      · rename_i h60
        have h60' : (j : Int) < 60 := of_decide_eq_true h60
        have h0 : (0 : Int) ≤ (j : Int) := by omega
        simp only [h0, hlt, if_true]
        split
        · exact ⟨_, rfl⟩
        · have hw : wrap64 ((j : Int) + 1) = ((j + 1 : Nat) : Int) := wrap_succ j (by omega)
          rw [hw]
          exact ih _ (j + 1) k (by omega) (by omega)
      · exact ⟨_, rfl⟩
    · rw [breviarylaw32_small.j1, if_neg (by simp)]; exact ⟨_, rfl⟩
theorem small_calls (w : World) (A : Option Addr) (cp : Nat) (c : S25) (hC : k46.C w A c.f3.length c.f3) (hc : c.f3.length ≤ cp) :
    ∃ r : Bool, Calls Try.prog 6 #[.agg #[.int .i64 c.f0, .int .u64 c.f1, .int .u64 c.f2, .slice A c.f3.length cp]] w fun e w' => e = .returned (.bool r) ∧ Below w.heap.size w w' := by
  obtain ⟨r, hr⟩ := small_step c.f0 c.f1 c.f2 c.f3 60 0 0 200 (by omega) (by omega)
  exact ⟨r, breviarylaw32_small.calls 200 c.f0 c.f1 c.f2 A cp c.f3 r w hC hc hr⟩
end Go.Proofs.Ytgndmbkkggjklaa.Jo
namespace Go.Proofs.Ytgndmbkkggjklaa.Jo
set_option linter.unusedVariables false
set_option linter.unusedSimpArgs false
open Go.RowKit Go.Proofs.YtgndmbkkggjklaaW.PrintWords Go.Proofs.YtgndmbkkggjklaaW.PrintLast Go.Proofs.YtgndmbkkggjklaaW.PrintMore Go.Proofs.Ytgndmbkkggjklaa.Bs
theorem changesL_sized : ∀ (n : Nat) (s : St) (acc : List S46), Bys s.bs → s.bs.length ≤ 9000000000000000000 → (∀ x ∈ acc, sized x) → (∀ x ∈ (changesL n s acc).1, sized x) ∧ (changesL n s acc).1.length ≤ acc.length + n
  | 0, s, acc, _, _, h => ⟨h, Nat.le_refl _⟩
  | n + 1, s, acc, hb, hl, h => by
    rw [changesL]
    split
    · exact ⟨h, Nat.le_add_right _ _⟩
    · have hz := changeP_sized hb hl
      have h1 := changesL_sized n (changeP s).2 (acc ++ [(changeP s).1]) (changeP_bys hb) (Nat.le_trans hz.2 hl) (by
        intro x hx
        rcases List.mem_append.1 hx with hx | hx
        · exact h x hx
        · rw [List.mem_singleton] at hx; subst hx; exact hz.1)
      refine ⟨h1.1, ?_⟩
      have := h1.2
      rw [List.length_append, List.length_singleton] at this
      omega
theorem commitP_sized {bs : List Int} (hb : Bys bs) (hl : bs.length ≤ 9000000000000000000) : sizedC (commitP bs).1 := by
  have b1 := numP_bys (n := 4) (s := ⟨bs, false⟩) hb
  have l1 := numP_len 4 ⟨bs, false⟩
  have b2 := numP_bys (n := 8) b1
  have l2 := numP_len 8 (numP 4 ⟨bs, false⟩).2
  have b3 := numP_bys (n := 8) b2
  have l3 := numP_len 8 (numP 8 (numP 4 ⟨bs, false⟩).2).2
  have b4 := numP_bys (n := 2) b3
  have l4 := numP_len 2 (numP 8 (numP 8 (numP 4 ⟨bs, false⟩).2).2).2
  have hn := numP_bound (n := 2) b3
  rw [show (256 : Nat) ^ 2 = 65536 by decide] at hn
  have l0 : (⟨bs, false⟩ : St).bs.length = bs.length := rfl
  have h := changesL_sized (numP 2 (numP 8 (numP 8 (numP 4 ⟨bs, false⟩).2).2).2).1.toNat (numP 2 (numP 8 (numP 8 (numP 4 ⟨bs, false⟩).2).2).2).2 [] b4 (by omega) (by simp)
  refine ⟨?_, h.1⟩
  have h2 := h.2
  rw [List.length_nil] at h2
  show (changesL _ _ []).1.length ≤ _
  omega
theorem whole_mem (pos : Nat) (rest : List Int) (hb : Bys rest) : (∀ x ∈ wholeP pos rest, Bys x.2 ∧ x.2.length ≤ rest.length) ∧ (wholeP pos rest).length ≤ rest.length := by
  induction pos, rest using wholeP.induct with
  | case1 pos rest h => rw [wholeP, if_pos h]; simp
  | case2 pos rest h h2 => rw [wholeP, if_neg h, if_pos h2]; simp
  | case3 pos rest h h2 ih =>
    rw [wholeP, if_neg h, if_neg h2]
    have i := ih (bys_drop hb _)
    rw [List.length_drop] at i
    constructor
    · intro x hx
      rcases List.mem_cons.1 hx with e | hx
      · subst e
        exact ⟨bys_take (bys_drop hb _) _, by simp only [List.length_take, List.length_drop]; omega⟩
      · exact ⟨(i.1 x hx).1, Nat.le_trans (i.1 x hx).2 (by omega)⟩
    · rw [List.length_cons]; omega
theorem readL_mem : ∀ (ps : List (Nat × List Int)) (acc : List S25) (pos : Nat), (∀ x ∈ ps, sizedC (commitP x.2).1) → (∀ x ∈ acc, sizedC x) → (∀ x ∈ (readL ps acc pos).1, sizedC x) ∧ (readL ps acc pos).1.length ≤ acc.length + ps.length
  | [], acc, pos, _, h => ⟨h, Nat.le_refl _⟩
  | (q, t) :: ps, acc, pos, hp, h => by
    rw [readL]
    split
    · have h1 := readL_mem ps (acc ++ [(commitP t).1]) q (fun x hx => hp x (List.mem_cons_of_mem _ hx)) (by
        intro x hx
        rcases List.mem_append.1 hx with hx | hx
        · exact h x hx
        · rw [List.mem_singleton] at hx; subst hx; exact hp (q, t) List.mem_cons_self)
      refine ⟨h1.1, ?_⟩
      have := h1.2
      rw [List.length_append, List.length_singleton] at this
      rw [List.length_cons]; omega
    · exact ⟨h, Nat.le_add_right _ _⟩
theorem readP_sized {bs : List Int} (hb : Bys bs) (hl : bs.length ≤ 9000000000000000000) : (∀ x ∈ (readP bs).1, sizedC x) ∧ (readP bs).1.length ≤ bs.length := by
  have hw := whole_mem 0 bs hb
  have h := readL_mem (wholeP 0 bs) [] 0 (fun x hx => commitP_sized (hw.1 x hx).1 (Nat.le_trans (hw.1 x hx).2 hl)) (by simp)
  refine ⟨h.1, ?_⟩
  have h2 := h.2
  rw [List.length_nil] at h2
  show (readL _ [] 0).1.length ≤ _
  omega
set_option maxRecDepth 100000 in
set_option maxHeartbeats 400000 in
theorem reads_long (w : World) (A : Option Addr) (cp : Nat) (bs : List Int) (h : 6000 < bs.length) :
    Calls Try.prog 4 #[.slice A bs.length cp] w fun e w' => e = .returned (.bool true) ∧ Below w.heap.size w w' := by
  have h' : (6000 : Int) < (bs.length : Int) := by omega
  have CW := Aside0.mk (fun W => works_calls W)
  clear h
  go_enter Try.func4, Try.ntmps4
  go_wp2_with fail
  refine (CW.out w).mono ?_
  rintro e w2 ⟨rfl, hb⟩
  have HB := Aside0.mk hb
  clear hb
  go_wp2_with fail
  go_ret
  exact ⟨rfl, HB.out⟩
set_option maxRecDepth 100000 in
set_option maxHeartbeats 400000 in
theorem reads_short (w : World) (A : Option Addr) (cp : Nat) (bs : List Int) (hC : (Kd.int .u8).C w A bs.length bs) (hcp : bs.length ≤ cp) (hby : Bys bs) (h : ¬ 6000 < bs.length) :
    Calls Try.prog 4 #[.slice A bs.length cp] w fun e w' => e = .returned (.bool true) ∧ Below w.heap.size w w' := by
  have h' : ¬ (6000 : Int) < (bs.length : Int) := by omega
  have CW := Aside0.mk (fun W => works_calls W)
  have C1 := Aside0.mk (fun W (hW : Below w.heap.size w W) => read_calls W A cp bs (Kd.C_below hC hW) hcp hby (by omega))
  have C2 := Aside0.mk (fun W (hW : Below w.heap.size w W) => refread_calls W A cp bs (Kd.C_below hC hW) hcp hby (by omega))
  have HS := Aside0.mk (readP_sized hby (by omega))
  have HL := Aside0.mk (show (readP bs).1.length ≤ 9223372036854775807 by have := HS.out.2; omega)
  generalize readP bs = rp at *
  obtain ⟨L, en, er⟩ := rp
  simp only at C1 C2 HS HL
  clear hC hcp hby h
  go_enter Try.func4, Try.ntmps4
  go_wp2_with fail
  refine (C1.out w (Below.refl _ _)).mono ?_
  rintro e w2 ⟨⟨v, rfl, hR⟩, hb⟩
  obtain ⟨A1, c1, rfl⟩ := Kd.R_slice hR
  have R1 := Aside0.mk hR
  have B1 := Aside0.mk hb
  clear hR hb C1
  go_wp2_with fail
  refine (C2.out w2 B1.out).mono ?_
  rintro e w3 ⟨⟨v, rfl, hR⟩, hb⟩
  obtain ⟨A2, c2, rfl⟩ := Kd.R_slice hR
  have R2 := Aside0.mk hR
  have B2 := Aside0.mk (below_step B1.out hb)
  have R3 := Aside0.mk (Kd.R_below R1.out hb)
  clear hR hb C2 R1 B1
  go_wp2_with fail
  refine (commits_same w3 A1 A2 c1 c2 L (Kd.F_now (Kd.R_F R3.out)) (Kd.F_now (Kd.R_F R2.out)) HL.out HS.out.1).mono ?_
  rintro e w4 ⟨rfl, hb⟩
  have B3 := Aside0.mk (below_step B2.out hb)
  clear hb R2 R3 B2
  go_wp2_with fail
  refine (CW.out w4).mono ?_
  rintro e w5 ⟨rfl, hb⟩
  have B4 := Aside0.mk (below_step B3.out hb)
  clear hb B3
  go_wp2_with fail
  go_ret
  exact ⟨rfl, B4.out⟩
theorem op28 : Opens Try.prog 28 (Kd.slice 5 (Kd.int .u8)) (fun xs => (∀ x ∈ xs, (Lit.int .u8 x).wf = true) ∧ xs.length ≤ maxLen) := Opens.slice Try.underlying28 (by kernel_rfl) (Opens.int Try.underlying5)
theorem wf_u8 {x : Int} (h : (Lit.int .u8 x).wf = true) : 0 ≤ x ∧ x ≤ 255 := by
  simp [Lit.wf, IntKind.min, IntKind.max, IntKind.signed, IntKind.bits] at h
  omega
theorem reads_row (W : World) (A : Option Addr) (cp : Nat) (l : List Int) (f : (Kd.int .u8).C W A l.length l) (e : l.length ≤ cp) (g : (∀ x ∈ l, (Lit.int .u8 x).wf = true) ∧ l.length ≤ maxLen) :
    Calls Try.prog 4 #[.slice A l.length cp] W fun e w' => e = .returned (.bool true) ∧ Below W.heap.size W w' := by
  by_cases h : 6000 < l.length
  · exact reads_long W A cp l h
  · exact reads_short W A cp l f e (fun x hx => wf_u8 (g.1 x hx)) h
end Go.Proofs.Ytgndmbkkggjklaa.Jo
