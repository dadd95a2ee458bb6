import Derived.Test.YtgndmbkkggjklaaMj2
import Derived.Deep.RegionHeld3
import Derived.Deep.RegionLaw
import Derived.StillTailTactics
import Derived.BigRegion
import Derived.BigQuiet
import Derived.RangeFuncNested
import Derived.RangeFuncBound
import Derived.RangeFuncCalls
import Derived.RangeFuncLeaves
import Derived.Shelf.Abstract
import Derived.Shelf.RegionOpen
import Derived.OwnWalkIn
import Derived.TacticsInMore
import Derived.LoopNIn
import Derived.LoopIn
import Derived.BigRegionIn
namespace Go.Proofs.Ytgndmbkkggjklaa.Jo
set_option linter.unusedVariables false
set_option linter.unusedSimpArgs false
open Go.RowKit Go.Proofs.YtgndmbkkggjklaaW.PrintWords Go.Proofs.YtgndmbkkggjklaaW.PrintLast Go.Proofs.YtgndmbkkggjklaaW.PrintMore Go.Proofs.Ytgndmbkkggjklaa.Bs
def set4 (w : World) (g : Nat) (b0 b1 b2 b3 : Value) : World := (((w.setCell ⟨g, 0, none⟩ b0).setCell ⟨g, 1, none⟩ b1).setCell ⟨g, 2, none⟩ b2).setCell ⟨g, 3, none⟩ b3
theorem set4_q {w : World} {g t : Nat} {a0 a1 a2 a3 : Value} (h : w.heap[g]? = some (.cells #[a0, a1, a2, a3] t (0, 0))) (b0 b1 b2 b3 : Value) : (set4 w g b0 b1 b2 b3).heap[g]? = some (.cells #[b0, b1, b2, b3] t (0, 0)) := by
  have h0 := blk_upd (cs' := #[b0, a1, a2, a3]) 0 b0 h rfl
  have h1 := blk_upd (cs' := #[b0, b1, a2, a3]) 1 b1 h0 rfl
  have h2 := blk_upd (cs' := #[b0, b1, b2, a3]) 2 b2 h1 rfl
  exact blk_upd (cs' := #[b0, b1, b2, b3]) 3 b3 h2 rfl
theorem set4_ch (w : World) (g : Nat) (b0 b1 b2 b3 : Value) : Ch (fun k => k = g) w (set4 w g b0 b1 b2 b3) :=
  ((((Ch.refl (fun k => k = g) w).setCell (p := ⟨g, 0, none⟩) (.inl rfl) b0).setCell (p := ⟨g, 1, none⟩) (.inl rfl) b1).setCell (p := ⟨g, 2, none⟩) (.inl rfl) b2).setCell (p := ⟨g, 3, none⟩) (.inl rfl) b3
/-- The loop over the changes: where all stands. -/
structure Cl (w W : World) (p g : Nat) (tx st tm : Int) (A : Option Addr) (c : Nat) (acc : List S46) (s : St) (wr : World) : Prop where
  src : Src w wr p s
  blk : wr.heap[g]? = some (.cells #[.int .i64 tx, .int .u64 st, .int .u64 tm, .slice A acc.length c] 25 (0, 0))
  row : k46.R 46 wr W.heap.size (fun k => W.heap.size ≤ k) (.slice A acc.length c) acc
  ch : Ch (fun k => k = p ∨ k = g) W wr
  siz : ∀ x ∈ acc, sized x
theorem Cl.read {w W wr w' : World} {p g : Nat} {tx st tm : Int} {A : Option Addr} {c : Nat} {acc : List S46} {s s' : St} (h : Cl w W p g tx st tm A c acc s wr) (hr : Rd w wr p s' w') (hp : p < W.heap.size) (hg : g ≠ p) : Cl w W p g tx st tm A c acc s' w' :=
  ⟨hr.s, hr.keeps h.blk hg, Kd.R_step h.row (fun k hk hlt => hr.ch.block k hlt (fun e => by omega)), h.ch.trans (hr.ch.mono (fun k hk _ => .inl (.inl hk))), h.siz⟩
theorem Cl.add {w W wr w1 : World} {p g : Nat} {tx st tm : Int} {A A1 : Option Addr} {c c1 m : Nat} {acc : List S46} {x : S46} {s : St} (h : Cl w W p g tx st tm A c acc s wr) (hp : p < W.heap.size) (hg : g < W.heap.size) (hpg : p ≠ g) (hw : w.heap.size ≤ g) (hx : sized x) (hm : m = (acc ++ [x]).length)
    (hr : k46.R 46 w1 W.heap.size (fun k => W.heap.size ≤ k) (.slice A1 m c1) (acc ++ [x])) (hch : Ch (fun k => some k = (Value.slice A acc.length c).ownBlock) wr w1) : Cl w W p g tx st tm A1 c1 (acc ++ [x]) s (w1.setCell ⟨g, 3, none⟩ (.slice A1 m c1)) := by
  subst hm
  have hb : ∀ k, some k = (Value.slice A acc.length c).ownBlock → W.heap.size ≤ k := fun k hk => h.row.1 k hk.symm
  have hset : Ch (fun k => k = g) w1 (w1.setCell ⟨g, 3, none⟩ (.slice A1 (acc ++ [x]).length c1)) := (Ch.refl (fun k => k = g) w1).setCell (p := ⟨g, 3, none⟩) (.inl rfl) _
  have hs1 : Src w w1 p s := h.src.step hch (fun e => by have := hb p e; omega) (fun k hk => by have := hb k hk; omega)
  refine ⟨hs1.step hset hpg (fun k hk => hk ▸ hw), blk_upd 3 _ (hch.heap h.blk (fun e => by have := hb g e; omega)) rfl, Kd.R_step hr (fun k hk hlt => hset.block k hlt (fun e => by omega)), (h.ch.trans (hch.mono (fun k hk _ => .inr (hb k hk)))).trans (hset.mono (fun k hk _ => .inl (.inr hk))), ?_⟩
  intro y hy
  rcases List.mem_append.1 hy with hy | hy
  · exact h.siz y hy
  · rw [List.mem_singleton] at hy; subst hy; exact hx
theorem Cl.result {w W wr w9 : World} {p g : Nat} {tx st tm : Int} {A : Option Addr} {c : Nat} {acc : List S46} {s : St} (h : Cl w W p g tx st tm A c acc s wr) (hb : Below wr.heap.size wr w9) (hW : Below w.heap.size w W) (hlt : w.heap.size < W.heap.size) (hp : w.heap.size ≤ p) (hg : w.heap.size ≤ g) :
    k25.M (set4 w9 w.heap.size (.int .i64 tx) (.int .u64 st) (.int .u64 tm) (.slice A acc.length c)) w.heap.size (fun k => w.heap.size ≤ k) ⟨tx, st, tm, acc⟩ [.int .i64 tx, .int .u64 st, .int .u64 tm, .slice A acc.length c] ∧ Below w.heap.size w (set4 w9 w.heap.size (.int .i64 tx) (.int .u64 st) (.int .u64 tm) (.slice A acc.length c)) := by
  have hch := set4_ch w9 w.heap.size (.int .i64 tx) (.int .u64 st) (.int .u64 tm) (.slice A acc.length c)
  have hR := hch.R (Kd.R_below h.row hb) (fun k hk e => by omega)
  refine ⟨k25_mkM _ _ _ ⟨tx, st, tm, acc⟩ (Kd.R_mono (Kd.R_lower hR (Nat.le_of_lt hlt)) (fun k hk => by omega)), ?_⟩
  have h1 := Ch.to_below h.ch (B := w.heap.size) (fun k hk => by rcases hk with rfl | rfl <;> assumption) (by omega)
  have h2 := below_step (hW.trans h1) hb
  exact h2.trans (Ch.to_below hch (fun k hk => by omega) h2.size)
set_option maxRecDepth 100000 in
set_option maxHeartbeats 8000000 in
theorem commit_get (w : World) (A : Option Addr) (cp : Nat) (bs : List Int) (hC : (Kd.int .u8).C w A bs.length bs) (hc : bs.length ≤ cp) (hby : Bys bs) (hlen : bs.length ≤ 9000000000000000000) :
    Calls Try.prog 22 #[.slice A bs.length cp] w fun e w' => (∃ cs : List Value, e = .returned (.tuple #[.agg cs.toArray, .bool (commitP bs).2]) ∧ k25.M w' w.heap.size (fun k => w.heap.size ≤ k) (commitP bs).1 cs) ∧ Below w.heap.size w w' := by
  obtain ⟨tx, s1, e1⟩ : ∃ a b, numP 4 ⟨bs, false⟩ = (a, b) := ⟨_, _, rfl⟩
  have b1 := Aside0.mk (show Bys s1.bs by have := numP_bys (n := 4) (s := ⟨bs, false⟩) hby; rw [e1] at this; exact this)
  have l1 := Aside0.mk (show s1.bs.length ≤ 9000000000000000000 by have := numP_len 4 ⟨bs, false⟩; rw [e1] at this; exact Nat.le_trans this hlen)
  obtain ⟨st, s2, e2⟩ : ∃ a b, numP 8 s1 = (a, b) := ⟨_, _, rfl⟩
  have b2 := Aside0.mk (show Bys s2.bs by have := numP_bys (n := 8)  b1.out; rw [e2] at this; exact this)
  have l2 := Aside0.mk (show s2.bs.length ≤ 9000000000000000000 by have := numP_len 8 s1; rw [e2] at this; exact Nat.le_trans this l1.out)
  obtain ⟨tm, s3, e3⟩ : ∃ a b, numP 8 s2 = (a, b) := ⟨_, _, rfl⟩
  have b3 := Aside0.mk (show Bys s3.bs by have := numP_bys (n := 8)  b2.out; rw [e3] at this; exact this)
  have l3 := Aside0.mk (show s3.bs.length ≤ 9000000000000000000 by have := numP_len 8 s2; rw [e3] at this; exact Nat.le_trans this l2.out)
  obtain ⟨nn, s4, e4⟩ : ∃ a b, numP 2 s3 = (a, b) := ⟨_, _, rfl⟩
  have b4 := Aside0.mk (show Bys s4.bs by have := numP_bys (n := 2)  b3.out; rw [e4] at this; exact this)
  have l4 := Aside0.mk (show s4.bs.length ≤ 9000000000000000000 by have := numP_len 2 s3; rw [e4] at this; exact Nat.le_trans this l3.out)
  have hnn := numP_bound (n := 2) b3.out
  rw [e4, show (256 : Nat) ^ 2 = 65536 by decide] at hnn
  obtain ⟨m, rfl⟩ : ∃ m : Nat, nn = m := ⟨nn.toNat, by have : 0 ≤ nn := hnn.1; omega⟩
  have hm : m < 65536 := by have : (m : Int) < 65536 := hnn.2; omega
  obtain ⟨L, s5, e5⟩ : ∃ a b, changesL m s4 [] = (a, b) := ⟨_, _, rfl⟩
  have E := Aside0.mk (show commitP bs = (⟨tx, st, tm, L⟩, !s5.sh && decide (s5.bs.length = 0) && rightC ⟨tx, st, tm, L⟩) by simp only [commitP, e1, e2, e3, e4, Int.toNat_natCast, e5])
  have E5 := Aside0.mk e5
  obtain ⟨p, hp⟩ : ∃ p, p = w.heap.size + 1 := ⟨_, rfl⟩
  have C1 := Aside0.mk (fun (W : World) (hW : Src w W p ⟨bs, false⟩) => show Calls Try.prog _ _ W _ from integer_get w W p 4 ⟨bs, false⟩ hW hby (by decide))
  rw [e1] at C1
  have C2 := Aside0.mk (fun (W : World) (hW : Src w W p s1) => show Calls Try.prog _ _ W _ from number_get w W p 8 s1 hW b1.out (by decide))
  rw [e2] at C2
  have C3 := Aside0.mk (fun (W : World) (hW : Src w W p s2) => show Calls Try.prog _ _ W _ from number_get w W p 8 s2 hW b2.out (by decide))
  rw [e3] at C3
  have C4 := Aside0.mk (fun (W : World) (hW : Src w W p s3) => show Calls Try.prog _ _ W _ from integer_get w W p 2 s3 hW b3.out (by decide))
  rw [e4] at C4
  generalize commitP bs = cp0 at *
  have hW := below_alloc (Below.refl w.heap.size w) (.cells #[.int .i64 0, .int .u64 0, .int .u64 0, .slice none 0 0] 25)
  have hT := heap_alloc_new w (.cells #[.int .i64 0, .int .u64 0, .int .u64 0, .slice none 0 0] 25)
  have hW2 := below_alloc (Below.refl (w.alloc (.cells #[.int .i64 0, .int .u64 0, .int .u64 0, .slice none 0 0] 25)).heap.size (w.alloc (.cells #[.int .i64 0, .int .u64 0, .int .u64 0, .slice none 0 0] 25))) (.cells #[.slice A bs.length cp, .bool false] 69)
  have hP := heap_alloc_new (w.alloc (.cells #[.int .i64 0, .int .u64 0, .int .u64 0, .slice none 0 0] 25)) (.cells #[.slice A bs.length cp, .bool false] 69)
  have hz1 : (w.alloc (.cells #[.int .i64 0, .int .u64 0, .int .u64 0, .slice none 0 0] 25)).heap.size = w.heap.size + 1 := by simp
  rw [hz1, ← hp] at hP
  have hT2 := (hW2.block w.heap.size (by omega)).trans hT
  have hB := below_step hW hW2
  clear e1 e2 e3 e4 e5 b1 b2 hnn hW hT
  go_enter Try.func22, Try.ntmps22
  go_wp2_with fail
  obtain ⟨W1, hW1⟩ : ∃ x, x = (w.alloc (.cells #[.int .i64 0, .int .u64 0, .int .u64 0, .slice none 0 0] 25)).alloc (.cells #[.slice A bs.length cp, .bool false] 69) := ⟨_, rfl⟩
  rw [← hW1, ← hp]
  rw [← hW1] at hP hT2 hB
  have R1 := Aside0.mk (Rd.self (show Src w W1 p ⟨bs, false⟩ from ⟨⟨A, cp, hP, hc, hC⟩, hB, by omega⟩))
  have T1 := Aside0.mk hT2
  have HB1 := Aside0.mk hB
  have HP := Aside0.mk (show p < W1.heap.size from blk_lt hP)
  have HPW := Aside0.mk hp
  clear hP hT2 hB hW2 hW1 hz1 hC hc hp hby
  refine (C1.out W1 R1.out.s).mono ?_
  rintro e w2 ⟨rfl, hR⟩
  have R2 := Aside0.mk (R1.out.trans hR)
  have T2 := Aside0.mk (hR.keeps T1.out (by have := HPW.out; omega))
  clear hR C1 R1
  go_wp2_with fail
  have hW := below_alloc (Below.refl w2.heap.size w2) (.cells #[.int .i64 tx, .int .u64 0, .int .u64 0, .slice none 0 0] 25)
  have hH := heap_alloc_new w2 (.cells #[.int .i64 tx, .int .u64 0, .int .u64 0, .slice none 0 0] 25)
  obtain ⟨W3, hW3⟩ : ∃ x, x = w2.alloc (.cells #[.int .i64 tx, .int .u64 0, .int .u64 0, .slice none 0 0] 25) := ⟨_, rfl⟩
  rw [← hW3] at hW hH ⊢
  have hR3 := R2.out.below hW
  have HG := Aside0.mk (show W1.heap.size ≤ w2.heap.size from R2.out.ch.size)
  have hTT := hW.block w.heap.size (blk_lt T2.out)
  generalize w2.heap.size = g at *
  have R3 := Aside0.mk hR3
  have T3 := Aside0.mk (hTT.trans T2.out)
  have H3 := Aside0.mk hH
  clear hW hH hW3 R2 T2 hR3 hTT T1
  refine (C2.out W3 R3.out.s).mono ?_
  rintro e w4 ⟨rfl, hR⟩
  have R4 := Aside0.mk (R3.out.trans hR)
  have T4 := Aside0.mk (hR.keeps T3.out (by have := HPW.out; omega))
  have H4 := Aside0.mk (hR.keeps H3.out (by have := HP.out; have := HG.out; omega))
  clear hR C2 R3 T3 H3
  go_wp2_with fail
  refine (C3.out w4 R4.out.s).mono ?_
  rintro e w5 ⟨rfl, hR⟩
  have R5 := Aside0.mk (R4.out.trans hR)
  have T5 := Aside0.mk (hR.keeps T4.out (by have := HPW.out; omega))
  have H5 := Aside0.mk (hR.keeps H4.out (by have := HP.out; have := HG.out; omega))
  obtain ⟨q0, q1, q2, q3, q4⟩ := blk4 H5.out
  clear hR C3 R4 T4 H4
  go_wp2_with fail
  obtain ⟨W6, hW⟩ : ∃ x, x = (w5.setCell ⟨g, 1, none⟩ (.int .u64 st)).setCell ⟨g, 2, none⟩ (.int .u64 tm) := ⟨_, rfl⟩
  rw [← hW]
  have R6 := Aside0.mk (show Rd w W1 p s3 W6 from hW ▸ (R5.out.set (i := 1) HG.out HP.out (.int .u64 st)).set (i := 2) HG.out HP.out (.int .u64 tm))
  have T6 := Aside0.mk (show W6.heap[w.heap.size]? = _ from hW ▸ (Below.heap_setCell (w5.setCell ⟨g, 1, none⟩ (.int .u64 st)) ⟨g, 2, none⟩ (.int .u64 tm) w.heap.size (by show w.heap.size ≠ g; have := HG.out; have := HP.out; have := HPW.out; omega)).trans ((Below.heap_setCell w5 ⟨g, 1, none⟩ (.int .u64 st) w.heap.size (by show w.heap.size ≠ g; have := HG.out; have := HP.out; have := HPW.out; omega)).trans T5.out))
  have H6 := Aside0.mk (show W6.heap[g]? = some (.cells #[.int .i64 tx, .int .u64 st, .int .u64 tm, .slice none 0 0] 25 (0, 0)) from hW ▸ (blk_upd (cs' := #[.int .i64 tx, .int .u64 st, .int .u64 tm, .slice none 0 0]) 2 (.int .u64 tm) (blk_upd (cs' := #[.int .i64 tx, .int .u64 st, .int .u64 0, .slice none 0 0]) 1 (.int .u64 st) H5.out rfl) rfl))
  clear hW R5 T5 H5 q0 q1 q2 q3 q4
  refine (C4.out W6 R6.out.s).mono ?_
  rintro e w7 ⟨rfl, hR⟩
  have R7 := Aside0.mk (R6.out.trans hR)
  have T7 := Aside0.mk (hR.keeps T6.out (by have := HPW.out; omega))
  have H7 := Aside0.mk (hR.keeps H6.out (by have := HP.out; have := HG.out; omega))
  clear hR C4 R6 T6 H6
  have HGL := Aside0.mk (show g < w7.heap.size from blk_lt H7.out)
  have HP7 := Aside0.mk (show p < w7.heap.size from R7.out.s.p_lt)
  have hgp : g ≠ p := by have := HP.out; have := HG.out; omega
  have CL := Aside0.mk (show Cl w w7 p g tx st tm none 0 [] s4 w7 from ⟨R7.out.s, H7.out, Kd.R_nil _ _ _ _ _, Ch.refl _ _, by simp⟩)
  have HWG := Aside0.mk (show w.heap.size ≤ g by have := HP.out; have := HG.out; have := HPW.out; omega)
  go_wp2_with fail
  go_loopw [6] (fun v6 wr => ∃ (j : Nat) (Ac : Option Addr) (cc : Nat) (acc : List S46) (sx : St), v6 = .int .i64 j ∧ j + acc.length = m ∧ Aside0 (changesL j sx acc = (L, s5)) ∧ Aside0 (Bys sx.bs) ∧ Aside0 (sx.bs.length ≤ 9000000000000000000) ∧ Aside0 (Cl w w7 p g tx st tm Ac cc acc sx wr)) (fun v6 _ => (intOf v6).toNat)
  case atStart => exact ⟨m, none, 0, [], s4, rfl, by simp, E5, b4, l4, CL⟩
  case round =>
    clear CL E5 b4 l4
    obtain ⟨j, Ac, cc, acc, sx, rfl, hj, E5, HBY, HL, CL⟩ := hrel
    obtain ⟨sb, sh⟩ := sx
    obtain ⟨k1, k2⟩ := CL.out.src.cells
    simp only at k1
    by_cases hjp : 0 < j ∧ sh = false
    · obtain ⟨hj0, rfl⟩ := hjp
      obtain ⟨j, rfl⟩ : ∃ i, j = i + 1 := ⟨j - 1, by omega⟩
      have hj1 : (0 : Int) < ((j + 1 : Nat) : Int) := by omega
      have E6 := Aside0.mk (show changesL j (changeP ⟨sb, false⟩).2 (acc ++ [(changeP ⟨sb, false⟩).1]) = (L, s5) by rw [← E5.out]; rfl)
      have hsz := changeP_sized HBY.out HL.out
      have HB6 := Aside0.mk (changeP_bys HBY.out)
      have HS6 := Aside0.mk hsz.1
      have HL6 := Aside0.mk (show (changeP ⟨sb, false⟩).2.bs.length ≤ 9000000000000000000 from Nat.le_trans hsz.2 HL.out)
      have CJ := Aside0.mk (fun (W : World) (hW : Src w W p ⟨sb, false⟩) => change_get w W p ⟨sb, false⟩ hW HBY.out)
      have CLD := Aside0.mk (CL.out.read (Rd.below (Rd.self CL.out.src) (below_drew (Below.refl wr.heap.size wr))) HP7.out hgp)
      obtain ⟨q0, q1, q2, q3, q4⟩ := blk4 CL.out.blk
      have HLEN := Aside0.mk (show (acc.length + 1) * 112 ≤ 140737488355328 by omega)
      clear E5 hsz HBY HL CL hj0
      generalize changeP ⟨sb, false⟩ = cj at *
      go_upto_region 7 with (fail)
      go_region_law (first
        | (go_simp; go_at_call 36; (with_reducible refine (CJ.out _ CLD.out.src).mono ?_); rintro e w9 ⟨⟨cs, rfl, hfk⟩, hR⟩; obtain ⟨A5, c5, A6, c6, rfl⟩ := M46_open hfk; have HFK := Aside0.mk hfk; have CL9 := Aside0.mk (CLD.out.read hR HP7.out hgp); have hq9 := blk4 CL9.out.blk; have hka : ∀ o, (w9.alloc o).cell? ⟨g, 3, none⟩ = some (.slice Ac acc.length cc) := fun o => pw_cell_below (below_alloc (Below.refl _ _) o) hq9.2.2.2.1; have hkb := hq9.2.2.2.1; have HZ9 := Aside0.mk (Nat.le_trans CLD.out.ch.size hR.ch.size); have HZD := Aside0.mk (show w7.heap.size ≤ wr.drew.heap.size from CLD.out.ch.size); clear hfk hR hq9)
        | (refine app_step k46 (W := w9) w7.heap.size rfl (.tmp 33) (.tmp 36) 23 46 _ 112 rfl Try.underlying23 info46 ⟨rfl, by decide, by decide⟩ (.slice Ac acc.length cc) acc cj.1 _ (fun k => w7.heap.size ≤ k) (fun k => wr.drew.heap.size ≤ k) rfl rfl (k46.M_lower HZD.out HFK.out) (fun k hk => ⟨Nat.le_trans HZD.out hk, fun e => by have := Kd.R_lt CLD.out.row k e.symm; omega⟩) CL9.out.row HZ9.out HLEN.out ?_; intro A1 c1 w10 hr10 hch10 hat10; have hne : some g ≠ (Value.slice Ac acc.length cc).ownBlock := fun e => (by have := CL9.out.row.1 g e.symm; have := HGL.out; omega); obtain ⟨f0, f1, f2, f3, f4⟩ := blk4 (hch10.heap CL9.out.blk hne); have CL10 := Aside0.mk (CL9.out.add HP7.out HGL.out (Ne.symm hgp) HWG.out HS6.out (by simp) (Kd.R_mono hr10 (fun k hk => hk.elim id (fun h => Nat.le_trans HZ9.out h))) hch10); clear hr10 hch10 hat10 hne))
      all_goals
        go_wp2
        go_roundw
        case rel => exact ⟨j, A1, c1, acc ++ [cj.1], cj.2, by first | rfl | simp, by rw [List.length_append, List.length_singleton]; omega, E6, HB6, HL6, CL10⟩
        case measure => simp [intOf]; try omega
    · have EL : acc = L ∧ (⟨sb, sh⟩ : St) = s5 := by
        have := E5.out
        cases j with
        | zero => simpa [changesL] using this
        | succ j =>
          have hs : sh = true := by
            cases sh with
            | true => rfl
            | false => exact absurd ⟨by omega, rfl⟩ hjp
          simpa [changesL, hs] using this
      obtain ⟨rfl, rfl⟩ := EL
      obtain ⟨q0, q1, q2, q3, q4⟩ := blk4 CL.out.blk
      obtain ⟨⟨A', c', hpb, hl', hC'⟩, _, _⟩ := CL.out.src
      have p0 := blk_cell hpb 0
      have hTr := CL.out.ch.heap T7.out (by have := HPW.out; have := HWG.out; have := HG.out; have := HP.out; rintro (e | e) <;> omega)
      obtain ⟨t0, t1, t2, t3, t4⟩ := blk4 hTr
      have TR := Aside0.mk hTr
      have HW7 := Aside0.mk (show Below w.heap.size w w7 from HB1.out.trans (Ch.to_below R7.out.ch (fun k hk => by have := HPW.out; omega) HB1.out.size))
      have HLT := Aside0.mk (show w.heap.size < w7.heap.size by have := HP7.out; have := HPW.out; omega)
      have HPW2 := Aside0.mk (show w.heap.size ≤ p by have := HPW.out; omega)
      have CR := Aside0.mk (fun (W : World) (hW : Below wr.heap.size wr W) => rightc_calls W Ac cc ⟨tx, st, tm, acc⟩ (Kd.F_now (Kd.F_below (Kd.R_F CL.out.row) hW)) (Kd.R_reads' CL.out.row).2.1 CL.out.siz (by show acc.length ≤ _; omega))
      clear E5 HBY HL hpb hC' hTr hl'
      simp only at p0 E CR
      cases sh with
      | true =>
        have E9 := Aside0.mk (show cp0 = (⟨tx, st, tm, acc⟩, false) by rw [E.out]; simp)
        by_cases hj0 : 0 < j
        · have hj1 : (0 : Int) < (j : Int) := by omega
          go_upto_region 8 with (fail)
          go_region
          go_wp2
          change bodyPost Try.prog Try.f22 _ Exit.ret _ (set4 wr w.heap.size (.int .i64 tx) (.int .u64 st) (.int .u64 tm) (.slice Ac acc.length cc)).drew
          have hs : (set4 wr w.heap.size (.int .i64 tx) (.int .u64 st) (.int .u64 tm) (.slice Ac acc.length cc)).drew.heap[w.heap.size]? = some (.cells #[.int .i64 tx, .int .u64 st, .int .u64 tm, .slice Ac acc.length cc] 25 (0, 0)) := set4_q TR.out (.int .i64 tx) (.int .u64 st) (.int .u64 tm) (.slice Ac acc.length cc)
          have hres := CL.out.result (Below.refl wr.heap.size wr) HW7.out HLT.out HPW2.out HWG.out
          have hfk := Kd.M_below hres.1 (below_drew (Below.refl _ _))
          have hbl := below_step hres.2 (below_drew (Below.refl _ _))
          clear t0 t1 t2 t3 t4 q0 q1 q2 q3 q4 k1 k2 p0 hres
          generalize (set4 wr w.heap.size (.int .i64 tx) (.int .u64 st) (.int .u64 tm) (.slice Ac acc.length cc)).drew = W9 at *
          obtain ⟨d0, d1, d2, d3, d4⟩ := blk4 hs
          refine bodyPost_ret (v := .tuple #[.agg #[.int .i64 tx, .int .u64 st, .int .u64 tm, .slice Ac acc.length cc], .bool false]) (by simp [results, Try.results22, go_sem, d0, d1, d2, d3]) rfl ?_
          rw [E9.out]
          exact ⟨⟨[.int .i64 tx, .int .u64 st, .int .u64 tm, .slice Ac acc.length cc], rfl, hfk⟩, hbl⟩
        · have hj2 : j = 0 := by omega
          subst hj2
          go_upto_region 8 with (fail)
          go_region
          go_wp2
          change bodyPost Try.prog Try.f22 _ Exit.ret _ (set4 wr w.heap.size (.int .i64 tx) (.int .u64 st) (.int .u64 tm) (.slice Ac acc.length cc)).drew
          have hs : (set4 wr w.heap.size (.int .i64 tx) (.int .u64 st) (.int .u64 tm) (.slice Ac acc.length cc)).drew.heap[w.heap.size]? = some (.cells #[.int .i64 tx, .int .u64 st, .int .u64 tm, .slice Ac acc.length cc] 25 (0, 0)) := set4_q TR.out (.int .i64 tx) (.int .u64 st) (.int .u64 tm) (.slice Ac acc.length cc)
          have hres := CL.out.result (Below.refl wr.heap.size wr) HW7.out HLT.out HPW2.out HWG.out
          have hfk := Kd.M_below hres.1 (below_drew (Below.refl _ _))
          have hbl := below_step hres.2 (below_drew (Below.refl _ _))
          clear t0 t1 t2 t3 t4 q0 q1 q2 q3 q4 k1 k2 p0 hres
          generalize (set4 wr w.heap.size (.int .i64 tx) (.int .u64 st) (.int .u64 tm) (.slice Ac acc.length cc)).drew = W9 at *
          obtain ⟨d0, d1, d2, d3, d4⟩ := blk4 hs
          refine bodyPost_ret (v := .tuple #[.agg #[.int .i64 tx, .int .u64 st, .int .u64 tm, .slice Ac acc.length cc], .bool false]) (by simp [results, Try.results22, go_sem, d0, d1, d2, d3]) rfl ?_
          rw [E9.out]
          exact ⟨⟨[.int .i64 tx, .int .u64 st, .int .u64 tm, .slice Ac acc.length cc], rfl, hfk⟩, hbl⟩
      | false =>
        have hj0 : j = 0 := by
          rcases Nat.eq_zero_or_pos j with h | h
          · exact h
          · exact absurd ⟨h, rfl⟩ hjp
        subst hj0
        cases sb with
        | nil =>
          have E9 := Aside0.mk (show cp0 = (⟨tx, st, tm, acc⟩, rightC ⟨tx, st, tm, acc⟩) by rw [E.out]; simp)
          simp only [List.length_nil] at p0
          generalize rightC ⟨tx, st, tm, acc⟩ = rb at *
          go_upto_region 8 with (fail)
          have hgw : ¬ g = w.heap.size := by have := HWG.out; have := HG.out; have := HP.out; have := HPW.out; omega
          have hpw : ¬ p = w.heap.size := by have := HPW.out; omega
          go_region_held3 (fun w' => w'.cell? ⟨g, 0, none⟩ = some (.int .i64 tx) ∧ w'.cell? ⟨g, 1, none⟩ = some (.int .u64 st) ∧ w'.cell? ⟨g, 2, none⟩ = some (.int .u64 tm) ∧ w'.cell? ⟨g, 3, none⟩ = some (.slice Ac acc.length cc) ∧ w'.cell? ⟨p, 0, none⟩ = some (.slice A' 0 c') ∧ w'.cell? ⟨p, 1, none⟩ = some (.bool false)) (first | exact ⟨q0, q1, q2, q3, p0, k1⟩ | exact ⟨z0, z1, z2, z3, z5, z6⟩ | exact ⟨(set4_ch w9 w.heap.size (.int .i64 tx) (.int .u64 st) (.int .u64 tm) (.slice Ac acc.length cc)).cell z0 hgw, (set4_ch w9 w.heap.size (.int .i64 tx) (.int .u64 st) (.int .u64 tm) (.slice Ac acc.length cc)).cell z1 hgw, (set4_ch w9 w.heap.size (.int .i64 tx) (.int .u64 st) (.int .u64 tm) (.slice Ac acc.length cc)).cell z2 hgw, (set4_ch w9 w.heap.size (.int .i64 tx) (.int .u64 st) (.int .u64 tm) (.slice Ac acc.length cc)).cell z3 hgw, (set4_ch w9 w.heap.size (.int .i64 tx) (.int .u64 st) (.int .u64 tm) (.slice Ac acc.length cc)).cell z5 hpw, (set4_ch w9 w.heap.size (.int .i64 tx) (.int .u64 st) (.int .u64 tm) (.slice Ac acc.length cc)).cell z6 hpw⟩ | go_keep) (first | (go_at_call 9; (with_reducible refine (CR.out _ (below_drew (Below.refl _ _))).mono ?_); rintro e w9 ⟨rfl, hb9⟩; have HB9 := Aside0.mk hb9; have hT9 := (hb9.block w.heap.size (blk_lt (show wr.drew.heap[w.heap.size]? = _ from TR.out))).trans TR.out; obtain ⟨y0, y1, y2, y3, y4⟩ := blk4 hT9; have TR9 := Aside0.mk hT9; have hq9 := (hb9.block g (blk_lt (show wr.drew.heap[g]? = _ from CL.out.blk))).trans CL.out.blk; obtain ⟨z0, z1, z2, z3, z4⟩ := blk4 hq9; have z5 := pw_cell_below hb9 (show wr.drew.cell? ⟨p, 0, none⟩ = _ from p0); have z6 := pw_cell_below hb9 (show wr.drew.cell? ⟨p, 1, none⟩ = _ from k1); clear hb9 hT9 hq9))
          go_wp2
          change bodyPost Try.prog Try.f22 _ Exit.ret _ (set4 w9 w.heap.size (.int .i64 tx) (.int .u64 st) (.int .u64 tm) (.slice Ac acc.length cc))
          have hs : (set4 w9 w.heap.size (.int .i64 tx) (.int .u64 st) (.int .u64 tm) (.slice Ac acc.length cc)).heap[w.heap.size]? = some (.cells #[.int .i64 tx, .int .u64 st, .int .u64 tm, .slice Ac acc.length cc] 25 (0, 0)) := set4_q TR9.out (.int .i64 tx) (.int .u64 st) (.int .u64 tm) (.slice Ac acc.length cc)
          have hres := CL.out.result (below_step (below_drew (Below.refl wr.heap.size wr)) HB9.out) HW7.out HLT.out HPW2.out HWG.out
          have hfk := hres.1
          have hbl := hres.2
          clear t0 t1 t2 t3 t4 q0 q1 q2 q3 q4 k1 k2 p0 hres y0 y1 y2 y3 y4 z0 z1 z2 z3 z4 z5 z6
          generalize set4 w9 w.heap.size (.int .i64 tx) (.int .u64 st) (.int .u64 tm) (.slice Ac acc.length cc) = W9 at *
          obtain ⟨d0, d1, d2, d3, d4⟩ := blk4 hs
          refine bodyPost_ret (v := .tuple #[.agg #[.int .i64 tx, .int .u64 st, .int .u64 tm, .slice Ac acc.length cc], .bool rb]) (by simp [results, Try.results22, go_sem, d0, d1, d2, d3]) rfl ?_
          rw [E9.out]
          exact ⟨⟨[.int .i64 tx, .int .u64 st, .int .u64 tm, .slice Ac acc.length cc], rfl, hfk⟩, hbl⟩
        | cons sx sl =>
          have E9 := Aside0.mk (show cp0 = (⟨tx, st, tm, acc⟩, false) by rw [E.out]; simp)
          simp only [List.length_cons] at p0
          obtain ⟨n0, hn0⟩ : ∃ n0, n0 = sl.length + 1 := ⟨_, rfl⟩
          rw [← hn0] at p0
          have hb1 : ((n0 : Int) == 0) = false := by rw [hn0]; simp; omega
          have hb2 : ¬ n0 = 0 := by omega
          have hb3 : decide ((n0 : Int) = 0) = false := by simp; omega
          clear hn0
          go_upto_region 8 with (fail)
          go_region
          go_wp2
          change bodyPost Try.prog Try.f22 _ Exit.ret _ (set4 wr w.heap.size (.int .i64 tx) (.int .u64 st) (.int .u64 tm) (.slice Ac acc.length cc)).drew
          have hs : (set4 wr w.heap.size (.int .i64 tx) (.int .u64 st) (.int .u64 tm) (.slice Ac acc.length cc)).drew.heap[w.heap.size]? = some (.cells #[.int .i64 tx, .int .u64 st, .int .u64 tm, .slice Ac acc.length cc] 25 (0, 0)) := set4_q TR.out (.int .i64 tx) (.int .u64 st) (.int .u64 tm) (.slice Ac acc.length cc)
          have hres := CL.out.result (Below.refl wr.heap.size wr) HW7.out HLT.out HPW2.out HWG.out
          have hfk := Kd.M_below hres.1 (below_drew (Below.refl _ _))
          have hbl := below_step hres.2 (below_drew (Below.refl _ _))
          clear t0 t1 t2 t3 t4 q0 q1 q2 q3 q4 k1 k2 p0 hres
          generalize (set4 wr w.heap.size (.int .i64 tx) (.int .u64 st) (.int .u64 tm) (.slice Ac acc.length cc)).drew = W9 at *
          obtain ⟨d0, d1, d2, d3, d4⟩ := blk4 hs
          refine bodyPost_ret (v := .tuple #[.agg #[.int .i64 tx, .int .u64 st, .int .u64 tm, .slice Ac acc.length cc], .bool false]) (by simp [results, Try.results22, go_sem, d0, d1, d2, d3]) rfl ?_
          rw [E9.out]
          exact ⟨⟨[.int .i64 tx, .int .u64 st, .int .u64 tm, .slice Ac acc.length cc], rfl, hfk⟩, hbl⟩
end Go.Proofs.Ytgndmbkkggjklaa.Jo
namespace Go.Proofs.Ytgndmbkkggjklaa.Jo
set_option linter.unusedVariables false
set_option linter.unusedSimpArgs false
open Go.RowKit Go.Proofs.YtgndmbkkggjklaaW.PrintWords Go.Proofs.YtgndmbkkggjklaaW.PrintLast Go.Proofs.YtgndmbkkggjklaaW.PrintMore Go.Proofs.Ytgndmbkkggjklaa.Bs
attribute [local go_sem] Oper.semAt_some
/-- A piece that the iterator tells, and where it lies. -/
structure Item (w0 : World) where
  pos : Nat
  A : Option Addr
  c : Nat
  t : List Int
  hC : (Kd.int .u8).C w0 A t.length t
  hc : t.length ≤ c
  hb : Bys t
  hl : t.length ≤ 9000000000000000000
def Item.got {w0 : World} (x : Item w0) : Nat × List Int := (x.pos, x.t)
/-- The pieces of bytes, and where each ends. -/
def wholeP (pos : Nat) (rest : List Int) : List (Nat × List Int) :=
  if rest.length < 4 then []
  else if rest.length < 4 + (val (rest.take 4)).toNat then []
  else (pos + 4 + (val (rest.take 4)).toNat, (rest.drop 4).take (val (rest.take 4)).toNat) :: wholeP (pos + 4 + (val (rest.take 4)).toNat) (rest.drop (4 + (val (rest.take 4)).toNat))
termination_by rest.length
decreasing_by simp only [List.length_drop]; omega
/-- What a round keeps. -/
def Kw (n0 Bs : Nat) (W W' : World) : Prop := Below n0 W W' ∧ (Bs < W.heap.size → W'.heap[Bs]? = W.heap[Bs]?)
theorem wholeP_stop {pos : Nat} {rest : List Int} (h : rest.length < 4 + (val (rest.take 4)).toNat) : wholeP pos rest = [] := by
  rw [wholeP]
  by_cases h4 : rest.length < 4
  · rw [if_pos h4]
  · rw [if_neg h4, if_pos h]
theorem wholeP_next {pos : Nat} {rest : List Int} (h : 4 + (val (rest.take 4)).toNat ≤ rest.length) : wholeP pos rest = (pos + 4 + (val (rest.take 4)).toNat, (rest.drop 4).take (val (rest.take 4)).toNat) :: wholeP (pos + 4 + (val (rest.take 4)).toNat) (rest.drop (4 + (val (rest.take 4)).toNat)) := by
  rw [wholeP, if_neg (by omega), if_neg (by omega)]
theorem grown_none {w w' : World} (h : Ch (fun k => w.heap.size ≤ k) w w') : w.grownBy w' none :=
  ⟨h.os, h.tape, h.output, h.size, fun k hk _ => h.block k hk (by omega)⟩
set_option maxRecDepth 100000 in
set_option maxHeartbeats 2000000 in
theorem whole1_in (n : Nat) (hn : 1 ≤ n) (l Bs : Nat) (w0 W : World) (A : Option Addr) (cp : Nat) (bs : List Int) (hC : (Kd.int .u8).C w0 A bs.length bs) (hcp : bs.length ≤ cp) (hby : Bys bs) (hlen : bs.length ≤ 4000000000000000000) (J Jx : List (Item w0) → World → Prop) (hJ : AbidesFrom W.heap.size J)
    (hY : ∀ pre x W1, J pre W1 → pre.length < bs.length + 1 → YieldAt Fence.wide (n - 1) Try.prog l #[.int .i64 (x.pos : Int), .slice x.A x.t.length x.c] W1 fun e W' =>
      (e = .returned (.bool true) ∧ J (pre ++ [x]) W' ∧ Kw w0.heap.size Bs W1 W') ∨ (e = .returned (.bool false) ∧ Jx (pre ++ [x]) W'))
    (hBs : W.heap[Bs]? = some (.cells #[.slice A bs.length cp] 28 (0, 0))) (hold : Below w0.heap.size w0 W) (h0 : J [] W) :
    CallsIn Fence.wide n Try.prog 32 #[.func (.yield l) #[] #[], .pointer (some ⟨Bs, 0, none⟩)] W fun e W' => (∃ v, e = .returned v) ∧
      ((∃ ys : List (Item w0), ys.map Item.got = wholeP 0 bs ∧ J ys W') ∨ (∃ pre : List (Item w0), pre.map Item.got <+: wholeP 0 bs ∧ Jx pre W')) := by
  have b0 := (blk1 hBs).1
  refine callsIn_of_wp Try.func32 rfl trivial ?_ rfl
  simp only [Try.ntmps32, List.size_toArray, List.length_cons, List.length_nil, Nat.reduceAdd, Nat.reduceSub, Array.replicate_succ, Array.replicate_zero, List.push_toArray, List.append_toArray, List.nil_append, List.cons_append]
  gi_wp2
  gi_loopw [3] (fun v3 wr => ∃ (pos : Nat) (pre : List (Item w0)), v3 = .int .i64 pos ∧ pos ≤ bs.length ∧ Aside0 (pre.map Item.got ++ wholeP pos (bs.drop pos) = wholeP 0 bs) ∧ Aside0 (pre.length * 4 ≤ pos) ∧ Aside0 (J pre wr) ∧ Aside0 (Below w0.heap.size w0 wr) ∧ Aside0 (wr.heap[Bs]? = some (.cells #[.slice A bs.length cp] 28 (0, 0))) ∧ Aside0 (W.heap.size ≤ wr.heap.size)) (fun v3 _ => bs.length - (intOf v3).toNat)
  case atStart => exact ⟨0, [], rfl, Nat.zero_le _, ⟨by simp⟩, ⟨by simp⟩, ⟨h0⟩, ⟨hold⟩, ⟨hBs⟩, ⟨Nat.le_refl _⟩⟩
  case round =>
    clear b0
    obtain ⟨pos, pre, rfl, hpos, HE, HL, HJ, HO, HB, HZ⟩ := hrel
    obtain ⟨b0, bf⟩ := blk1 HB.out
    have hsub : IntKind.i64.wrap ((bs.length : Int) - pos) = (bs.length : Int) - pos := IntWalk.i64_in _ ⟨by omega, by omega⟩
    by_cases h4 : 4 ≤ bs.length - pos
    · have h4' : (4 : Int) ≤ (bs.length : Int) - pos := by omega
      have hpc : ¬ cp = pos := by omega
      have hpc2 : pos ≤ cp := by omega
      have hp0 : (0 : Int) ≤ pos := by omega
      have hp1 : (pos : Int) ≤ (bs.length : Int) := by omega
      obtain ⟨rest, hrest⟩ : ∃ rest, rest = bs.drop pos := ⟨_, rfl⟩
      have hrl : rest.length = bs.length - pos := by rw [hrest, List.length_drop]
      have hDr := Kd.C_drop (m := pos) (c := cp) hC hpos hcp
      rw [if_neg hpc, ← hrest] at hDr
      have hrb : Bys rest := fun x hx => hby x (by rw [hrest] at hx; exact List.mem_of_mem_drop hx)
      have hW := below_alloc (Below.refl wr.heap.size wr) (.cells #[.slice (Option.map (fun x => x.add pos) A) (bs.length - pos) (cp - pos), .bool false] 69)
      have hP := heap_alloc_new wr (.cells #[.slice (Option.map (fun x => x.add pos) A) (bs.length - pos) (cp - pos), .bool false] 69)
      have hS : Src w0 (wr.alloc (.cells #[.slice (Option.map (fun x => x.add pos) A) (bs.length - pos) (cp - pos), .bool false] 69)) wr.heap.size ⟨rest, false⟩ :=
        ⟨⟨Option.map (fun x => x.add pos) A, cp - pos, by rw [← hrl] at hP; rw [← hrl]; exact hP, by show rest.length ≤ _; omega, by
          have : (fun x : Addr => x.add (pos * (Kd.int .u8).sz)) = (fun x => x.add pos) := by funext x; rw [show pos * (Kd.int .u8).sz = pos from Nat.mul_one pos]
          rw [this] at hDr; exact hDr⟩, below_step HO.out hW, HO.out.size⟩
      have C1 := integer_get w0 _ wr.heap.size 4 ⟨rest, false⟩ hS hrb (by decide)
      have hn4 : numP 4 ⟨rest, false⟩ = (val (rest.take 4), ⟨rest.drop 4, false⟩) := by simp [numP, takeP, show ¬ rest.length < 4 by omega]
      rw [hn4] at C1
      have hvb := val_bound 4 (rest.take 4) (by rw [List.length_take]; omega) (fun x hx => hrb x (List.mem_of_mem_take hx))
      rw [show (256 : Nat) ^ 4 = 4294967296 by decide] at hvb
      obtain ⟨m, hm⟩ : ∃ m : Nat, val (rest.take 4) = m := ⟨(val (rest.take 4)).toNat, by have := hvb.1; omega⟩
      rw [hm] at C1
      have HM := Aside0.mk hm
      have HRB := Aside0.mk hrb
      have HRE := Aside0.mk hrest
      have CH0 := Aside0.mk (Ch.below (Ch.refl (fun k => wr.heap.size ≤ k) wr) hW)
      have C2 := Aside0.mk (fun (V : World) (hV : Src w0 V wr.heap.size ⟨rest.drop 4, false⟩) => take_calls w0 V wr.heap.size m ⟨rest.drop 4, false⟩ hV)
      clear hrb hDr hP hn4 hvb hm hrest hW
      gi_wp2_with fail
      refine ⟨trivial, (callsIn_wide.2 C1).mono ?_⟩
      rintro e w2 ⟨rfl, hR⟩
      have R2 := Aside0.mk hR
      have CH2 := Aside0.mk (CH0.out.trans (hR.ch.mono (fun k hk _ => .inl (Nat.le_of_eq hk.symm))))
      clear C1 hS hR CH0
      gi_wp2_with fail
      refine ⟨trivial, (callsIn_wide.2 (C2.out w2 R2.out.s)).mono ?_⟩
      rintro e w3 ⟨⟨A3, c3, rfl, hc3, hC3⟩, hR⟩
      have R3 := Aside0.mk hR
      have CH3 := Aside0.mk (CH2.out.trans (hR.ch.mono (fun k hk _ => .inl (Nat.le_of_eq hk.symm))))
      have hd4 : (rest.drop 4).length = rest.length - 4 := List.length_drop
      clear C2 R2 CH2 hR
      by_cases hsh : rest.length - 4 < m
      · have ht : takeP m ⟨rest.drop 4, false⟩ = ([], ⟨rest.drop 4, true⟩) := by simp [takeP, hd4, hsh]
        rw [ht] at R3 hc3 hC3 ⊢
        obtain ⟨k1, k2⟩ := R3.out.s.cells
        simp only at k1 hc3 hC3 ⊢
        have HE2 := Aside0.mk (show pre.map Item.got = wholeP 0 bs by
          rw [← HE.out, ← HRE.out, wholeP_stop (by rw [HM.out]; simp; omega)]; simp)
        have HJ2 := Aside0.mk (hJ _ _ _ none HJ.out (grown_none CH3.out) (fun r hr => by cases hr))
        gi_wp2
        refine bodyPost_ret (results_none rfl _ _ _) rfl ?_
        exact ⟨⟨_, rfl⟩, .inl ⟨pre, HE2.out, HJ2.out⟩⟩
      · have ht : takeP m ⟨rest.drop 4, false⟩ = ((rest.drop 4).take m, ⟨(rest.drop 4).drop m, false⟩) := by simp [takeP, hd4, hsh]
        rw [ht] at R3 hc3 hC3 ⊢
        obtain ⟨T, hT⟩ : ∃ T, T = (rest.drop 4).take m := ⟨_, rfl⟩
        obtain ⟨U, hU⟩ : ∃ U, U = (rest.drop 4).drop m := ⟨_, rfl⟩
        have hul : U.length = bs.length - pos - 4 - m := by rw [hU, List.length_drop, hd4]; omega
        simp only at hc3 hC3 ⊢
        rw [← hT] at hC3 hc3 ⊢
        rw [← hU] at R3
        obtain ⟨⟨A5, c5, hP5, hl5, hC5⟩, _, _⟩ := R3.out.s
        obtain ⟨k0, k1, k2⟩ := blk2 hP5
        simp only at k0 k1
        have HB3 := Aside0.mk (CH3.out.heap HB.out (by have := blk_lt HB.out; omega))
        obtain ⟨b3, bf3⟩ := blk1 HB3.out
        have HX := Aside0.mk (show pos + 4 + m ≤ bs.length by omega)
        obtain ⟨q, hq⟩ : ∃ q, q = pos + 4 + m := ⟨_, rfl⟩
        have hend : (bs.length : Int) - (U.length : Int) = (q : Int) := by omega
        have hsub2 : IntKind.i64.wrap ((bs.length : Int) - (U.length : Int)) = (q : Int) := by rw [hend]; exact IntWalk.i64_in _ ⟨by omega, by omega⟩
        have hsub3 : wrap64 ((bs.length : Int) - (U.length : Int)) = (q : Int) := by rw [hend]; exact IntWalk.wrap64_in _ ⟨by omega, by omega⟩
        have HQ := Aside0.mk hq
        have HNX := Aside0.mk (show pre.map Item.got ++ [(q, T)] ++ wholeP q (bs.drop q) = wholeP 0 bs by
          have hmm : (val (rest.take 4)).toNat = m := by rw [HM.out]; simp
          rw [← HE.out, ← HRE.out, wholeP_next (pos := pos) (rest := rest) (by rw [hmm]; omega), hmm, ← hq, ← hT, List.append_assoc, List.singleton_append]
          congr 3
          rw [HRE.out, List.drop_drop, hq]
          congr 1; omega)
        have HUL := Aside0.mk hul
        have HTT := Aside0.mk hT
        have HUU := Aside0.mk hU
        have HJ2 := Aside0.mk (hJ _ _ _ none HJ.out (grown_none CH3.out) (fun r hr => by cases hr))
        have HTB := Aside0.mk (show Bys T from fun x hx => HRB.out x (by rw [hT] at hx; exact List.mem_of_mem_drop (List.mem_of_mem_take hx)))
        have HC3 := Aside0.mk hC3
        have HHC3 := Aside0.mk hc3
        have HTL := Aside0.mk (show T.length ≤ 9000000000000000000 by rw [hT, List.length_take, hd4]; omega)
        have HJ3 := hJ _ _ _ none HJ.out (grown_none CH3.out.drew) (fun r hr => by cases hr)
        obtain ⟨fn, tmps, assign, body, hy, hRd⟩ := hY pre ⟨q, A3, c3, T, hC3, hc3, HTB.out, HTL.out⟩ w3.drew HJ3 (by have := HL.out; omega)
        dsimp only at hy
        clear b0 bf hP5 hl5 hC5 hsub hT hU HJ3 hul hq hend hd4 hrl
        gi_wp2_with fail
        gi_region
        gi_wp2
        refine hRd.mono ?_
        rintro e W4 (⟨rfl, hJ4, hk4⟩ | ⟨rfl, hJx4⟩)
        · have HJ4 := Aside0.mk hJ4
          have HB4 := Aside0.mk (show W4.heap[Bs]? = some (.cells #[.slice A bs.length cp] 28 (0, 0)) from (hk4.2 (blk_lt HB3.out)).trans HB3.out)
          have HO4 := Aside0.mk ((R3.out.s.old.trans (below_drew (Below.refl _ w3) |>.mono R3.out.s.old.size)).trans hk4.1)
          have HZ4 := Aside0.mk (show W.heap.size ≤ W4.heap.size from Nat.le_trans (Nat.le_trans HZ.out CH3.out.size) hk4.1.size)
          clear hJ4 hk4
          gi_wp2
          go_roundw
          case rel => exact ⟨q, pre ++ [_], rfl, by have := HX.out; have := HQ.out; omega, ⟨by rw [List.map_append]; exact HNX.out⟩, ⟨by rw [List.length_append]; have := HL.out; have := HQ.out; simp; omega⟩, HJ4, HO4, HB4, HZ4⟩
          case measure => simp [intOf]; have := HX.out; have := HQ.out; omega
        · have HJx := Aside0.mk hJx4
          clear hJx4
          gi_wp2
          refine bodyPost_ret (results_none rfl _ _ _) rfl ?_
          exact ⟨⟨_, rfl⟩, .inr ⟨pre ++ [_], ⟨wholeP q (bs.drop q), by rw [List.map_append]; exact HNX.out⟩, HJx.out⟩⟩
    · have h4' : ¬ (4 : Int) ≤ (bs.length : Int) - pos := by omega
      have HE2 := Aside0.mk (show pre.map Item.got = wholeP 0 bs by
        rw [← HE.out]
        rw [show wholeP pos (bs.drop pos) = [] by rw [wholeP, if_pos (by rw [List.length_drop]; omega)]]
        simp)
      gi_wp2
      go_end0
      exact ⟨⟨_, rfl⟩, .inl ⟨pre, HE2.out, HJ.out⟩⟩
end Go.Proofs.Ytgndmbkkggjklaa.Jo
namespace Go.Proofs.Ytgndmbkkggjklaa.Jo
set_option linter.unusedVariables false
set_option linter.unusedSimpArgs false
open Go.RowKit Go.Proofs.YtgndmbkkggjklaaW.PrintWords Go.Proofs.YtgndmbkkggjklaaW.PrintLast Go.Proofs.YtgndmbkkggjklaaW.PrintMore Go.Proofs.Ytgndmbkkggjklaa.Bs
attribute [local go_sem] Oper.semAt_some
section
variable {F : Fence} {n : Nat} {P : Program} {ops : Array Oper} {rest : List Oper} {o : Oper} {a : Act} {Q : Exit → Act → World → Prop} {α : Type}
/-- append(v, x) within a fence: only the row's own block changes. -/
theorem app_in (d : Kd α) {W : World} (base : Nat) (hgd : o.guard = none) (s x : Operand) (t e : TypeId) (z : Value) (bytes : Nat)
    (ho : o.op = .call { callee := .builtin .append, args := #[s, x], argTypes := #[t, t] })
    (ht : P.underlying t = some (.slice e)) (hinfo : (P.info? e).map (fun i => (i.zero, i.size, i.bytes)) = some (some z, d.sz, bytes)) (hz : z.cells.size = d.sz ∧ 0 < d.sz ∧ 0 < bytes)
    (v : Value) (xs : List α) (p : α) (cs : List Value) (ok okp : Nat → Prop) (hs : a.eval s = v) (hx : a.eval x = .slice (some ⟨W.heap.size, 0, none⟩) 1 1) (hp : d.M W base okp p cs) (hokp : ∀ k, okp k → ok k ∧ some k ≠ v.ownBlock)
    (HO : d.R e W base ok v xs) (hbase : base ≤ W.heap.size) (hl : (xs.length + 1) * bytes ≤ 140737488355328)
    (h : ∀ A c w1, d.R e w1 base (fun k => ok k ∨ W.heap.size ≤ k) (.slice A (xs.length + 1) c) (xs ++ [p]) → Ch (fun k => some k = v.ownBlock) W w1 → wpListIn F n P ops Q rest (a.put o.dst (.slice A (xs.length + 1) c)) w1) :
    wpListIn F n P ops Q (o :: rest) a (W.alloc (.cells cs.toArray e)) := by
  obtain ⟨i0, hi, hzz⟩ := Option.map_eq_some_iff.1 hinfo
  simp only [Prod.mk.injEq] at hzz
  obtain ⟨hz0, hz1, hz2⟩ := hzz
  obtain ⟨h0, inner, hown, hr⟩ := HO
  have hlen : xs.length + 1 ≤ 140737488355328 := Nat.le_trans (Nat.le_mul_of_pos_right _ hz.2.2) hl
  refine wpListIn_plain hgd fun K hK => ?_
  obtain ⟨v1, w1, hrun, r1, r2, _, r4⟩ := run_append_own_at (P := P) (w := W.alloc (.cells cs.toArray e)) base t o.type e i0 z d.sz bytes ht hi hz0 hz1 hz2 hz.1 hz.2.1 v xs.length inner (hown.alloc _) ⟨W.heap.size, 0, none⟩ 1 1 cs (by rw [d.K_len (d.K_of_M hp)]; simp)
    (by simpa using World.news_of_block (cs := cs.toArray) (t := e) (fr := (0, 0)) (heap_alloc_new W (.cells cs.toArray e))) (d.K_one (d.K_of_M hp)) (by simp only [maxLen]; omega) hl (by simp; omega)
  have hg := World.grownBy.trans (World.grownBy_alloc W (.cells cs.toArray e) v.ownBlock) r2
  have hat : v1.ownBlock = v.ownBlock ∨ ∃ b, v1.ownBlock = some b ∧ W.heap.size ≤ b := r4.elim .inl (fun h => .inr ⟨_, h, by simp⟩)
  have hR := Kd.R_appended (okp := okp) (ok := fun k => ok k ∨ W.heap.size ≤ k) (fun k hk => .inl (h0 k hk)) (hr.imp_ (fun q c hq => d.M_mono (fun k hk => ⟨.inl hk.1, hk.2⟩) hq)) hp (fun k hk => ⟨.inl (hokp k hk).1, (hokp k hk).2⟩) (fun _ hk => .inr hk) r1 hg hat
  obtain ⟨A, c, rfl⟩ := Kd.R_slice hR
  rw [List.length_append, List.length_singleton] at hR hrun
  unfold Oper.wpIn
  refine ⟨?_, ?_⟩
  · simp [Oper.about, ho, resolve, Target.leads, Sem.run_pure]
  · rw [Oper.semAt_plain F _ _ (by rw [ho]; intro c hc'; cases hc')]
    simp [execOp, ho, resolve, invoke, builtin, hs, hx, hrun, Result.andThen]
    exact hK _ _ (h A c w1 hR ⟨hg.os, hg.tape, hg.output, hg.size, fun k hk hn => hg.block k hk (fun e => hn e)⟩)
end
set_option maxRecDepth 100000 in
theorem whole_in (A : Option Addr) (len cap : Nat) (w : World) : Calls Try.prog 21 #[.slice A len cap] w fun e w' => e = .returned (.func (.func 32) #[] #[.pointer (some ⟨w.heap.size, 0, none⟩)]) ∧ w' = w.alloc (.cells #[.slice A len cap] 28) := by
  go_enter Try.func21, Try.ntmps21
  go_wp2
  go_ret
  exact ⟨rfl, rfl⟩
theorem Kw.trans {n0 Bs : Nat} {A B C : World} (h : Kw n0 Bs A B) (k : Kw n0 Bs B C) : Kw n0 Bs A C :=
  ⟨h.1.trans k.1, fun hb => (k.2 (Nat.lt_of_lt_of_le hb h.1.size)).trans (h.2 hb)⟩
theorem Kw.put {n0 Bs : Nat} {w : World} (hn : n0 ≤ w.heap.size) (hb : Bs < w.heap.size) (W : World) (l : Nat) (o o' : Obj) (hl : w.heap.size ≤ l) (h : W.heap[l]? = some o) (h1 : o.isCells = false) (h2 : o.isWalk = false) : Kw n0 Bs W (W.putObj l o') :=
  ⟨belowK_b hn W l o o' hl h h1 h2, fun _ => World.putObj_heap_other (by omega)⟩
def readL : List (Nat × List Int) → List S25 → Nat → List S25 × Nat × Int
  | [], acc, pos => (acc, pos, 0)
  | (q, t) :: ps, acc, pos => if (commitP t).2 = true then readL ps (acc ++ [(commitP t).1]) q else (acc, pos, 61)
def readP (bs : List Int) : List S25 × Nat × Int := readL (wholeP 0 bs) [] 0
def endOf : List (Nat × List Int) → Nat → Nat
  | [], d => d
  | (q, _) :: ps, d => endOf ps q
theorem endOf_snoc (ps : List (Nat × List Int)) (x : Nat × List Int) : ∀ d, endOf (ps ++ [x]) d = x.1 := by
  induction ps with
  | nil => intro d; rfl
  | cons y ps ih => intro d; exact ih y.1
theorem readL_ok : ∀ (ps qs : List (Nat × List Int)) (acc : List S25) (pos : Nat), (∀ x ∈ ps, (commitP x.2).2 = true) → readL (ps ++ qs) acc pos = readL qs (acc ++ ps.map (fun x => (commitP x.2).1)) (endOf ps pos)
  | [], qs, acc, pos, _ => by simp [endOf]
  | (q, t) :: ps, qs, acc, pos, h => by
    rw [List.cons_append, readL, if_pos (h _ (List.mem_cons_self))]
    rw [readL_ok ps qs _ _ (fun x hx => h x (List.mem_cons_of_mem _ hx))]
    simp [endOf]
/-- What stands between two rounds. -/
structure RI (w : World) (er : Int) (gs : List (Nat × List Int)) (W : World) : Prop where
  ok : ∀ x ∈ gs, (commitP x.2).2 = true
  bx : ∃ A c, W.heap[w.heap.size]? = some (.cells #[.slice A (gs.map (fun x => (commitP x.2).1)).length c] 32 (0, 0)) ∧ k25.R 25 W (w.heap.size + 4) (fun k => w.heap.size + 4 ≤ k) (.slice A (gs.map (fun x => (commitP x.2).1)).length c) (gs.map (fun x => (commitP x.2).1))
  en : W.heap[w.heap.size + 1]? = some (.cells #[.int .i64 (endOf gs 0)] 3 (0, 0))
  er : W.heap[w.heap.size + 2]? = some (.cells #[.int .i64 er] 29 (0, 0))
  old : Below w.heap.size w W
  siz : w.heap.size + 4 ≤ W.heap.size
theorem RI.own {w : World} {er : Int} {gs : List (Nat × List Int)} {A B : World} {row : Option Nat} (h : RI w er gs A) (hg : A.grownBy B row) (hr : ∀ r, row = some r → w.heap.size + 4 ≤ r ∧ ∃ o : Obj, A.heap[r]? = some o ∧ o.isCells = false) : RI w er gs B := by
  have hlow : ∀ k, k < w.heap.size + 4 → some k ≠ row := fun k hk e => by have := (hr k e.symm).1; omega
  obtain ⟨Ax, c, hb, hR⟩ := h.bx
  refine ⟨h.ok, ⟨Ax, c, (hg.block _ (blk_lt hb) (hlow _ (by omega))).trans hb, ?_⟩, (hg.block _ (blk_lt h.en) (hlow _ (by omega))).trans h.en, (hg.block _ (blk_lt h.er) (hlow _ (by omega))).trans h.er, h.old.grown hg h.old.size (fun k e => by have := (hr k e).1; omega), Nat.le_trans h.siz hg.size⟩
  refine Kd.R_mono (Kd.R_step (Kd.R_bound hR) (fun k hk hlt => hg.block k hlt (fun e => ?_))) (fun k hk => hk.1)
  obtain ⟨_, _, _, q, _, cs, hc⟩ := hk
  obtain ⟨_, o, ho, hn⟩ := hr k e.symm
  rw [hc] at ho
  cases ho
  cases hn
theorem RI.below {w : World} {er : Int} {gs : List (Nat × List Int)} {A B : World} (h : RI w er gs A) (hb : Below A.heap.size A B) : RI w er gs B := by
  obtain ⟨Ax, c, hbx, hR⟩ := h.bx
  exact ⟨h.ok, ⟨Ax, c, (hb.block _ (blk_lt hbx)).trans hbx, Kd.R_below hR hb⟩, (hb.block _ (blk_lt h.en)).trans h.en, (hb.block _ (blk_lt h.er)).trans h.er, below_step h.old hb, Nat.le_trans h.siz hb.size⟩
theorem keeps_of_Ch {S : Nat → Prop} {W W' : World} (h : Ch S W W') (hS : ∀ k, S k → k < W.heap.size → ∃ cs t fr, W.heap[k]? = some (.cells cs t fr)) : KeepsOthers W W' := by
  refine ⟨h.size, fun k o ho hn => ?_⟩
  have hlt := blk_lt ho
  by_cases hk : S k
  · obtain ⟨cs, t, fr, e⟩ := hS k hk hlt
    rw [e] at ho
    cases ho
    cases hn
  · exact (h.block k hlt hk).trans ho
theorem RI.stop {w : World} {gs : List (Nat × List Int)} {W : World} (h : RI w 0 gs W) {W' : World} (hb : Below W.heap.size W W') : RI w 61 gs (W'.setCell ⟨w.heap.size + 2, 0, none⟩ (.int .i64 61)) ∧ KeepsOthers W (W'.setCell ⟨w.heap.size + 2, 0, none⟩ (.int .i64 61)) := by
  have h' := h.below hb
  have hch : Ch (fun k => k = w.heap.size + 2) W' (W'.setCell ⟨w.heap.size + 2, 0, none⟩ (.int .i64 61)) := (Ch.refl (fun k => k = w.heap.size + 2) W').setCell (p := ⟨w.heap.size + 2, 0, none⟩) (.inl rfl) _
  obtain ⟨Ax, c, hbx, hR⟩ := h'.bx
  have hall : Ch (fun k => k = w.heap.size + 2) W (W'.setCell ⟨w.heap.size + 2, 0, none⟩ (.int .i64 61)) := (Ch.below (Ch.refl (fun k => k = w.heap.size + 2) W) hb).setCell (p := ⟨w.heap.size + 2, 0, none⟩) (.inl rfl) _
  refine ⟨⟨h.ok, ⟨Ax, c, hch.heap hbx (by omega), hch.R hR (fun k hk e => by omega)⟩, hch.heap h'.en (by omega), blk_upd 0 _ h'.er rfl, h'.old.trans (Ch.to_below hch (fun k hk => by omega) h'.old.size), Nat.le_trans h'.siz hch.size⟩, keeps_of_Ch hall (fun k hk _ => ⟨_, _, _, hk ▸ h.er⟩)⟩
theorem RI.next {w : World} {gs : List (Nat × List Int)} {W V w4 : World} {q : Nat} {t : List Int} {A1 : Option Addr} {c1 m : Nat} {Ax : Option Addr} {cx : Nat} (h : RI w 0 gs W) (hok : (commitP t).2 = true) (hb : Below W.heap.size W V)
    (hbx : W.heap[w.heap.size]? = some (.cells #[.slice Ax (gs.map (fun x => (commitP x.2).1)).length cx] 32 (0, 0))) (hRx : k25.R 25 W (w.heap.size + 4) (fun k => w.heap.size + 4 ≤ k) (.slice Ax (gs.map (fun x => (commitP x.2).1)).length cx) (gs.map (fun x => (commitP x.2).1)))
    (hm : m = (gs.map (fun x => (commitP x.2).1)).length + 1) (hR : k25.R 25 w4 (w.heap.size + 4) (fun k => w.heap.size + 4 ≤ k ∨ V.heap.size ≤ k) (.slice A1 m c1) (gs.map (fun x => (commitP x.2).1) ++ [(commitP t).1]))
    (hch : Ch (fun k => some k = (Value.slice Ax (gs.map (fun x => (commitP x.2).1)).length cx).ownBlock) V w4) :
    KeepsOthers W ((w4.setCell ⟨w.heap.size, 0, none⟩ (.slice A1 m c1)).setCell ⟨w.heap.size + 1, 0, none⟩ (.int .i64 (q : Int))) ∧ Kw w.heap.size (w.heap.size + 3) W ((w4.setCell ⟨w.heap.size, 0, none⟩ (.slice A1 m c1)).setCell ⟨w.heap.size + 1, 0, none⟩ (.int .i64 (q : Int))) ∧
      RI w 0 (gs ++ [(q, t)]) ((w4.setCell ⟨w.heap.size, 0, none⟩ (.slice A1 m c1)).setCell ⟨w.heap.size + 1, 0, none⟩ (.int .i64 (q : Int))) := by
  have hV := h.below hb
  have hown : ∀ k, some k = (Value.slice Ax (gs.map (fun x => (commitP x.2).1)).length cx).ownBlock → w.heap.size + 4 ≤ k := fun k hk => hRx.1 k hk.symm
  have hset : Ch (fun k => k = w.heap.size ∨ k = w.heap.size + 1) w4 ((w4.setCell ⟨w.heap.size, 0, none⟩ (.slice A1 m c1)).setCell ⟨w.heap.size + 1, 0, none⟩ (.int .i64 (q : Int))) :=
    ((Ch.refl (fun k => k = w.heap.size ∨ k = w.heap.size + 1) w4).setCell (p := ⟨w.heap.size, 0, none⟩) (.inl (.inl rfl)) _).setCell (p := ⟨w.heap.size + 1, 0, none⟩) (.inl (.inr rfl)) _
  have hall : Ch (fun k => (k = w.heap.size ∨ k = w.heap.size + 1) ∨ some k = (Value.slice Ax (gs.map (fun x => (commitP x.2).1)).length cx).ownBlock) W ((w4.setCell ⟨w.heap.size, 0, none⟩ (.slice A1 m c1)).setCell ⟨w.heap.size + 1, 0, none⟩ (.int .i64 (q : Int))) :=
    ((Ch.below (Ch.refl (fun k => (k = w.heap.size ∨ k = w.heap.size + 1) ∨ some k = (Value.slice Ax (gs.map (fun x => (commitP x.2).1)).length cx).ownBlock) W) hb).trans (hch.mono (fun k hk _ => .inl (.inr hk)))).trans (hset.mono (fun k hk _ => .inl (.inl hk)))
  have h4x := hch.heap ((hb.block _ (blk_lt hbx)).trans hbx) (fun e => by have := hown _ e; omega)
  have h4n := hch.heap hV.en (fun e => by have := hown _ e; omega)
  have h4r := hch.heap hV.er (fun e => by have := hown _ e; omega)
  have hB : Below w.heap.size W ((w4.setCell ⟨w.heap.size, 0, none⟩ (.slice A1 m c1)).setCell ⟨w.heap.size + 1, 0, none⟩ (.int .i64 (q : Int))) := Ch.to_below hall (fun k hk => by rcases hk with (e | e) | e; omega; omega; have := hown _ e; omega) h.old.size
  refine ⟨keeps_of_Ch hall (fun k hk hlt => ?_), ⟨hB, fun hlt => hall.block _ hlt (by rintro ((e | e) | e); omega; omega; have := hown _ e; omega)⟩, ⟨?_, ⟨A1, c1, ?_, ?_⟩, ?_, ?_, h.old.trans hB, ?_⟩⟩
  · rcases hk with (e | e) | e
    · exact ⟨_, _, _, e ▸ hbx⟩
    · exact ⟨_, _, _, e ▸ h.en⟩
    · obtain ⟨inner, ho⟩ := Kd.R_own hRx
      obtain ⟨cells, hc⟩ := own_typed ho k e.symm
      exact ⟨_, _, _, hc⟩
  · intro x hx
    rcases List.mem_append.1 hx with hx | hx
    · exact h.ok x hx
    · rw [List.mem_singleton] at hx; subst hx; exact hok
  · have hl : ((gs ++ [(q, t)]).map (fun x => (commitP x.2).1)).length = m := by rw [hm]; simp
    rw [hl]
    have s1 : (w4.setCell ⟨w.heap.size, 0, none⟩ (.slice A1 m c1)).heap[w.heap.size]? = some (.cells #[.slice A1 m c1] 32 (0, 0)) := blk_upd 0 _ h4x rfl
    exact (Below.heap_setCell _ _ _ _ (by show w.heap.size ≠ w.heap.size + 1; omega)).trans s1
  · have hl : ((gs ++ [(q, t)]).map (fun x => (commitP x.2).1)).length = m := by rw [hm]; simp
    rw [hl, List.map_append]
    exact hset.R (Kd.R_mono hR (fun k hk => hk.elim id (fun h => Nat.le_trans hV.siz h))) (fun k hk e => by omega)
  · rw [endOf_snoc]
    exact blk_upd 0 _ ((Below.heap_setCell _ _ _ _ (by show w.heap.size + 1 ≠ w.heap.size; omega)).trans h4n) rfl
  · exact (Below.heap_setCell _ _ _ _ (by show w.heap.size + 2 ≠ w.heap.size + 1; omega)).trans ((Below.heap_setCell _ _ _ _ (by show w.heap.size + 2 ≠ w.heap.size; omega)).trans h4r)
  · exact Nat.le_trans h.siz hall.size
theorem M25_open {w : World} {base : Nat} {ok : Nat → Prop} {x : S25} {cs : List Value} (h : k25.M w base ok x cs) : ∃ A3 c3, cs = [.int .i64 x.f0, .int .u64 x.f1, .int .u64 x.f2, .slice A3 x.f3.length c3] := by
  obtain ⟨A3, c3, e, _⟩ := k25_open (k25.K_of_M h)
  exact ⟨A3, c3, e⟩
end Go.Proofs.Ytgndmbkkggjklaa.Jo
namespace Go.Proofs.Ytgndmbkkggjklaa.Jo
set_option linter.unusedVariables false
set_option linter.unusedSimpArgs false
open Go.RowKit Go.Proofs.YtgndmbkkggjklaaW.PrintWords Go.Proofs.YtgndmbkkggjklaaW.PrintLast Go.Proofs.YtgndmbkkggjklaaW.PrintMore Go.Proofs.Ytgndmbkkggjklaa.Bs
attribute [local go_sem] Oper.semAt_some
/-- How the loop may be left early. -/
def RX (w : World) (c : Code) (gs : List (Nat × List Int)) (W : World) : Prop := c = .exit 0 ∧ ∃ ps x, gs = ps ++ [x] ∧ (commitP x.2).2 = false ∧ RI w 61 ps W
theorem whole_stops (n : Nat) (hn : 1 ≤ n) (w W2 : World) (A : Option Addr) (cp Bs : Nat) (bs : List Int) (hC : (Kd.int .u8).C w A bs.length bs) (hcp : bs.length ≤ cp) (hby : Bys bs) (hlen : bs.length ≤ 4000000000000000000)
    (hBs : W2.heap[Bs]? = some (.cells #[.slice A bs.length cp] 28 (0, 0))) (hold : Below w.heap.size w W2) :
    SeqStopsK Fence.wide n Try.prog 32 #[.pointer (some ⟨Bs, 0, none⟩)] (fun x : Item w => #[Value.int .i64 (x.pos : Int), Value.slice x.A x.t.length x.c]) (Kw w.heap.size Bs) (fun ys => ys.map Item.got = wholeP 0 bs) (fun pre => pre.map Item.got <+: wholeP 0 bs) (bs.length + 1) W2 :=
  fun l J Jx W hW hJ hJx hY h0 => whole1_in n hn l Bs w W A cp bs hC hcp hby hlen J Jx hJ hY ((hW.block Bs (blk_lt hBs)).trans hBs) (hold.trans (hW.mono hold.size)) h0
set_option maxRecDepth 100000 in
set_option maxHeartbeats 4000000 in
theorem read_in (w : World) (A : Option Addr) (cp : Nat) (bs : List Int) (hC : (Kd.int .u8).C w A bs.length bs) (hcp : bs.length ≤ cp) (hby : Bys bs) (hlen : bs.length ≤ 1000000000000) :
    CallsIn Fence.wide 3 Try.prog 11 #[.slice A bs.length cp] w fun e w' => (∃ v, e = .returned (.tuple #[v, .int .i64 ((readP bs).2.1 : Int), .int .i64 (readP bs).2.2]) ∧ k25.R 25 w' w.heap.size (fun k => w.heap.size ≤ k) v (readP bs).1) ∧ Below w.heap.size w w' := by
  refine callsIn_of_wp_marks Try.func11 rfl trivial ?_ rfl
  simp only [Try.ntmps11, List.size_toArray, List.length_cons, List.length_nil, Nat.reduceAdd, Nat.reduceSub, Array.replicate_succ, Array.replicate_zero, List.push_toArray, List.append_toArray, List.nil_append, List.cons_append]
  gi_wp2_with fail
  refine ⟨trivial, (callsIn_wide.2 (whole_in A bs.length cp _)).mono ?_⟩
  rintro e w' ⟨rfl, rfl⟩
  have hz3 : (((w.alloc (.cells #[.slice none 0 0] 32)).alloc (.cells #[.int .i64 0] 3)).alloc (.cells #[.int .i64 0] 29)).heap.size = w.heap.size + 3 := by simp
  have hI0 : RI w 0 [] ((((w.alloc (.cells #[.slice none 0 0] 32)).alloc (.cells #[.int .i64 0] 3)).alloc (.cells #[.int .i64 0] 29)).alloc (.cells #[.slice A bs.length cp] 28)) := by
    have b1 := below_alloc (Below.refl w.heap.size w) (.cells #[.slice none 0 0] 32)
    have b2 := below_alloc b1 (.cells #[.int .i64 0] 3)
    have b3 := below_alloc b2 (.cells #[.int .i64 0] 29)
    have b4 := below_alloc b3 (.cells #[.slice A bs.length cp] 28)
    refine ⟨by simp, ⟨none, 0, ?_, Kd.R_nil _ _ _ _ _⟩, ?_, ?_, b4, by simp⟩
    · exact (Below.heap_alloc _ _ _ (by simp; omega)).trans ((Below.heap_alloc _ _ _ (by simp; omega)).trans ((Below.heap_alloc _ _ _ (by simp)).trans (heap_alloc_new w _)))
    · have h := heap_alloc_new (w.alloc (.cells #[.slice none 0 0] 32)) (.cells #[.int .i64 0] 3)
      rw [show (w.alloc (.cells #[.slice none 0 0] 32)).heap.size = w.heap.size + 1 by simp] at h
      exact (Below.heap_alloc _ _ _ (by simp)).trans ((Below.heap_alloc _ _ _ (by simp)).trans h)
    · have h := heap_alloc_new ((w.alloc (.cells #[.slice none 0 0] 32)).alloc (.cells #[.int .i64 0] 3)) (.cells #[.int .i64 0] 29)
      rw [show ((w.alloc (.cells #[.slice none 0 0] 32)).alloc (.cells #[.int .i64 0] 3)).heap.size = w.heap.size + 2 by simp] at h
      exact (Below.heap_alloc _ _ _ (by simp)).trans h
  have hBs := heap_alloc_new (((w.alloc (.cells #[.slice none 0 0] 32)).alloc (.cells #[.int .i64 0] 3)).alloc (.cells #[.int .i64 0] 29)) (.cells #[.slice A bs.length cp] 28)
  rw [hz3] at hBs ⊢
  obtain ⟨W2, hW2⟩ : ∃ W2, W2 = ((((w.alloc (.cells #[.slice none 0 0] 32)).alloc (.cells #[.int .i64 0] 3)).alloc (.cells #[.int .i64 0] 29)).alloc (.cells #[.slice A bs.length cp] 28)) := ⟨_, rfl⟩
  have hz4 : W2.heap.size = w.heap.size + 4 := by rw [hW2]; simp
  rw [← hW2] at hI0 hBs ⊢
  clear hW2 hz3
  have hst := whole_stops 2 (by decide) w W2 A cp (w.heap.size + 3) bs hC hcp hby (by omega) hBs hI0.old
  gi_wp2_with fail
  refine wpIn_rangeFunc_ownF rfl (by decide) (gf := 32) (lb := #[.pointer (some ⟨w.heap.size + 3, 0, none⟩)]) rfl trivial (enters_of Try.func32 (by kernel_rfl) rfl)
    hst (fun h k => Kw.trans h k) (Kw.put (by omega) (by omega)) (Below.refl _ _) (fun _ => rfl)
    (fun pre W => RI w 0 (pre.map Item.got) W) (fun c pre W => RX w c (pre.map Item.got) W)
    (fun s X Y row hs hg hr => hs.own hg (fun r e => ⟨by have := (hr r e).1; omega, (hr r e).2⟩))
    (fun c s X Y row hs hg hr => ⟨hs.1, by obtain ⟨_, ps, x, e1, e2, e3⟩ := hs; exact ⟨ps, x, e1, e2, e3.own hg (fun r e => ⟨by have := (hr r e).1; omega, (hr r e).2⟩)⟩⟩)
    (by simpa using hI0)
    (fun x => { tmps := #[.slice A bs.length cp, undef, .slice none 0 0, .int .i64 0, .int .i64 0, .pointer (some ⟨w.heap.size, 0, none⟩), .pointer (some ⟨w.heap.size + 1, 0, none⟩), .pointer (some ⟨w.heap.size + 1 + 1, 0, none⟩), .int .i64 (x.pos : Int), .slice x.A x.t.length x.c, undef, undef, .slice A bs.length cp, .func (.func 32) #[] #[.pointer (some ⟨w.heap.size + 3, 0, none⟩)], .int .i64 (x.pos : Int), .slice x.A x.t.length x.c, undef, undef, undef, undef, undef, undef, undef, undef, undef, undef, undef, undef, undef, undef, undef], defers := [] }) ?assign ?body ?done ?stop
  case assign =>
    intro l x W K hK
    gi_wp2
    exact hK
  case body =>
    rintro l pre x W hI hpl
    have HGL := Aside0.mk (show (pre.map Item.got).length ≤ bs.length by rw [List.length_map]; omega)
    have CM := commit_get W x.A x.c x.t (Kd.C_below x.hC hI.old) x.hc x.hb x.hl
    have hgx : Item.got x = (x.pos, x.t) := rfl
    have HGX := Aside0.mk (show (pre ++ [x]).map Item.got = pre.map Item.got ++ [(x.pos, x.t)] by simp [hgx])
    generalize pre.map Item.got = gs at *
    obtain ⟨pos, xA, xc, xt, xC, xhc, xhb, xhl⟩ := x
    simp only at CM HGX ⊢
    have HI := Aside0.mk hI
    obtain ⟨Ax, cx, hbx, hRx⟩ := hI.bx
    have HBX := Aside0.mk hbx
    have HRX := Aside0.mk hRx
    clear hI hbx hRx hgx
    gi_wp2_with fail
    refine ⟨trivial, (CallsIn.inRound l (callsIn_wide.2 CM)).mono ?_⟩
    rintro e w2 ⟨⟨cs, rfl, hM⟩, hB2⟩
    obtain ⟨A3, c3, rfl⟩ := M25_open hM
    have HI2 := Aside0.mk (HI.out.below hB2)
    obtain ⟨s0, s1⟩ := blk1 HI2.out.er
    have s0' : w2.cell? ⟨w.heap.size + 1 + 1, 0, none⟩ = some (.int .i64 0) := s0
    have s1' : ∀ i, w2.frozen? ⟨w.heap.size + 1 + 1, i, none⟩ = false := s1
    have s2 : ∀ o, (w2.alloc o).cell? ⟨w.heap.size + 1 + 1, 0, none⟩ = some (.int .i64 0) := fun o => pw_cell_below (below_alloc (Below.refl _ _) o) s0'
    have s3 : ∀ o, (w2.alloc o).frozen? ⟨w.heap.size + 1 + 1, 0, none⟩ = false := fun o => (World.frozen?_of_block ((below_alloc (Below.refl w2.heap.size w2) o).block _ (blk_lt HI2.out.er))).trans (s1' 0)
    have HM := Aside0.mk hM
    have HB2 := Aside0.mk hB2
    obtain ⟨ok, hok⟩ : ∃ b, b = (commitP xt).2 := ⟨_, rfl⟩
    have HOK := Aside0.mk hok
    rw [← hok]
    obtain ⟨K0, hK0⟩ : ∃ c, c = (commitP xt).1 := ⟨_, rfl⟩
    have HK0 := Aside0.mk hK0
    rw [← hK0] at HM ⊢
    clear hM hB2 CM hok hK0 s0 s1
    obtain ⟨n1, n2, n3, n4⟩ := K0
    simp only at HM ⊢
    have hW := below_alloc (Below.refl w2.heap.size w2) (.cells #[.int .i64 n1, .int .u64 n2, .int .u64 n3, .slice A3 n4.length c3] 25)
    have hV0 := heap_alloc_new w2 (.cells #[.int .i64 n1, .int .u64 n2, .int .u64 n3, .slice A3 n4.length c3] 25)
    cases ok with
    | false =>
      gi_wp2_with fail
      have hst := HI.out.stop (below_step HB2.out hW)
      exact ⟨hst.2, rfl, gs, (pos, xt), HGX.out, HOK.out.symm, hst.1⟩
    | true =>
      obtain ⟨Ax2, cx2, hbx2, hRx2⟩ := (HI2.out.below hW).bx
      have hAx : Ax2 = Ax ∧ cx2 = cx := by
        have h1 := (hW.block _ (by have := HI2.out.siz; omega)).trans ((HB2.out.block _ (blk_lt HBX.out)).trans HBX.out)
        rw [hbx2] at h1
        simp at h1
        exact h1
      obtain ⟨rfl, rfl⟩ := hAx
      have HRX2 := Aside0.mk hRx2
      have hq0 := (HB2.out.block _ (blk_lt HBX.out)).trans HBX.out
      have q0 : ∀ o, (w2.alloc o).cell? ⟨w.heap.size, 0, none⟩ = some (.slice Ax2 (gs.map (fun x => (commitP x.2).1)).length cx2) := fun o => pw_cell_below (below_alloc (Below.refl _ _) o) (blk1 hq0).1
      have HMV := Aside0.mk (Kd.M_below HM.out hW)
      have HVS := Aside0.mk (show w.heap.size + 4 ≤ (w2.alloc (.cells #[.int .i64 n1, .int .u64 n2, .int .u64 n3, .slice A3 n4.length c3] 25)).heap.size from Nat.le_trans HI2.out.siz hW.size)
      have hws : (w2.alloc (.cells #[.int .i64 n1, .int .u64 n2, .int .u64 n3, .slice A3 n4.length c3] 25)).heap.size = w2.heap.size + 1 := by simp
      have hbxV := hbx2
      have henV := (HI2.out.below hW).en
      clear hbx2 hRx2 hq0
      have hgl := HGL.out
      have HLEN := Aside0.mk (show ((gs.map (fun x => (commitP x.2).1)).length + 1) * 48 ≤ 140737488355328 by rw [List.length_map]; omega)
      generalize hcl : gs.map (fun x => (commitP x.2).1) = L at *
      gi_wp2_with (first | (gi_at_builtin; refine app_in k25 (W := w2.alloc (.cells #[.int .i64 n1, .int .u64 n2, .int .u64 n3, .slice A3 n4.length c3] 25)) (w.heap.size + 4) rfl (.tmp 23) (.tmp 25) 32 25 _ 48 rfl Try.underlying32 info25 ⟨rfl, by decide, by decide⟩ (.slice Ax2 L.length cx2) L ⟨n1, n2, n3, n4⟩ _ (fun k => w.heap.size + 4 ≤ k) (fun k => W.heap.size ≤ k) rfl ?hx (k25.M_lower HI.out.siz HMV.out) (fun k hk => ⟨Nat.le_trans HI.out.siz hk, fun e => (by have := Kd.R_lt HRX.out k e.symm; omega)⟩) HRX2.out HVS.out HLEN.out ?_; (case hx => exact (congrArg (fun z => Value.slice (some ⟨z, 0, none⟩) 1 1) hws.symm)); intro A5 c5 w5 hR5 hch5; have hq5 := hch5.heap hbxV (fun e => by have := HRX.out.1 _ e.symm; omega); have HR5 := Aside0.mk hR5; have HCH5 := Aside0.mk hch5; have x0 := (blk1 hq5).1; have x1 := (blk1 hq5).2; have hn5 := hch5.heap henV (fun e => by have := HRX.out.1 _ e.symm; omega); have y0 := (blk1 hn5).1; have y1 := (blk1 hn5).2; clear hR5 hch5 hq5 hn5))
      subst hcl
      have hnx := HI.out.next (q := pos) (t := xt) HOK.out.symm (below_step HB2.out hW) HBX.out HRX.out rfl (by rw [← HK0.out]; exact HR5.out) HCH5.out
      refine ⟨hnx.1, hnx.2.1, ?_⟩
      show RI w 0 ((pre ++ [_]).map Item.got) _
      rw [HGX.out]
      exact hnx.2.2
  case done =>
    rintro D ys W hD hS hI hK
    have HI := Aside0.mk hI
    have hres : readP bs = ((ys.map Item.got).map (fun x => (commitP x.2).1), endOf (ys.map Item.got) 0, 0) := by
      have := readL_ok (ys.map Item.got) [] [] 0 hI.ok
      rw [List.append_nil, hS] at this
      rw [readP, this, readL, hS]
      simp
    have HRES := Aside0.mk hres
    obtain ⟨Ax, cx, hbx, _⟩ := hI.bx
    have x0 := (blk1 hbx).1
    have x1 := (blk1 hI.en).1
    have x2 : W.cell? ⟨w.heap.size + 1 + 1, 0, none⟩ = some (.int .i64 0) := (blk1 hI.er).1
    have HBX := Aside0.mk hbx
    clear hI hres hbx hS
    generalize ys.map Item.got = gs at *
    generalize hcl : gs.map (fun x => (commitP x.2).1) = L at *
    have HCL := Aside0.mk hcl
    clear hcl
    gi_wp2_with fail
    gi_region
    all_goals gi_wp2
    refine ⟨by simp, .inl ⟨_, _, rfl, run_takeDeferred (show W.drew.heap[D]? = _ from hK), ?_⟩⟩
    have hI' := (HI.out.below (below_drew (Below.refl _ W))).own (grownBy_putObj' W.drew D (.deferred none)) (fun r e => by cases e; exact ⟨by omega, _, hK, rfl⟩)
    obtain ⟨Az, cz, hbz, hRz⟩ := hI'.bx
    have hAz : Az = Ax ∧ cz = cx := by
      have h1 : (W.drew.putObj D (.deferred none)).heap[w.heap.size]? = _ := (World.putObj_heap_other (by omega)).trans (show W.drew.heap[w.heap.size]? = _ from HBX.out)
      rw [hbz, HCL.out] at h1
      simp at h1
      exact h1
    obtain ⟨rfl, rfl⟩ := hAz
    rw [HCL.out] at hRz
    refine ⟨.tuple #[.slice Az L.length cz, .int .i64 (endOf gs 0 : Nat), .int .i64 0], by simp [results, Try.results11, go_sem], ?_⟩
    rw [HRES.out]
    exact ⟨⟨_, rfl, Kd.R_mono (Kd.R_lower hRz (by omega)) (fun k hk => by omega)⟩, hI'.old⟩
  case stop =>
    rintro D c pre W hD hS ⟨rfl, ps, x, e1, e2, hI⟩ hK
    have HI := Aside0.mk hI
    have hres : readP bs = (ps.map (fun x => (commitP x.2).1), endOf ps 0, 61) := by
      obtain ⟨rest, hr⟩ := hS
      rw [e1, List.append_assoc] at hr
      have := readL_ok ps ([x] ++ rest) [] 0 hI.ok
      rw [hr] at this
      obtain ⟨xq, xt⟩ := x
      rw [readP, this, List.singleton_append, readL, if_neg (by simpa using e2)]
      simp
    have HRES := Aside0.mk hres
    obtain ⟨Ax, cx, hbx, _⟩ := hI.bx
    have x0 := (blk1 hbx).1
    have x1 := (blk1 hI.en).1
    have x2 : W.cell? ⟨w.heap.size + 1 + 1, 0, none⟩ = some (.int .i64 61) := (blk1 hI.er).1
    have HBX := Aside0.mk hbx
    clear hI hres hbx e1 e2 hS
    generalize hcl : ps.map (fun x => (commitP x.2).1) = L at *
    have HCL := Aside0.mk hcl
    clear hcl
    gi_wp2_with fail
    gi_region
    all_goals gi_wp2
    refine ⟨by simp, .inl ⟨_, _, rfl, run_takeDeferred (show W.drew.heap[D]? = _ from hK), ?_⟩⟩
    have hI' := (HI.out.below (below_drew (Below.refl _ W))).own (grownBy_putObj' W.drew D (.deferred none)) (fun r e => by cases e; exact ⟨by omega, _, hK, rfl⟩)
    obtain ⟨Az, cz, hbz, hRz⟩ := hI'.bx
    have hAz : Az = Ax ∧ cz = cx := by
      have h1 : (W.drew.putObj D (.deferred none)).heap[w.heap.size]? = _ := (World.putObj_heap_other (by omega)).trans (show W.drew.heap[w.heap.size]? = _ from HBX.out)
      rw [hbz, HCL.out] at h1
      simp at h1
      exact h1
    obtain ⟨rfl, rfl⟩ := hAz
    rw [HCL.out] at hRz
    refine ⟨.tuple #[.slice Az L.length cz, .int .i64 (endOf ps 0 : Nat), .int .i64 61], by simp [results, Try.results11, go_sem], ?_⟩
    rw [HRES.out]
    exact ⟨⟨_, rfl, Kd.R_mono (Kd.R_lower hRz (by omega)) (fun k hk => by omega)⟩, hI'.old⟩
end Go.Proofs.Ytgndmbkkggjklaa.Jo
namespace Go.Proofs.Ytgndmbkkggjklaa.Jo
set_option linter.unusedVariables false
set_option linter.unusedSimpArgs false
open Go.RowKit Go.Proofs.YtgndmbkkggjklaaW.PrintWords Go.Proofs.YtgndmbkkggjklaaW.PrintLast Go.Proofs.YtgndmbkkggjklaaW.PrintMore Go.Proofs.Ytgndmbkkggjklaa.Bs
theorem fold_be (m : Nat) : ∀ (s : Nat) (a : Int), (be s m).foldl (fun a c => a * 256 + c) a = a * ((256 ^ s : Nat) : Int) + ((m % 256 ^ s : Nat) : Int)
  | 0, a => by simp [be, Nat.mod_one]
  | s + 1, a => by
    have e1 : (m : Int) / 256 ^ s % 256 = ((m / 256 ^ s % 256 : Nat) : Int) := by
      rw [Int.natCast_emod, Int.natCast_ediv, Int.natCast_pow]; rfl
    rw [be, List.foldl_cons, fold_be m s, e1, Nat.pow_succ, Nat.mod_mul]
    generalize 256 ^ s = P
    generalize m / P % 256 = x
    generalize m % P = r
    rw [Int.natCast_mul, Int.natCast_add, Int.natCast_mul, Int.add_mul, Int.mul_assoc, Int.mul_comm (256 : Int) (P : Int)]
    rw [Int.mul_comm (x : Int) (P : Int)]
    show _ = a * ((P : Int) * 256) + _
    omega
theorem val_be (s : Nat) (n : Int) (h0 : 0 ≤ n) (h1 : n < ((256 ^ s : Nat) : Int)) : val (be s n) = n := by
  obtain ⟨m, rfl⟩ := Int.eq_ofNat_of_zero_le h0
  rw [val, fold_be, Nat.mod_eq_of_lt (by omega)]
  omega
theorem strOf_bytes (s : ByteArray) : strOfNums (bytesOf s) = s := by
  apply ByteArray.ext
  show ((bytesOf s).map fun n => UInt8.ofNat n.toNat).toArray = s.data
  rw [bytesOf, List.map_map]
  have : (fun n : Int => UInt8.ofNat n.toNat) ∘ (fun b : UInt8 => (b.toNat : Int)) = id := by
    funext b; simp
  rw [this, List.map_id]
theorem takeP_left (l r : List Int) (n : Nat) (h : l.length = n) : takeP n ⟨l ++ r, false⟩ = (l, ⟨r, false⟩) := by
  unfold takeP
  rw [if_neg (by simp; omega)]
  simp only [List.take_left' h, List.drop_left' h]
theorem numP_be (s : Nat) (n : Int) (r : List Int) (h0 : 0 ≤ n) (h1 : n < ((256 ^ s : Nat) : Int)) : numP s ⟨be s n ++ r, false⟩ = (n, ⟨r, false⟩) := by
  unfold numP
  rw [takeP_left _ _ s (be_length s n)]
  simp only [val_be s n h0 h1]
theorem textP_b (s : ByteArray) (r : List Int) (h : s.size < 65536) : textP ⟨textB s ++ r, false⟩ = (s, ⟨r, false⟩) := by
  have h1 := numP_be 2 (s.size : Int) (bytesOf s ++ r) (by omega) (by show (s.size : Int) < 65536; omega)
  unfold textP
  rw [show textB s ++ r = be 2 (s.size : Int) ++ (bytesOf s ++ r) by rw [textB, List.append_assoc], h1]
  simp only [Int.toNat_natCast]
  rw [takeP_left _ _ s.size (bytesOf_length s)]
  simp only [strOf_bytes]
theorem rowL_b (r : List Int) : ∀ (ns acc : List Int), (∀ n ∈ ns, 0 ≤ n ∧ n < 4294967296) → rowL ns.length ⟨ns.flatMap (be 4) ++ r, false⟩ acc = (acc ++ ns, ⟨r, false⟩)
  | [], acc, _ => by simp [rowL]
  | n :: ns, acc, h => by
    have hn := h n (List.mem_cons_self)
    rw [List.length_cons, rowL, if_neg (by simp), List.flatMap_cons, List.append_assoc, numP_be 4 n _ hn.1 (by show n < 4294967296; omega)]
    simp only
    rw [rowL_b r ns _ (fun m hm => h m (List.mem_cons_of_mem _ hm))]
    simp
theorem rowP_b (ns r : List Int) (hl : ns.length < 65536) (h : ∀ n ∈ ns, 0 ≤ n ∧ n < 4294967296) : rowP ⟨rowB ns ++ r, false⟩ = (ns, ⟨r, false⟩) := by
  have h1 := numP_be 2 (ns.length : Int) (ns.flatMap (be 4) ++ r) (by omega) (by show (ns.length : Int) < 65536; omega)
  unfold rowP
  rw [show rowB ns ++ r = be 2 (ns.length : Int) ++ (ns.flatMap (be 4) ++ r) by rw [rowB, List.append_assoc], h1]
  simp only [Int.toNat_natCast]
  rw [rowL_b r ns [] h]
  simp
theorem empty_of (s : ByteArray) (h : s.toList = []) : s = ByteArray.empty := by
  rw [ByteArray.toList_eq] at h
  apply ByteArray.ext
  exact Array.toList_eq_nil_iff.1 h
theorem changeP_b (x : S46) (b : Int) (hb : 0 ≤ b) (hr : rightX x b = true) (r : List Int) : changeP ⟨putX x ++ r, false⟩ = (x, ⟨r, false⟩) := by
  have hR : rightR x.f1 = true := by
    rw [rightX] at hr
    simp only [Bool.and_eq_true] at hr
    exact hr.1.1.1.1.1.2
  obtain ⟨⟨g1, g2, g3, g4, g5, g6, g7⟩, _⟩ := good_of_right x b hb hr
  obtain ⟨i, k, n, t, p, ks, bs, g⟩ := x
  simp only at g1 g2 g3 g4 g5 g6 g7 hR
  have P4 := fun (m : Int) (h0 : 0 ≤ m) (h1 : m ≤ 20000) r => numP_be 4 m r h0 (by show m < 4294967296; omega)
  have P1 := fun r => numP_be 1 k r g2.1 (by show k < 256; omega)
  cases g with
  | true =>
    simp only [rightR, if_pos, goneR, Bool.and_eq_true, decide_eq_true_eq, List.isEmpty_iff] at hR
    obtain ⟨⟨⟨⟨⟨rfl, a2⟩, a3⟩, rfl⟩, rfl⟩, rfl⟩ := hR
    rw [empty_of n a2, empty_of t a3]
    simp only [putX, if_true, List.append_nil, List.append_assoc]
    unfold changeP
    rw [P4 i (by omega) g1.2]
    simp only [P1]
    simp
  | false =>
    simp only [rightR, hereR, Bool.false_eq_true, if_false, Bool.and_eq_true, decide_eq_true_eq] at hR
    have hk : ¬ k = 0 := by have := hR.1.1.1.1; omega
    simp only [putX, Bool.false_eq_true, if_false, List.append_assoc]
    unfold changeP
    rw [P4 i (by omega) g1.2]
    simp only [P1, if_neg hk, P4 p g3.1 g3.2, textP_b n _ (by omega), textP_b t _ (by omega), rowP_b ks _ (by omega) (fun m hm => by have := g6.2 m hm; omega), rowP_b bs _ (by omega) (fun m hm => by have := g7.2 m hm; omega)]
theorem changesL_b (r : List Int) : ∀ (l acc : List S46) (b : Int), 0 ≤ b → rightL b l = true → changesL l.length ⟨l.flatMap putX ++ r, false⟩ acc = (acc ++ l, ⟨r, false⟩)
  | [], acc, b, _, _ => by simp [changesL]
  | x :: l, acc, b, hb, h => by
    simp only [rightL, Bool.and_eq_true] at h
    have hx := (good_of_right x b hb h.1).1.id
    rw [List.length_cons, changesL, if_neg (by simp), List.flatMap_cons, List.append_assoc, changeP_b x b hb h.1]
    simp only
    rw [changesL_b r l _ x.f0 (by omega) h.2]
    simp
theorem commitP_b (c : S25) (hr : rightC c = true) (h1 : 0 ≤ c.f1 ∧ c.f1 < 18446744073709551616) (h2 : 0 ≤ c.f2 ∧ c.f2 < 18446744073709551616) : commitP (bodyC c) = (c, true) := by
  have g := good_of_rightC c hr
  obtain ⟨t, s, e, l⟩ := c
  have hL : rightL 0 l = true := by
    simp only [rightC, Bool.and_eq_true] at hr
    exact hr.2
  simp only at h1 h2
  have gt := g.txn
  have gl := g.len
  simp only at gt gl
  have e1 : bodyC ⟨t, s, e, l⟩ = be 4 t ++ (be 8 s ++ (be 8 e ++ (be 2 (l.length : Int) ++ (l.flatMap putX ++ [])))) := by simp [bodyC]
  unfold commitP
  rw [e1, numP_be 4 t _ (by omega) (by show t < 4294967296; omega)]
  simp only
  rw [numP_be 8 s _ h1.1 h1.2]
  simp only
  rw [numP_be 8 e _ h2.1 h2.2]
  simp only
  rw [numP_be 2 (l.length : Int) _ (by omega) (by show (l.length : Int) < 65536; omega)]
  have hcl := changesL_b [] l [] 0 (by omega) hL
  simp only [List.append_nil, List.nil_append] at hcl
  simp [hcl, hr]
theorem bodyC_len (c : S25) (hr : rightC c = true) : (bodyC c).length ≤ 22 + 20000 * 139087 := by
  have g := good_of_rightC c hr
  have h1 := flatX_len c.f3 g.all
  have h2 : c.f3.length * 139087 ≤ 20000 * 139087 := Nat.mul_le_mul_right _ g.len.2
  simp only [bodyC, List.length_append, be_length]
  omega
theorem wholeP_b (c : S25) (hr : rightC c = true) (pos : Nat) (r : List Int) : wholeP pos (putC c ++ r) = (pos + (putC c).length, bodyC c) :: wholeP (pos + (putC c).length) r := by
  have hl := bodyC_len c hr
  have e : putC c ++ r = be 4 ((bodyC c).length : Int) ++ (bodyC c ++ r) := by rw [putC, List.append_assoc]
  have h4 := be_length 4 ((bodyC c).length : Int)
  have hv : val ((putC c ++ r).take 4) = ((bodyC c).length : Int) := by
    rw [e, List.take_left' h4, val_be 4 _ (by omega) (by show ((bodyC c).length : Int) < 4294967296; omega)]
  have hpl : (putC c).length = 4 + (bodyC c).length := by rw [putC, List.length_append, be_length]
  rw [wholeP_next (by rw [hv, List.length_append, hpl]; simp), hv, Int.toNat_natCast, hpl]
  congr 1
  · congr 1
    · omega
    · rw [e, List.drop_left' h4, List.take_left' rfl]
  · rw [show pos + (4 + (bodyC c).length) = pos + 4 + (bodyC c).length by omega]
    congr 1
    rw [← List.drop_drop, e, List.drop_left' h4, List.drop_left' rfl]
theorem wholeP_nil (pos : Nat) (r : List Int) (h : r.length < 4) : wholeP pos r = [] := by rw [wholeP, if_pos h]
theorem readP_b (c : S25) (hr : rightC c = true) (h1 : 0 ≤ c.f1 ∧ c.f1 < 18446744073709551616) (h2 : 0 ≤ c.f2 ∧ c.f2 < 18446744073709551616) (r : List Int) (h4 : r.length < 4) : readP (putC c ++ r) = ([c], (putC c).length, 0) := by
  rw [readP, wholeP_b c hr 0 r, wholeP_nil _ r h4, readL, commitP_b c hr h1 h2, if_pos rfl, readL]
  simp
end Go.Proofs.Ytgndmbkkggjklaa.Jo
namespace Go.Proofs.Ytgndmbkkggjklaa.Jo
set_option linter.unusedVariables false
set_option linter.unusedSimpArgs false
open Go.RowKit Go.Proofs.YtgndmbkkggjklaaW.PrintWords Go.Proofs.YtgndmbkkggjklaaW.PrintLast Go.Proofs.YtgndmbkkggjklaaW.PrintMore Go.Proofs.Ytgndmbkkggjklaa.Bs
theorem read_calls (w : World) (A : Option Addr) (cp : Nat) (bs : List Int) (hC : (Kd.int .u8).C w A bs.length bs) (hcp : bs.length ≤ cp) (hby : Bys bs) (hlen : bs.length ≤ 1000000000000) :
    Calls Try.prog 11 #[.slice A bs.length cp] w fun e w' => (∃ v, e = .returned (.tuple #[v, .int .i64 ((readP bs).2.1 : Int), .int .i64 (readP bs).2.2]) ∧ k25.R 25 w' w.heap.size (fun k => w.heap.size ≤ k) v (readP bs).1) ∧ Below w.heap.size w w' :=
  callsIn_wide.1 (read_in w A cp bs hC hcp hby hlen)
def c1 : S25 := ⟨1, 0, 1, [⟨1, ⟨1, ⟨#[]⟩, ⟨#[]⟩, 0, [], [], false⟩⟩]⟩
theorem c1_right : rightC c1 = true := by decide
theorem c1_len : (putC c1).length = 43 := by decide
theorem putC_bys (c : S25) : Bys (putC c) := by
  have hbe : ∀ s n, Bys (be s n) := fun s n x hx => be_bytes s n x hx
  have hap : ∀ {a b : List Int}, Bys a → Bys b → Bys (a ++ b) := fun ha hb x hx => (List.mem_append.1 hx).elim (ha x) (hb x)
  have hst : ∀ s, Bys (bytesOf s) := fun s x hx => by
    simp only [bytesOf, List.mem_map] at hx
    obtain ⟨b, _, rfl⟩ := hx
    have := UInt8.toNat_lt b
    exact ⟨by omega, by omega⟩
  have hfl : ∀ (ns : List Int) s, Bys (ns.flatMap (be s)) := fun ns s x hx => by
    obtain ⟨n, _, h⟩ := List.mem_flatMap.1 hx
    exact hbe s n x h
  have hX : ∀ x, Bys (putX x) := fun x => by
    unfold putX
    split
    · exact hap (hap (hbe _ _) (hbe _ _)) (by intro y hy; simp at hy)
    · exact hap (hap (hbe _ _) (hbe _ _)) (hap (hap (hap (hap (hbe _ _) (hap (hbe _ _) (hst _))) (hap (hbe _ _) (hst _))) (hap (hbe _ _) (hfl _ _))) (hap (hbe _ _) (hfl _ _)))
  refine hap (hbe _ _) (hap (hap (hap (hap (hbe _ _) (hbe _ _)) (hbe _ _)) (hbe _ _)) ?_)
  intro x hx
  obtain ⟨y, _, h⟩ := List.mem_flatMap.1 hx
  exact hX y x h
set_option maxRecDepth 100000 in
set_option maxHeartbeats 1000000 in
theorem works_calls (w : World) : Calls Try.prog 7 #[] w fun e w' => e = .returned (.bool true) ∧ Below w.heap.size w w' := by
  go_enter Try.func7, Try.ntmps7
  go_wp2_with fail
  have hb0 := below_alloc (below_alloc (Below.refl w.heap.size w) (.cells #[.int .i64 1, .int .i64 1, .string ⟨#[]⟩, .string ⟨#[]⟩, .int .i64 0, .slice none 0 0, .slice none 0 0, .bool false] 46)) (.cells #[.int .i64 1, .int .u64 0, .int .u64 1, .slice (some ⟨w.heap.size, 0, none⟩) 1 1] 25)
  have hq1 := (Below.heap_alloc (w.alloc (.cells #[.int .i64 1, .int .i64 1, .string ⟨#[]⟩, .string ⟨#[]⟩, .int .i64 0, .slice none 0 0, .slice none 0 0, .bool false] 46)) (.cells #[.int .i64 1, .int .u64 0, .int .u64 1, .slice (some ⟨w.heap.size, 0, none⟩) 1 1] 25) w.heap.size (by simp)).trans (heap_alloc_new w _)
  have hq2 := heap_alloc_new (w.alloc (.cells #[.int .i64 1, .int .i64 1, .string ⟨#[]⟩, .string ⟨#[]⟩, .int .i64 0, .slice none 0 0, .slice none 0 0, .bool false] 46)) (.cells #[.int .i64 1, .int .u64 0, .int .u64 1, .slice (some ⟨w.heap.size, 0, none⟩) 1 1] 25)
  rw [show (w.alloc (.cells #[.int .i64 1, .int .i64 1, .string ⟨#[]⟩, .string ⟨#[]⟩, .int .i64 0, .slice none 0 0, .slice none 0 0, .bool false] 46)).heap.size = w.heap.size + 1 by simp] at hq2
  obtain ⟨W2, hW2⟩ : ∃ W2, W2 = (w.alloc (.cells #[.int .i64 1, .int .i64 1, .string ⟨#[]⟩, .string ⟨#[]⟩, .int .i64 0, .slice none 0 0, .slice none 0 0, .bool false] 46)).alloc (.cells #[.int .i64 1, .int .u64 0, .int .u64 1, .slice (some ⟨w.heap.size, 0, none⟩) 1 1] 25) := ⟨_, rfl⟩
  rw [← hW2] at hb0 hq1 hq2 ⊢
  have hFX : Kd.F k46 W2 (fun k => False ∨ k = w.heap.size) (some ⟨w.heap.size, 0, none⟩) c1.f3.length c1.f3 := by
    refine F_block k46 (xs := c1.f3) hq1 ?_ (by simp [c1])
    have := (Reps.none (fun x c => Kd.FK k46 W2 (fun _ => False) x c) k46.sz).snoc (p := ⟨1, ⟨1, ⟨#[]⟩, ⟨#[]⟩, 0, [], [], false⟩⟩) (c := [.int .i64 1, .int .i64 1, .string ⟨#[]⟩, .string ⟨#[]⟩, .int .i64 0, .slice none 0 0, .slice none 0 0, .bool false]) (fun W' _ => k46_mk W' ⟨1, ⟨1, ⟨#[]⟩, ⟨#[]⟩, 0, [], [], false⟩⟩ (Nat.le_refl _) (Kd.C_nil _ _) (Nat.le_refl _) (Kd.C_nil _ _)) rfl
    exact this
  have hsz : ∀ x ∈ c1.f3, sized x := by intro x hx; simp [c1] at hx; subst hx; exact ⟨Nat.zero_le _, Nat.zero_le _, Nat.zero_le _, Nat.zero_le _⟩
  have CP : Calls Try.prog 8 #[.agg #[.int .i64 1, .int .u64 0, .int .u64 1, .slice (some ⟨w.heap.size, 0, none⟩) 1 1]] W2 _ := put_calls W2 (some ⟨w.heap.size, 0, none⟩) 1 c1 (Kd.F_now hFX) (by simp [c1]) hsz (by simp [c1]) c1_right (by simp [c1]) (by simp [c1])
  have HB0 := Aside0.mk hb0
  have HFX := Aside0.mk hFX
  have HQ1 := Aside0.mk hq1
  have HQ2 := Aside0.mk hq2
  have HL := Aside0.mk c1_len
  have HBY := Aside0.mk (putC_bys c1)
  have HRD := Aside0.mk (readP_b c1 c1_right (by simp [c1]) (by simp [c1]) [0, 0, 0] (by simp))
  have CS := Aside0.mk (fun (W : World) (A B : Option Addr) (c d : Nat) (hA : k25.C W A [c1].length [c1]) (hB : k25.C W B [c1].length [c1]) => commits_same W A B c d [c1] hA hB (by simp) (by intro x hx; simp at hx; subst hx; exact ⟨by simp [c1], hsz⟩))
  clear hb0 hq1 hq2 hW2 hFX
  generalize putC c1 = pc at *
  refine CP.mono ?_
  rintro e w3 ⟨⟨v3, rfl, hR3⟩, hb3⟩
  obtain ⟨A3, d3, rfl⟩ := Kd.R_slice hR3
  have hq3 := (hb3.block _ (blk_lt HQ2.out)).trans HQ2.out
  have HB3 := Aside0.mk (below_step HB0.out hb3)
  have HC3 := Aside0.mk (Kd.R_reads' hR3).2.2
  have HFX3 := Aside0.mk (Kd.F_below HFX.out hb3)
  obtain ⟨y0, y1, y2, y3, y4⟩ := blk4 hq3
  have HQ3 := Aside0.mk hq3
  clear hb3 hR3 CP HFX HQ1 HQ2 hsz hq3
  have hW4 := below_alloc (Below.refl w3.heap.size w3) (.cells #[] 5)
  have ho4 := own_lit w3 w.heap.size 5 .u8 [] HB3.out.size (by simp)
  have hws4 : (w3.alloc (.cells #[] 5)).heap.size = w3.heap.size + 1 := by simp
  have hy4 : ∀ o, (w3.alloc o).cell? ⟨w.heap.size + 1, 0, none⟩ = some (.int .i64 1) := fun o => pw_cell_below (below_alloc (Below.refl _ _) o) y0
  have HR4 := Aside0.mk (show (Kd.int .u8).R 5 (w3.alloc (.cells #[] 5)) w.heap.size (fun _ => True) (.slice (some ⟨w3.heap.size, 0, none⟩) 0 0) [] from Kd.R_of_own (h1 := fun _ => rfl) ho4 (fun _ _ => trivial))
  have HC4 := Aside0.mk (Kd.C_below HC3.out hW4)
  have HZ4 := Aside0.mk (Nat.le_trans HB3.out.size hW4.size)
  have HW4 := Aside0.mk hW4
  have HL4 := Aside0.mk (show ([] : List Int).length + pc.length ≤ 140737488355328 by rw [HL.out]; decide)
  clear ho4 hW4
  go_wp2_with (first
    | ((with_reducible refine gate_builtin (b := .append) (xs := #[.tmp 17, .tmp 18]) rfl ?_); at_builtin; go_loud (refine gcat w.heap.size rfl (.tmp 17) (.tmp 18) 28 rfl Try.underlying28 info5 (.slice (some ⟨w3.heap.size, 0, none⟩) 0 0) [] pc _ _ rfl rfl HR4.out HC4.out HZ4.out HL4.out ?_); intro A5 c5 w5 z5 N5 G5; have HZ5 := Nat.le_trans HZ4.out G5.ch.size; have hW6 := below_alloc (Below.refl w5.heap.size w5) (.cells #[.int .u8 0, .int .u8 0, .int .u8 0] 5); have ho6 := own_lit w5 w.heap.size 5 .u8 [0, 0, 0] HZ5 (by simp); have HC6 := Aside0.mk (Kd.R_reads' (Kd.R_of_own (h1 := fun _ => rfl) (ok := fun _ => True) ho6 (fun _ _ => trivial) : (Kd.int .u8).R 5 (w5.alloc (.cells #[.int .u8 0, .int .u8 0, .int .u8 0] 5)) w.heap.size (fun _ => True) (.slice (some ⟨w5.heap.size, 0, none⟩) 3 3) [0, 0, 0])).2.2; have HR6 := Aside0.mk (Kd.R_below G5.row hW6); have HZ6 := Aside0.mk (Nat.le_trans HZ5 hW6.size); have HG6 := Aside0.mk (G5.after hW6); have HL6 := Aside0.mk (show z5.length + ([0, 0, 0] : List Int).length ≤ 140737488355328 by rw [N5.out, List.nil_append, HL.out]; decide); clear G5 HZ5 hW6 ho6)
    | ((with_reducible refine gate_builtin (b := .append) (xs := #[.tmp 19, .tmp 20]) rfl ?_); at_builtin; go_loud (refine gcat w.heap.size rfl (.tmp 19) (.tmp 20) 28 rfl Try.underlying28 info5 (.slice A5 z5.length c5) z5 [0, 0, 0] _ _ rfl rfl HR6.out HC6.out HZ6.out HL6.out ?_); intro A7 c7 w7 z7 N7 G7; have HG7 := Aside0.mk (HG6.out.trans G7); clear G7))
  have hz7 : z7 = pc ++ [0, 0, 0] := by rw [N7.out, N5.out, List.nil_append]
  have hby7 : Bys z7 := by
    rw [hz7]
    intro x hx
    rcases List.mem_append.1 hx with hx | hx
    · exact HBY.out x hx
    · simp at hx; subst hx; decide
  have CR := read_calls w7 A7 c7 z7 (Kd.R_reads' HG7.out.row).2.2 (Kd.R_reads' HG7.out.row).2.1 hby7 (by rw [hz7, List.length_append, HL.out]; decide)
  rw [hz7, HRD.out, ← hz7] at CR
  have HB7 := Aside0.mk (HB3.out.trans ((HW4.out.mono HB3.out.size).trans (Ch.to_below HG7.out.ch (fun k hk => by simp [Value.ownBlock] at hk; have := HB3.out.size; omega) (by have := HZ4.out; omega))))
  have hq7 := (HG7.out.ch.heap ((HW4.out.block _ (blk_lt HQ3.out)).trans HQ3.out) (fun e => by simp [Value.ownBlock] at e; have := blk_lt HQ3.out; omega))
  have HFX7 := Aside0.mk (HG7.out.ch.F (Kd.F_mono (Kd.F_below HFX3.out HW4.out) (fun k hk => hk.elim False.elim (fun h => (h : k = w.heap.size)))) (fun k hk e => by simp [Value.ownBlock] at e; have := blk_lt HQ3.out; omega))
  refine CR.mono ?_
  rintro e w8 ⟨⟨v8, rfl, hR8⟩, hb8⟩
  have hq8 := (hb8.block _ (blk_lt hq7)).trans hq7
  obtain ⟨y0, y1, y2, y3, y4⟩ := blk4 hq8
  have HFX8 := Aside0.mk (Kd.F_below HFX7.out hb8)
  have HB8 := Aside0.mk (below_step HB7.out hb8)
  obtain ⟨A8, c8, rfl⟩ := Kd.R_slice hR8
  have HR8 := Aside0.mk hR8
  have hl43 := HL.out
  clear hR8 hb8 hq7 hz7 hby7 CR hy4 hq8
  go_wp2_with fail
  have hW9 := below_alloc (Below.refl w8.heap.size w8) (.cells #[.int .i64 1, .int .u64 0, .int .u64 1, .slice (some ⟨w.heap.size, 0, none⟩) 1 1] 25)
  have hq9 := heap_alloc_new w8 (.cells #[.int .i64 1, .int .u64 0, .int .u64 1, .slice (some ⟨w.heap.size, 0, none⟩) 1 1] 25)
  have hF9 : Kd.F k25 (w8.alloc (.cells #[.int .i64 1, .int .u64 0, .int .u64 1, .slice (some ⟨w.heap.size, 0, none⟩) 1 1] 25)) (fun k => k = w.heap.size ∨ k = w8.heap.size) (some ⟨w8.heap.size, 0, none⟩) [c1].length [c1] := by
    refine F_block k25 hq9 ?_ (by simp)
    have := (Reps.none (fun x c => Kd.FK k25 (w8.alloc (.cells #[.int .i64 1, .int .u64 0, .int .u64 1, .slice (some ⟨w.heap.size, 0, none⟩) 1 1] 25)) (fun k => k = w.heap.size) x c) k25.sz).snoc (p := c1) (c := [.int .i64 1, .int .u64 0, .int .u64 1, .slice (some ⟨w.heap.size, 0, none⟩) 1 1]) (fun W' hW' => k25_mk W' c1 (Nat.le_refl _) ((Kd.F_below HFX8.out hW9) W' hW')) rfl
    exact this
  refine (CS.out _ A8 (some ⟨w8.heap.size, 0, none⟩) c8 1 (Kd.C_below (Kd.R_reads' HR8.out).2.2 hW9) (Kd.F_now hF9)).mono ?_
  rintro e w10 ⟨rfl, hb10⟩
  have HB10 := Aside0.mk (below_step (below_step HB8.out hW9) hb10)
  clear hb10 hF9 hq9 hW9
  go_wp2
  go_ret
  exact ⟨rfl, HB10.out⟩
/-- 'small' answers. -/
theorem small_step (a0 a1 a2 : Int) (l : List S46) : ∀ (d : Nat) (x3 : Int) (j k : Nat), 60 ≤ j + d → 2 * d + 1 < k → ∃ r, breviarylaw32_small.l0 k x3 j a0 a1 a2 l = some r := by
  intro d
  induction d with
  | zero =>
    intro x3 j k hj hk
    obtain ⟨k, rfl⟩ : ∃ i, k = i + 2 := ⟨k - 2, by omega⟩
    rw [breviarylaw32_small.l0]
    have hd : decide ((j : Int) < 60) = false := by simp; omega
    split
    · rw [breviarylaw32_small.j1, hd, if_neg (by simp)]; exact ⟨_, rfl⟩
    · rw [breviarylaw32_small.j1, if_neg (by simp)]; exact ⟨_, rfl⟩
  | succ d ih =>
    intro x3 j k hj hk
    obtain ⟨k, rfl⟩ : ∃ i, k = i + 2 := ⟨k - 2, by omega⟩
    rw [breviarylaw32_small.l0]
    split
    · rename_i hlt
      rw [breviarylaw32_small.j1]
      split
      · rename_i h60
        have h60' : (j : Int) < 60 := of_decide_eq_true h60
        have h0 : (0 : Int) ≤ (j : Int) := by omega
        simp only [h0, hlt, if_true]
        split
        · exact ⟨_, rfl⟩
        · have hw : wrap64 ((j : Int) + 1) = ((j + 1 : Nat) : Int) := wrap_succ j (by omega)
          rw [hw]
          exact ih _ (j + 1) k (by omega) (by omega)
      · exact ⟨_, rfl⟩
    · rw [breviarylaw32_small.j1, if_neg (by simp)]; exact ⟨_, rfl⟩
theorem small_calls (w : World) (A : Option Addr) (cp : Nat) (c : S25) (hC : k46.C w A c.f3.length c.f3) (hc : c.f3.length ≤ cp) :
    ∃ r : Bool, Calls Try.prog 6 #[.agg #[.int .i64 c.f0, .int .u64 c.f1, .int .u64 c.f2, .slice A c.f3.length cp]] w fun e w' => e = .returned (.bool r) ∧ Below w.heap.size w w' := by
  obtain ⟨r, hr⟩ := small_step c.f0 c.f1 c.f2 c.f3 60 0 0 200 (by omega) (by omega)
  exact ⟨r, breviarylaw32_small.calls 200 c.f0 c.f1 c.f2 A cp c.f3 r w hC hc hr⟩
end Go.Proofs.Ytgndmbkkggjklaa.Jo
