import Derived.Test.YthkdihpbdaehbaaPrP
namespace Go.Proofs.Ythkdihpbdaehbaa.Pr
set_option linter.unusedVariables false
set_option linter.unusedSimpArgs false
open Go.RowKit Go.Proofs.YthkdihpbdaehbaaW.PrintWords Go.Proofs.YthkdihpbdaehbaaW.PrintLast Go.Proofs.YthkdihpbdaehbaaW.PrintMore Go.Proofs.Ythkdihpbdaehbaa.Bs
def getOf (r : Option Rq) : Rq × Int := match r with | some q => if rightB q = true then (q, 0) else (zeroReq, 61) | none => (zeroReq, 61)
def getReq (xs : List Int) : Rq × Int := getOf (readReq xs)
def set7 (w : World) (g : Nat) (b0 b1 b2 b3 b4 b5 b6 : Value) : World := ((((((w.setCell ⟨g, 0, none⟩ b0).setCell ⟨g, 1, none⟩ b1).setCell ⟨g, 2, none⟩ b2).setCell ⟨g, 3, none⟩ b3).setCell ⟨g, 4, none⟩ b4).setCell ⟨g, 5, none⟩ b5).setCell ⟨g, 6, none⟩ b6
theorem set7_q {w : World} {g t : Nat} {a0 a1 a2 a3 a4 a5 a6 : Value} (h : w.heap[g]? = some (.cells #[a0, a1, a2, a3, a4, a5, a6] t (0, 0))) (b0 b1 b2 b3 b4 b5 b6 : Value) : (set7 w g b0 b1 b2 b3 b4 b5 b6).heap[g]? = some (.cells #[b0, b1, b2, b3, b4, b5, b6] t (0, 0)) := by
  have h0 : (w.setCell ⟨g, 0, none⟩ b0).heap[g]? = some (.cells #[b0, a1, a2, a3, a4, a5, a6] t (0, 0)) := blk_upd 0 b0 h rfl
  have h1 : ((w.setCell ⟨g, 0, none⟩ b0).setCell ⟨g, 1, none⟩ b1).heap[g]? = some (.cells #[b0, b1, a2, a3, a4, a5, a6] t (0, 0)) := blk_upd 1 b1 h0 rfl
  have h2 : (((w.setCell ⟨g, 0, none⟩ b0).setCell ⟨g, 1, none⟩ b1).setCell ⟨g, 2, none⟩ b2).heap[g]? = some (.cells #[b0, b1, b2, a3, a4, a5, a6] t (0, 0)) := blk_upd 2 b2 h1 rfl
  have h3 : ((((w.setCell ⟨g, 0, none⟩ b0).setCell ⟨g, 1, none⟩ b1).setCell ⟨g, 2, none⟩ b2).setCell ⟨g, 3, none⟩ b3).heap[g]? = some (.cells #[b0, b1, b2, b3, a4, a5, a6] t (0, 0)) := blk_upd 3 b3 h2 rfl
  have h4 : (((((w.setCell ⟨g, 0, none⟩ b0).setCell ⟨g, 1, none⟩ b1).setCell ⟨g, 2, none⟩ b2).setCell ⟨g, 3, none⟩ b3).setCell ⟨g, 4, none⟩ b4).heap[g]? = some (.cells #[b0, b1, b2, b3, b4, a5, a6] t (0, 0)) := blk_upd 4 b4 h3 rfl
  have h5 : ((((((w.setCell ⟨g, 0, none⟩ b0).setCell ⟨g, 1, none⟩ b1).setCell ⟨g, 2, none⟩ b2).setCell ⟨g, 3, none⟩ b3).setCell ⟨g, 4, none⟩ b4).setCell ⟨g, 5, none⟩ b5).heap[g]? = some (.cells #[b0, b1, b2, b3, b4, b5, a6] t (0, 0)) := blk_upd 5 b5 h4 rfl
  have h6 : (((((((w.setCell ⟨g, 0, none⟩ b0).setCell ⟨g, 1, none⟩ b1).setCell ⟨g, 2, none⟩ b2).setCell ⟨g, 3, none⟩ b3).setCell ⟨g, 4, none⟩ b4).setCell ⟨g, 5, none⟩ b5).setCell ⟨g, 6, none⟩ b6).heap[g]? = some (.cells #[b0, b1, b2, b3, b4, b5, b6] t (0, 0)) := blk_upd 6 b6 h5 rfl
  exact h6
theorem set7_b {w0 w : World} {B g : Nat} (h : Below B w0 w) (hg : B ≤ g) (b0 b1 b2 b3 b4 b5 b6 : Value) : Below B w0 (set7 w g b0 b1 b2 b3 b4 b5 b6) :=
  ((((((h.setCell (p := ⟨g, 0, none⟩) hg b0).setCell (p := ⟨g, 1, none⟩) hg b1).setCell (p := ⟨g, 2, none⟩) hg b2).setCell (p := ⟨g, 3, none⟩) hg b3).setCell (p := ⟨g, 4, none⟩) hg b4).setCell (p := ⟨g, 5, none⟩) hg b5).setCell (p := ⟨g, 6, none⟩) hg b6
def GetPost (w : World) (r : Rq × Int) (e : Ending) (w' : World) : Prop := e = .returned (.tuple #[.agg r.1.cells, .int .i64 r.2]) ∧ Below w.heap.size w w'
set_option maxRecDepth 100000 in
set_option maxHeartbeats 400000 in
theorem getReq_calls (w : World) (A : Option Addr) (c : Nat) (xs : List Int) (hC : (Kd.int .u8).C w A xs.length xs) (hl : xs.length ≤ c) (hby : Bys xs) :
    Calls Try.prog 12 #[.slice A xs.length c] w (GetPost w (getReq xs)) := by
  have hmf : ∀ (fn : Fn) (first cap : Array Value) (w : World), (Instr.makeFunc fn first cap).run Try.prog w = .ok (.func fn first cap) w := fun _ _ _ _ => rfl
  obtain ⟨W, hW⟩ : ∃ W, W = (w.alloc (.cells #[.int .i64 0, .string ⟨#[]⟩, .int .i64 0, .int .i64 0, .int .i64 0, .string ⟨#[]⟩, .string ⟨#[]⟩] 25)).alloc (.cells #[.int .i64 0, .string ⟨#[]⟩, .int .i64 0, .int .i64 0, .int .i64 0, .string ⟨#[]⟩, .string ⟨#[]⟩] 25) := ⟨_, rfl⟩
  have hWch : Ch (fun _ => False) w W := by rw [hW]; exact ((Ch.refl _ w).alloc _).alloc _
  have hWp : W.heap[w.heap.size + 1]? = some (.cells zeroReq.cells 25 (0, 0)) := by
    have h := heap_alloc_new (w.alloc (.cells #[.int .i64 0, .string ⟨#[]⟩, .int .i64 0, .int .i64 0, .int .i64 0, .string ⟨#[]⟩, .string ⟨#[]⟩] 25)) (.cells #[.int .i64 0, .string ⟨#[]⟩, .int .i64 0, .int .i64 0, .int .i64 0, .string ⟨#[]⟩, .string ⟨#[]⟩] 25)
    rw [show (w.alloc (.cells #[.int .i64 0, .string ⟨#[]⟩, .int .i64 0, .int .i64 0, .int .i64 0, .string ⟨#[]⟩, .string ⟨#[]⟩] 25)).heap.size = w.heap.size + 1 by simp, ← hW] at h
    exact h
  have hWr : W.heap[w.heap.size]? = some (.cells zeroReq.cells 25 (0, 0)) := by
    rw [hW]
    exact (Below.heap_alloc _ _ _ (by simp)).trans (heap_alloc_new w _)
  have C1 := read_req w W (w.heap.size + 1) A c xs hC hl hby (Ch.to_below hWch (fun _ h => h.elim) (Nat.le_refl _)) hWp (by omega)
  have HW := Aside0.mk hW
  have HR := Aside0.mk hWr
  have HWch := Aside0.mk (hWch.mono (S' := fun k => k = w.heap.size + 1) (fun _ h _ => h.elim))
  rw [hW] at C1
  clear hC hl hby hWch hWp hWr hW
  go_enter Try.func12, Try.ntmps12
  go_wp2_with fail
  refine C1.mono ?_
  rintro e w1 ⟨rfl, hch, hq⟩
  rw [← HW.out] at hch
  have hr1 := hch.heap HR.out (by omega)
  obtain ⟨m0, m1, m2, m3, m4, m5, m6, m7⟩ := blk7 hr1
  have hch1 : Ch (fun k => k = w.heap.size + 1) w w1 := HWch.out.trans (hch.mono (fun k hk _ => .inl hk))
  have hb1 : Below w.heap.size w w1 := Ch.to_below hch1 (fun k hk => by omega) (Nat.le_refl _)
  have HB := Aside0.mk hb1
  have hlt := blk_lt hr1
  clear C1 hch hch1 hb1
  have E0 : getReq xs = getOf (readReq xs) := rfl
  generalize readReq xs = R at *
  have E := Aside0.mk E0
  clear E0
  cases R with
  | none =>
    have E2 := Aside0.mk (show getReq xs = (zeroReq, 61) from E.out)
    clear hq E
    go_wp2_with fail
    have S := set7_q hr1 (.int .i64 0) (.string ⟨#[]⟩) (.int .i64 0) (.int .i64 0) (.int .i64 0) (.string ⟨#[]⟩) (.string ⟨#[]⟩)
    have SB := set7_b HB.out (Nat.le_refl _) (.int .i64 0) (.string ⟨#[]⟩) (.int .i64 0) (.int .i64 0) (.int .i64 0) (.string ⟨#[]⟩) (.string ⟨#[]⟩)
    rw [E2.out]
    change bodyPost Try.prog Try.f12 _ Exit.ret _ (set7 w1 w.heap.size (.int .i64 0) (.string ⟨#[]⟩) (.int .i64 0) (.int .i64 0) (.int .i64 0) (.string ⟨#[]⟩) (.string ⟨#[]⟩))
    clear m0 m1 m2 m3 m4 m5 m6 m7
    generalize set7 w1 w.heap.size (.int .i64 0) (.string ⟨#[]⟩) (.int .i64 0) (.int .i64 0) (.int .i64 0) (.string ⟨#[]⟩) (.string ⟨#[]⟩) = w2 at *
    obtain ⟨d0, d1, d2, d3, d4, d5, d6, d7⟩ := blk7 S
    refine bodyPost_ret (v := .tuple #[.agg zeroReq.cells, .int .i64 61]) (by simp [results, Try.results12, go_sem, d0, d1, d2, d3, d4, d5, d6, zeroReq, Rq.cells, nil8]) rfl ⟨rfl, SB⟩
  | some q =>
    have hq1 := hq q rfl
    have C10 := right_calls w1 q
    obtain ⟨k, s, o, i, p, nm, os⟩ := q
    simp only [Rq.cells] at hq1 C10
    obtain ⟨c0, c1, c2, c3, c4, c5, c6, c7⟩ := blk7 hq1
    have HQ1 := Aside0.mk hq1
    have HR1 := Aside0.mk hr1
    clear hq hq1 hr1 m0 m1 m2 m3 m4 m5 m6 m7
    generalize hrb : rightB ⟨k, s, o, i, p, nm, os⟩ = rb at *
    have E2 : getReq xs = if rb = true then (⟨k, s, o, i, p, nm, os⟩, 0) else (zeroReq, 61) := by rw [E.out, getOf, hrb]
    have E3 := Aside0.mk E2
    clear hrb E2 E
    cases rb with
    | false =>
      go_wp2_with fail
      refine C10.mono ?_
      rintro e w3 ⟨rfl, hb3⟩
      have hr3 := (hb3.block w.heap.size (blk_lt HR1.out)).trans HR1.out
      have HB3 := Aside0.mk (below_step HB.out hb3)
      obtain ⟨m0, m1, m2, m3, m4, m5, m6, m7⟩ := blk7 hr3
      have S := Aside0.mk (set7_q hr3 (.int .i64 0) (.string ⟨#[]⟩) (.int .i64 0) (.int .i64 0) (.int .i64 0) (.string ⟨#[]⟩) (.string ⟨#[]⟩))
      have SB := Aside0.mk (set7_b HB3.out (Nat.le_refl _) (.int .i64 0) (.string ⟨#[]⟩) (.int .i64 0) (.int .i64 0) (.int .i64 0) (.string ⟨#[]⟩) (.string ⟨#[]⟩))
      clear hb3 hr3 c0 c1 c2 c3 c4 c5 c6 c7 C10
      go_wp2_with fail
      rw [E3.out]
      change bodyPost Try.prog Try.f12 _ Exit.ret _ (set7 w3 w.heap.size (.int .i64 0) (.string ⟨#[]⟩) (.int .i64 0) (.int .i64 0) (.int .i64 0) (.string ⟨#[]⟩) (.string ⟨#[]⟩))
      clear m0 m1 m2 m3 m4 m5 m6 m7
      generalize set7 w3 w.heap.size (.int .i64 0) (.string ⟨#[]⟩) (.int .i64 0) (.int .i64 0) (.int .i64 0) (.string ⟨#[]⟩) (.string ⟨#[]⟩) = w2 at *
      obtain ⟨d0, d1, d2, d3, d4, d5, d6, d7⟩ := blk7 S.out
      refine bodyPost_ret (v := .tuple #[.agg zeroReq.cells, .int .i64 61]) (by simp [results, Try.results12, go_sem, d0, d1, d2, d3, d4, d5, d6, zeroReq, Rq.cells, nil8]) rfl ⟨rfl, SB.out⟩
    | true =>
      go_wp2_with fail
      refine C10.mono ?_
      rintro e w3 ⟨rfl, hb3⟩
      have hr3 := (hb3.block w.heap.size (blk_lt HR1.out)).trans HR1.out
      have hq3 := (hb3.block (w.heap.size + 1) (blk_lt HQ1.out)).trans HQ1.out
      have HB3 := Aside0.mk (below_step HB.out hb3)
      obtain ⟨m0, m1, m2, m3, m4, m5, m6, m7⟩ := blk7 hr3
      have S := Aside0.mk (set7_q hr3 (.int .i64 k) (.string s) (.int .i64 o) (.int .i64 i) (.int .i64 p) (.string nm) (.string os))
      have SB := Aside0.mk (set7_b HB3.out (Nat.le_refl _) (.int .i64 k) (.string s) (.int .i64 o) (.int .i64 i) (.int .i64 p) (.string nm) (.string os))
      clear c0 c1 c2 c3 c4 c5 c6 c7
      obtain ⟨c0, c1, c2, c3, c4, c5, c6, c7⟩ := blk7 hq3
      clear hb3 hr3 hq3 C10
      go_wp2_with fail
      rw [E3.out]
      change bodyPost Try.prog Try.f12 _ Exit.ret _ (set7 w3 w.heap.size (.int .i64 k) (.string s) (.int .i64 o) (.int .i64 i) (.int .i64 p) (.string nm) (.string os))
      clear m0 m1 m2 m3 m4 m5 m6 m7
      generalize set7 w3 w.heap.size (.int .i64 k) (.string s) (.int .i64 o) (.int .i64 i) (.int .i64 p) (.string nm) (.string os) = w2 at *
      obtain ⟨d0, d1, d2, d3, d4, d5, d6, d7⟩ := blk7 S.out
      refine bodyPost_ret (v := .tuple #[.agg #[.int .i64 k, .string s, .int .i64 o, .int .i64 i, .int .i64 p, .string nm, .string os], .int .i64 0]) (by simp [results, Try.results12, go_sem, d0, d1, d2, d3, d4, d5, d6]) rfl ⟨rfl, SB.out⟩
end Go.Proofs.Ythkdihpbdaehbaa.Pr
