import Derived.Test.YthkdihpbdaehbaaMr3
namespace Go.Proofs.Ythkdihpbdaehbaa.Pr
set_option linter.unusedVariables false
set_option linter.unusedSimpArgs false
open Go.RowKit Go.Proofs.YthkdihpbdaehbaaW.PrintWords Go.Proofs.YthkdihpbdaehbaaW.PrintLast Go.Proofs.YthkdihpbdaehbaaW.PrintMore Go.Proofs.Ythkdihpbdaehbaa.Bs
def zeroReq : Rq := ⟨0, nil8, 0, 0, 0, nil8, nil8⟩
/-- What is read of bytes, if that is all of them. -/
def readReq (xs : List Int) : Option Rq := if 4200 < xs.length then none else match parseReq xs with | some (q, []) => some q | _ => none
def Res2 (w0 w : World) (p g : Nat) (r : Option (Rq × List Int)) (e : Ending) (w' : World) : Prop :=
  match r with
  | none => LostCh w p g e w'
  | some (q, ys) => e = .returned (.bool true) ∧ w'.heap[g]? = some (.cells q.cells 25 (0, 0)) ∧ Src w0 w' p ys ∧ Ch (fun k => k = p ∨ k = g) w w'
set_option maxRecDepth 100000 in
set_option maxHeartbeats 400000 in
theorem do_req (w0 w : World) (p g : Nat) (xs : List Int) (h : Src w0 w p xs) (hby : Bys xs) (hg : w.heap[g]? = some (.cells zeroReq.cells 25 (0, 0))) (hgp : g ≠ p) (hg0 : w0.heap.size ≤ g) :
    Calls Try.prog 29 #[.pointer (some ⟨p, 0, none⟩), .pointer (some ⟨g, 0, none⟩)] w (Res2 w0 w p g (parseReq xs)) := by
  have C1 := request_get w0 w p g xs h hby hg hgp hg0
  clear h hby hg
  generalize parseReq xs = R at *
  cases R with
  | none =>
    go_enter Try.func29, Try.ntmps29
    go_wp2_with fail
    refine C1.mono ?_
    rintro e w1 ⟨rfl, hch⟩
    exact ⟨rfl, ⟨rfl, hch⟩⟩
  | some r =>
    obtain ⟨q, ys⟩ := r
    go_enter Try.func29, Try.ntmps29
    go_wp2_with fail
    refine C1.mono ?_
    rintro e w1 ⟨rfl, hq, hs, hch⟩
    have HF := Aside0.mk (And.intro hq (And.intro hs hch))
    clear hq hs hch C1
    go_wp2_with fail
    go_ret
    exact ⟨rfl, HF.out.1, HF.out.2.1, HF.out.2.2⟩
/-- What read gives for GetReq. -/
def RdPost (w : World) (g : Nat) (r : Option Rq) (e : Ending) (w' : World) : Prop :=
  e = .returned (.bool r.isSome) ∧ Ch (fun k => k = g) w w' ∧ ∀ q, r = some q → w'.heap[g]? = some (.cells q.cells 25 (0, 0))
theorem RdPost.mk_ {w w2 : World} {g : Nat} {r : Option Rq} {b : Bool} (hb : b = r.isSome) (hch : Ch (fun k => k = g) w w2) (hq : ∀ q, r = some q → w2.heap[g]? = some (.cells q.cells 25 (0, 0))) : RdPost w g r (.returned (.bool b)) w2 := ⟨by rw [hb], hch, hq⟩
set_option maxRecDepth 100000 in
set_option maxHeartbeats 400000 in
theorem read_req (w0 w : World) (g : Nat) (A : Option Addr) (c : Nat) (xs : List Int) (hC : (Kd.int .u8).C w0 A xs.length xs) (hl : xs.length ≤ c) (hby : Bys xs) (ho : Below w0.heap.size w0 w) (hg : w.heap[g]? = some (.cells zeroReq.cells 25 (0, 0))) (hg0 : w0.heap.size ≤ g) :
    Calls Try.prog 28 #[.slice A xs.length c, .func (.func 29) #[] #[.pointer (some ⟨g, 0, none⟩)]] w (RdPost w g (readReq xs)) := by
  have hmf : ∀ (fn : Fn) (first cap : Array Value) (w : World), (Instr.makeFunc fn first cap).run Try.prog w = .ok (.func fn first cap) w := fun _ _ _ _ => rfl
  by_cases hlen : 4200 < xs.length
  · have hlen' : ¬ (xs.length : Int) ≤ 4200 := by omega
    have E := Aside0.mk (show readReq xs = none from if_pos hlen)
    clear hlen hC hby ho hg
    go_enter_defers Try.func28, Try.ntmps28
    go_wp2_with fail
    refine leaves_cons (f := 39) (args := #[.pointer (some ⟨w.heap.size, 0, none⟩)]) (by simp) (by simp [go_sem]) ?_
    refine (catch_idle _ _).mono ?_
    rintro e u' w'' ⟨rfl, rfl, rfl⟩
    rw [E.out]
    refine ⟨.bool false, by simp [results, Try.results28, go_sem], RdPost.mk_ rfl (((Ch.refl _ w).alloc _).alloc _) (fun q h => by cases h)⟩
  · have hlen' : (xs.length : Int) ≤ 4200 := by omega
    have E := Aside0.mk (show readReq xs = _ from if_neg hlen)
    have HC := Aside0.mk hC
    have HB := Aside0.mk hby
    have HO := Aside0.mk ho
    have HG := Aside0.mk hg
    clear hlen hC hby ho hg
    have hgl := blk_lt HG.out
    have hz := HO.out.size
    obtain ⟨W, hW⟩ : ∃ W, W = (w.alloc (.cells #[.bool false] 4)).alloc (.cells #[.slice A xs.length c, .bool true] 56) := ⟨_, rfl⟩
    have hWch : Ch (fun _ => False) w W := by rw [hW]; exact ((Ch.refl _ w).alloc _).alloc _
    have hWp : W.heap[w.heap.size + 1]? = some (.cells #[.slice A xs.length c, .bool true] 56 (0, 0)) := by
      have h := heap_alloc_new (w.alloc (.cells #[.bool false] 4)) (.cells #[.slice A xs.length c, .bool true] 56)
      rw [show (w.alloc (.cells #[.bool false] 4)).heap.size = w.heap.size + 1 by simp, ← hW] at h
      exact h
    have hWr : W.heap[w.heap.size]? = some (.cells #[.bool false] 4 (0, 0)) := by
      rw [hW]
      exact (Below.heap_alloc _ _ _ (by simp)).trans (heap_alloc_new w _)
    have hWs : Src w0 W (w.heap.size + 1) xs := ⟨⟨A, c, hWp, hl, HC.out⟩, HO.out.trans (Ch.to_below hWch (fun _ h => h.elim) hz), by omega⟩
    have hWg : W.heap[g]? = some (.cells zeroReq.cells 25 (0, 0)) := hWch.heap HG.out (fun h => h)
    have C1 := do_req w0 W (w.heap.size + 1) g xs hWs HB.out hWg (by omega) hg0
    have HWr := Aside0.mk hWr
    have HWch := Aside0.mk (hWch.mono (S' := fun k => k = g) (fun _ h _ => h.elim))
    have HW := Aside0.mk hW
    have hW2 : W = (w.alloc (.cells #[.bool false] 4)).alloc (.cells #[.slice A xs.length c, .bool true] 56) := hW
    clear hWr hWch hWs hWg hWp hW HB HC HO HG
    rw [hW2] at C1
    clear hW2
    generalize hR : parseReq xs = R at *
    clear hR
    cases R with
    | none =>
      have E2 := Aside0.mk (show readReq xs = none from E.out)
      clear E
      go_enter_defers Try.func28, Try.ntmps28
      go_wp2_with fail
      refine C1.mono ?_
      rintro e w1 ⟨rfl, hch⟩
      rw [← HW.out] at hch
      refine leaves_cons (f := 39) (args := #[.pointer (some ⟨w.heap.size, 0, none⟩)]) (by simp) (by simp [go_sem]) ?_
      refine (catch_lost w.heap.size false w1 [] (hch.heap HWr.out (by omega))).mono ?_
      rintro e u' w2 ⟨rfl, rfl, hr2, hch2⟩
      have hc2 := blk_cell hr2 0
      have hf2 := blk_frozen hr2 0
      rw [E2.out]
      have hP : RdPost w g none (.returned (.bool false)) w2 := RdPost.mk_ rfl (HWch.out.trans ((hch.mono (S' := fun k => k = g ∨ w.heap.size ≤ k) (fun k hk _ => hk.elim (fun e => .inr (by omega)) .inl)).trans (hch2.mono (fun k hk _ => .inl (.inr (by omega)))))) (fun q h => by cases h)
      refine ⟨.bool false, ?_, hP⟩
      simp [results, Try.results28, go_sem, hc2]
    | some r =>
      obtain ⟨q, ys⟩ := r
      have EE : readReq xs = if ys.length = 0 then some q else none := by
        rw [E.out]
        cases ys <;> rfl
      have E2 := Aside0.mk EE
      clear E EE
      obtain ⟨n, hn⟩ : ∃ n, n = ys.length := ⟨_, rfl⟩
      rw [← hn] at E2
      have HN := Aside0.mk hn
      clear hn
      obtain ⟨b, hb⟩ : ∃ b, b = ((n : Int) == 0) := ⟨_, rfl⟩
      have HBB := Aside0.mk hb
      have hb' : ((n : Int) == 0) = b := hb.symm
      clear hb
      go_enter_defers Try.func28, Try.ntmps28
      go_wp2_with fail
      refine C1.mono ?_
      rintro e w1 ⟨rfl, hq, hs, hch⟩
      rw [← HW.out] at hch
      obtain ⟨⟨A', c', hp', hl', hC'⟩, ho', hpp'⟩ := hs
      rw [← HN.out] at hp'
      obtain ⟨k0, k1, k2⟩ := blk2 hp'
      have hr1 := hch.heap HWr.out (by omega)
      obtain ⟨m0, m1⟩ := blk1 hr1
      have hch1 : Ch (fun k => k = g) w w1 := HWch.out.trans (hch.mono (S' := fun k => k = g ∨ w.heap.size ≤ k) (fun k hk _ => hk.elim (fun e => .inr (by omega)) .inl))
      have HP := Aside0.mk (show ∀ v, Ch (fun k => k = g) w (w1.setCell ⟨w.heap.size, 0, none⟩ v) from fun v => hch1.setCell (p := ⟨w.heap.size, 0, none⟩) (.inr (Nat.le_refl _)) v)
      have HQ := Aside0.mk (show ∀ v, (w1.setCell ⟨w.heap.size, 0, none⟩ v).heap[g]? = some (.cells q.cells 25 (0, 0)) from fun v => (Below.heap_setCell w1 ⟨w.heap.size, 0, none⟩ v g (by show g ≠ w.heap.size; omega)).trans hq)
      have HR := Aside0.mk (show ∀ v, (w1.setCell ⟨w.heap.size, 0, none⟩ v).heap[w.heap.size]? = some (.cells #[v] 4 (0, 0)) from fun v => blk_upd 0 v hr1 rfl)
      clear hq hch hp' hC' ho' hr1 hch1 C1
      go_wp2_with fail
      refine leaves_cons (f := 39) (args := #[.pointer (some ⟨w.heap.size, 0, none⟩)]) (by simp) (by simp [go_sem]) ?_
      refine (catch_idle _ _).mono ?_
      rintro e u' w'' ⟨rfl, rfl, rfl⟩
      have hc2 := blk_cell (HR.out (.bool b)) 0
      rw [E2.out]
      refine ⟨.bool b, by simp [results, Try.results28, go_sem, hc2], RdPost.mk_ ?_ (HP.out _) ?_⟩
      · rw [HBB.out]; by_cases h : n = 0 <;> simp [h]
      · intro q' h'
        split at h'
        · cases h'; exact HQ.out _
        · cases h'
end Go.Proofs.Ythkdihpbdaehbaa.Pr
namespace Go.Proofs.Ythkdihpbdaehbaa.Pr
set_option linter.unusedVariables false
set_option linter.unusedSimpArgs false
open Go.RowKit Go.Proofs.YthkdihpbdaehbaaW.PrintWords Go.Proofs.YthkdihpbdaehbaaW.PrintLast Go.Proofs.YthkdihpbdaehbaaW.PrintMore Go.Proofs.Ythkdihpbdaehbaa.Bs
def getOf (r : Option Rq) : Rq × Int := match r with | some q => if rightB q = true then (q, 0) else (zeroReq, 61) | none => (zeroReq, 61)
def getReq (xs : List Int) : Rq × Int := getOf (readReq xs)
def set7 (w : World) (g : Nat) (b0 b1 b2 b3 b4 b5 b6 : Value) : World := ((((((w.setCell ⟨g, 0, none⟩ b0).setCell ⟨g, 1, none⟩ b1).setCell ⟨g, 2, none⟩ b2).setCell ⟨g, 3, none⟩ b3).setCell ⟨g, 4, none⟩ b4).setCell ⟨g, 5, none⟩ b5).setCell ⟨g, 6, none⟩ b6
theorem set7_q {w : World} {g t : Nat} {a0 a1 a2 a3 a4 a5 a6 : Value} (h : w.heap[g]? = some (.cells #[a0, a1, a2, a3, a4, a5, a6] t (0, 0))) (b0 b1 b2 b3 b4 b5 b6 : Value) : (set7 w g b0 b1 b2 b3 b4 b5 b6).heap[g]? = some (.cells #[b0, b1, b2, b3, b4, b5, b6] t (0, 0)) := by
  have h0 : (w.setCell ⟨g, 0, none⟩ b0).heap[g]? = some (.cells #[b0, a1, a2, a3, a4, a5, a6] t (0, 0)) := blk_upd 0 b0 h rfl
  have h1 : ((w.setCell ⟨g, 0, none⟩ b0).setCell ⟨g, 1, none⟩ b1).heap[g]? = some (.cells #[b0, b1, a2, a3, a4, a5, a6] t (0, 0)) := blk_upd 1 b1 h0 rfl
  have h2 : (((w.setCell ⟨g, 0, none⟩ b0).setCell ⟨g, 1, none⟩ b1).setCell ⟨g, 2, none⟩ b2).heap[g]? = some (.cells #[b0, b1, b2, a3, a4, a5, a6] t (0, 0)) := blk_upd 2 b2 h1 rfl
  have h3 : ((((w.setCell ⟨g, 0, none⟩ b0).setCell ⟨g, 1, none⟩ b1).setCell ⟨g, 2, none⟩ b2).setCell ⟨g, 3, none⟩ b3).heap[g]? = some (.cells #[b0, b1, b2, b3, a4, a5, a6] t (0, 0)) := blk_upd 3 b3 h2 rfl
  have h4 : (((((w.setCell ⟨g, 0, none⟩ b0).setCell ⟨g, 1, none⟩ b1).setCell ⟨g, 2, none⟩ b2).setCell ⟨g, 3, none⟩ b3).setCell ⟨g, 4, none⟩ b4).heap[g]? = some (.cells #[b0, b1, b2, b3, b4, a5, a6] t (0, 0)) := blk_upd 4 b4 h3 rfl
  have h5 : ((((((w.setCell ⟨g, 0, none⟩ b0).setCell ⟨g, 1, none⟩ b1).setCell ⟨g, 2, none⟩ b2).setCell ⟨g, 3, none⟩ b3).setCell ⟨g, 4, none⟩ b4).setCell ⟨g, 5, none⟩ b5).heap[g]? = some (.cells #[b0, b1, b2, b3, b4, b5, a6] t (0, 0)) := blk_upd 5 b5 h4 rfl
  have h6 : (((((((w.setCell ⟨g, 0, none⟩ b0).setCell ⟨g, 1, none⟩ b1).setCell ⟨g, 2, none⟩ b2).setCell ⟨g, 3, none⟩ b3).setCell ⟨g, 4, none⟩ b4).setCell ⟨g, 5, none⟩ b5).setCell ⟨g, 6, none⟩ b6).heap[g]? = some (.cells #[b0, b1, b2, b3, b4, b5, b6] t (0, 0)) := blk_upd 6 b6 h5 rfl
  exact h6
theorem set7_b {w0 w : World} {B g : Nat} (h : Below B w0 w) (hg : B ≤ g) (b0 b1 b2 b3 b4 b5 b6 : Value) : Below B w0 (set7 w g b0 b1 b2 b3 b4 b5 b6) :=
  ((((((h.setCell (p := ⟨g, 0, none⟩) hg b0).setCell (p := ⟨g, 1, none⟩) hg b1).setCell (p := ⟨g, 2, none⟩) hg b2).setCell (p := ⟨g, 3, none⟩) hg b3).setCell (p := ⟨g, 4, none⟩) hg b4).setCell (p := ⟨g, 5, none⟩) hg b5).setCell (p := ⟨g, 6, none⟩) hg b6
def GetPost (w : World) (r : Rq × Int) (e : Ending) (w' : World) : Prop := e = .returned (.tuple #[.agg r.1.cells, .int .i64 r.2]) ∧ Below w.heap.size w w'
set_option maxRecDepth 100000 in
set_option maxHeartbeats 400000 in
theorem getReq_calls (w : World) (A : Option Addr) (c : Nat) (xs : List Int) (hC : (Kd.int .u8).C w A xs.length xs) (hl : xs.length ≤ c) (hby : Bys xs) :
    Calls Try.prog 12 #[.slice A xs.length c] w (GetPost w (getReq xs)) := by
  have hmf : ∀ (fn : Fn) (first cap : Array Value) (w : World), (Instr.makeFunc fn first cap).run Try.prog w = .ok (.func fn first cap) w := fun _ _ _ _ => rfl
  obtain ⟨W, hW⟩ : ∃ W, W = (w.alloc (.cells #[.int .i64 0, .string ⟨#[]⟩, .int .i64 0, .int .i64 0, .int .i64 0, .string ⟨#[]⟩, .string ⟨#[]⟩] 25)).alloc (.cells #[.int .i64 0, .string ⟨#[]⟩, .int .i64 0, .int .i64 0, .int .i64 0, .string ⟨#[]⟩, .string ⟨#[]⟩] 25) := ⟨_, rfl⟩
  have hWch : Ch (fun _ => False) w W := by rw [hW]; exact ((Ch.refl _ w).alloc _).alloc _
  have hWp : W.heap[w.heap.size + 1]? = some (.cells zeroReq.cells 25 (0, 0)) := by
    have h := heap_alloc_new (w.alloc (.cells #[.int .i64 0, .string ⟨#[]⟩, .int .i64 0, .int .i64 0, .int .i64 0, .string ⟨#[]⟩, .string ⟨#[]⟩] 25)) (.cells #[.int .i64 0, .string ⟨#[]⟩, .int .i64 0, .int .i64 0, .int .i64 0, .string ⟨#[]⟩, .string ⟨#[]⟩] 25)
    rw [show (w.alloc (.cells #[.int .i64 0, .string ⟨#[]⟩, .int .i64 0, .int .i64 0, .int .i64 0, .string ⟨#[]⟩, .string ⟨#[]⟩] 25)).heap.size = w.heap.size + 1 by simp, ← hW] at h
    exact h
  have hWr : W.heap[w.heap.size]? = some (.cells zeroReq.cells 25 (0, 0)) := by
    rw [hW]
    exact (Below.heap_alloc _ _ _ (by simp)).trans (heap_alloc_new w _)
  have C1 := read_req w W (w.heap.size + 1) A c xs hC hl hby (Ch.to_below hWch (fun _ h => h.elim) (Nat.le_refl _)) hWp (by omega)
  have HW := Aside0.mk hW
  have HR := Aside0.mk hWr
  have HWch := Aside0.mk (hWch.mono (S' := fun k => k = w.heap.size + 1) (fun _ h _ => h.elim))
  rw [hW] at C1
  clear hC hl hby hWch hWp hWr hW
  go_enter Try.func12, Try.ntmps12
  go_wp2_with fail
  refine C1.mono ?_
  rintro e w1 ⟨rfl, hch, hq⟩
  rw [← HW.out] at hch
  have hr1 := hch.heap HR.out (by omega)
  obtain ⟨m0, m1, m2, m3, m4, m5, m6, m7⟩ := blk7 hr1
  have hch1 : Ch (fun k => k = w.heap.size + 1) w w1 := HWch.out.trans (hch.mono (fun k hk _ => .inl hk))
  have hb1 : Below w.heap.size w w1 := Ch.to_below hch1 (fun k hk => by omega) (Nat.le_refl _)
  have HB := Aside0.mk hb1
  have hlt := blk_lt hr1
  clear C1 hch hch1 hb1
  have E0 : getReq xs = getOf (readReq xs) := rfl
  generalize readReq xs = R at *
  have E := Aside0.mk E0
  clear E0
  cases R with
  | none =>
    have E2 := Aside0.mk (show getReq xs = (zeroReq, 61) from E.out)
    clear hq E
    go_wp2_with fail
    have S := set7_q hr1 (.int .i64 0) (.string ⟨#[]⟩) (.int .i64 0) (.int .i64 0) (.int .i64 0) (.string ⟨#[]⟩) (.string ⟨#[]⟩)
    have SB := set7_b HB.out (Nat.le_refl _) (.int .i64 0) (.string ⟨#[]⟩) (.int .i64 0) (.int .i64 0) (.int .i64 0) (.string ⟨#[]⟩) (.string ⟨#[]⟩)
    rw [E2.out]
    change bodyPost Try.prog Try.f12 _ Exit.ret _ (set7 w1 w.heap.size (.int .i64 0) (.string ⟨#[]⟩) (.int .i64 0) (.int .i64 0) (.int .i64 0) (.string ⟨#[]⟩) (.string ⟨#[]⟩))
    clear m0 m1 m2 m3 m4 m5 m6 m7
    generalize set7 w1 w.heap.size (.int .i64 0) (.string ⟨#[]⟩) (.int .i64 0) (.int .i64 0) (.int .i64 0) (.string ⟨#[]⟩) (.string ⟨#[]⟩) = w2 at *
    obtain ⟨d0, d1, d2, d3, d4, d5, d6, d7⟩ := blk7 S
    refine bodyPost_ret (v := .tuple #[.agg zeroReq.cells, .int .i64 61]) (by simp [results, Try.results12, go_sem, d0, d1, d2, d3, d4, d5, d6, zeroReq, Rq.cells, nil8]) rfl ⟨rfl, SB⟩
  | some q =>
    have hq1 := hq q rfl
    have C10 := right_calls w1 q
    obtain ⟨k, s, o, i, p, nm, os⟩ := q
    simp only [Rq.cells] at hq1 C10
    obtain ⟨c0, c1, c2, c3, c4, c5, c6, c7⟩ := blk7 hq1
    have HQ1 := Aside0.mk hq1
    have HR1 := Aside0.mk hr1
    clear hq hq1 hr1 m0 m1 m2 m3 m4 m5 m6 m7
    generalize hrb : rightB ⟨k, s, o, i, p, nm, os⟩ = rb at *
    have E2 : getReq xs = if rb = true then (⟨k, s, o, i, p, nm, os⟩, 0) else (zeroReq, 61) := by rw [E.out, getOf, hrb]
    have E3 := Aside0.mk E2
    clear hrb E2 E
    cases rb with
    | false =>
      go_wp2_with fail
      refine C10.mono ?_
      rintro e w3 ⟨rfl, hb3⟩
      have hr3 := (hb3.block w.heap.size (blk_lt HR1.out)).trans HR1.out
      have HB3 := Aside0.mk (below_step HB.out hb3)
      obtain ⟨m0, m1, m2, m3, m4, m5, m6, m7⟩ := blk7 hr3
      have S := Aside0.mk (set7_q hr3 (.int .i64 0) (.string ⟨#[]⟩) (.int .i64 0) (.int .i64 0) (.int .i64 0) (.string ⟨#[]⟩) (.string ⟨#[]⟩))
      have SB := Aside0.mk (set7_b HB3.out (Nat.le_refl _) (.int .i64 0) (.string ⟨#[]⟩) (.int .i64 0) (.int .i64 0) (.int .i64 0) (.string ⟨#[]⟩) (.string ⟨#[]⟩))
      clear hb3 hr3 c0 c1 c2 c3 c4 c5 c6 c7 C10
      go_wp2_with fail
      rw [E3.out]
      change bodyPost Try.prog Try.f12 _ Exit.ret _ (set7 w3 w.heap.size (.int .i64 0) (.string ⟨#[]⟩) (.int .i64 0) (.int .i64 0) (.int .i64 0) (.string ⟨#[]⟩) (.string ⟨#[]⟩))
      clear m0 m1 m2 m3 m4 m5 m6 m7
      generalize set7 w3 w.heap.size (.int .i64 0) (.string ⟨#[]⟩) (.int .i64 0) (.int .i64 0) (.int .i64 0) (.string ⟨#[]⟩) (.string ⟨#[]⟩) = w2 at *
      obtain ⟨d0, d1, d2, d3, d4, d5, d6, d7⟩ := blk7 S.out
      refine bodyPost_ret (v := .tuple #[.agg zeroReq.cells, .int .i64 61]) (by simp [results, Try.results12, go_sem, d0, d1, d2, d3, d4, d5, d6, zeroReq, Rq.cells, nil8]) rfl ⟨rfl, SB.out⟩
    | true =>
      go_wp2_with fail
      refine C10.mono ?_
      rintro e w3 ⟨rfl, hb3⟩
      have hr3 := (hb3.block w.heap.size (blk_lt HR1.out)).trans HR1.out
      have hq3 := (hb3.block (w.heap.size + 1) (blk_lt HQ1.out)).trans HQ1.out
      have HB3 := Aside0.mk (below_step HB.out hb3)
      obtain ⟨m0, m1, m2, m3, m4, m5, m6, m7⟩ := blk7 hr3
      have S := Aside0.mk (set7_q hr3 (.int .i64 k) (.string s) (.int .i64 o) (.int .i64 i) (.int .i64 p) (.string nm) (.string os))
      have SB := Aside0.mk (set7_b HB3.out (Nat.le_refl _) (.int .i64 k) (.string s) (.int .i64 o) (.int .i64 i) (.int .i64 p) (.string nm) (.string os))
      clear c0 c1 c2 c3 c4 c5 c6 c7
      obtain ⟨c0, c1, c2, c3, c4, c5, c6, c7⟩ := blk7 hq3
      clear hb3 hr3 hq3 C10
      go_wp2_with fail
      rw [E3.out]
      change bodyPost Try.prog Try.f12 _ Exit.ret _ (set7 w3 w.heap.size (.int .i64 k) (.string s) (.int .i64 o) (.int .i64 i) (.int .i64 p) (.string nm) (.string os))
      clear m0 m1 m2 m3 m4 m5 m6 m7
      generalize set7 w3 w.heap.size (.int .i64 k) (.string s) (.int .i64 o) (.int .i64 i) (.int .i64 p) (.string nm) (.string os) = w2 at *
      obtain ⟨d0, d1, d2, d3, d4, d5, d6, d7⟩ := blk7 S.out
      refine bodyPost_ret (v := .tuple #[.agg #[.int .i64 k, .string s, .int .i64 o, .int .i64 i, .int .i64 p, .string nm, .string os], .int .i64 0]) (by simp [results, Try.results12, go_sem, d0, d1, d2, d3, d4, d5, d6]) rfl ⟨rfl, SB.out⟩
end Go.Proofs.Ythkdihpbdaehbaa.Pr
namespace Go.Proofs.Ythkdihpbdaehbaa.Pr
set_option linter.unusedVariables false
set_option linter.unusedSimpArgs false
open Go.RowKit Go.Proofs.YthkdihpbdaehbaaW.PrintWords Go.Proofs.YthkdihpbdaehbaaW.PrintLast Go.Proofs.YthkdihpbdaehbaaW.PrintMore Go.Proofs.Ythkdihpbdaehbaa.Bs
theorem fold_be (m : Nat) : ∀ (s : Nat) (a : Int), (be s m).foldl (fun a c => a * 256 + c) a = a * ((256 ^ s : Nat) : Int) + ((m % 256 ^ s : Nat) : Int)
  | 0, a => by simp [be, Nat.mod_one]
  | s + 1, a => by
    have e1 : (m : Int) / 256 ^ s % 256 = ((m / 256 ^ s % 256 : Nat) : Int) := by
      rw [Int.natCast_emod, Int.natCast_ediv, Int.natCast_pow]; rfl
    rw [be, List.foldl_cons, fold_be m s, e1, Nat.pow_succ, Nat.mod_mul]
    generalize 256 ^ s = P
    generalize m / P % 256 = x
    generalize m % P = r
    rw [Int.natCast_mul, Int.natCast_add, Int.natCast_mul, Int.add_mul, Int.mul_assoc, Int.mul_comm (256 : Int) (P : Int)]
    rw [Int.mul_comm (x : Int) (P : Int)]
    show _ = a * ((P : Int) * 256) + _
    omega
theorem val_be (s : Nat) (n : Int) (h0 : 0 ≤ n) (h1 : n < ((256 ^ s : Nat) : Int)) : val (be s n) = n := by
  obtain ⟨m, rfl⟩ := Int.eq_ofNat_of_zero_le h0
  rw [val, fold_be, Nat.mod_eq_of_lt (by omega)]
  omega
theorem strOf_bytes (s : ByteArray) : strOfNums (bytesOf s) = s := by
  apply ByteArray.ext
  show ((bytesOf s).map fun n => UInt8.ofNat n.toNat).toArray = s.data
  rw [bytesOf, List.map_map]
  have : (fun n : Int => UInt8.ofNat n.toNat) ∘ (fun b : UInt8 => (b.toNat : Int)) = id := by
    funext b; simp
  rw [this, List.map_id]
theorem numP_be (s : Nat) (n : Int) (r : List Int) (h0 : 0 ≤ n) (h1 : n < ((256 ^ s : Nat) : Int)) : numP s (be s n ++ r) = some (n, r) := by
  have hl := be_length s n
  rw [numP, if_neg (by rw [List.length_append, hl]; omega), List.take_left' hl, List.drop_left' hl, val_be s n h0 h1]
theorem textP_b (s : ByteArray) (r : List Int) (h : s.size < 65536) : textP (textB s ++ r) = some (s, r) := by
  have hl := be_length 2 (s.size : Int)
  have hb := bytesOf_length s
  have hv : val (be 2 (s.size : Int)) = s.size := val_be 2 _ (by omega) (by simp; omega)
  have e : textB s ++ r = be 2 (s.size : Int) ++ (bytesOf s ++ r) := by rw [textB, List.append_assoc]
  rw [e, textP, List.take_left' hl, hv, Int.toNat_natCast, if_neg (by rw [List.length_append, hl, List.length_append, hb]; omega), List.drop_left' hl, List.take_left' hb, strOf_bytes, ← List.drop_drop, List.drop_left' hl, List.drop_left' hb]
theorem size0 (s : ByteArray) (h : s.size = 0) : s = nil8 := by
  apply ByteArray.ext
  exact Array.eq_empty_of_size_eq_zero h
theorem parse_bytes (q : Rq) (h : rightB q = true) : parseReq q.bytes = some (q, []) := by
  have hs := right_small q h
  obtain ⟨⟨ka, kb⟩, ⟨oa, ob⟩, ⟨ia, ib⟩, ⟨pa, pb⟩, sa, na, osa⟩ := hs
  rw [right_ref] at h
  obtain ⟨k, s, o, i, p, nm, os⟩ := q
  simp only [Rq.op] at *
  have P1 : ∀ n : Int, 0 ≤ n → n ≤ 255 → ∀ r, numP 1 (be 1 n ++ r) = some (n, r) := fun n h0 h1 r => numP_be 1 n r h0 (by show n < 256; omega)
  have P4 : ∀ n : Int, 0 ≤ n → n ≤ 2147483647 → ∀ r, numP 4 (be 4 n ++ r) = some (n, r) := fun n h0 h1 r => numP_be 4 n r h0 (by show n < 4294967296; omega)
  simp only [refN] at h
  rw [if_neg (by omega), if_neg (by omega), if_neg (by omega)] at h
  by_cases h4 : ¬ k = 2 ∧ ¬ s.size = 0
  · rw [if_pos h4] at h; cases h
  rw [if_neg h4] at h
  by_cases k3 : k = 3
  · subst k3
    have e : Rq.bytes ⟨3, s, o, i, p, nm, os⟩ = be 1 3 ++ (be 1 o ++ (be 4 i ++ (be 4 p ++ (textB nm ++ (textB os ++ []))))) := by simp [Rq.bytes]
    rw [size0 s (by omega)] at e ⊢
    rw [e, parseReq, P1 3 (by decide) (by decide)]
    simp only [show ¬ (3 : Int) = 2 by decide, if_false, if_true]
    rw [P1 o oa ob]
    simp only []
    rw [P4 i ia ib]
    simp only []
    rw [P4 p pa pb]
    simp only []
    rw [textP_b nm _ (by omega)]
    simp only []
    rw [textP_b os _ (by omega)]
  rw [if_neg k3] at h
  by_cases h5 : ¬ k = 6 ∧ ¬ i = 0
  · rw [if_pos h5] at h; cases h
  rw [if_neg h5] at h
  by_cases h6 : fitsB i = false
  · rw [if_pos h6] at h; cases h
  rw [if_neg h6] at h
  by_cases h7 : ¬ o = 0
  · rw [if_pos h7] at h; cases h
  rw [if_neg h7] at h
  by_cases h8 : ¬ p = 0
  · rw [if_pos h8] at h; cases h
  rw [if_neg h8] at h
  by_cases h9 : ¬ nm.size = 0
  · rw [if_pos h9] at h; cases h
  rw [if_neg h9] at h
  have h10 : os.size = 0 := of_decide_eq_true h
  obtain rfl : o = 0 := by omega
  obtain rfl : p = 0 := by omega
  rw [size0 nm (by omega), size0 os h10]
  by_cases k2 : k = 2
  · subst k2
    obtain rfl : i = 0 := by omega
    have e : Rq.bytes ⟨2, s, 0, 0, 0, nil8, nil8⟩ = be 1 2 ++ (textB s ++ []) := by simp [Rq.bytes]
    rw [e, parseReq, P1 2 (by decide) (by decide)]
    simp only [if_true]
    rw [textP_b s _ (by omega)]
  rw [size0 s (by omega)]
  by_cases k6 : k = 6
  · subst k6
    have e : Rq.bytes ⟨6, nil8, 0, i, 0, nil8, nil8⟩ = be 1 6 ++ (be 4 i ++ []) := by simp [Rq.bytes]
    rw [e, parseReq, P1 6 (by decide) (by decide)]
    simp only [show ¬ (6 : Int) = 2 by decide, show ¬ (6 : Int) = 3 by decide, if_false, if_true]
    rw [P4 i ia ib]
  obtain rfl : i = 0 := by omega
  have e : Rq.bytes ⟨k, nil8, 0, 0, 0, nil8, nil8⟩ = be 1 k ++ [] := by simp [Rq.bytes, k2, k3, k6]
  rw [e, parseReq, P1 k (by omega) (by omega)]
  simp only [if_neg k2, if_neg k3, if_neg k6]
theorem get_bytes (q : Rq) (h : rightB q = true) (hl : q.bytes.length ≤ 4200) : getReq q.bytes = (q, 0) := by
  rw [getReq, readReq, if_neg (by omega), parse_bytes q h, getOf, if_pos h]
def wq : Rq := ⟨2, ⟨#[97]⟩, 0, 0, 0, nil8, nil8⟩
theorem wq_right : rightB wq = true := by decide
theorem wq_bytes : wq.bytes = [2, 0, 1, 97] := by decide
theorem wq_put : putReq wq = ([2, 0, 1, 97], 0) := by
  rw [putReq, if_neg (by rw [wq_right]; decide), wq_bytes, if_neg (by decide)]
theorem wq_get : getReq [2, 0, 1, 97] = (wq, 0) := by
  rw [← wq_bytes]; exact get_bytes wq wq_right (by rw [wq_bytes]; decide)
theorem bys_bytes (q : Rq) : Bys q.bytes := by
  have ht : ∀ s : ByteArray, Bys (textB s) := by
    intro s x hx
    simp only [textB, List.mem_append] at hx
    rcases hx with hx | hx
    · exact be_bytes _ _ x hx
    · simp only [bytesOf, List.mem_map] at hx
      obtain ⟨b, _, rfl⟩ := hx
      have := b.toNat_lt
      omega
  intro x hx
  simp only [Rq.bytes, List.mem_append] at hx
  rcases hx with hx | hx
  · exact be_bytes _ _ x hx
  · split at hx
    · exact ht _ x hx
    · split at hx
      · simp only [List.mem_append] at hx
        rcases hx with (((hx | hx) | hx) | hx) | hx
        · exact be_bytes _ _ x hx
        · exact be_bytes _ _ x hx
        · exact be_bytes _ _ x hx
        · exact ht _ x hx
        · exact ht _ x hx
      · split at hx
        · exact be_bytes _ _ x hx
        · cases hx
end Go.Proofs.Ythkdihpbdaehbaa.Pr
namespace Go.Proofs.Ythkdihpbdaehbaa.Pr
set_option linter.unusedVariables false
set_option linter.unusedSimpArgs false
open Go.RowKit Go.Proofs.YthkdihpbdaehbaaW.PrintWords Go.Proofs.YthkdihpbdaehbaaW.PrintLast Go.Proofs.YthkdihpbdaehbaaW.PrintMore Go.Proofs.Ythkdihpbdaehbaa.Bs
theorem strOf_data (l : List Int) : strOfNums l = ⟨(l.map fun n => UInt8.ofNat n.toNat).toArray⟩ := rfl
set_option maxRecDepth 100000 in
set_option maxHeartbeats 400000 in
theorem works_calls (w : World) : Calls Try.prog 7 #[] w fun e w' => e = .returned (.bool true) ∧ Below w.heap.size w w' := by
  have C1 := putReq_calls w wq
  rw [wq_put] at C1
  have E : ∀ w, (binOp .eql 25 (.agg wq.cells) (.agg wq.cells)).run Try.prog w = .ok (.bool true) w := fun w => by
    rw [eqReq]; simp
  simp only [Rq.cells, wq, nil8] at C1 E
  go_enter Try.func7, Try.ntmps7
  go_wp2_with fail
  refine C1.mono ?_
  rintro e w1 ⟨⟨A, c, rfl, hR⟩, hB⟩
  have hRd := Kd.R_reads' hR
  have C2 := getReq_calls w1 A c [2, 0, 1, 97] hRd.2.2 hRd.2.1 (wq_bytes ▸ bys_bytes wq)
  rw [wq_get] at C2
  unfold GetPost at C2
  simp only [Rq.cells, wq, nil8] at C2
  have HR := Aside0.mk hR
  have HB := Aside0.mk hB
  clear hR hB hRd C1
  go_wp2_with fail
  refine C2.mono ?_
  rintro e w2 ⟨rfl, hB2⟩
  have HB2 := Aside0.mk (below_step HB.out hB2)
  have hR2 := Kd.R_below HR.out hB2
  have hst : ∀ o, (convert 27 9 (.slice A 4 c)).run Try.prog (w2.alloc o) = .ok (.string ⟨#[2, 0, 1, 97]⟩) (w2.alloc o) := fun o => Kd.C_string Try.underlying27 Try.underlying5 Try.underlying9 (Kd.C_alloc (Kd.R_reads' hR2).2.2 o)
  clear hR2 hB2 C2
  go_wp2_with fail
  go_ret
  exact ⟨rfl, by repeat (first | exact HB2.out | apply below_alloc | apply pw_below_drewN | apply below_drew1)⟩
end Go.Proofs.Ythkdihpbdaehbaa.Pr
namespace Go.Proofs.Ythkdihpbdaehbaa.Pr
set_option linter.unusedVariables false
set_option linter.unusedSimpArgs false
open Go.RowKit Go.Proofs.YthkdihpbdaehbaaW.PrintWords Go.Proofs.YthkdihpbdaehbaaW.PrintLast Go.Proofs.YthkdihpbdaehbaaW.PrintMore Go.Proofs.Ythkdihpbdaehbaa.Bs
/-- A reply; its nodes' slice is handed apart. -/
structure Rp where
  kind : Int
  err : Int
  txn : Int
  id : Int
  time : Int
  vt : Int
  nodes : List Int
  vb : Bool
  tag : Int
  vv : Int
  vs : ByteArray
  s : ByteArray
def Rp.cells (r : Rp) (nv : Value) : Array Value := #[.int .i64 r.kind, .int .i64 r.err, .int .i64 r.txn, .int .i64 r.id, .int .u64 r.time, .int .i64 r.vt, nv, .bool r.vb, .int .i64 r.tag, .int .i64 r.vv, .string r.vs, .string r.s]
def flag (b : Bool) : Int := if b then 1 else 0
/-- A new variable is laid. -/
theorem new_on (F : FuncId) (B : Nat) (w w1 : World) (p qb t : Nat) (bv : Value) (cs : Array Value) (xs ys : List Int) (v : Value) (T : Nat) (args : Array Value) (h : On B w p bv qb cs t xs w1) (hne : qb ≠ p) (ht : t ≠ 5) (hBw : B ≤ w.heap.size)
    (C : ∀ bv', Put B (w1.alloc (.cells #[v] T)) p bv' xs → (w1.heap.size ≠ p) → some w1.heap.size ≠ bv'.ownBlock → Calls Try.prog F args (w1.alloc (.cells #[v] T)) fun e w' => e = .returned (.tuple #[]) ∧ Laid B (w1.alloc (.cells #[v] T)) p bv' ys w') :
    Calls Try.prog F args (w1.alloc (.cells #[v] T)) fun e w' => e = .returned (.tuple #[]) ∧ On B w p bv qb cs t ys w' ∧ w'.heap[w1.heap.size]? = some (.cells #[v] T (0, 0)) := by
  obtain ⟨⟨⟨bv', ⟨hp, hat⟩⟩, hch⟩, hq⟩ := h
  have hn := Kd.R_ne hp.row hq (fun e => ht e.symm)
  have hlt : ∀ k, some k = bv'.ownBlock → k < w1.heap.size := fun k hk => own_lt (Kd.own_of_R hp.row) k hk.symm
  have hpl := blk_lt hp.cells
  have hne1 : w1.heap.size ≠ p := by omega
  have hne2 : some w1.heap.size ≠ bv'.ownBlock := fun e => by have := hlt _ e; omega
  have hW : Below w1.heap.size w1 (w1.alloc (.cells #[v] T)) := below_alloc (Below.refl _ _) _
  refine (C bv' (hp.step (S := fun _ => False) ((Ch.refl _ w1).alloc _) (fun h => h) (fun _ _ h => h)) hne1 hne2).mono ?_
  rintro e w' ⟨rfl, hL⟩
  have hL' := Laid.before hL hW
  exact ⟨rfl, ⟨Laid.then_ hat hch hL', hL'.ch.heap hq (by rintro (e | e); exact hne e; exact hn e)⟩, hL.ch.heap (heap_alloc_new w1 _) (by rintro (e | e); exact hne1 e; exact hne2 e)⟩
theorem int_new (B : Nat) (w w1 : World) (p qb t : Nat) (bv : Value) (cs : Array Value) (xs : List Int) (n : Int) (size : Nat) (h : On B w p bv qb cs t xs w1) (hne : qb ≠ p) (ht : t ≠ 5) (hBw : B ≤ w.heap.size) (h0 : 0 ≤ n) (h1 : n ≤ 9223372036854775807) (hs : size ≤ 8) (hl : xs.length ≤ 1000000) :
    Calls Try.prog 37 #[.pointer (some ⟨p, 0, none⟩), .pointer (some ⟨w1.heap.size, 0, none⟩), .int .i64 size] (w1.alloc (.cells #[.int .i64 n] 3)) fun e w' => e = .returned (.tuple #[]) ∧ On B w p bv qb cs t (xs ++ be size n) w' ∧ w'.heap[w1.heap.size]? = some (.cells #[.int .i64 n] 3 (0, 0)) :=
  new_on 37 B w w1 p qb t bv cs xs _ _ 3 _ h hne ht hBw (fun bv' hp e1 e2 => integer_put B _ p bv' xs ⟨w1.heap.size, 0, none⟩ n size hp (blk_cell (heap_alloc_new w1 _) 0) (blk_frozen (heap_alloc_new w1 _) 0) e1 e2 (by have := h.l.ch.size; simp; omega) h0 h1 hs hl)
theorem num_new (B : Nat) (w w1 : World) (p qb t : Nat) (bv : Value) (cs : Array Value) (xs : List Int) (n : Int) (size : Nat) (h : On B w p bv qb cs t xs w1) (hne : qb ≠ p) (ht : t ≠ 5) (hBw : B ≤ w.heap.size) (h0 : 0 ≤ n) (hs : size ≤ 8) (hl : xs.length ≤ 1000000) :
    Calls Try.prog 41 #[.pointer (some ⟨p, 0, none⟩), .pointer (some ⟨w1.heap.size, 0, none⟩), .int .i64 size] (w1.alloc (.cells #[.int .u64 n] 37)) fun e w' => e = .returned (.tuple #[]) ∧ On B w p bv qb cs t (xs ++ be size n) w' ∧ w'.heap[w1.heap.size]? = some (.cells #[.int .u64 n] 37 (0, 0)) :=
  new_on 41 B w w1 p qb t bv cs xs _ _ 37 _ h hne ht hBw (fun bv' hp e1 e2 => number_put B _ p bv' xs ⟨w1.heap.size, 0, none⟩ n size hp (blk_cell (heap_alloc_new w1 _) 0) e1 e2 (by have := h.l.ch.size; simp; omega) h0 hs hl)
theorem num_on (B : Nat) (w w1 : World) (p qb t i : Nat) (bv : Value) (cs : Array Value) (xs : List Int) (n : Int) (size : Nat) (h : On B w p bv qb cs t xs w1) (hne : qb ≠ p) (ht : t ≠ 5) (hc : cs[i]? = some (.int .u64 n)) (hBw : B ≤ w.heap.size) (h0 : 0 ≤ n) (hs : size ≤ 8) (hl : xs.length ≤ 1000000) :
    Calls Try.prog 41 #[.pointer (some ⟨p, 0, none⟩), .pointer (some ⟨qb, i, none⟩), .int .i64 size] w1 fun e w' => e = .returned (.tuple #[]) ∧ On B w p bv qb cs t (xs ++ be size n) w' := by
  obtain ⟨⟨⟨bv', ⟨hp, hat⟩⟩, hch⟩, hq⟩ := h
  have hn := Kd.R_ne hp.row hq (fun e => ht e.symm)
  refine (number_put B w1 p bv' xs ⟨qb, i, none⟩ n size hp ((blk_cell hq i).trans hc) hne hn (Nat.le_trans hBw hch.size) h0 hs hl).mono ?_
  rintro e w' ⟨rfl, hL⟩
  exact ⟨rfl, Laid.then_ hat hch hL, hL.ch.heap hq (by rintro (e | e); exact hne e; exact hn e)⟩
/-- A cell of the thing is stored what it holds. -/
theorem On.same {B : Nat} {w w1 : World} {p qb t i : Nat} {bv v : Value} {cs : Array Value} {xs : List Int} (h : On B w p bv qb cs t xs w1) (hne : qb ≠ p) (ht : t ≠ 5) (hc : cs[i]? = some v) : On B w p bv qb cs t xs (w1.setCell ⟨qb, i, none⟩ v) := by
  obtain ⟨⟨⟨bv', ⟨hp, hat⟩⟩, hch⟩, hq⟩ := h
  have hn := Kd.R_ne hp.row hq (fun e => ht e.symm)
  have hcell := (blk_cell hq i).trans hc
  have hs2 := Ch.same (Ch.refl (fun _ => False) w1) hcell
  exact ⟨⟨⟨bv', And.intro (hp.step hs2 (fun h => h) (fun _ _ h => h)) hat⟩, hch.same hcell⟩, hs2.heap hq (fun h => h)⟩
set_option maxRecDepth 100000 in
set_option maxHeartbeats 400000 in
theorem truth_put (B : Nat) (w w1 : World) (p qb t i : Nat) (bv : Value) (cs : Array Value) (xs : List Int) (b : Bool) (h : On B w p bv qb cs t xs w1) (hne : qb ≠ p) (ht : t ≠ 5) (hc : cs[i]? = some (.bool b)) (hBw : B ≤ w.heap.size) (hl : xs.length ≤ 1000000) :
    Calls Try.prog 43 #[.pointer (some ⟨p, 0, none⟩), .pointer (some ⟨qb, i, none⟩)] w1 fun e w' => e = .returned (.bool true) ∧ On B w p bv qb cs t (xs ++ be 1 (flag b)) w' := by
  have hgc := (blk_cell h.q i).trans hc
  have hgf := blk_frozen h.q i
  have C1 := int_new B w w1 p qb t bv cs xs (flag b) 1 h hne ht hBw (by cases b <;> decide) (by cases b <;> decide) (by decide) hl
  have hlt1 := blk_lt h.q
  have hga : ∀ z, (w1.alloc z).cell? ⟨qb, i, none⟩ = some (.bool b) := fun z => pw_cell_below (below_alloc (Below.refl _ _) z) hgc
  have HE := Aside0.mk (And.intro hc (And.intro hne ht))
  clear h
  cases b with
  | true =>
    simp only [flag, if_true, Bool.false_eq_true, if_false] at C1
    go_enter Try.func43, Try.ntmps43
    go_wp2_with fail
    refine C1.mono ?_
    rintro e w2 ⟨rfl, o2, hn2⟩
    have hgc2 := (blk_cell o2.q i).trans hc
    have hgf2 := blk_frozen o2.q i
    obtain ⟨m0, m1⟩ := blk1 hn2
    have hx0 : (w2.setCell ⟨qb, i, none⟩ (.bool true)).cell? ⟨w1.heap.size, 0, none⟩ = some (.int .i64 1) := (World.cell?_of_block (w := w2) (Below.heap_setCell w2 ⟨qb, i, none⟩ _ w1.heap.size (by show w1.heap.size ≠ qb; omega))).trans m0
    have O3 := Aside0.mk (o2.same hne ht hc)
    clear o2 hn2 C1
    go_wp2_with fail
    go_ret
    exact ⟨rfl, O3.out⟩
  | false =>
    simp only [flag, if_true, Bool.false_eq_true, if_false] at C1
    go_enter Try.func43, Try.ntmps43
    go_wp2_with fail
    refine C1.mono ?_
    rintro e w2 ⟨rfl, o2, hn2⟩
    have hgc2 := (blk_cell o2.q i).trans hc
    have hgf2 := blk_frozen o2.q i
    obtain ⟨m0, m1⟩ := blk1 hn2
    have hx0 : (w2.setCell ⟨qb, i, none⟩ (.bool false)).cell? ⟨w1.heap.size, 0, none⟩ = some (.int .i64 0) := (World.cell?_of_block (w := w2) (Below.heap_setCell w2 ⟨qb, i, none⟩ _ w1.heap.size (by show w1.heap.size ≠ qb; omega))).trans m0
    have O3 := Aside0.mk (o2.same hne ht hc)
    clear o2 hn2 C1
    go_wp2_with fail
    go_ret
    exact ⟨rfl, O3.out⟩
end Go.Proofs.Ythkdihpbdaehbaa.Pr
namespace Go.Proofs.Ythkdihpbdaehbaa.Pr
set_option linter.unusedVariables false
set_option linter.unusedSimpArgs false
open Go.RowKit Go.Proofs.YthkdihpbdaehbaaW.PrintWords Go.Proofs.YthkdihpbdaehbaaW.PrintLast Go.Proofs.YthkdihpbdaehbaaW.PrintMore Go.Proofs.Ythkdihpbdaehbaa.Bs
/-- A new variable has been read. -/
structure New (w0 w : World) (p : Nat) (v : Value) (T : Nat) (ys : List Int) (e : Ending) (w' : World) : Prop where
  e : e = .returned (.tuple #[])
  q : w'.heap[w.heap.size]? = some (.cells #[v] T (0, 0))
  s : Src w0 w' p ys
  ch : Ch (fun k => k = p) w w'
theorem New.of {w0 w w2 : World} {p : Nat} {cs : Array Value} {v : Value} {T : Nat} {ys : List Int} {o : Obj} (hcs : cs = #[v]) (hq : w2.heap[w.heap.size]? = some (.cells cs T (0, 0))) (hs : Src w0 w2 p ys) (hch : Ch (fun k => k = p ∨ k = w.heap.size) (w.alloc o) w2) : New w0 w p v T ys (.returned (.tuple #[])) w2 :=
  ⟨rfl, hcs ▸ hq, hs, ((Ch.refl _ w).alloc o).trans (hch.mono (fun k hk _ => hk.elim (fun e => .inl e) (fun e => .inr (by omega))))⟩
theorem int_get_new (w0 w : World) (p : Nat) (n0 v : Int) (xs ys : List Int) (size : Nat) (hn : numP size xs = some (v, ys)) (h : Src w0 w p xs) (hby : Bys xs) (hs7 : size ≤ 7) :
    Calls Try.prog 37 #[.pointer (some ⟨p, 0, none⟩), .pointer (some ⟨w.heap.size, 0, none⟩), .int .i64 size] (w.alloc (.cells #[.int .i64 n0] 3)) (New w0 w p (.int .i64 v) 3 ys) := by
  have hlt := h.lt
  have hz := h.old.size
  refine (int_get w0 (w.alloc (.cells #[.int .i64 n0] 3)) p w.heap.size 0 3 _ n0 v xs ys size hn (h.alloc _) hby (heap_alloc_new w _) rfl (by omega) hz hs7).mono ?_
  rintro e w' ⟨rfl, hq, hs, hch⟩
  exact New.of rfl hq hs hch
theorem int_lost_new (w0 w : World) (p g : Nat) (n0 : Int) (xs : List Int) (size : Nat) (hn : numP size xs = none) (h : Src w0 w p xs) :
    Calls Try.prog 37 #[.pointer (some ⟨p, 0, none⟩), .pointer (some ⟨w.heap.size, 0, none⟩), .int .i64 size] (w.alloc (.cells #[.int .i64 n0] 3)) (LostCh w p g) := by
  have hlt := h.lt
  have hz := h.old.size
  refine (int_lost w0 (w.alloc (.cells #[.int .i64 n0] 3)) p w.heap.size 0 3 _ n0 xs size hn (h.alloc _) (heap_alloc_new w _) rfl (by omega) hz).mono ?_
  rintro e w' ⟨rfl, hch⟩
  exact ⟨rfl, Ch.new _ rfl hch⟩
theorem num_get (w0 w : World) (p g i t : Nat) (cs : Array Value) (n0 v : Int) (xs ys : List Int) (size : Nat) (hn : numP size xs = some (v, ys)) (h : Src w0 w p xs) (hby : Bys xs) (hg : w.heap[g]? = some (.cells cs t (0, 0))) (hi : cs[i]? = some (.int .u64 n0)) (hgp : g ≠ p) (hg0 : w0.heap.size ≤ g) (hs8 : size ≤ 8) :
    Calls Try.prog 41 #[.pointer (some ⟨p, 0, none⟩), .pointer (some ⟨g, i, none⟩), .int .i64 size] w (Stp w0 w p g (cs.setIfInBounds i (.int .u64 v)) t ys) := by
  simp only [numP] at hn
  split at hn
  · cases hn
  · cases hn
    refine (number_get w0 w p g i t cs n0 xs size h hby hg hi hgp hg0 (by omega) hs8).mono ?_
    rintro e w' ⟨rfl, hq, hs, hch⟩
    exact ⟨rfl, hq, hs, hch⟩
theorem num_lost (w0 w : World) (p g i t : Nat) (cs : Array Value) (n0 : Int) (xs : List Int) (size : Nat) (hn : numP size xs = none) (h : Src w0 w p xs) (hg : w.heap[g]? = some (.cells cs t (0, 0))) (hi : cs[i]? = some (.int .u64 n0)) (hgp : g ≠ p) (hg0 : w0.heap.size ≤ g) :
    Calls Try.prog 41 #[.pointer (some ⟨p, 0, none⟩), .pointer (some ⟨g, i, none⟩), .int .i64 size] w (LostCh w p g) := by
  simp only [numP] at hn
  split at hn
  · exact number_lost w0 w p g i t cs n0 xs size h hg hi hgp hg0 (by omega)
  · cases hn
theorem num_get_new (w0 w : World) (p : Nat) (n0 v : Int) (xs ys : List Int) (size : Nat) (hn : numP size xs = some (v, ys)) (h : Src w0 w p xs) (hby : Bys xs) (hs8 : size ≤ 8) :
    Calls Try.prog 41 #[.pointer (some ⟨p, 0, none⟩), .pointer (some ⟨w.heap.size, 0, none⟩), .int .i64 size] (w.alloc (.cells #[.int .u64 n0] 37)) (New w0 w p (.int .u64 v) 37 ys) := by
  have hlt := h.lt
  have hz := h.old.size
  refine (num_get w0 (w.alloc (.cells #[.int .u64 n0] 37)) p w.heap.size 0 37 _ n0 v xs ys size hn (h.alloc _) hby (heap_alloc_new w _) rfl (by omega) hz hs8).mono ?_
  rintro e w' ⟨rfl, hq, hs, hch⟩
  exact New.of rfl hq hs hch
theorem num_lost_new (w0 w : World) (p g : Nat) (n0 : Int) (xs : List Int) (size : Nat) (hn : numP size xs = none) (h : Src w0 w p xs) :
    Calls Try.prog 41 #[.pointer (some ⟨p, 0, none⟩), .pointer (some ⟨w.heap.size, 0, none⟩), .int .i64 size] (w.alloc (.cells #[.int .u64 n0] 37)) (LostCh w p g) := by
  have hlt := h.lt
  have hz := h.old.size
  refine (num_lost w0 (w.alloc (.cells #[.int .u64 n0] 37)) p w.heap.size 0 37 _ n0 xs size hn (h.alloc _) (heap_alloc_new w _) rfl (by omega) hz).mono ?_
  rintro e w' ⟨rfl, hch⟩
  exact ⟨rfl, Ch.new _ rfl hch⟩
/-- A cell of the thing that is read into is stored. -/
theorem Src.put {w0 w : World} {p g : Nat} {xs : List Int} (h : Src w0 w p xs) (hgp : g ≠ p) (hg0 : w0.heap.size ≤ g) (i : Nat) (v : Value) : Src w0 (w.setCell ⟨g, i, none⟩ v) p xs :=
  h.step ((Ch.refl (fun k => k = g) w).setCell (p := ⟨g, i, none⟩) (.inl rfl) v) (fun e => hgp e.symm) (fun k hk => by rw [hk]; exact hg0)
structure StpB (w0 w : World) (p g : Nat) (cs : Array Value) (t : Nat) (ys : List Int) (b : Bool) (e : Ending) (w' : World) : Prop where
  e : e = .returned (.bool b)
  q : w'.heap[g]? = some (.cells cs t (0, 0))
  s : Src w0 w' p ys
  ch : Ch (fun k => k = p ∨ k = g) w w'
set_option maxRecDepth 100000 in
set_option maxHeartbeats 400000 in
theorem truth_lost (w0 w : World) (p g i t : Nat) (cs : Array Value) (xs : List Int) (hn : numP 1 xs = none) (h : Src w0 w p xs) (hg : w.heap[g]? = some (.cells cs t (0, 0))) (hi : cs[i]? = some (.bool false)) :
    Calls Try.prog 43 #[.pointer (some ⟨p, 0, none⟩), .pointer (some ⟨g, i, none⟩)] w (LostCh w p g) := by
  have hgc := (blk_cell hg i).trans hi
  have hgf := blk_frozen hg i
  have hga : ∀ z, (w.alloc z).cell? ⟨g, i, none⟩ = some (.bool false) := fun z => pw_cell_below (below_alloc (Below.refl _ _) z) hgc
  have C1 := int_lost_new w0 w p g 0 xs 1 hn h
  clear h hg hn
  go_enter Try.func43, Try.ntmps43
  go_wp2_with fail
  refine C1.mono ?_
  rintro e w2 ⟨rfl, hch⟩
  exact ⟨rfl, ⟨rfl, hch⟩⟩
set_option maxRecDepth 100000 in
set_option maxHeartbeats 400000 in
theorem truth_get (w0 w : World) (p g i t : Nat) (cs : Array Value) (v : Int) (xs ys : List Int) (hn : numP 1 xs = some (v, ys)) (h : Src w0 w p xs) (hby : Bys xs) (hg : w.heap[g]? = some (.cells cs t (0, 0))) (hi : cs[i]? = some (.bool false)) (hgp : g ≠ p) (hg0 : w0.heap.size ≤ g) :
    Calls Try.prog 43 #[.pointer (some ⟨p, 0, none⟩), .pointer (some ⟨g, i, none⟩)] w (StpB w0 w p g (cs.setIfInBounds i (.bool (v == 1))) t ys (decide (v ≤ 1))) := by
  have hgc := (blk_cell hg i).trans hi
  have hgf := blk_frozen hg i
  have hga : ∀ z, (w.alloc z).cell? ⟨g, i, none⟩ = some (.bool false) := fun z => pw_cell_below (below_alloc (Below.refl _ _) z) hgc
  have C1 := int_get_new w0 w p 0 v xs ys 1 hn h hby (by decide)
  have hlt := blk_lt hg
  have HG := Aside0.mk hg
  clear h hg hn hby
  go_enter Try.func43, Try.ntmps43
  go_wp2_with fail
  refine C1.mono ?_
  rintro e w2 ⟨rfl, hq, hs, hch⟩
  have hg2 := hch.heap HG.out hgp
  have hgc2 := (blk_cell hg2 i).trans hi
  have hgf2 := blk_frozen hg2 i
  obtain ⟨m0, m1⟩ := blk1 hq
  obtain ⟨b, hb⟩ : ∃ b, b = (v == 1) := ⟨_, rfl⟩
  have hx0 : (w2.setCell ⟨g, i, none⟩ (.bool b)).cell? ⟨w.heap.size, 0, none⟩ = some (.int .i64 v) := (World.cell?_of_block (w := w2) (Below.heap_setCell w2 ⟨g, i, none⟩ _ w.heap.size (by show w.heap.size ≠ g; omega))).trans m0
  have hR := Aside0.mk (show StpB w0 w p g (cs.setIfInBounds i (.bool b)) t ys (decide (v ≤ 1)) (.returned (.bool (decide (v ≤ 1)))) (w2.setCell ⟨g, i, none⟩ (.bool b)) from ⟨rfl, blk_upd i _ hg2 rfl, hs.put hgp hg0 i _, (hch.mono (fun k hk _ => .inl hk)).setCell (p := ⟨g, i, none⟩) (.inl (.inr rfl)) _⟩)
  have hb' : (v == 1) = b := hb.symm
  have HB := Aside0.mk hb
  clear hb hg2 hq hs hch C1
  go_wp2_with fail
  go_ret
  rw [← HB.out]
  exact hR.out
end Go.Proofs.Ythkdihpbdaehbaa.Pr
namespace Go.Proofs.Ythkdihpbdaehbaa.Pr
set_option linter.unusedVariables false
set_option linter.unusedSimpArgs false
open Go.RowKit Go.Proofs.YthkdihpbdaehbaaW.PrintWords Go.Proofs.YthkdihpbdaehbaaW.PrintLast Go.Proofs.YthkdihpbdaehbaaW.PrintMore Go.Proofs.Ythkdihpbdaehbaa.Bs
theorem info3 : (Try.prog.info? 3).map (fun i => (i.zero, i.size, i.bytes)) = some (some (.int .i64 0), 1, 8) := by kernel_rfl
theorem size3 : (Try.prog.info? 3).map (·.size) = some 1 := by kernel_rfl
/-- All is laid; the thing may have turned. -/
structure Done (B : Nat) (w : World) (p qb : Nat) (bv : Value) (xs : List Int) (w' : World) : Prop where
  r : ∃ bv', Put B w' p bv' xs
  ch : Ch (fun k => (k = p ∨ some k = bv.ownBlock) ∨ k = qb) w w'
theorem On.done {B : Nat} {w w1 : World} {p qb t : Nat} {bv : Value} {cs : Array Value} {xs : List Int} (h : On B w p bv qb cs t xs w1) : Done B w p qb bv xs w1 := by
  obtain ⟨⟨⟨bv', ⟨hp, hat⟩⟩, hch⟩, hq⟩ := h
  exact ⟨⟨bv', hp⟩, hch.mono (fun k hk _ => .inl hk)⟩
theorem On.done_set {B : Nat} {w w1 : World} {p qb t : Nat} {bv : Value} {cs : Array Value} {xs : List Int} (h : On B w p bv qb cs t xs w1) (hne : qb ≠ p) (ht : t ≠ 5) (i : Nat) (v : Value) : Done B w p qb bv xs (w1.setCell ⟨qb, i, none⟩ v) := by
  obtain ⟨⟨⟨bv', ⟨hp, hat⟩⟩, hch⟩, hq⟩ := h
  have hn := Kd.R_ne hp.row hq (fun e => ht e.symm)
  have hset : Ch (fun k => k = qb) w1 (w1.setCell ⟨qb, i, none⟩ v) := (Ch.refl (fun k => k = qb) w1).setCell (p := ⟨qb, i, none⟩) (.inl rfl) _
  exact ⟨⟨bv', hp.step hset (fun e => hne e.symm) (fun k hk e => hn (e ▸ hk))⟩, (hch.mono (S' := fun k => (k = p ∨ some k = bv.ownBlock) ∨ k = qb) (fun k hk _ => .inl hk)).trans (hset.mono (fun k hk _ => .inl (.inr hk)))⟩
theorem On.below {B : Nat} {w w1 w2 : World} {p qb t : Nat} {bv : Value} {cs : Array Value} {xs : List Int} (h : On B w p bv qb cs t xs w1) (hb : Below w1.heap.size w1 w2) : On B w p bv qb cs t xs w2 := by
  obtain ⟨⟨⟨bv', ⟨hp, hat⟩⟩, hch⟩, hq⟩ := h
  have hs : Ch (fun _ => False) w1 w2 := (Ch.refl _ w1).below hb
  exact ⟨⟨⟨bv', And.intro (hp.step hs (fun h => h) (fun _ _ h => h)) hat⟩, hch.below hb⟩, hs.heap hq (fun h => h)⟩
theorem On.low {B : Nat} {w w1 : World} {p qb t : Nat} {bv : Value} {cs : Array Value} {xs : List Int} (h : On B w p bv qb cs t xs w1) (hB : B ≤ p) (ho : ∀ k, some k = bv.ownBlock → B ≤ k) (hBw : B ≤ w.heap.size) : Below B w w1 :=
  Ch.to_below h.l.ch (fun k hk => hk.elim (fun e => by omega) (ho k)) hBw
def beAll (l : List Int) : List Int := l.flatMap (be 4)
/-- A number that lies anywhere is laid; blocks of other kinds stay. -/
theorem addr_on (B : Nat) (w w1 : World) (p qb t g j T : Nat) (bv : Value) (cs cur : Array Value) (xs : List Int) (n : Int) (size : Nat) (h : On B w p bv qb cs t xs w1) (hne : qb ≠ p) (ht : t ≠ 5) (hg : w1.heap[g]? = some (.cells cur T (0, 0))) (hT : T ≠ 5) (hT2 : T ≠ 56) (hc : cur[j]? = some (.int .i64 n)) (hBw : B ≤ w.heap.size) (h0 : 0 ≤ n) (h1 : n ≤ 9223372036854775807) (hs : size ≤ 8) (hl : xs.length ≤ 1000000) :
    Calls Try.prog 37 #[.pointer (some ⟨p, 0, none⟩), .pointer (some ⟨g, j, none⟩), .int .i64 size] w1 fun e w' => e = .returned (.tuple #[]) ∧ On B w p bv qb cs t (xs ++ be size n) w' ∧ ∀ (g' : Nat) (cur' : Array Value) (T' : Nat), T' ≠ 5 → T' ≠ 56 → w1.heap[g']? = some (.cells cur' T' (0, 0)) → w'.heap[g']? = some (.cells cur' T' (0, 0)) := by
  obtain ⟨⟨⟨bv', ⟨hp, hat⟩⟩, hch⟩, hq⟩ := h
  have hn := Kd.R_ne hp.row hq (fun e => ht e.symm)
  have hpn : ∀ (g' : Nat) (cur' : Array Value) (T' : Nat), T' ≠ 56 → w1.heap[g']? = some (.cells cur' T' (0, 0)) → g' ≠ p := by
    rintro g' cur' T' hT' hg' rfl
    rw [hp.cells] at hg'
    injection hg' with hg'
    injection hg' with _ e _
    exact hT' e.symm
  refine (integer_put B w1 p bv' xs ⟨g, j, none⟩ n size hp ((blk_cell hg j).trans hc) (blk_frozen hg j) (hpn g cur T hT2 hg) (Kd.R_ne hp.row hg (fun e => hT e.symm)) (Nat.le_trans hBw hch.size) h0 h1 hs hl).mono ?_
  rintro e w' ⟨rfl, hL⟩
  refine ⟨rfl, ⟨Laid.then_ hat hch hL, hL.ch.heap hq (by rintro (e | e); exact hne e; exact hn e)⟩, fun g' cur' T' h5 h56 hg' => hL.ch.heap hg' ?_⟩
  rintro (e | e)
  · exact hpn g' cur' T' h56 hg' e
  · exact Kd.R_ne hp.row hg' (fun e => h5 e.symm) e
/-- A row of ints, as it lies. -/
def RowAt (A : Option Addr) (ns : List Int) (w : World) : Prop := ∀ j, j < ns.length → ∃ g cur, A = some ⟨g, 0, none⟩ ∧ w.heap[g]? = some (.cells cur 3 (0, 0)) ∧ cur[j]? = some (.int .i64 (rd ns j))
theorem RowAt.of {A : Option Addr} {c base : Nat} {ns : List Int} {w : World} (h : (Kd.int .i64).R 3 w base (fun _ => True) (.slice A ns.length c) ns) : RowAt A ns w := by
  intro j hj
  have ho := Kd.own_of_R h
  obtain ⟨hl, ⟨he, h0⟩ | ⟨g, cap, cur, he, hb, hcur, hcap, hmax, hsz, htake⟩⟩ := ho
  · omega
  · injection he with he1 he2 he3
    refine ⟨g, cur, he1, hcur, ?_⟩
    have hx : (cur.toList.take (ns.length * 1))[j]? = (encs (Value.int .i64) ns)[j]? := by rw [htake]
    rw [List.getElem?_take, if_pos (by omega)] at hx
    rw [← Array.getElem?_toList, hx]
    simp [encs, rd, List.getD_eq_getElem?_getD, List.getElem?_eq_getElem hj]
structure LayAll (B : Nat) (w : World) (p qb t : Nat) (bv : Value) (cs : Array Value) (xs ns : List Int) (A : Option Addr) (j : Nat) (wr : World) : Prop where
  hj : j ≤ ns.length
  o : On B w p bv qb cs t (xs ++ be 2 ns.length ++ beAll (ns.take j)) wr
  r : RowAt A ns wr
theorem beAll_len (l : List Int) : (beAll l).length = 4 * l.length := by
  induction l with
  | nil => rfl
  | cons a l ih => rw [beAll, List.flatMap_cons, List.length_append, be_length, ← beAll, ih, List.length_cons]; omega
set_option maxRecDepth 100000 in
set_option maxHeartbeats 1000000 in
theorem nodes_put (B : Nat) (w w1 : World) (p qb t i : Nat) (bv : Value) (cs : Array Value) (xs : List Int) (A : Option Addr) (c : Nat) (ns : List Int) (h : On B w p bv qb cs t xs w1) (hne : qb ≠ p) (ht : t ≠ 5) (hc : cs[i]? = some (.slice A ns.length c)) (hBw : B ≤ w.heap.size)
    (hC : ∀ W, Below B w W → (Kd.int .i64).C W A ns.length ns) (hn : ns.length ≤ 1000) (hns : ∀ x ∈ ns, 0 ≤ x ∧ x ≤ 2147483647) (hB : B ≤ p) (ho : ∀ k, some k = bv.ownBlock → B ≤ k) (hl : xs.length ≤ 900000) :
    Calls Try.prog 42 #[.pointer (some ⟨p, 0, none⟩), .pointer (some ⟨qb, i, none⟩)] w1 fun e w' => e = .returned (.tuple #[]) ∧ Done B w p qb bv (xs ++ be 2 ns.length ++ beAll ns) w' := by
  have hgc := (blk_cell h.q i).trans hc
  have hgf := blk_frozen h.q i
  have C1 := int_new B w w1 p qb t bv cs xs ns.length 2 h hne ht hBw (by omega) (by omega) (by decide) (by omega)
  have hn' : ¬ 1000 < (ns.length : Int) := by omega
  clear h
  go_enter Try.func42, Try.ntmps42
  go_wp2_with fail
  refine C1.mono ?_
  rintro e w2 ⟨rfl, o2, hn2⟩
  have hgc2 := (blk_cell o2.q i).trans hc
  have hgf2 := blk_frozen o2.q i
  obtain ⟨m0, m1⟩ := blk1 hn2
  have O2 := Aside0.mk o2
  have HN2 := Aside0.mk hn2
  clear o2 hn2 C1
  go_wp2_with (first | ((with_reducible refine gate_dst (N := 18) rfl ?_); go_loud (refine Kd.R_make (Kd.int .i64) (w0 := w2) (W := w2) w2.heap.size 3 rfl (N := 18) rfl 38 (.tmp 17) (.tmp 17) rfl (ns.length : Int) rfl rfl Try.underlying38 (.int .i64 0) 8 info3 rfl (by decide) (by decide) 0 (ok := fun _ => True) (okp := fun _ => False) rfl (fun _ _ => trivial) trivial (by omega) (by simp; omega) (Below.refl _ _) (Nat.le_refl _) ?_); intro v3 w3 hr hb hg hnew; have HB3 := Aside0.mk hb; have o3 := O2.out.below hb; have hgc3 := (blk_cell o3.q i).trans hc; have hgf3 := blk_frozen o3.q i; have HC3 := Aside0.mk (hC w3 (o3.low hB ho hBw)); have O3 := Aside0.mk o3; clear o3; obtain ⟨A3, c3, rfl⟩ := Kd.R_slice hr; rw [List.length_replicate, Int.toNat_natCast] at hr; have HR3 := Aside0.mk hr; clear hr hb hg hnew) | ((with_reducible refine gate_dst (N := 23) rfl ?_); go_loud (refine Kd.R_copy (enc := Value.int .i64) (h1 := fun _ => rfl) (0 : Int) (w0 := w2) (W := w3) w2.heap.size rfl (.tmp 19) (.tmp 22) 38 38 3 rfl Try.underlying38 size3 _ (List.replicate ns.length 0) ns A _ c (fun _ => True) rfl rfl HR3.out HC3.out HB3.out HB3.out.size ?_); intro w4 hr hb hg; rw [List.length_replicate, Nat.min_self, List.take_length, List.drop_eq_nil_of_le (by rw [List.length_replicate]; exact Nat.le_refl _), List.append_nil] at hr; have HR4 := Aside0.mk (RowAt.of (A := A3) (c := c3) hr); have O4 := Aside0.mk (O2.out.below hb); clear hr hb hg))
  clear hgc hgf hgc2 hgf2 hgc3 hgf3 m0 m1
  go_loopw [6, 26] (fun v6 v26 wr => ∃ j : Nat, v26 = .int .i64 j ∧ LayAll B w p qb t bv cs xs ns A3 j wr) (fun v6 v26 _ => (ns.length - intOf v26).toNat)
  case atStart => exact ⟨0, rfl, ⟨Nat.zero_le _, by rw [List.take_zero]; show On B w p bv qb cs t (xs ++ be 2 ns.length ++ []) w4; rw [List.append_nil]; exact O4.out, HR4.out⟩⟩
  case round =>
    obtain ⟨j, rfl, ⟨hj, ho, hrow⟩⟩ := hrel
    by_cases hjs : j < ns.length
    · have hjs' : (j : Int) < ns.length := by omega
      obtain ⟨g, cur, rfl, hg, hcj⟩ := hrow j hjs
      have hm : rd ns j ∈ ns := by
        have : rd ns j = ns[j] := by simp [rd, List.getD_eq_getElem?_getD, hjs]
        rw [this]; exact List.getElem_mem hjs
      obtain ⟨y0, y1⟩ := hns _ hm
      have C2 := addr_on B w wr p qb t g j 3 bv cs cur _ (rd ns j) 4 ho hne ht hg (by decide) (by decide) hcj hBw y0 (by omega) (by decide) (by simp [be_length, beAll_len]; omega)
      have hnext : beAll (ns.take (j + 1)) = beAll (ns.take j) ++ be 4 (rd ns j) := by
        rw [List.take_succ_eq_append_getElem hjs, beAll, List.flatMap_append, ← beAll]
        simp [rd, List.getD_eq_getElem?_getD, hjs]
      have HNX := Aside0.mk hnext
      have HROW := Aside0.mk hrow
      clear ho hrow hg hcj hnext
      go_wp2_with fail
      refine C2.mono ?_
      rintro e w5 ⟨rfl, o5, hk5⟩
      have HREL := Aside0.mk (show LayAll B w p qb t bv cs xs ns (some ⟨g, 0, none⟩) (j + 1) w5 from ⟨hjs, by rw [HNX.out, ← List.append_assoc]; exact o5, fun i' hi' => by
        obtain ⟨g', cur', e', hg', hc'⟩ := HROW.out i' hi'
        exact ⟨g', cur', e', hk5 g' cur' 3 (by decide) (by decide) hg', hc'⟩⟩)
      clear o5 hk5 C2
      go_wp2
      go_roundw
      case rel => exact ⟨j + 1, rfl, HREL.out⟩
      case measure => simp [intOf]; omega
    · have hjs' : ¬ (j : Int) < ns.length := by omega
      have hj2 : j = ns.length := by omega
      subst hj2
      rw [List.take_length] at ho
      have hgc5 := (blk_cell ho.q i).trans hc
      have hgf5 := blk_frozen ho.q i
      have HD := Aside0.mk (show ∀ v, Done B w p qb bv (xs ++ be 2 ns.length ++ beAll ns) (wr.setCell ⟨qb, i, none⟩ v) from fun v => ho.done_set hne ht i v)
      clear ho hrow
      go_wp2
      refine bodyPost_end (results_none rfl _ _ _) rfl ?_
      exact ⟨rfl, by rw [← List.append_assoc]; exact HD.out _⟩
end Go.Proofs.Ythkdihpbdaehbaa.Pr
namespace Go.Proofs.Ythkdihpbdaehbaa.Pr
set_option linter.unusedVariables false
set_option linter.unusedSimpArgs false
open Go.RowKit Go.Proofs.YthkdihpbdaehbaaW.PrintWords Go.Proofs.YthkdihpbdaehbaaW.PrintLast Go.Proofs.YthkdihpbdaehbaaW.PrintMore Go.Proofs.Ythkdihpbdaehbaa.Bs
theorem R_set {w w' : World} {base g n c j : Nat} {L : List Int} {cur : Array Value} {v : Int} (h : (Kd.int .i64).R 3 w base (fun _ => True) (.slice (some ⟨g, 0, none⟩) n c) L) (hg : w.heap[g]? = some (.cells cur 3 (0, 0))) (hg' : w'.heap[g]? = some (.cells (cur.setIfInBounds j (.int .i64 v)) 3 (0, 0))) : (Kd.int .i64).R 3 w' base (fun _ => True) (.slice (some ⟨g, 0, none⟩) n c) (L.set j v) := by
  have hl0 := Kd.R_reads' h
  refine Kd.R_of_own (enc := Value.int .i64) (h1 := fun _ => rfl) ?_ (fun _ _ => trivial)
  obtain ⟨hl, ⟨he, h0⟩ | ⟨g', cap, cur0, he, hb, hcur, hcap, hmax, hsz, htake⟩⟩ := Kd.own_of_R h
  · cases he
  · injection he with he1 he2 he3
    injection he1 with he1
    injection he1 with he1 _ _
    subst he1 he3
    rw [hg] at hcur
    injection hcur with hcur
    injection hcur with hcur _ _
    subst hcur
    refine ⟨by rw [List.length_set]; simp [encs] , .inr ⟨g, c, _, by rw [List.length_set, ← he2], hb, hg', by rw [List.length_set]; exact hcap, hmax, by rw [Array.size_setIfInBounds]; exact hsz, ?_⟩⟩
    rw [List.length_set, Array.toList_setIfInBounds, List.take_set, htake]
    simp [encs, List.map_set]
def intsP : Nat → List Int → Option (List Int × List Int)
  | 0, xs => some ([], xs)
  | k + 1, xs => match numP 4 xs with | none => none | some (v, ys) => match intsP k ys with | none => none | some (l, zs) => some (v :: l, zs)
def nodesP (xs : List Int) : Option (List Int × List Int) := match numP 2 xs with | none => none | some (n, ys) => if 1000 < n then none else intsP n.toNat ys
/-- Behind those that have been read. -/
def behind (D : List Int) (r : Option (List Int × List Int)) : Option (List Int × List Int) := match r with | none => none | some (l, zs) => some (D ++ l, zs)
theorem behind_nil (r : Option (List Int × List Int)) : behind [] r = r := by cases r <;> rfl
theorem behind_next (D : List Int) (k : Nat) (xs ys : List Int) (v : Int) (hn : numP 4 xs = some (v, ys)) : behind D (intsP (k + 1) xs) = behind (D ++ [v]) (intsP k ys) := by
  rw [intsP, hn]
  simp only []
  cases intsP k ys with
  | none => rfl
  | some r => simp [behind]
theorem behind_lost (D : List Int) (k : Nat) (xs : List Int) (hn : numP 4 xs = none) : behind D (intsP (k + 1) xs) = none := by
  rw [intsP, hn]; rfl
structure NGet (w0 w : World) (p g i t : Nat) (cs : Array Value) (l ys : List Int) (e : Ending) (w' : World) : Prop where
  e : e = .returned (.tuple #[])
  q : ∃ A c, w'.heap[g]? = some (.cells (cs.setIfInBounds i (.slice A l.length c)) t (0, 0)) ∧ (Kd.int .i64).R 3 w' w.heap.size (fun _ => True) (.slice A l.length c) l
  s : Src w0 w' p ys
  ch : Ch (fun k => k = p ∨ k = g) w w'
def NRes (w0 w : World) (p g i t : Nat) (cs : Array Value) (r : Option (List Int × List Int)) (e : Ending) (w' : World) : Prop :=
  match r with
  | none => LostCh w p g e w'
  | some (l, ys) => NGet w0 w p g i t cs l ys e w'
structure NRel (w0 w : World) (p g t : Nat) (cs : Array Value) (R : Option (List Int × List Int)) (A : Option Addr) (n c j : Nat) (wr : World) : Prop where
  hj : j ≤ n
  r : ∃ D ys, D.length = j ∧ (Kd.int .i64).R 3 wr w.heap.size (fun _ => True) (.slice A n c) (D ++ List.replicate (n - j) 0) ∧ Src w0 wr p ys ∧ Bys ys ∧ R = behind D (intsP (n - j) ys)
  q : wr.heap[g]? = some (.cells cs t (0, 0))
  ch : Ch (fun k => k = p ∨ k = g) w wr
theorem numP_bound {k : Nat} {xs ys : List Int} {v : Int} (h : Bys xs) (e : numP k xs = some (v, ys)) : 0 ≤ v ∧ v < ((256 ^ k : Nat) : Int) := by
  simp only [numP] at e
  split at e
  · cases e
  · cases e
    exact val_bound k (xs.take k) (by rw [List.length_take]; omega) (fun x hx => h x (List.mem_of_mem_take hx))
set_option maxRecDepth 100000 in
set_option maxHeartbeats 400000 in
theorem nodes_l1 (w0 w : World) (p g i t : Nat) (cs : Array Value) (xs : List Int) (h : Src w0 w p xs) (hg : w.heap[g]? = some (.cells cs t (0, 0))) (hi : cs[i]? = some (.slice none 0 0)) (hn : numP 2 xs = none) :
    Calls Try.prog 42 #[.pointer (some ⟨p, 0, none⟩), .pointer (some ⟨g, i, none⟩)] w (LostCh w p g) := by
  have hgc := (blk_cell hg i).trans hi
  have hgf := blk_frozen hg i
  have C1 := int_lost_new w0 w p g 0 xs 2 hn h
  clear h hg hn
  go_enter Try.func42, Try.ntmps42
  go_wp2_with fail
  refine C1.mono ?_
  rintro e w2 ⟨rfl, hch⟩
  exact ⟨rfl, ⟨rfl, hch⟩⟩
set_option maxRecDepth 100000 in
set_option maxHeartbeats 400000 in
theorem nodes_l2 (w0 w : World) (p g i t : Nat) (cs : Array Value) (xs ys : List Int) (n : Int) (h : Src w0 w p xs) (hby : Bys xs) (hg : w.heap[g]? = some (.cells cs t (0, 0))) (hi : cs[i]? = some (.slice none 0 0)) (hn : numP 2 xs = some (n, ys)) (hbig : 1000 < n) :
    Calls Try.prog 42 #[.pointer (some ⟨p, 0, none⟩), .pointer (some ⟨g, i, none⟩)] w (LostCh w p g) := by
  have hgc := (blk_cell hg i).trans hi
  have hgf := blk_frozen hg i
  have C1 := int_get_new w0 w p 0 n xs ys 2 hn h hby (by decide)
  clear h hg hn
  go_enter Try.func42, Try.ntmps42
  go_wp2_with fail
  refine C1.mono ?_
  rintro e w2 ⟨rfl, hq, hs, hch⟩
  obtain ⟨m0, m1⟩ := blk1 hq
  have HCH := Aside0.mk (hch.mono (S' := fun k => k = p ∨ k = g) (fun k hk _ => .inl hk))
  clear hq hs hch C1
  go_wp2_with fail
  exact ⟨rfl, ⟨rfl, HCH.out⟩⟩
set_option maxRecDepth 100000 in
set_option maxHeartbeats 1000000 in
theorem nodes_g (w0 w : World) (p g i t : Nat) (cs : Array Value) (xs ys : List Int) (n : Int) (h : Src w0 w p xs) (hby : Bys xs) (hg : w.heap[g]? = some (.cells cs t (0, 0))) (hi : cs[i]? = some (.slice none 0 0)) (hgp : g ≠ p) (hg0 : w0.heap.size ≤ g) (ht : t ≠ 3) (hn : numP 2 xs = some (n, ys)) (hbig : ¬ 1000 < n) :
    Calls Try.prog 42 #[.pointer (some ⟨p, 0, none⟩), .pointer (some ⟨g, i, none⟩)] w (NRes w0 w p g i t cs (intsP n.toNat ys)) := by
  have hgc := (blk_cell hg i).trans hi
  have hgf := blk_frozen hg i
  obtain ⟨n0, n1⟩ := numP_bound hby hn
  have hbys := Aside0.mk (numP_bys hby hn)
  have C1 := int_get_new w0 w p 0 n xs ys 2 hn h hby (by decide)
  have HG := Aside0.mk hg
  have hglt := blk_lt hg
  have hz := h.old.size
  clear h hg hn n1 hby
  obtain ⟨m, rfl⟩ := Int.eq_ofNat_of_zero_le n0
  rw [Int.toNat_natCast]
  generalize hR : intsP m ys = R
  have HR := Aside0.mk hR
  clear hR
  go_enter Try.func42, Try.ntmps42
  go_wp2_with fail
  refine C1.mono ?_
  rintro e w2 ⟨rfl, hq, hs, hch⟩
  obtain ⟨m0, m1⟩ := blk1 hq
  have hg2 := hch.heap HG.out hgp
  have hgc2 := (blk_cell hg2 i).trans hi
  have hgf2 := blk_frozen hg2 i
  have HG2 := Aside0.mk hg2
  have HS2 := Aside0.mk hs
  have HCH2 := Aside0.mk hch
  clear hq hs hch C1 hg2
  go_wp2_with (first | ((with_reducible refine gate_dst (N := 18) rfl ?_); go_loud (refine Kd.R_make (Kd.int .i64) (w0 := w2) (W := w2) w2.heap.size 3 rfl (N := 18) rfl 38 (.tmp 17) (.tmp 17) rfl (m : Int) rfl rfl Try.underlying38 (.int .i64 0) 8 info3 rfl (by decide) (by decide) 0 (ok := fun _ => True) (okp := fun _ => False) rfl (fun _ _ => trivial) trivial (by omega) (by simp; omega) (Below.refl _ _) (Nat.le_refl _) ?_); intro v3 w3 hr hb hg hnew; have hb3 : Below w2.heap.size w2 w3 := hb; have HB3 := Aside0.mk hb3; have hg3 := (hb3.block g (blk_lt HG2.out)).trans HG2.out; have hgc3 := (blk_cell hg3 i).trans hi; have hgf3 := blk_frozen hg3 i; have HG3 := Aside0.mk hg3; clear hg3; obtain ⟨A3, c3, rfl⟩ := Kd.R_slice hr; rw [List.length_replicate, Int.toNat_natCast] at hr; have HR3 := Aside0.mk hr; clear hr hb hg hnew hb3) | ((with_reducible refine gate_dst (N := 23) rfl ?_); go_loud (refine Kd.R_copy (enc := Value.int .i64) (h1 := fun _ => rfl) (0 : Int) (w0 := w2) (W := w3) w2.heap.size rfl (.tmp 19) (.tmp 22) 38 38 3 rfl Try.underlying38 size3 _ (List.replicate m 0) [] none 0 0 (fun _ => True) rfl rfl HR3.out (Kd.C_nil _ _) HB3.out HB3.out.size ?_); intro w4 hr hb hg; rw [Nat.zero_min, List.take_zero, List.drop_zero, List.nil_append] at hr; have HR4 := Aside0.mk (Kd.R_lower hr HCH2.out.size); have HB4 := Aside0.mk hb; clear hr hb hg))
  clear hgc hgf hgc2 hgf2 hgc3 hgf3 m0 m1
  go_loopw [6, 26] (fun v6 v26 wr => ∃ j : Nat, v26 = .int .i64 j ∧ NRel w0 w p g t cs R A3 m c3 j wr) (fun v6 v26 _ => (m - intOf v26).toNat)
  case atStart =>
    have hch4 : Ch (fun k => k = p) w w4 := HCH2.out.below HB4.out
    refine ⟨0, rfl, ⟨Nat.zero_le _, ⟨[], ys, rfl, HR4.out, HS2.out.step (S := fun _ => False) ((Ch.refl _ w2).below HB4.out) (fun h => h) (fun _ h => h.elim), hbys.out, ?_⟩, hch4.heap HG.out hgp, hch4.mono (fun k hk _ => .inl hk)⟩⟩
    rw [behind_nil]; exact HR.out.symm
  case round =>
    obtain ⟨j, rfl, ⟨hj, ⟨D, zs, hD, hrow, hsrc, hzs, hR⟩, hq, hch⟩⟩ := hrel
    by_cases hjs : j < m
    · have hjs' : (j : Int) < m := by omega
      obtain ⟨L, hL⟩ : ∃ L, L = D ++ List.replicate (m - j) (0 : Int) := ⟨_, rfl⟩
      have hlen : L.length = m := by rw [hL, List.length_append, hD, List.length_replicate]; omega
      rw [← hL] at hrow
      have hrow1 : (Kd.int .i64).R 3 wr w.heap.size (fun _ => True) (.slice A3 L.length c3) L := by rw [hlen]; exact hrow
      obtain ⟨g', cur, hA, hg', hcj⟩ := RowAt.of hrow1 j (by omega)
      subst hA
      have hb' : w.heap.size ≤ g' := own_base (Kd.own_of_R hrow) g' rfl
      have hrd : rd L j = 0 := by
        simp only [rd, Int.toNat_natCast, hL, List.getD_eq_getElem?_getD]
        rw [List.getElem?_append_right (by omega), List.getElem?_replicate]
        split <;> rfl
      rw [hrd] at hcj
      have hg'p : g' ≠ p := by
        rintro rfl
        obtain ⟨⟨A', c', hc', _, _⟩, _, _⟩ := hsrc
        rw [hg'] at hc'
        injection hc' with hc'
        injection hc' with _ e _
        exact absurd e (by decide)
      have hg'g : g' ≠ g := by omega
      have hset : ∀ v, L.set j v = (D ++ [v]) ++ List.replicate (m - (j + 1)) 0 := by
        intro v
        rw [hL, List.set_append_right _ _ (by omega), show j - D.length = 0 by omega, show m - j = (m - (j + 1)) + 1 by omega, List.replicate_succ, List.set_cons_zero, List.append_assoc]
        rfl
      cases hn4 : numP 4 zs with
      | none =>
        have C2 := int_lost w0 wr p g' j 3 cur 0 zs 4 hn4 hsrc hg' hcj hg'p (by omega)
        have hRn : R = none := by rw [hR, show m - j = (m - (j + 1)) + 1 by omega, behind_lost D _ zs hn4]
        have HRn := Aside0.mk hRn
        have HCH := Aside0.mk hch
        clear hrow hrow1 hsrc hg' hcj hR hRn hq hch hset
        go_wp2_with fail
        refine C2.mono ?_
        rintro e w5 ⟨rfl, hch5⟩
        refine ⟨rfl, ?_⟩
        rw [HRn.out]
        exact ⟨rfl, HCH.out.trans (hch5.mono (fun k hk _ => hk.elim (fun e => .inl (.inl e)) (fun e => .inr (by omega))))⟩
      | some r =>
        obtain ⟨v, zs'⟩ := r
        have C2 := int_get w0 wr p g' j 3 cur 0 v zs zs' 4 hn4 hsrc hzs hg' hcj hg'p (by omega) (by decide)
        have hRn : R = behind (D ++ [v]) (intsP (m - (j + 1)) zs') := by rw [hR, show m - j = (m - (j + 1)) + 1 by omega, behind_next D _ zs zs' v hn4]
        have HRn := Aside0.mk hRn
        have HCH := Aside0.mk hch
        have HQ := Aside0.mk hq
        have HZ := Aside0.mk (numP_bys hzs hn4)
        have HRW := Aside0.mk (show ∀ w5 : World, w5.heap[g']? = some (.cells (cur.setIfInBounds j (.int .i64 v)) 3 (0, 0)) → (Kd.int .i64).R 3 w5 w.heap.size (fun _ => True) (.slice (some ⟨g', 0, none⟩) m c3) ((D ++ [v]) ++ List.replicate (m - (j + 1)) 0) from fun w5 h5 => by rw [← hset]; exact R_set hrow hg' h5)
        clear hrow hrow1 hsrc hg' hcj hR hRn hq hch hset hn4 hzs hrd
        go_wp2_with fail
        refine C2.mono ?_
        rintro e w5 ⟨rfl, hq5, hs5, hch5⟩
        have HREL := Aside0.mk (show NRel w0 w p g t cs R (some ⟨g', 0, none⟩) m c3 (j + 1) w5 from ⟨hjs, ⟨D ++ [v], zs', by rw [List.length_append, hD]; rfl, HRW.out w5 hq5, hs5, HZ.out, HRn.out⟩, hch5.heap HQ.out (by rintro (e | e); exact hgp e; exact hg'g e.symm), HCH.out.trans (hch5.mono (fun k hk _ => hk.elim (fun e => .inl (.inl e)) (fun e => .inr (by omega))))⟩)
        clear hq5 hs5 hch5 C2
        go_wp2
        go_roundw
        case rel => exact ⟨j + 1, rfl, HREL.out⟩
        case measure => simp [intOf]; omega
    · have hjs' : ¬ (j : Int) < m := by omega
      have hj2 : j = m := by omega
      subst hj2
      rw [Nat.sub_self] at hrow hR
      have hRs : R = some (D, zs) := by rw [hR]; simp [intsP, behind]
      have hgc5 := (blk_cell hq i).trans hi
      have hgf5 := blk_frozen hq i
      rw [List.replicate_zero, List.append_nil] at hrow
      subst hD
      have hR2 : (Kd.int .i64).R 3 (wr.setCell ⟨g, i, none⟩ (.slice A3 D.length c3)) w.heap.size (fun _ => True) (.slice A3 D.length c3) D := by
        have hn := Kd.R_ne hrow hq (fun e => ht e.symm)
        refine Kd.R_mono (Kd.R_step (Kd.R_of_own (ok := fun k => some k = (Value.slice A3 D.length c3).ownBlock) (Kd.own_of_R hrow) (fun k hk => hk.symm)) (fun k hk _ => Below.heap_setCell _ _ _ _ (fun e => hn (by have e' : k = g := e; rw [← e']; exact hk)))) (fun _ _ => trivial)
      have HD := Aside0.mk (show NRes w0 w p g i t cs R (.returned (.tuple #[])) (wr.setCell ⟨g, i, none⟩ (.slice A3 D.length c3)) from by
        rw [hRs]
        exact ⟨rfl, ⟨A3, c3, blk_upd i _ hq rfl, hR2⟩, hsrc.put hgp hg0 i _, hch.setCell (p := ⟨g, i, none⟩) (.inl (.inr rfl)) _⟩)
      clear hrow hR hRs hR2 hsrc hzs hq hch
      go_wp2
      refine bodyPost_end (results_none rfl _ _ _) rfl ?_
      exact HD.out
end Go.Proofs.Ythkdihpbdaehbaa.Pr
namespace Go.Proofs.Ythkdihpbdaehbaa.Pr
set_option linter.unusedVariables false
set_option linter.unusedSimpArgs false
open Go.RowKit Go.Proofs.YthkdihpbdaehbaaW.PrintWords Go.Proofs.YthkdihpbdaehbaaW.PrintLast Go.Proofs.YthkdihpbdaehbaaW.PrintMore Go.Proofs.Ythkdihpbdaehbaa.Bs
theorem blk12 {w : World} {g t : Nat} {a0 a1 a2 a3 a4 a5 a6 a7 a8 a9 a10 a11 : Value} (h : w.heap[g]? = some (.cells #[a0, a1, a2, a3, a4, a5, a6, a7, a8, a9, a10, a11] t (0, 0))) : w.cell? ⟨g, 0, none⟩ = some a0 ∧ w.cell? ⟨g, 1, none⟩ = some a1 ∧ w.cell? ⟨g, 2, none⟩ = some a2 ∧ w.cell? ⟨g, 3, none⟩ = some a3 ∧ w.cell? ⟨g, 4, none⟩ = some a4 ∧ w.cell? ⟨g, 5, none⟩ = some a5 ∧ w.cell? ⟨g, 6, none⟩ = some a6 ∧ w.cell? ⟨g, 7, none⟩ = some a7 ∧ w.cell? ⟨g, 8, none⟩ = some a8 ∧ w.cell? ⟨g, 9, none⟩ = some a9 ∧ w.cell? ⟨g, 10, none⟩ = some a10 ∧ w.cell? ⟨g, 11, none⟩ = some a11 ∧ ∀ i, w.frozen? ⟨g, i, none⟩ = false :=
  ⟨blk_cell h 0, blk_cell h 1, blk_cell h 2, blk_cell h 3, blk_cell h 4, blk_cell h 5, blk_cell h 6, blk_cell h 7, blk_cell h 8, blk_cell h 9, blk_cell h 10, blk_cell h 11, fun i => blk_frozen h i⟩
/-- What RightRep lets through, as bounds. -/
structure Rp.small (r : Rp) : Prop where
  k : 0 ≤ r.kind ∧ r.kind ≤ 6
  e : 0 ≤ r.err ∧ r.err ≤ 65535
  x : 0 ≤ r.txn ∧ r.txn ≤ 2147483647
  i : 0 ≤ r.id ∧ r.id ≤ 2147483647
  t : 0 ≤ r.time
  s : r.s.size ≤ 65535
  vt : 0 ≤ r.vt ∧ r.vt ≤ 4
  n : r.nodes.length ≤ 1000
  ns : ∀ x ∈ r.nodes, 0 ≤ x ∧ x ≤ 2147483647
  g : 0 ≤ r.tag ∧ r.tag ≤ 255
  v : -9223372036854775808 ≤ r.vv ∧ r.vv ≤ 9223372036854775807
  vs : r.vs.size ≤ 65535
def Rp.head (r : Rp) : List Int := [] ++ be 1 r.kind ++ be 2 r.err ++ be 4 r.txn ++ be 4 r.id ++ be 8 r.time ++ textB r.s ++ be 1 r.vt
def Rp.tail (r : Rp) : List Int := if r.vt = 1 then be 2 r.nodes.length ++ beAll r.nodes else if r.vt = 2 then be 1 (flag r.vb) else if r.vt = 3 then be 1 r.tag ++ be 8 (IntKind.u64.wrap r.vv) else if r.vt = 4 then textB r.vs else []
def Rp.bytes (r : Rp) : List Int := r.head ++ r.tail
/-- The same as addr_on for a number without a sign. -/
theorem addr_num (B : Nat) (w w1 : World) (p qb t g j T : Nat) (bv : Value) (cs cur : Array Value) (xs : List Int) (n : Int) (size : Nat) (h : On B w p bv qb cs t xs w1) (hne : qb ≠ p) (ht : t ≠ 5) (hg : w1.heap[g]? = some (.cells cur T (0, 0))) (hT : T ≠ 5) (hT2 : T ≠ 56) (hc : cur[j]? = some (.int .u64 n)) (hBw : B ≤ w.heap.size) (h0 : 0 ≤ n) (hs : size ≤ 8) (hl : xs.length ≤ 1000000) :
    Calls Try.prog 41 #[.pointer (some ⟨p, 0, none⟩), .pointer (some ⟨g, j, none⟩), .int .i64 size] w1 fun e w' => e = .returned (.tuple #[]) ∧ On B w p bv qb cs t (xs ++ be size n) w' ∧ ∀ (g' : Nat) (cur' : Array Value) (T' : Nat), T' ≠ 5 → T' ≠ 56 → w1.heap[g']? = some (.cells cur' T' (0, 0)) → w'.heap[g']? = some (.cells cur' T' (0, 0)) := by
  obtain ⟨⟨⟨bv', ⟨hp, hat⟩⟩, hch⟩, hq⟩ := h
  have hn := Kd.R_ne hp.row hq (fun e => ht e.symm)
  have hpn : ∀ (g' : Nat) (cur' : Array Value) (T' : Nat), T' ≠ 56 → w1.heap[g']? = some (.cells cur' T' (0, 0)) → g' ≠ p := by
    rintro g' cur' T' hT' hg' rfl
    rw [hp.cells] at hg'
    injection hg' with hg'
    injection hg' with _ e _
    exact hT' e.symm
  refine (number_put B w1 p bv' xs ⟨g, j, none⟩ n size hp ((blk_cell hg j).trans hc) (hpn g cur T hT2 hg) (Kd.R_ne hp.row hg (fun e => hT e.symm)) (Nat.le_trans hBw hch.size) h0 hs hl).mono ?_
  rintro e w' ⟨rfl, hL⟩
  refine ⟨rfl, ⟨Laid.then_ hat hch hL, hL.ch.heap hq (by rintro (e | e); exact hne e; exact hn e)⟩, fun g' cur' T' h5 h56 hg' => hL.ch.heap hg' ?_⟩
  rintro (e | e)
  · exact hpn g' cur' T' h56 hg' e
  · exact Kd.R_ne hp.row hg' (fun e => h5 e.symm) e
set_option maxRecDepth 100000 in
set_option maxHeartbeats 1000000 in
theorem rput_0 (B : Nat) (w : World) (p qb : Nat) (bv : Value) (r : Rp) (A : Option Addr) (c : Nat) (hON : On B w p bv qb (r.cells (.slice A r.nodes.length c)) 44 [] w) (hne : qb ≠ p) (hB : B ≤ w.heap.size) (hBp : B ≤ p) (ho : ∀ k, some k = bv.ownBlock → B ≤ k) (hC : ∀ W, Below B w W → (Kd.int .i64).C W A r.nodes.length r.nodes) (hs : r.small) (hv : ¬ r.vt = 1 ∧ ¬ r.vt = 2 ∧ ¬ r.vt = 3 ∧ ¬ r.vt = 4) :
    Calls Try.prog 33 #[.pointer (some ⟨p, 0, none⟩), .pointer (some ⟨qb, 0, none⟩)] w fun e w' => e = .returned (.bool true) ∧ Done B w p qb bv r.bytes w' := by
  have E := Aside0.mk (show r.bytes = r.head ++ r.tail from rfl)
  have ET := Aside0.mk (show r.tail = [] by simp [Rp.tail, hv])
  have V := Aside0.mk hv
  obtain ⟨⟨ka, kb⟩, ⟨ea, eb⟩, ⟨xa, xb⟩, ⟨ia, ib⟩, ta, ss, ⟨va, vb'⟩, nl, nn, ⟨ga, gb⟩, ⟨wa, wb⟩, vl⟩ := hs
  obtain ⟨k, er, tx, id, ti, vt, ns, vb, tag, vv, vs, s⟩ := r
  simp only [Rp.cells] at *
  have b1 : (vt == 1) = false := by simp; omega
  have b2 : (vt == 2) = false := by simp; omega
  have b3 : (vt == 3) = false := by simp; omega
  have b4 : (vt == 4) = false := by simp; omega
  clear hv
  have ON0 := hON
  clear hON
  go_enter Try.func33, Try.ntmps33
  go_wp2_with fail
  refine (int_on B w w p qb 44 0 bv _ _ k 1 ON0 hne (by decide) rfl hB (by omega) (by omega) (by decide) (by simp)).mono ?_
  rintro e w1 ⟨rfl, o1⟩
  obtain ⟨c0, c1, c2, c3, c4, c5, c6, c7, c8, c9, c10, c11, c12⟩ := blk12 o1.q
  have O1 := Aside0.mk o1
  clear o1
  go_wp2_with fail
  refine (int_new B w w1 p qb 44 bv _ _ er 2 O1.out hne (by decide) hB (by omega) (by omega) (by decide) (by simp [be_length, textB_len]; try omega)).mono ?_
  rintro e w2 ⟨rfl, o2, hn2⟩
  have hx0 := (blk_cell hn2 0).trans (show _ = some (.int .i64 er) from rfl)
  clear hn2
  clear c0 c1 c2 c3 c4 c5 c6 c7 c8 c9 c10 c11 c12
  obtain ⟨c0, c1, c2, c3, c4, c5, c6, c7, c8, c9, c10, c11, c12⟩ := blk12 o2.q
  have O2 := Aside0.mk o2
  clear o2
  have o3 := O2.out.same hne (by decide) (i := 1) (v := .int .i64 er) rfl
  go_wp2_with fail
  refine (int_on B w _ p qb 44 2 bv _ _ tx 4 o3 hne (by decide) rfl hB (by omega) (by omega) (by decide) (by simp [be_length, textB_len]; try omega)).mono ?_
  rintro e w4 ⟨rfl, o4⟩
  clear o3 hx0
  clear c0 c1 c2 c3 c4 c5 c6 c7 c8 c9 c10 c11 c12
  obtain ⟨c0, c1, c2, c3, c4, c5, c6, c7, c8, c9, c10, c11, c12⟩ := blk12 o4.q
  have O4 := Aside0.mk o4
  clear o4
  go_wp2_with fail
  refine (int_on B w w4 p qb 44 3 bv _ _ id 4 O4.out hne (by decide) rfl hB (by omega) (by omega) (by decide) (by simp [be_length, textB_len]; try omega)).mono ?_
  rintro e w5 ⟨rfl, o5⟩
  clear c0 c1 c2 c3 c4 c5 c6 c7 c8 c9 c10 c11 c12
  obtain ⟨c0, c1, c2, c3, c4, c5, c6, c7, c8, c9, c10, c11, c12⟩ := blk12 o5.q
  have O5 := Aside0.mk o5
  clear o5
  go_wp2_with fail
  refine (num_on B w w5 p qb 44 4 bv _ _ ti 8 O5.out hne (by decide) rfl hB (by omega) (by decide) (by simp [be_length, textB_len]; try omega)).mono ?_
  rintro e w6 ⟨rfl, o6⟩
  clear c0 c1 c2 c3 c4 c5 c6 c7 c8 c9 c10 c11 c12
  obtain ⟨c0, c1, c2, c3, c4, c5, c6, c7, c8, c9, c10, c11, c12⟩ := blk12 o6.q
  have O6 := Aside0.mk o6
  clear o6
  go_wp2_with fail
  refine (text_on B w w6 p qb 44 11 bv _ _ s O6.out hne (by decide) rfl hB (by omega) (by simp [be_length, textB_len]; try omega)).mono ?_
  rintro e w7 ⟨rfl, o7⟩
  clear c0 c1 c2 c3 c4 c5 c6 c7 c8 c9 c10 c11 c12
  obtain ⟨c0, c1, c2, c3, c4, c5, c6, c7, c8, c9, c10, c11, c12⟩ := blk12 o7.q
  have O7 := Aside0.mk o7
  clear o7
  go_wp2_with fail
  refine (int_on B w w7 p qb 44 5 bv _ _ vt 1 O7.out hne (by decide) rfl hB (by omega) (by omega) (by decide) (by simp [be_length, textB_len]; try omega)).mono ?_
  rintro e w8 ⟨rfl, o8⟩
  clear c0 c1 c2 c3 c4 c5 c6 c7 c8 c9 c10 c11 c12
  obtain ⟨c0, c1, c2, c3, c4, c5, c6, c7, c8, c9, c10, c11, c12⟩ := blk12 o8.q
  have O8 := Aside0.mk o8
  clear o8
  go_wp2_with fail
  go_ret
  rw [E.out, ET.out]
  exact ⟨rfl, by rw [List.append_nil]; exact O8.out.done⟩
set_option maxRecDepth 100000 in
set_option maxHeartbeats 1000000 in
theorem rput_4 (B : Nat) (w : World) (p qb : Nat) (bv : Value) (r : Rp) (A : Option Addr) (c : Nat) (hON : On B w p bv qb (r.cells (.slice A r.nodes.length c)) 44 [] w) (hne : qb ≠ p) (hB : B ≤ w.heap.size) (hBp : B ≤ p) (ho : ∀ k, some k = bv.ownBlock → B ≤ k) (hC : ∀ W, Below B w W → (Kd.int .i64).C W A r.nodes.length r.nodes) (hs : r.small) (hv : r.vt = 4) :
    Calls Try.prog 33 #[.pointer (some ⟨p, 0, none⟩), .pointer (some ⟨qb, 0, none⟩)] w fun e w' => e = .returned (.bool true) ∧ Done B w p qb bv r.bytes w' := by
  have E := Aside0.mk (show r.bytes = r.head ++ r.tail from rfl)
  have ET := Aside0.mk (show r.tail = textB r.vs by simp [Rp.tail, hv])
  have V := Aside0.mk hv
  obtain ⟨⟨ka, kb⟩, ⟨ea, eb⟩, ⟨xa, xb⟩, ⟨ia, ib⟩, ta, ss, ⟨va, vb'⟩, nl, nn, ⟨ga, gb⟩, ⟨wa, wb⟩, vl⟩ := hs
  obtain ⟨k, er, tx, id, ti, vt, ns, vb, tag, vv, vs, s⟩ := r
  simp only [Rp.cells] at *
  have b1 : (vt == 1) = false := by simp; omega
  have b2 : (vt == 2) = false := by simp; omega
  have b3 : (vt == 3) = false := by simp; omega
  have b4 : (vt == 4) = true := by simp; omega
  clear hv
  have ON0 := hON
  clear hON
  go_enter Try.func33, Try.ntmps33
  go_wp2_with fail
  refine (int_on B w w p qb 44 0 bv _ _ k 1 ON0 hne (by decide) rfl hB (by omega) (by omega) (by decide) (by simp)).mono ?_
  rintro e w1 ⟨rfl, o1⟩
  obtain ⟨c0, c1, c2, c3, c4, c5, c6, c7, c8, c9, c10, c11, c12⟩ := blk12 o1.q
  have O1 := Aside0.mk o1
  clear o1
  go_wp2_with fail
  refine (int_new B w w1 p qb 44 bv _ _ er 2 O1.out hne (by decide) hB (by omega) (by omega) (by decide) (by simp [be_length, textB_len]; try omega)).mono ?_
  rintro e w2 ⟨rfl, o2, hn2⟩
  have hx0 := (blk_cell hn2 0).trans (show _ = some (.int .i64 er) from rfl)
  clear hn2
  clear c0 c1 c2 c3 c4 c5 c6 c7 c8 c9 c10 c11 c12
  obtain ⟨c0, c1, c2, c3, c4, c5, c6, c7, c8, c9, c10, c11, c12⟩ := blk12 o2.q
  have O2 := Aside0.mk o2
  clear o2
  have o3 := O2.out.same hne (by decide) (i := 1) (v := .int .i64 er) rfl
  go_wp2_with fail
  refine (int_on B w _ p qb 44 2 bv _ _ tx 4 o3 hne (by decide) rfl hB (by omega) (by omega) (by decide) (by simp [be_length, textB_len]; try omega)).mono ?_
  rintro e w4 ⟨rfl, o4⟩
  clear o3 hx0
  clear c0 c1 c2 c3 c4 c5 c6 c7 c8 c9 c10 c11 c12
  obtain ⟨c0, c1, c2, c3, c4, c5, c6, c7, c8, c9, c10, c11, c12⟩ := blk12 o4.q
  have O4 := Aside0.mk o4
  clear o4
  go_wp2_with fail
  refine (int_on B w w4 p qb 44 3 bv _ _ id 4 O4.out hne (by decide) rfl hB (by omega) (by omega) (by decide) (by simp [be_length, textB_len]; try omega)).mono ?_
  rintro e w5 ⟨rfl, o5⟩
  clear c0 c1 c2 c3 c4 c5 c6 c7 c8 c9 c10 c11 c12
  obtain ⟨c0, c1, c2, c3, c4, c5, c6, c7, c8, c9, c10, c11, c12⟩ := blk12 o5.q
  have O5 := Aside0.mk o5
  clear o5
  go_wp2_with fail
  refine (num_on B w w5 p qb 44 4 bv _ _ ti 8 O5.out hne (by decide) rfl hB (by omega) (by decide) (by simp [be_length, textB_len]; try omega)).mono ?_
  rintro e w6 ⟨rfl, o6⟩
  clear c0 c1 c2 c3 c4 c5 c6 c7 c8 c9 c10 c11 c12
  obtain ⟨c0, c1, c2, c3, c4, c5, c6, c7, c8, c9, c10, c11, c12⟩ := blk12 o6.q
  have O6 := Aside0.mk o6
  clear o6
  go_wp2_with fail
  refine (text_on B w w6 p qb 44 11 bv _ _ s O6.out hne (by decide) rfl hB (by omega) (by simp [be_length, textB_len]; try omega)).mono ?_
  rintro e w7 ⟨rfl, o7⟩
  clear c0 c1 c2 c3 c4 c5 c6 c7 c8 c9 c10 c11 c12
  obtain ⟨c0, c1, c2, c3, c4, c5, c6, c7, c8, c9, c10, c11, c12⟩ := blk12 o7.q
  have O7 := Aside0.mk o7
  clear o7
  go_wp2_with fail
  refine (int_on B w w7 p qb 44 5 bv _ _ vt 1 O7.out hne (by decide) rfl hB (by omega) (by omega) (by decide) (by simp [be_length, textB_len]; try omega)).mono ?_
  rintro e w8 ⟨rfl, o8⟩
  clear c0 c1 c2 c3 c4 c5 c6 c7 c8 c9 c10 c11 c12
  obtain ⟨c0, c1, c2, c3, c4, c5, c6, c7, c8, c9, c10, c11, c12⟩ := blk12 o8.q
  have O8 := Aside0.mk o8
  clear o8
  go_wp2_with fail
  refine (text_on B w w8 p qb 44 10 bv _ _ vs O8.out hne (by decide) rfl hB (by omega) (by simp [be_length, textB_len]; try omega)).mono ?_
  rintro e w9 ⟨rfl, o9⟩
  have O9 := Aside0.mk o9
  clear o9
  go_wp2_with fail
  go_ret
  rw [E.out, ET.out]
  exact ⟨rfl, O9.out.done⟩
set_option maxRecDepth 100000 in
set_option maxHeartbeats 1000000 in
theorem rput_2 (B : Nat) (w : World) (p qb : Nat) (bv : Value) (r : Rp) (A : Option Addr) (c : Nat) (hON : On B w p bv qb (r.cells (.slice A r.nodes.length c)) 44 [] w) (hne : qb ≠ p) (hB : B ≤ w.heap.size) (hBp : B ≤ p) (ho : ∀ k, some k = bv.ownBlock → B ≤ k) (hC : ∀ W, Below B w W → (Kd.int .i64).C W A r.nodes.length r.nodes) (hs : r.small) (hv : r.vt = 2) :
    Calls Try.prog 33 #[.pointer (some ⟨p, 0, none⟩), .pointer (some ⟨qb, 0, none⟩)] w fun e w' => e = .returned (.bool true) ∧ Done B w p qb bv r.bytes w' := by
  have E := Aside0.mk (show r.bytes = r.head ++ r.tail from rfl)
  have ET := Aside0.mk (show r.tail = be 1 (flag r.vb) by simp [Rp.tail, hv])
  have V := Aside0.mk hv
  obtain ⟨⟨ka, kb⟩, ⟨ea, eb⟩, ⟨xa, xb⟩, ⟨ia, ib⟩, ta, ss, ⟨va, vb'⟩, nl, nn, ⟨ga, gb⟩, ⟨wa, wb⟩, vl⟩ := hs
  obtain ⟨k, er, tx, id, ti, vt, ns, vb, tag, vv, vs, s⟩ := r
  simp only [Rp.cells] at *
  have b1 : (vt == 1) = false := by simp; omega
  have b2 : (vt == 2) = true := by simp; omega
  have b3 : (vt == 3) = false := by simp; omega
  have b4 : (vt == 4) = false := by simp; omega
  clear hv
  have ON0 := hON
  clear hON
  go_enter Try.func33, Try.ntmps33
  go_wp2_with fail
  refine (int_on B w w p qb 44 0 bv _ _ k 1 ON0 hne (by decide) rfl hB (by omega) (by omega) (by decide) (by simp)).mono ?_
  rintro e w1 ⟨rfl, o1⟩
  obtain ⟨c0, c1, c2, c3, c4, c5, c6, c7, c8, c9, c10, c11, c12⟩ := blk12 o1.q
  have O1 := Aside0.mk o1
  clear o1
  go_wp2_with fail
  refine (int_new B w w1 p qb 44 bv _ _ er 2 O1.out hne (by decide) hB (by omega) (by omega) (by decide) (by simp [be_length, textB_len]; try omega)).mono ?_
  rintro e w2 ⟨rfl, o2, hn2⟩
  have hx0 := (blk_cell hn2 0).trans (show _ = some (.int .i64 er) from rfl)
  clear hn2
  clear c0 c1 c2 c3 c4 c5 c6 c7 c8 c9 c10 c11 c12
  obtain ⟨c0, c1, c2, c3, c4, c5, c6, c7, c8, c9, c10, c11, c12⟩ := blk12 o2.q
  have O2 := Aside0.mk o2
  clear o2
  have o3 := O2.out.same hne (by decide) (i := 1) (v := .int .i64 er) rfl
  go_wp2_with fail
  refine (int_on B w _ p qb 44 2 bv _ _ tx 4 o3 hne (by decide) rfl hB (by omega) (by omega) (by decide) (by simp [be_length, textB_len]; try omega)).mono ?_
  rintro e w4 ⟨rfl, o4⟩
  clear o3 hx0
  clear c0 c1 c2 c3 c4 c5 c6 c7 c8 c9 c10 c11 c12
  obtain ⟨c0, c1, c2, c3, c4, c5, c6, c7, c8, c9, c10, c11, c12⟩ := blk12 o4.q
  have O4 := Aside0.mk o4
  clear o4
  go_wp2_with fail
  refine (int_on B w w4 p qb 44 3 bv _ _ id 4 O4.out hne (by decide) rfl hB (by omega) (by omega) (by decide) (by simp [be_length, textB_len]; try omega)).mono ?_
  rintro e w5 ⟨rfl, o5⟩
  clear c0 c1 c2 c3 c4 c5 c6 c7 c8 c9 c10 c11 c12
  obtain ⟨c0, c1, c2, c3, c4, c5, c6, c7, c8, c9, c10, c11, c12⟩ := blk12 o5.q
  have O5 := Aside0.mk o5
  clear o5
  go_wp2_with fail
  refine (num_on B w w5 p qb 44 4 bv _ _ ti 8 O5.out hne (by decide) rfl hB (by omega) (by decide) (by simp [be_length, textB_len]; try omega)).mono ?_
  rintro e w6 ⟨rfl, o6⟩
  clear c0 c1 c2 c3 c4 c5 c6 c7 c8 c9 c10 c11 c12
  obtain ⟨c0, c1, c2, c3, c4, c5, c6, c7, c8, c9, c10, c11, c12⟩ := blk12 o6.q
  have O6 := Aside0.mk o6
  clear o6
  go_wp2_with fail
  refine (text_on B w w6 p qb 44 11 bv _ _ s O6.out hne (by decide) rfl hB (by omega) (by simp [be_length, textB_len]; try omega)).mono ?_
  rintro e w7 ⟨rfl, o7⟩
  clear c0 c1 c2 c3 c4 c5 c6 c7 c8 c9 c10 c11 c12
  obtain ⟨c0, c1, c2, c3, c4, c5, c6, c7, c8, c9, c10, c11, c12⟩ := blk12 o7.q
  have O7 := Aside0.mk o7
  clear o7
  go_wp2_with fail
  refine (int_on B w w7 p qb 44 5 bv _ _ vt 1 O7.out hne (by decide) rfl hB (by omega) (by omega) (by decide) (by simp [be_length, textB_len]; try omega)).mono ?_
  rintro e w8 ⟨rfl, o8⟩
  clear c0 c1 c2 c3 c4 c5 c6 c7 c8 c9 c10 c11 c12
  obtain ⟨c0, c1, c2, c3, c4, c5, c6, c7, c8, c9, c10, c11, c12⟩ := blk12 o8.q
  have O8 := Aside0.mk o8
  clear o8
  go_wp2_with fail
  refine (truth_put B w w8 p qb 44 7 bv _ _ vb O8.out hne (by decide) rfl hB (by simp [be_length, textB_len]; try omega)).mono ?_
  rintro e w9 ⟨rfl, o9⟩
  have O9 := Aside0.mk o9
  clear o9
  go_wp2_with fail
  go_ret
  rw [E.out, ET.out]
  exact ⟨rfl, O9.out.done⟩
set_option maxRecDepth 100000 in
set_option maxHeartbeats 1000000 in
theorem rput_1 (B : Nat) (w : World) (p qb : Nat) (bv : Value) (r : Rp) (A : Option Addr) (c : Nat) (hON : On B w p bv qb (r.cells (.slice A r.nodes.length c)) 44 [] w) (hne : qb ≠ p) (hB : B ≤ w.heap.size) (hBp : B ≤ p) (ho : ∀ k, some k = bv.ownBlock → B ≤ k) (hC : ∀ W, Below B w W → (Kd.int .i64).C W A r.nodes.length r.nodes) (hs : r.small) (hv : r.vt = 1) :
    Calls Try.prog 33 #[.pointer (some ⟨p, 0, none⟩), .pointer (some ⟨qb, 0, none⟩)] w fun e w' => e = .returned (.bool true) ∧ Done B w p qb bv r.bytes w' := by
  have E := Aside0.mk (show r.bytes = r.head ++ r.tail from rfl)
  have ET := Aside0.mk (show r.tail = be 2 r.nodes.length ++ beAll r.nodes by simp [Rp.tail, hv])
  have V := Aside0.mk hv
  obtain ⟨⟨ka, kb⟩, ⟨ea, eb⟩, ⟨xa, xb⟩, ⟨ia, ib⟩, ta, ss, ⟨va, vb'⟩, nl, nn, ⟨ga, gb⟩, ⟨wa, wb⟩, vl⟩ := hs
  obtain ⟨k, er, tx, id, ti, vt, ns, vb, tag, vv, vs, s⟩ := r
  simp only [Rp.cells] at *
  have b1 : (vt == 1) = true := by simp; omega
  have b2 : (vt == 2) = false := by simp; omega
  have b3 : (vt == 3) = false := by simp; omega
  have b4 : (vt == 4) = false := by simp; omega
  clear hv
  have ON0 := hON
  clear hON
  go_enter Try.func33, Try.ntmps33
  go_wp2_with fail
  refine (int_on B w w p qb 44 0 bv _ _ k 1 ON0 hne (by decide) rfl hB (by omega) (by omega) (by decide) (by simp)).mono ?_
  rintro e w1 ⟨rfl, o1⟩
  obtain ⟨c0, c1, c2, c3, c4, c5, c6, c7, c8, c9, c10, c11, c12⟩ := blk12 o1.q
  have O1 := Aside0.mk o1
  clear o1
  go_wp2_with fail
  refine (int_new B w w1 p qb 44 bv _ _ er 2 O1.out hne (by decide) hB (by omega) (by omega) (by decide) (by simp [be_length, textB_len]; try omega)).mono ?_
  rintro e w2 ⟨rfl, o2, hn2⟩
  have hx0 := (blk_cell hn2 0).trans (show _ = some (.int .i64 er) from rfl)
  clear hn2
  clear c0 c1 c2 c3 c4 c5 c6 c7 c8 c9 c10 c11 c12
  obtain ⟨c0, c1, c2, c3, c4, c5, c6, c7, c8, c9, c10, c11, c12⟩ := blk12 o2.q
  have O2 := Aside0.mk o2
  clear o2
  have o3 := O2.out.same hne (by decide) (i := 1) (v := .int .i64 er) rfl
  go_wp2_with fail
  refine (int_on B w _ p qb 44 2 bv _ _ tx 4 o3 hne (by decide) rfl hB (by omega) (by omega) (by decide) (by simp [be_length, textB_len]; try omega)).mono ?_
  rintro e w4 ⟨rfl, o4⟩
  clear o3 hx0
  clear c0 c1 c2 c3 c4 c5 c6 c7 c8 c9 c10 c11 c12
  obtain ⟨c0, c1, c2, c3, c4, c5, c6, c7, c8, c9, c10, c11, c12⟩ := blk12 o4.q
  have O4 := Aside0.mk o4
  clear o4
  go_wp2_with fail
  refine (int_on B w w4 p qb 44 3 bv _ _ id 4 O4.out hne (by decide) rfl hB (by omega) (by omega) (by decide) (by simp [be_length, textB_len]; try omega)).mono ?_
  rintro e w5 ⟨rfl, o5⟩
  clear c0 c1 c2 c3 c4 c5 c6 c7 c8 c9 c10 c11 c12
  obtain ⟨c0, c1, c2, c3, c4, c5, c6, c7, c8, c9, c10, c11, c12⟩ := blk12 o5.q
  have O5 := Aside0.mk o5
  clear o5
  go_wp2_with fail
  refine (num_on B w w5 p qb 44 4 bv _ _ ti 8 O5.out hne (by decide) rfl hB (by omega) (by decide) (by simp [be_length, textB_len]; try omega)).mono ?_
  rintro e w6 ⟨rfl, o6⟩
  clear c0 c1 c2 c3 c4 c5 c6 c7 c8 c9 c10 c11 c12
  obtain ⟨c0, c1, c2, c3, c4, c5, c6, c7, c8, c9, c10, c11, c12⟩ := blk12 o6.q
  have O6 := Aside0.mk o6
  clear o6
  go_wp2_with fail
  refine (text_on B w w6 p qb 44 11 bv _ _ s O6.out hne (by decide) rfl hB (by omega) (by simp [be_length, textB_len]; try omega)).mono ?_
  rintro e w7 ⟨rfl, o7⟩
  clear c0 c1 c2 c3 c4 c5 c6 c7 c8 c9 c10 c11 c12
  obtain ⟨c0, c1, c2, c3, c4, c5, c6, c7, c8, c9, c10, c11, c12⟩ := blk12 o7.q
  have O7 := Aside0.mk o7
  clear o7
  go_wp2_with fail
  refine (int_on B w w7 p qb 44 5 bv _ _ vt 1 O7.out hne (by decide) rfl hB (by omega) (by omega) (by decide) (by simp [be_length, textB_len]; try omega)).mono ?_
  rintro e w8 ⟨rfl, o8⟩
  clear c0 c1 c2 c3 c4 c5 c6 c7 c8 c9 c10 c11 c12
  obtain ⟨c0, c1, c2, c3, c4, c5, c6, c7, c8, c9, c10, c11, c12⟩ := blk12 o8.q
  have O8 := Aside0.mk o8
  clear o8
  go_wp2_with fail
  refine (nodes_put B w w8 p qb 44 6 bv _ _ A c ns O8.out hne (by decide) rfl hB hC (by omega) nn hBp ho (by simp [be_length, textB_len]; try omega)).mono ?_
  rintro e w9 ⟨rfl, o9⟩
  have O9 := Aside0.mk o9
  clear o9
  go_wp2_with fail
  go_ret
  rw [E.out, ET.out]
  exact ⟨rfl, by rw [← List.append_assoc]; exact O9.out⟩
set_option maxRecDepth 100000 in
set_option maxHeartbeats 1000000 in
theorem rput_3 (B : Nat) (w : World) (p qb : Nat) (bv : Value) (r : Rp) (A : Option Addr) (c : Nat) (hON : On B w p bv qb (r.cells (.slice A r.nodes.length c)) 44 [] w) (hne : qb ≠ p) (hB : B ≤ w.heap.size) (hBp : B ≤ p) (ho : ∀ k, some k = bv.ownBlock → B ≤ k) (hC : ∀ W, Below B w W → (Kd.int .i64).C W A r.nodes.length r.nodes) (hs : r.small) (hv : r.vt = 3) :
    Calls Try.prog 33 #[.pointer (some ⟨p, 0, none⟩), .pointer (some ⟨qb, 0, none⟩)] w fun e w' => e = .returned (.bool true) ∧ Done B w p qb bv r.bytes w' := by
  have E := Aside0.mk (show r.bytes = r.head ++ r.tail from rfl)
  have ET := Aside0.mk (show r.tail = be 1 r.tag ++ be 8 (IntKind.u64.wrap r.vv) by simp [Rp.tail, hv])
  have V := Aside0.mk hv
  obtain ⟨⟨ka, kb⟩, ⟨ea, eb⟩, ⟨xa, xb⟩, ⟨ia, ib⟩, ta, ss, ⟨va, vb'⟩, nl, nn, ⟨ga, gb⟩, ⟨wa, wb⟩, vl⟩ := hs
  obtain ⟨k, er, tx, id, ti, vt, ns, vb, tag, vv, vs, s⟩ := r
  simp only [Rp.cells] at *
  have b1 : (vt == 1) = false := by simp; omega
  have b2 : (vt == 2) = false := by simp; omega
  have b3 : (vt == 3) = true := by simp; omega
  have b4 : (vt == 4) = false := by simp; omega
  clear hv
  have ON0 := hON
  clear hON
  go_enter Try.func33, Try.ntmps33
  go_wp2_with fail
  refine (int_on B w w p qb 44 0 bv _ _ k 1 ON0 hne (by decide) rfl hB (by omega) (by omega) (by decide) (by simp)).mono ?_
  rintro e w1 ⟨rfl, o1⟩
  obtain ⟨c0, c1, c2, c3, c4, c5, c6, c7, c8, c9, c10, c11, c12⟩ := blk12 o1.q
  have O1 := Aside0.mk o1
  clear o1
  go_wp2_with fail
  refine (int_new B w w1 p qb 44 bv _ _ er 2 O1.out hne (by decide) hB (by omega) (by omega) (by decide) (by simp [be_length, textB_len]; try omega)).mono ?_
  rintro e w2 ⟨rfl, o2, hn2⟩
  have hx0 := (blk_cell hn2 0).trans (show _ = some (.int .i64 er) from rfl)
  clear hn2
  clear c0 c1 c2 c3 c4 c5 c6 c7 c8 c9 c10 c11 c12
  obtain ⟨c0, c1, c2, c3, c4, c5, c6, c7, c8, c9, c10, c11, c12⟩ := blk12 o2.q
  have O2 := Aside0.mk o2
  clear o2
  have o3 := O2.out.same hne (by decide) (i := 1) (v := .int .i64 er) rfl
  go_wp2_with fail
  refine (int_on B w _ p qb 44 2 bv _ _ tx 4 o3 hne (by decide) rfl hB (by omega) (by omega) (by decide) (by simp [be_length, textB_len]; try omega)).mono ?_
  rintro e w4 ⟨rfl, o4⟩
  clear o3 hx0
  clear c0 c1 c2 c3 c4 c5 c6 c7 c8 c9 c10 c11 c12
  obtain ⟨c0, c1, c2, c3, c4, c5, c6, c7, c8, c9, c10, c11, c12⟩ := blk12 o4.q
  have O4 := Aside0.mk o4
  clear o4
  go_wp2_with fail
  refine (int_on B w w4 p qb 44 3 bv _ _ id 4 O4.out hne (by decide) rfl hB (by omega) (by omega) (by decide) (by simp [be_length, textB_len]; try omega)).mono ?_
  rintro e w5 ⟨rfl, o5⟩
  clear c0 c1 c2 c3 c4 c5 c6 c7 c8 c9 c10 c11 c12
  obtain ⟨c0, c1, c2, c3, c4, c5, c6, c7, c8, c9, c10, c11, c12⟩ := blk12 o5.q
  have O5 := Aside0.mk o5
  clear o5
  go_wp2_with fail
  refine (num_on B w w5 p qb 44 4 bv _ _ ti 8 O5.out hne (by decide) rfl hB (by omega) (by decide) (by simp [be_length, textB_len]; try omega)).mono ?_
  rintro e w6 ⟨rfl, o6⟩
  clear c0 c1 c2 c3 c4 c5 c6 c7 c8 c9 c10 c11 c12
  obtain ⟨c0, c1, c2, c3, c4, c5, c6, c7, c8, c9, c10, c11, c12⟩ := blk12 o6.q
  have O6 := Aside0.mk o6
  clear o6
  go_wp2_with fail
  refine (text_on B w w6 p qb 44 11 bv _ _ s O6.out hne (by decide) rfl hB (by omega) (by simp [be_length, textB_len]; try omega)).mono ?_
  rintro e w7 ⟨rfl, o7⟩
  clear c0 c1 c2 c3 c4 c5 c6 c7 c8 c9 c10 c11 c12
  obtain ⟨c0, c1, c2, c3, c4, c5, c6, c7, c8, c9, c10, c11, c12⟩ := blk12 o7.q
  have O7 := Aside0.mk o7
  clear o7
  go_wp2_with fail
  refine (int_on B w w7 p qb 44 5 bv _ _ vt 1 O7.out hne (by decide) rfl hB (by omega) (by omega) (by decide) (by simp [be_length, textB_len]; try omega)).mono ?_
  rintro e w8 ⟨rfl, o8⟩
  clear c0 c1 c2 c3 c4 c5 c6 c7 c8 c9 c10 c11 c12
  obtain ⟨c0, c1, c2, c3, c4, c5, c6, c7, c8, c9, c10, c11, c12⟩ := blk12 o8.q
  have O8 := Aside0.mk o8
  clear o8
  have hwv : 0 ≤ IntKind.u64.wrap vv := by rw [IntKind.wrap_u64]; omega
  have hi8 : IntKind.i64.wrap (IntKind.u64.wrap vv) = vv := by rw [IntKind.wrap_u64]; simp [IntKind.wrap, IntKind.bits, IntKind.signed]; omega
  have hq9 : (w8.alloc (.cells #[.int .u64 (IntKind.u64.wrap vv)] 37)).heap[w8.heap.size]? = some (.cells #[.int .u64 (IntKind.u64.wrap vv)] 37 (0, 0)) := heap_alloc_new w8 _
  have o9 := O8.out.below (below_alloc (Below.refl _ _) (.cells #[.int .u64 (IntKind.u64.wrap vv)] 37))
  have C9 := addr_on B w _ p qb 44 qb 8 44 bv _ _ _ tag 1 o9 hne (by decide) o9.q (by decide) (by decide) rfl hB ga (by omega) (by decide) (by simp [be_length, textB_len]; try omega)
  clear o9
  go_wp2_with fail
  refine C9.mono ?_
  rintro e w10 ⟨rfl, o10, hk⟩
  have hq10 := hk _ _ 37 (by decide) (by decide) hq9
  have C10 := addr_num B w w10 p qb 44 w8.heap.size 0 37 bv _ _ _ (IntKind.u64.wrap vv) 8 o10 hne (by decide) hq10 (by decide) (by decide) rfl hB hwv (by decide) (by simp [be_length, textB_len]; try omega)
  clear o10 hk C9 hq9
  go_wp2_with fail
  refine C10.mono ?_
  rintro e w11 ⟨rfl, o11, hk⟩
  have hq11 := hk _ _ 37 (by decide) (by decide) hq10
  have hy0 := (blk_cell hq11 0).trans (show _ = some (.int .u64 (IntKind.u64.wrap vv)) from rfl)
  clear c0 c1 c2 c3 c4 c5 c6 c7 c8 c9 c10 c11 c12
  obtain ⟨c0, c1, c2, c3, c4, c5, c6, c7, c8, c9, c10, c11, c12⟩ := blk12 o11.q
  have O11 := Aside0.mk (o11.same hne (by decide) (i := 9) (v := .int .i64 vv) rfl)
  clear o11 hk hq10 hq11 C10
  go_wp2_with fail
  go_ret
  rw [E.out, ET.out]
  exact ⟨rfl, by rw [← List.append_assoc]; exact O11.out.done⟩
theorem reply_put (B : Nat) (w : World) (p qb : Nat) (bv : Value) (r : Rp) (A : Option Addr) (c : Nat) (hON : On B w p bv qb (r.cells (.slice A r.nodes.length c)) 44 [] w) (hne : qb ≠ p) (hB : B ≤ w.heap.size) (hBp : B ≤ p) (ho : ∀ k, some k = bv.ownBlock → B ≤ k) (hC : ∀ W, Below B w W → (Kd.int .i64).C W A r.nodes.length r.nodes) (hs : r.small) :
    Calls Try.prog 33 #[.pointer (some ⟨p, 0, none⟩), .pointer (some ⟨qb, 0, none⟩)] w fun e w' => e = .returned (.bool true) ∧ Done B w p qb bv r.bytes w' := by
  by_cases h1 : r.vt = 1
  · exact rput_1 B w p qb bv r A c hON hne hB hBp ho hC hs h1
  by_cases h2 : r.vt = 2
  · exact rput_2 B w p qb bv r A c hON hne hB hBp ho hC hs h2
  by_cases h3 : r.vt = 3
  · exact rput_3 B w p qb bv r A c hON hne hB hBp ho hC hs h3
  by_cases h4 : r.vt = 4
  · exact rput_4 B w p qb bv r A c hON hne hB hBp ho hC hs h4
  exact rput_0 B w p qb bv r A c hON hne hB hBp ho hC hs ⟨h1, h2, h3, h4⟩
end Go.Proofs.Ythkdihpbdaehbaa.Pr
