import Derived.Test.YthkdihpbdaehbaaPrO
namespace Go.Proofs.Ythkdihpbdaehbaa.Pr
set_option linter.unusedVariables false
set_option linter.unusedSimpArgs false
open Go.RowKit Go.Proofs.YthkdihpbdaehbaaW.PrintWords Go.Proofs.YthkdihpbdaehbaaW.PrintLast Go.Proofs.YthkdihpbdaehbaaW.PrintMore Go.Proofs.Ythkdihpbdaehbaa.Bs
def zeroReq : Rq := ⟨0, nil8, 0, 0, 0, nil8, nil8⟩
/-- What is read of bytes, if that is all of them. -/
def readReq (xs : List Int) : Option Rq := if 4200 < xs.length then none else match parseReq xs with | some (q, []) => some q | _ => none
def Res2 (w0 w : World) (p g : Nat) (r : Option (Rq × List Int)) (e : Ending) (w' : World) : Prop :=
  match r with
  | none => LostCh w p g e w'
  | some (q, ys) => e = .returned (.bool true) ∧ w'.heap[g]? = some (.cells q.cells 25 (0, 0)) ∧ Src w0 w' p ys ∧ Ch (fun k => k = p ∨ k = g) w w'
set_option maxRecDepth 100000 in
set_option maxHeartbeats 400000 in
theorem do_req (w0 w : World) (p g : Nat) (xs : List Int) (h : Src w0 w p xs) (hby : Bys xs) (hg : w.heap[g]? = some (.cells zeroReq.cells 25 (0, 0))) (hgp : g ≠ p) (hg0 : w0.heap.size ≤ g) :
    Calls Try.prog 29 #[.pointer (some ⟨p, 0, none⟩), .pointer (some ⟨g, 0, none⟩)] w (Res2 w0 w p g (parseReq xs)) := by
  have C1 := request_get w0 w p g xs h hby hg hgp hg0
  clear h hby hg
  generalize parseReq xs = R at *
  cases R with
  | none =>
    go_enter Try.func29, Try.ntmps29
    go_wp2_with fail
    refine C1.mono ?_
    rintro e w1 ⟨rfl, hch⟩
    exact ⟨rfl, ⟨rfl, hch⟩⟩
  | some r =>
    obtain ⟨q, ys⟩ := r
    go_enter Try.func29, Try.ntmps29
    go_wp2_with fail
    refine C1.mono ?_
    rintro e w1 ⟨rfl, hq, hs, hch⟩
    have HF := Aside0.mk (And.intro hq (And.intro hs hch))
    clear hq hs hch C1
    go_wp2_with fail
    go_ret
    exact ⟨rfl, HF.out.1, HF.out.2.1, HF.out.2.2⟩
/-- What read gives for GetReq. -/
def RdPost (w : World) (g : Nat) (r : Option Rq) (e : Ending) (w' : World) : Prop :=
  e = .returned (.bool r.isSome) ∧ Ch (fun k => k = g) w w' ∧ ∀ q, r = some q → w'.heap[g]? = some (.cells q.cells 25 (0, 0))
theorem RdPost.mk_ {w w2 : World} {g : Nat} {r : Option Rq} {b : Bool} (hb : b = r.isSome) (hch : Ch (fun k => k = g) w w2) (hq : ∀ q, r = some q → w2.heap[g]? = some (.cells q.cells 25 (0, 0))) : RdPost w g r (.returned (.bool b)) w2 := ⟨by rw [hb], hch, hq⟩
set_option maxRecDepth 100000 in
set_option maxHeartbeats 400000 in
theorem read_req (w0 w : World) (g : Nat) (A : Option Addr) (c : Nat) (xs : List Int) (hC : (Kd.int .u8).C w0 A xs.length xs) (hl : xs.length ≤ c) (hby : Bys xs) (ho : Below w0.heap.size w0 w) (hg : w.heap[g]? = some (.cells zeroReq.cells 25 (0, 0))) (hg0 : w0.heap.size ≤ g) :
    Calls Try.prog 28 #[.slice A xs.length c, .func (.func 29) #[] #[.pointer (some ⟨g, 0, none⟩)]] w (RdPost w g (readReq xs)) := by
  have hmf : ∀ (fn : Fn) (first cap : Array Value) (w : World), (Instr.makeFunc fn first cap).run Try.prog w = .ok (.func fn first cap) w := fun _ _ _ _ => rfl
  by_cases hlen : 4200 < xs.length
  · have hlen' : ¬ (xs.length : Int) ≤ 4200 := by omega
    have E := Aside0.mk (show readReq xs = none from if_pos hlen)
    clear hlen hC hby ho hg
    go_enter_defers Try.func28, Try.ntmps28
    go_wp2_with fail
    refine leaves_cons (f := 39) (args := #[.pointer (some ⟨w.heap.size, 0, none⟩)]) (by simp) (by simp [go_sem]) ?_
    refine (catch_idle _ _).mono ?_
    rintro e u' w'' ⟨rfl, rfl, rfl⟩
    rw [E.out]
    refine ⟨.bool false, by simp [results, Try.results28, go_sem], RdPost.mk_ rfl (((Ch.refl _ w).alloc _).alloc _) (fun q h => by cases h)⟩
  · have hlen' : (xs.length : Int) ≤ 4200 := by omega
    have E := Aside0.mk (show readReq xs = _ from if_neg hlen)
    have HC := Aside0.mk hC
    have HB := Aside0.mk hby
    have HO := Aside0.mk ho
    have HG := Aside0.mk hg
    clear hlen hC hby ho hg
    have hgl := blk_lt HG.out
    have hz := HO.out.size
    obtain ⟨W, hW⟩ : ∃ W, W = (w.alloc (.cells #[.bool false] 4)).alloc (.cells #[.slice A xs.length c, .bool true] 56) := ⟨_, rfl⟩
    have hWch : Ch (fun _ => False) w W := by rw [hW]; exact ((Ch.refl _ w).alloc _).alloc _
    have hWp : W.heap[w.heap.size + 1]? = some (.cells #[.slice A xs.length c, .bool true] 56 (0, 0)) := by
      have h := heap_alloc_new (w.alloc (.cells #[.bool false] 4)) (.cells #[.slice A xs.length c, .bool true] 56)
      rw [show (w.alloc (.cells #[.bool false] 4)).heap.size = w.heap.size + 1 by simp, ← hW] at h
      exact h
    have hWr : W.heap[w.heap.size]? = some (.cells #[.bool false] 4 (0, 0)) := by
      rw [hW]
      exact (Below.heap_alloc _ _ _ (by simp)).trans (heap_alloc_new w _)
    have hWs : Src w0 W (w.heap.size + 1) xs := ⟨⟨A, c, hWp, hl, HC.out⟩, HO.out.trans (Ch.to_below hWch (fun _ h => h.elim) hz), by omega⟩
    have hWg : W.heap[g]? = some (.cells zeroReq.cells 25 (0, 0)) := hWch.heap HG.out (fun h => h)
    have C1 := do_req w0 W (w.heap.size + 1) g xs hWs HB.out hWg (by omega) hg0
    have HWr := Aside0.mk hWr
    have HWch := Aside0.mk (hWch.mono (S' := fun k => k = g) (fun _ h _ => h.elim))
    have HW := Aside0.mk hW
    have hW2 : W = (w.alloc (.cells #[.bool false] 4)).alloc (.cells #[.slice A xs.length c, .bool true] 56) := hW
    clear hWr hWch hWs hWg hWp hW HB HC HO HG
    rw [hW2] at C1
    clear hW2
    generalize hR : parseReq xs = R at *
    clear hR
    cases R with
    | none =>
      have E2 := Aside0.mk (show readReq xs = none from E.out)
      clear E
      go_enter_defers Try.func28, Try.ntmps28
      go_wp2_with fail
      refine C1.mono ?_
      rintro e w1 ⟨rfl, hch⟩
      rw [← HW.out] at hch
      refine leaves_cons (f := 39) (args := #[.pointer (some ⟨w.heap.size, 0, none⟩)]) (by simp) (by simp [go_sem]) ?_
      refine (catch_lost w.heap.size false w1 [] (hch.heap HWr.out (by omega))).mono ?_
      rintro e u' w2 ⟨rfl, rfl, hr2, hch2⟩
      have hc2 := blk_cell hr2 0
      have hf2 := blk_frozen hr2 0
      rw [E2.out]
      have hP : RdPost w g none (.returned (.bool false)) w2 := RdPost.mk_ rfl (HWch.out.trans ((hch.mono (S' := fun k => k = g ∨ w.heap.size ≤ k) (fun k hk _ => hk.elim (fun e => .inr (by omega)) .inl)).trans (hch2.mono (fun k hk _ => .inl (.inr (by omega)))))) (fun q h => by cases h)
      refine ⟨.bool false, ?_, hP⟩
      simp [results, Try.results28, go_sem, hc2]
    | some r =>
      obtain ⟨q, ys⟩ := r
      have EE : readReq xs = if ys.length = 0 then some q else none := by
        rw [E.out]
        cases ys <;> rfl
      have E2 := Aside0.mk EE
      clear E EE
      obtain ⟨n, hn⟩ : ∃ n, n = ys.length := ⟨_, rfl⟩
      rw [← hn] at E2
      have HN := Aside0.mk hn
      clear hn
      obtain ⟨b, hb⟩ : ∃ b, b = ((n : Int) == 0) := ⟨_, rfl⟩
      have HBB := Aside0.mk hb
      have hb' : ((n : Int) == 0) = b := hb.symm
      clear hb
      go_enter_defers Try.func28, Try.ntmps28
      go_wp2_with fail
      refine C1.mono ?_
      rintro e w1 ⟨rfl, hq, hs, hch⟩
      rw [← HW.out] at hch
      obtain ⟨⟨A', c', hp', hl', hC'⟩, ho', hpp'⟩ := hs
      rw [← HN.out] at hp'
      obtain ⟨k0, k1, k2⟩ := blk2 hp'
      have hr1 := hch.heap HWr.out (by omega)
      obtain ⟨m0, m1⟩ := blk1 hr1
      have hch1 : Ch (fun k => k = g) w w1 := HWch.out.trans (hch.mono (S' := fun k => k = g ∨ w.heap.size ≤ k) (fun k hk _ => hk.elim (fun e => .inr (by omega)) .inl))
      have HP := Aside0.mk (show ∀ v, Ch (fun k => k = g) w (w1.setCell ⟨w.heap.size, 0, none⟩ v) from fun v => hch1.setCell (p := ⟨w.heap.size, 0, none⟩) (.inr (Nat.le_refl _)) v)
      have HQ := Aside0.mk (show ∀ v, (w1.setCell ⟨w.heap.size, 0, none⟩ v).heap[g]? = some (.cells q.cells 25 (0, 0)) from fun v => (Below.heap_setCell w1 ⟨w.heap.size, 0, none⟩ v g (by show g ≠ w.heap.size; omega)).trans hq)
      have HR := Aside0.mk (show ∀ v, (w1.setCell ⟨w.heap.size, 0, none⟩ v).heap[w.heap.size]? = some (.cells #[v] 4 (0, 0)) from fun v => blk_upd 0 v hr1 rfl)
      clear hq hch hp' hC' ho' hr1 hch1 C1
      go_wp2_with fail
      refine leaves_cons (f := 39) (args := #[.pointer (some ⟨w.heap.size, 0, none⟩)]) (by simp) (by simp [go_sem]) ?_
      refine (catch_idle _ _).mono ?_
      rintro e u' w'' ⟨rfl, rfl, rfl⟩
      have hc2 := blk_cell (HR.out (.bool b)) 0
      rw [E2.out]
      refine ⟨.bool b, by simp [results, Try.results28, go_sem, hc2], RdPost.mk_ ?_ (HP.out _) ?_⟩
      · rw [HBB.out]; by_cases h : n = 0 <;> simp [h]
      · intro q' h'
        split at h'
        · cases h'; exact HQ.out _
        · cases h'
end Go.Proofs.Ythkdihpbdaehbaa.Pr
