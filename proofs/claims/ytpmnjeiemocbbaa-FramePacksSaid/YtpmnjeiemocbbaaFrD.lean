import Derived.Test.YtpmnjeiemocbbaaFrC
import Derived.BigQuiet
import Derived.Deep.QuietTactic
namespace Go.Proofs.Ytpmnjeiemocbbaa.Fr
set_option linter.unusedVariables false
set_option linter.unusedSimpArgs false
open Go.RowKit Go.Proofs.YtpmnjeiemocbbaaW.PrintWords Go.Proofs.Ytpmnjeiemocbbaa.FrK Go.Proofs.Ytpmnjeiemocbbaa.Bs
theorem z5ok : (Value.int .u8 0).cells.size = (Kd.int .u8).sz ∧ 0 < (Kd.int .u8).sz ∧ 0 < 1 := ⟨rfl, by decide, by decide⟩
set_option maxHeartbeats 1000000 in
theorem bodied_any (w : World) (F : Nat → Prop) (p : Nat) (s : St) (bv ov : Value) (c : Int) (h : Rdr w F p s bv ov) (hm : s.m = .bod) (hbl : s.body.length ≤ 100000) (hlen : s.out.length ≤ 1000000) :
    Calls Try.prog 20 #[.pointer (some ⟨p, 0, none⟩), .int .u8 c] w fun e w' => e = .returned (.tuple #[]) ∧ Fed w F p (s.bod c) w' := by
  obtain ⟨k0, k1, k2, k3, k4, k5, k6⟩ := blk6 h.cells
  have H := Aside0.mk h
  have HM := Aside0.mk hm
  have HL := Aside0.mk hlen
  have HN := Aside0.mk (Kd.R_ne h.body h.cells (by decide))
  have HBL := Aside0.mk (show (s.body.length + 1) * 1 ≤ 140737488355328 by omega)
  clear h hm hlen
  go_enter Try.func20, Try.ntmps20
  go_wp2_with (first | ((with_reducible refine gate_builtin (b := .append) (xs := #[.tmp 8, .tmp 10]) rfl ?_); at_builtin; refine app_list (Kd.int .u8) (W := w) rfl (.tmp 8) (.tmp 10) 23 5 (.int .u8 0) 1 rfl Try.underlying23 info5 z5ok bv s.body c [.int .u8 c] F (fun _ => False) rfl rfl rfl (fun _ h => h.elim) H.out.body HBL.out ?_; intro A1 c1 w1 HR1 HC1 HAT; have HC2 := HC1.heap H.out.cells HN.out; obtain ⟨k0, k1, k2, k3, k4, k5, k6⟩ := blk6 HC2; have HR2 := Aside0.mk HR1; have HC3 := Aside0.mk HC2; have HAT1 := Aside0.mk HAT; clear HC2 HR1 HAT))
  obtain ⟨W, hW⟩ : ∃ W, W = w1.setCell ⟨p, 4, none⟩ (.slice A1 (s.body.length + 1) c1) := ⟨_, rfl⟩
  have hcW : W.heap[p]? = some (.cells #[tkOf s.m p, .int .i64 s.far, .int .i64 s.size, .int .i64 s.skip, .slice A1 (s.body.length + 1) c1, ov] 46 (0, 0)) := by rw [hW]; exact blk_upd 4 _ HC3.out rfl
  have hch : Ch (fun k => k = p) w1 W := by rw [hW]; exact (Ch.refl (fun k => k = p) _).setCell (p := ⟨p, 4, none⟩) (.inl rfl) _
  have hch2 : Ch (fun k => k = p ∨ some k = bv.ownBlock) w W := (HC1.mono (fun k hk _ => .inr hk)).trans (hch.mono (fun k hk _ => .inl (.inl hk)))
  have hout : k35.R 35 W 0 (fun k => ((F k ∧ some k ≠ bv.ownBlock) ∧ k ≠ p) ∧ k < w.heap.size) ov s.out := hch2.R (Kd.R_mono (Kd.R_bound (Kd.R_types H.out.out H.out.cells (by decide))) (fun k hk => ⟨hk.1, hk.2.2.1⟩)) (fun k hk => by rintro (e | e); exact hk.1.2 e; exact hk.1.1.2 e)
  have hbody : (Kd.int .u8).R 5 W 0 (fun k => F k ∨ w.heap.size ≤ k) (.slice A1 (s.body.length + 1) c1) (s.body ++ [c]) := Kd.R_mono (hch.R (Kd.R_types HR2.out HC3.out (by decide)) (fun k hk => hk.2)) (fun k hk => hk.1)
  simp only [← hW]
  clear hW k0 k1 k2 k3 k4 k5 k6
  obtain ⟨k0, k1, k2, k3, k4, k5, k6⟩ := blk6 hcW
  have HCW := Aside0.mk hcW
  have HO := Aside0.mk hout
  have HB := Aside0.mk hbody
  clear hcW hout hbody
  by_cases hs : (s.body.length : Int) + 1 = s.size
  · have hb : ((s.body.length : Int) + 1 == s.size) = true := by simpa using hs
    have HS := Aside0.mk hs
    clear hs
    go_quiet (fail)
    have HCW3 := Aside0.mk (show (W.drewN nq).heap[p]? = _ from HCW.out)
    have HO3 := Aside0.mk (Kd.R_drewN HO.out nq)
    have HB3 := Aside0.mk (Kd.R_drewN HB.out nq)
    have hch3 := hch2.drewN nq
    clear HCW HO HB hch2
    have hk0 : (W.drewN nq).cell? ⟨p, 4, none⟩ = some (.slice A1 (s.body.length + 1) c1) := k4
    generalize W.drewN nq = W3 at *
    go_wp2_with (go_at_call 18; refine (tell_any _ p (fun k => F k ∨ w.heap.size ≤ k) (fun k => (F k ∨ w.heap.size ≤ k) ∧ some k ≠ ov.ownBlock) _ _ ov _ _ _ 0 s.out ⟨s.body ++ [c], 0⟩ (.slice A1 (s.body.length + 1) c1) HCW3.out (Kd.R_mono HO3.out (fun k hk => .inl hk.1.1.1)) (k35_mkM _ _ _ _ (Kd.R_apartR HB3.out HO3.out (by decide))) (fun _ h => h) HL.out).mono ?_; rintro e w' ⟨ov', rfl, g1, g2, g3⟩; have G1 := Aside0.mk g1; clear g1)
    go_end0
    have e : s.bod c = { told s ⟨s.body ++ [c], 0⟩ with skip := s.skip, m := .num } := by simp [St.bod, HS.out, told]
    rw [e]
    refine ⟨rfl, ⟨.slice none 0 0, ov', .inl H.out.hp, G1.out, Kd.R_nil _ _ _ _ _, Kd.R_mono g2 (fun k hk => ⟨?_, by simp [Value.ownBlock]⟩)⟩, (hch3.mono (fun k hk _ => ?_)).trans (g3.mono (fun k hk _ => .inl ?_))⟩
    · rcases hk with hk | hk
      · exact hk
      · exact .inr (Nat.le_trans hch3.size hk)
    · rcases hk with rfl | hk
      · exact H.out.hp
      · exact H.out.body.1 k hk.symm
    · rcases hk with rfl | hk
      · exact H.out.hp
      · exact (H.out.out.1 k hk.symm).1
  · have hb : ((s.body.length : Int) + 1 == s.size) = false := by simpa using hs
    have HS := Aside0.mk hs
    clear hs
    go_quiet (fail)
    go_wp2
    go_end0
    have e : s.bod c = { s with body := s.body ++ [c] } := by simp [St.bod, HS.out]
    rw [e]
    have hx : ∀ k, ((F k ∧ some k ≠ bv.ownBlock) ∧ k ≠ p) ∧ k < w.heap.size → (F k ∨ w.heap.size ≤ k) ∧ some k ≠ (Value.slice A1 (s.body.length + 1) c1).ownBlock := fun k hk => ⟨.inl hk.1.1.1, fun e => by
      rcases HAT1.out k e.symm with h | h
      · exact hk.1.1.2 h
      · have := hk.2; omega⟩
    have hy : Ch F w W := hch2.mono (fun k hk _ => by
      rcases hk with rfl | hk
      · exact H.out.hp
      · exact H.out.body.1 k hk.symm)
    exact ⟨rfl, ⟨.slice A1 (s.body.length + 1) c1, ov, .inl H.out.hp, HCW.out, Kd.R_drewN HB.out nq, Kd.R_drewN (Kd.R_mono HO.out hx) nq⟩, hy.drewN nq⟩
end Go.Proofs.Ytpmnjeiemocbbaa.Fr
