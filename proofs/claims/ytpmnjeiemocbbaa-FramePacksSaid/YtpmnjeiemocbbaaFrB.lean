import Derived.Test.YtpmnjeiemocbbaaFrA
import Derived.Test.YtpmnjeiemocbbaaBs
import Derived.Test.YtpmnjeiemocbbaaFrK
namespace Go.Proofs.Ytpmnjeiemocbbaa.Fr
set_option linter.unusedVariables false
set_option linter.unusedSimpArgs false
open Go.RowKit Go.Proofs.YtpmnjeiemocbbaaW.PrintWords Go.Proofs.Ytpmnjeiemocbbaa.FrK Go.Proofs.Ytpmnjeiemocbbaa.Bs

def tkN (p : Nat) : Value := .func (.func 16) #[.pointer (some ⟨p, 0, none⟩)] #[]
def tkS (p : Nat) : Value := .func (.func 19) #[.pointer (some ⟨p, 0, none⟩)] #[]
def tkB (p : Nat) : Value := .func (.func 20) #[.pointer (some ⟨p, 0, none⟩)] #[]
theorem z35ok : (Value.agg #[.slice none 0 0, .int .i64 0]).cells.size = k35.sz ∧ 0 < k35.sz ∧ 0 < 32 := ⟨rfl, by decide, by decide⟩
theorem tell_any (w : World) (p : Nat) (ok okp : Nat → Prop) (tk bv ov : Value) (far size skip err : Int) (out : List S35) (x : S35) (v : Value)
    (hc : w.heap[p]? = some (.cells #[tk, .int .i64 far, .int .i64 size, .int .i64 skip, bv, ov] 46 (0, 0)))
    (ho : k35.R 35 w 0 ok ov out) (hx : k35.M w 0 okp x [v, .int .i64 err]) (hokp : ∀ k, okp k → ok k ∧ some k ≠ ov.ownBlock) (hlen : out.length ≤ 1000000) :
    Calls Try.prog 18 #[.pointer (some ⟨p, 0, none⟩), .agg #[v, .int .i64 err]] w fun e w' => ∃ ov', e = .returned (.tuple #[]) ∧
      w'.heap[p]? = some (.cells #[tkN p, .int .i64 0, .int .i64 0, .int .i64 skip, .slice none 0 0, ov'] 46 (0, 0)) ∧
      k35.R 35 w' 0 (fun k => ok k ∨ w.heap.size ≤ k) ov' (out ++ [x]) ∧ Ch (fun k => k = p ∨ some k = ov.ownBlock) w w' := by
  have hp := blk_lt hc
  have hc5 : w.cell? ⟨p, 5, none⟩ = some ov := blk_cell hc 5
  go_enter Try.func18, Try.ntmps18
  go_wp2
  obtain ⟨W, hW⟩ : ∃ W, W = w.alloc (.cells #[v, .int .i64 err] 35) := ⟨_, rfl⟩
  have hbW : Below w.heap.size w W := by rw [hW]; exact below_alloc (Below.refl _ _) _
  have hq : W.heap[w.heap.size]? = some (.cells #[v, .int .i64 err] 35) := by rw [hW]; exact heap_alloc_new _ _
  simp only [← hW]
  clear hW
  obtain ⟨q0, q1, _⟩ := blk2 hq
  have hcW := (hbW.block p hp).trans hc
  obtain ⟨_, _, _, _, _, hc5W, _⟩ := blk6 hcW
  have hc5a : (W.alloc (.cells #[v, .int .i64 err] 35)).cell? ⟨p, 5, none⟩ = some ov := pw_cell_below (below_alloc (Below.refl _ _) _) hc5W
  have HX := Aside0.mk (show k35.M W.drew 0 okp x [v, .int .i64 err] from Kd.M_below hx hbW.drew)
  have HO := Aside0.mk (show k35.R 35 W.drew 0 ok ov out from Kd.R_below ho hbW.drew)
  have HN := Aside0.mk (Kd.R_ne ho hc (by decide))
  have HK := Aside0.mk hokp
  have HB := Aside0.mk hbW
  have HC := Aside0.mk (show W.drew.heap[p]? = _ from hcW)
  have HL := Aside0.mk (show (out.length + 1) * 32 ≤ 140737488355328 by omega)
  clear hx ho hokp hc hlen hcW hbW hc5
  go_region_law (refine app_step k35 (W := W.drew) rfl (.tmp 8) (.tmp 10) 31 35 (.agg #[.slice none 0 0, .int .i64 0]) 32 rfl Try.underlying31 info35 z35ok ov out x [v, .int .i64 err] ok okp rfl rfl HX.out HK.out HO.out HL.out ?_; intro A1 c1 w1 HR1 HC1 _; have HC2 := HC1.heap HC.out HN.out; obtain ⟨k0, k1, k2, k3, k4, k5, k6⟩ := blk6 HC2; have HR2 := Aside0.mk HR1; have HC3 := Aside0.mk HC2; clear HC2 HR1)
  all_goals
    go_wp2
    go_end0
    have key : ∀ w2, Ch (fun k => k = p) w1 w2 → k35.R 35 w2 0 (fun k => ok k ∨ w.heap.size ≤ k) (.slice A1 (out.length + 1) c1) (out ++ [x]) ∧ Ch (fun k => k = p ∨ some k = ov.ownBlock) w w2 := fun w2 h2 =>
      ⟨Kd.R_mono (h2.R (Kd.R_types (t := 46) HR2.out HC3.out (by decide)) (fun k hk => hk.2)) (fun k hk => hk.1.imp_right (fun h => Nat.le_trans HB.out.size h)),
       ((((Ch.refl _ w).below HB.out).drew).trans (HC1.mono (fun k hk _ => .inl (.inr hk)))).trans (h2.mono (fun k hk _ => .inl (.inl hk)))⟩
    have ch := fun u5 u1 u2 u4 u0 => key _ (((((((Ch.refl (fun k => k = p) w1).setCell (p := ⟨p, 5, none⟩) (.inl rfl) u5).setCell (p := ⟨p, 1, none⟩) (.inl rfl) u1).setCell (p := ⟨p, 2, none⟩) (.inl rfl) u2).setCell (p := ⟨p, 4, none⟩) (.inl rfl) u4).setCell (p := ⟨p, 0, none⟩) (.inl rfl) u0))
    exact ⟨.slice A1 (out.length + 1) c1, rfl, blk_upd 0 _ (blk_upd 4 _ (blk_upd 2 _ (blk_upd 1 _ (blk_upd 5 _ HC3.out rfl) rfl) rfl) rfl) rfl, (ch _ _ _ _ _).1, (ch _ _ _ _ _).2⟩
end Go.Proofs.Ytpmnjeiemocbbaa.Fr
