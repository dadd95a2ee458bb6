import Derived.Test.YtpmnjeiemocbbaaFrH
import Derived.Test.YtpmnjeiemocbbaaFrP
import Derived.Lib.SlBytesConst
namespace Go.Proofs.Ytpmnjeiemocbbaa.Fr
set_option linter.unusedVariables false
set_option linter.unusedSimpArgs false
open Go.RowKit Go.Proofs.YtpmnjeiemocbbaaW.PrintWords Go.Proofs.Ytpmnjeiemocbbaa.FrK Go.Proofs.Ytpmnjeiemocbbaa.Bs Go.Proofs.YtpmnjeiemocbbaaW.PrintMore Go.Proofs.YtpmnjeiemocbbaaW.PrintLast
attribute [local go_sem] max2_int min2_int max_two min_two

/-- A reader with nothing told that waits: what stands between two calls of Feed. -/
structure Idle (w : World) (F : Nat → Prop) (p : Nat) (s : St) : Prop where
  r : ∃ bv ov, Rdr w F p s bv ov
  ok : s.ok
  out : s.out = []
  lt : ∀ k, F k → k < w.heap.size
theorem Idle.step {w w' : World} {F S : Nat → Prop} {p : Nat} {s : St} (h : Idle w F p s) (hch : Ch S w w') (hd : ∀ k, F k → ¬ S k) : Idle w' F p s := by
  obtain ⟨⟨bv, ov, hr⟩, h2, h3, h4⟩ := h
  exact ⟨⟨bv, ov, hr.hp, hch.heap hr.cells (hd _ hr.hp), hch.R hr.body hd, hch.R hr.out (fun k hk => hd k hk.1)⟩, h2, h3, fun k hk => Nat.lt_of_lt_of_le (h4 k hk) hch.size⟩
theorem new_idle (w : World) : Calls Try.prog 9 #[] w fun e w' => e = .returned (.pointer (some ⟨w.heap.size, 0, none⟩)) ∧ Idle w' (fun k => k = w.heap.size) w.heap.size s0 ∧ Below w.heap.size w w' ∧ w'.heap.size = w.heap.size + 1 := by
  refine (new_any w).mono ?_
  rintro e w' ⟨rfl, rfl⟩
  exact ⟨rfl, ⟨⟨.slice none 0 0, .slice none 0 0, rfl, heap_alloc_new _ _, Kd.R_nil _ _ _ _ _, Kd.R_nil _ _ _ _ _⟩, by simp [St.ok, s0], rfl, fun k hk => by simp; omega⟩, below_alloc (Below.refl _ _) _, by simp⟩
theorem feed_idle (w : World) (F okb : Nat → Prop) (p : Nat) (s : St) (A : Option Addr) (cp : Nat) (xs : List Int) (h : Idle w F p s) (hx : Kd.F (Kd.int .u8) w okb A xs.length xs) (hd : ∀ k, okb k → ¬ F k) (hl : xs.length ≤ 100000) (hxs : ∀ c ∈ xs, 0 ≤ c ∧ c ≤ 255) :
    Calls Try.prog 10 #[.pointer (some ⟨p, 0, none⟩), .slice A xs.length cp] w fun e w' => ∃ A' F', e = .returned (.slice A' (s.run xs).out.length (s.run xs).out.length) ∧ Idle w' F' p (clr (s.run xs)) ∧ Kd.F k35 w' (fun k => (F k ∨ w.heap.size ≤ k) ∧ ¬ F' k) A' (s.run xs).out.length (s.run xs).out ∧ (∀ k, F' k → F k ∨ w.heap.size ≤ k) ∧ Ch F w w' := by
  obtain ⟨⟨bv, ov, hr⟩, h2, h3, h4⟩ := h
  refine (feed_any w F okb p s bv ov A cp xs hr h2 hx hd hl h3 hxs).mono ?_
  rintro e w' ⟨A', bv', rfl, ⟨ov', hr'⟩, hf, hsub, hch⟩
  refine ⟨A', fun k => k = p ∨ some k = bv'.ownBlock, rfl, ⟨⟨bv', ov', hr'⟩, ?_, rfl, ?_⟩, Kd.F_mono hf (fun k hk => ⟨hk.1, by rintro (e | e); exact hk.2.1 e; exact hk.2.2 e⟩), hsub, hch⟩
  · have := St.run_ok h2 hxs
    simpa [St.ok, clr] using this
  · rintro k (rfl | hk)
    · exact blk_lt hr'.cells
    · obtain ⟨cells, hc⟩ := own_typed (Kd.own_of_R hr'.body) k hk.symm
      exact blk_lt hc
set_option maxHeartbeats 1000000 in
theorem rest_any (w : World) (F : Nat → Prop) (p : Nat) (s : St) (h : Idle w F p s) :
    Calls Try.prog 14 #[.pointer (some ⟨p, 0, none⟩)] w fun e w' => e = .returned (.int .i64 (rest s)) ∧ ∃ n, w' = w.drewN n := by
  obtain ⟨⟨bv, ov, hr⟩, h2, h3, h4⟩ := h
  obtain ⟨k0, k1, k2, k3, k4, k5, k6⟩ := blk6 hr.cells
  obtain ⟨A, c, rfl⟩ := Kd.R_slice hr.body
  have hb : 0 ≤ s.far ∧ s.far ≤ 2 ∧ s.body.length ≤ 5000 := by
    simp only [St.ok] at h2
    split at h2
    · obtain ⟨h2, h5, h6⟩ := h2; rw [h5]; simp; omega
    · omega
    · obtain ⟨_, _, h5, _⟩ := h2; rw [h5]; simp; omega
  obtain ⟨b0, b1, b2⟩ := hb
  have e : rest s = s.far + s.body.length := rfl
  have E := Aside0.mk e
  have hw : IntKind.i64.wrap (s.far + s.body.length) = s.far + s.body.length := IntWalk.i64_in _ ⟨by omega, by omega⟩
  clear h2 h3 e hr
  go_enter Try.func14, Try.ntmps14
  go_wp2
  go_quiet (fail)
  go_wp2
  go_ret
  exact ⟨by rw [E.out]; rfl, _, rfl⟩
set_option maxHeartbeats 1000000 in
theorem skips_any (w : World) (F : Nat → Prop) (p : Nat) (s : St) (h : Idle w F p s) :
    Calls Try.prog 15 #[.pointer (some ⟨p, 0, none⟩)] w fun e w' => e = .returned (.int .i64 s.skip) ∧ w = w' := by
  obtain ⟨⟨bv, ov, hr⟩, h2, h3, h4⟩ := h
  obtain ⟨k0, k1, k2, k3, k4, k5, k6⟩ := blk6 hr.cells
  clear h2 h3 hr
  go_enter Try.func15, Try.ntmps15
  go_wp2
  go_ret
  exact ⟨rfl, rfl⟩
theorem lit_R (W : World) (e : Nat) (k : IntKind) (xs : List Int) (hm : xs.length ≤ 1000000) : (Kd.int k).R e (W.alloc (.cells (nums k xs).toArray e)) 0 (fun i => i = W.heap.size) (.slice (some ⟨W.heap.size, 0, none⟩) xs.length xs.length) xs :=
  Kd.R_of_own (own_lit W 0 e k xs (Nat.zero_le _) (by omega)) (fun i hi => by simp [Value.ownBlock] at hi; exact hi.symm)
theorem R_form {α : Type} {d : Kd α} {e : Nat} {w : World} {base : Nat} {ok : Nat → Prop} {A : Option Addr} {n c : Nat} {xs : List α} (h : d.R e w base ok (.slice A n c) xs) (hp : 0 < n) : ∃ g, A = some ⟨g, 0, none⟩ ∧ base ≤ g := by
  obtain ⟨_, inner, ho, _⟩ := h
  rcases ho.2 with ⟨e1, e2⟩ | ⟨g, cap, cur, e1, hb, _⟩
  · injection e1 with _ e3; omega
  · injection e1 with e3 _ _; exact ⟨g, e3, hb⟩
theorem F_only {α : Type} {enc : α → Value} {h1 : ∀ x, (enc x).oneCell' = true} {e : Nat} {w : World} {base : Nat} {ok : Nat → Prop} {g n c : Nat} {xs : List α} (h : (Kd.scalar enc h1).R e w base ok (.slice (some ⟨g, 0, none⟩) n c) xs) : Kd.F (Kd.scalar enc h1) w (fun k => k = g) (some ⟨g, 0, none⟩) n xs :=
  F_of_R (Kd.R_of_own (ok := fun k => k = g) (Kd.own_of_R h) (fun k hk => (Option.some.inj hk).symm))
theorem C_of_cells {w : World} {k : IntKind} {a : Addr} {xs : List Int} (h : ∀ j, j < xs.length → w.cell? (a.add j) = some (.int k (xs.getD j 0))) (hm : xs.length ≤ 1000000) : Kd.C (Kd.int k) w (some a) xs.length xs :=
  Kd.C_of_reads (d := (0 : Int)) ⟨rfl, by omega, fun _ => ⟨a, rfl, h⟩⟩
set_option maxHeartbeats 1000000 in
theorem works_any (w : World) : Calls Try.prog 11 #[] w fun e w' => e = .returned (.bool true) ∧ Below w.heap.size w w' := by
  have kc := fun (w : World) (C : Array Value) (n c : Nat) => Lib.run_convert_bytes_const (P := Try.prog) w 23 5 C n c Try.underlying23 Try.underlying5
  have HW := Aside0.mk (below_alloc (Below.refl w.heap.size w) (.cells #[.int .u8 97, .int .u8 98, .int .u8 99] 5 (3, 4)))
  have HC := Aside0.mk (show Kd.C (Kd.int .u8) (w.alloc (.cells #[.int .u8 97, .int .u8 98, .int .u8 99] 5 (3, 4))) (some ⟨w.heap.size, 0, none⟩) ([97, 98, 99] : List Int).length [97, 98, 99] from by
    refine C_of_cells (fun j hj => ?_) (by decide)
    rw [add_plain]
    show (w.alloc _).cell? ⟨w.heap.size, j, none⟩ = _
    rw [World.cell?_alloc_mark]
    simp only [List.length_cons, List.length_nil] at hj
    match j, hj with
    | 0, _ => rfl
    | 1, _ => rfl
    | 2, _ => rfl)
  have HP := Aside0.mk (show frame_Pack.f [97, 98, 99] = some ([0, 3, 97, 98, 99], 0) by decide)
  have ER1 := Aside0.mk (show s0.run [0] = { s0 with far := 1 } from rfl)
  have ER2 := Aside0.mk (show ({ s0 with far := 1 } : St).run [3, 97, 98, 99] = { s0 with out := [⟨[97, 98, 99], 0⟩] } from rfl)
  go_enter Try.func11, Try.ntmps11
  go_wp2_with (first | (go_at_call 7; refine (frame_Pack.calls _ 3 [97, 98, 99] _ _ _ HC.out (Nat.le_refl _) HP.out).mono ?_; rintro e w1 ⟨v, rfl, hR, hB⟩; obtain ⟨A, c, rfl⟩ := Kd.R_slice hR; obtain ⟨g, rfl, hg⟩ := R_form hR (by decide); have hc : 5 ≤ c := (Kd.R_reads' hR).2.1; have hc1 : 1 ≤ (c : Int) := (by omega); have HR := Aside0.mk hR; have HB := Aside0.mk hB; clear hR hB) | (go_at_call 9; refine (new_idle _).mono ?_; rintro e w2 ⟨rfl, hI, hB2, hs⟩; have HI := Aside0.mk hI; have HB2 := Aside0.mk hB2; have HR2 := Aside0.mk (F_only (Kd.R_below HR.out hB2)); clear hI hB2))
  have hglt : g < w1.heap.size := by
    obtain ⟨cells, hc⟩ := own_typed (Kd.own_of_R HR.out) g rfl
    exact blk_lt hc
  refine (feed_idle w2 (fun k => k = w1.heap.size) (fun k => k = g) w1.heap.size s0 (some ⟨g, 0, none⟩) c [0] HI.out (Kd.F_take (m := 1) HR2.out (by decide)) (fun k h1 h2 => by omega) (by decide) (by decide)).mono ?_
  rintro e w3 ⟨A3, F3, rfl, hI3, hf3, hsub3, hch3⟩
  rw [ER1.out] at hI3 ⊢
  have HI3 := Aside0.mk hI3
  have HF3 := Aside0.mk (hch3.F HR2.out (fun k h1 h2 => by omega))
  have HS3 := Aside0.mk hsub3
  have HCH3 := Aside0.mk hch3
  clear hI3 hf3 hsub3 hch3
  go_wp2_with fail
  have hcut := Kd.F_cut (m := 1) (c := c) HF3.out (by decide) hc
  rw [if_neg (by omega)] at hcut
  have HF4 := Aside0.mk (show Kd.F (Kd.int .u8) w3 (fun k => k = g) (some ⟨g, 1, none⟩) ([3, 97, 98, 99] : List Int).length [3, 97, 98, 99] from hcut)
  clear hcut
  refine (feed_idle w3 F3 (fun k => k = g) w1.heap.size _ (some ⟨g, 1, none⟩) (c - 1) [3, 97, 98, 99] HI3.out HF4.out (fun k h1 h2 => by have h3 := HS3.out k h2; omega) (by decide) (by decide)).mono ?_
  rintro e w4 ⟨A4, F4, rfl, hI4, hf4, hsub4, hch4⟩
  rw [show (clr { s0 with far := 1 } : St) = { s0 with far := 1 } from rfl, ER2.out] at hf4 ⊢
  obtain ⟨ad, A0, c0, rfl, hc0, _, hl0, hg0⟩ := at_T35 (Kd.F_now hf4) 0 (by decide) (by decide)
  have hc0' : w4.cell? ad = some (.slice A0 3 c0) := hc0
  have hst := Kd.C_string (c := c0) Try.underlying23 Try.underlying5 Try.underlying9 hg0
  have hs2 : strOfNums (rd_T35 [⟨[97, 98, 99], 0⟩] 0).f0 = (⟨#[97, 98, 99]⟩ : ByteArray) := by rfl
  rw [hs2] at hst
  have hst' : (convert 23 9 (.slice A0 3 c0)).run Try.prog w4 = .ok (.string ⟨#[97, 98, 99]⟩) w4 := hst
  have HCH4 := Aside0.mk hch4
  clear hc0 hst hs2 hI4 hf4 hsub4 hch4 hg0
  go_wp2_with fail
  go_ret
  refine ⟨rfl, ?_⟩
  have b1 : Below w.heap.size w w1 := HW.out.trans (HB.out.mono (by simp))
  have b2 := below_step b1 HB2.out
  have b3 : Below w.heap.size w w3 := b2.trans (HCH3.out.to_below (fun k hk => by have := b1.size; omega) b2.size)
  exact b3.trans (HCH4.out.to_below (fun k hk => by have := HS3.out k hk; have := b1.size; have := b2.size; omega) b3.size)
end Go.Proofs.Ytpmnjeiemocbbaa.Fr
