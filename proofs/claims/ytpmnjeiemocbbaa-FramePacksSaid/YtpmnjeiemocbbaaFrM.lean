import Derived.Test.YtpmnjeiemocbbaaFrL
namespace Go.Proofs.Ytpmnjeiemocbbaa.Fr
set_option linter.unusedVariables false
set_option linter.unusedSimpArgs false
open Go.RowKit Go.Proofs.YtpmnjeiemocbbaaW.PrintWords Go.Proofs.Ytpmnjeiemocbbaa.FrK Go.Proofs.Ytpmnjeiemocbbaa.Bs Go.Proofs.YtpmnjeiemocbbaaW.PrintMore Go.Proofs.YtpmnjeiemocbbaaW.PrintLast

theorem Ch.of_below {S : Nat → Prop} {w w' : World} (h : Below w.heap.size w w') : Ch S w w' := ⟨h.os, h.tape, h.output, h.size, fun k hk _ => h.block k hk⟩
theorem Idle.below {w w' : World} {F : Nat → Prop} {p : Nat} {s : St} (h : Idle w F p s) (hb : Below w.heap.size w w') : Idle w' F p s := h.step (S := fun _ => False) (Ch.of_below hb) (fun _ _ h => h)
theorem new_at (w : World) : Calls Try.prog 9 #[] w fun e w' => ∃ p, e = .returned (.pointer (some ⟨p, 0, none⟩)) ∧ w.heap.size ≤ p ∧ p < w'.heap.size ∧ Idle w' (fun k => k = p) p s0 ∧ Below w.heap.size w w' := by
  refine (new_idle w).mono ?_
  rintro e w' ⟨rfl, h1, h2, h3⟩
  exact ⟨_, rfl, Nat.le_refl _, by omega, h1, h2⟩
/-- What Feed leaves, in one word. -/
structure FeedRes (w : World) (F : Nat → Prop) (p : Nat) (s : St) (xs : List Int) (A : Option Addr) (w' : World) : Prop where
  i : ∃ F', Idle w' F' p (clr (s.run xs)) ∧ Kd.F k35 w' (fun k => ((F k ∨ w.heap.size ≤ k) ∧ ¬ F' k) ∧ k < w'.heap.size) A (s.run xs).out.length (s.run xs).out ∧ (∀ k, F' k → F k ∨ w.heap.size ≤ k)
  ch : Ch F w w'
theorem feed_res (w : World) (F okb : Nat → Prop) (p : Nat) (s : St) (A : Option Addr) (cp : Nat) (xs : List Int) (h : Idle w F p s) (hx : Kd.F (Kd.int .u8) w okb A xs.length xs) (hd : ∀ k, okb k → ¬ F k) (hl : xs.length ≤ 100000) (hxs : ∀ c ∈ xs, 0 ≤ c ∧ c ≤ 255) :
    Calls Try.prog 10 #[.pointer (some ⟨p, 0, none⟩), .slice A xs.length cp] w fun e w' => ∃ A', e = .returned (.slice A' (s.run xs).out.length (s.run xs).out.length) ∧ FeedRes w F p s xs A' w' := by
  refine (feed_idle w F okb p s A cp xs h hx hd hl hxs).mono ?_
  rintro e w' ⟨A', F', rfl, hi, hf, hs, hc⟩
  exact ⟨A', rfl, ⟨F', hi, Kd.F_bound hf, hs⟩, hc⟩
theorem Ch.N {α : Type} {d : Kd α} {e base : Nat} {ok S : Nat → Prop} {v : Value} {xs : List α} {a b : World} (h : Ch S a b) (hr : Kd.N d e a base ok v xs) (hn : ∀ k, ok k → ¬ S k) : Kd.N d e b base ok v xs :=
  Kd.N_step hr (fun k hk hlt => h.block k hlt (hn k hk))
structure SplRel (w7 : World) (p : Nat) (xs : List Int) (j : Nat) (v : Value) (wr : World) : Prop where
  hj : j ≤ xs.length
  i : ∃ F, Idle wr F p (clr (s0.run (xs.take j))) ∧ (∀ k, F k → k = p ∨ w7.heap.size ≤ k) ∧ Kd.N k35 35 wr 0 (fun k => (k = p ∨ w7.heap.size ≤ k) ∧ ¬ F k) v (s0.run (xs.take j)).out
  ch : Ch (fun k => k = p) w7 wr
theorem SplRel.next {w7 wr w' w'' : World} {p j : Nat} {xs : List Int} {v : Value} {F F' : Nat → Prop} {A' A2 : Option Addr} {m n2 c2 : Nat} {ys : List S35} (hj : j < xs.length) (hlt : ∀ k, F k → k < wr.heap.size) (hsub : ∀ k, F k → k = p ∨ w7.heap.size ≤ k)
    (hN : Kd.N k35 35 wr 0 (fun k => (k = p ∨ w7.heap.size ≤ k) ∧ ¬ F k) v (s0.run (xs.take j)).out) (hch : Ch (fun k => k = p) w7 wr) (hi : Idle w' F' p (clr ((clr (s0.run (xs.take j))).run [rd xs j]))) (hs' : ∀ k, F' k → F k ∨ wr.heap.size ≤ k) (hc1 : Ch F wr w')
    (hN2 : Kd.N k35 35 w'' 0 (fun k => (((k = p ∨ w7.heap.size ≤ k) ∧ ¬ F k) ∧ k < wr.heap.size ∨ ((F k ∨ wr.heap.size ≤ k) ∧ ¬ F' k) ∧ k < w'.heap.size) ∨ w'.heap.size ≤ k) (.slice A2 n2 c2) ((s0.run (xs.take j)).out ++ ((clr (s0.run (xs.take j))).run [rd xs j]).out)) (hc2 : Ch (fun k => some k = v.ownBlock) w' w'') :
    SplRel w7 p xs (j + 1) (.slice A2 n2 c2) w'' := by
  have hz := hch.size
  have hz1 := hc1.size
  have hxj : xs.take (j + 1) = xs.take j ++ [rd xs j] := by
    rw [List.take_succ_eq_append_getElem hj]; simp [rd, List.getD_eq_getElem?_getD, hj]
  obtain ⟨e1, e2⟩ := run_out_app s0 (xs.take j) [rd xs j]
  rw [← hxj] at e1 e2
  have hsub' : ∀ k, F' k → k = p ∨ w7.heap.size ≤ k := fun k hk => (hs' k hk).elim (hsub k) (fun h => .inr (Nat.le_trans hz h))
  have hown : ∀ k, some k = v.ownBlock → ((k = p ∨ w7.heap.size ≤ k) ∧ ¬ F k) ∧ k < wr.heap.size := fun k hk => ⟨hN.1 k hk.symm, Kd.N_lt hN k hk.symm⟩
  refine ⟨hj, ⟨F', ?_, hsub', ?_⟩, (hch.trans (hc1.mono (fun k hk _ => hsub k hk))).trans (hc2.mono (fun k hk _ => (hown k hk).1.1))⟩
  · rw [e2]
    exact hi.step hc2 (fun k h1 h2 => by
      have h3 := hown k h2
      rcases hs' k h1 with h4 | h4
      · exact h3.1.2 h4
      · have := h3.2; omega)
  · rw [e1]
    refine Kd.N_mono hN2 (fun k hk => ?_)
    rcases hk with (hk | hk) | hk
    · refine ⟨hk.1.1, fun h => ?_⟩
      rcases hs' k h with h4 | h4
      · exact hk.1.2 h4
      · have := hk.2; omega
    · exact ⟨hk.1.1.elim (hsub k) (fun h => .inr (Nat.le_trans hz h)), hk.1.2⟩
    · exact ⟨.inr (by omega), fun h => by have := hi.lt k h; omega⟩
set_option maxRecDepth 100000 in
set_option maxHeartbeats 400000 in
theorem splits_any (w : World) (A : Option Addr) (cp : Nat) (xs : List Int) (x : Int) (hx : Kd.F (Kd.int .u8) w (fun k => k < w.heap.size) A xs.length xs) (hcp : xs.length ≤ cp) (hl : xs.length ≤ 9000) (hxs : ∀ c ∈ xs, 0 ≤ c ∧ c ≤ 255) (h0 : 0 ≤ x) (h1 : x ≤ 65535) :
    Calls Try.prog 4 #[.slice A xs.length cp, .int .u16 x] w fun e w' => e = .returned (.bool true) ∧ Below w.heap.size w w' := by
  have HX := Aside0.mk hx
  have HXS := Aside0.mk hxs
  clear hx hxs
  have hg : decide (9000 < xs.length) = false := by simp; omega
  go_enter Try.func4, Try.ntmps4
  go_wp2_with fail
  refine (new_at _).mono ?_
  rintro e w1 ⟨p1, rfl, y1, z1, i1, b1⟩
  have I1 := Aside0.mk i1
  have B1 := Aside0.mk b1
  clear i1 b1
  go_wp2_with fail
  refine (new_at _).mono ?_
  rintro e w2 ⟨p2, rfl, y2, z2, i2, b2⟩
  have I1' := Aside0.mk (I1.out.below b2)
  have I2 := Aside0.mk i2
  have B2 := Aside0.mk (below_step B1.out b2)
  clear i2 b2 I1 B1
  go_wp2_with fail
  refine (new_at _).mono ?_
  rintro e w3 ⟨p3, rfl, y3, z3, i3, b3⟩
  have I1 := Aside0.mk (I1'.out.below b3)
  have I2' := Aside0.mk (I2.out.below b3)
  have I3 := Aside0.mk i3
  have B3 := Aside0.mk (below_step B2.out b3)
  clear i3 b3 I1' I2 B2
  go_wp2_with fail
  refine (feed_res w3 _ (fun k => k < w.heap.size) _ s0 A cp xs I1.out (Kd.F_below HX.out B3.out) (fun k h1 h2 => by omega) (by omega) HXS.out).mono ?_
  rintro e w4 ⟨A1, rfl, ⟨F1, j1, f1, sub1⟩, c1⟩
  have I2 := Aside0.mk (I2'.out.step c1 (fun k h1 h2 => by omega))
  have I3' := Aside0.mk (I3.out.step c1 (fun k h1 h2 => by omega))
  have B4 := Aside0.mk (B3.out.trans (c1.to_below (fun k hk => by omega) B3.out.size))
  have F1' := Aside0.mk f1
  have Z4 := c1.size
  clear I2' I3 B3 j1 f1 c1
  have hk0 : 0 ≤ x % ((xs.length : Int) + 1) := Int.emod_nonneg _ (by omega)
  have hk1 : x % ((xs.length : Int) + 1) < (xs.length : Int) + 1 := Int.emod_lt_of_pos _ (by omega)
  go_wp2_with fail
  obtain ⟨k, hk⟩ : ∃ k : Nat, x % ((xs.length : Int) + 1) = k := ⟨_, (Int.toNat_of_nonneg hk0).symm⟩
  rw [hk] at hk1
  simp only [hk]
  have hkl : k ≤ xs.length := by omega
  have HK := Aside0.mk hk
  clear hk hk0 hk1
  obtain ⟨i0, hi0, _, hsz, _⟩ := info_parts info5
  have hcA := cut_to (P := Try.prog) 23 5 .i64 Try.underlying23 hi0 A xs.length cp (k : Int) (by omega) (by omega) hcp
  have hcB := cut_from (P := Try.prog) 23 5 .i64 Try.underlying23 hi0 1 hsz A xs.length cp (k : Int) (by omega) (by omega)
  have hFA := Kd.F_take (m := k) HX.out hkl
  have hFB := Kd.F_cut (m := k) (c := cp) HX.out hkl hcp
  rw [Int.toNat_natCast] at hcA hcB
  rw [show xs.length - k = (xs.drop k).length by rw [List.length_drop]] at hcB
  have hlA : (xs.take k).length = k := by rw [List.length_take]; omega
  obtain ⟨AB, hAB⟩ : ∃ AB, AB = (if cp = k then A else A.map (·.add (k * 1))) := ⟨_, rfl⟩
  have hFB' : Kd.F (Kd.int .u8) w (fun k => k < w.heap.size) AB (xs.drop k).length (xs.drop k) := by rw [hAB]; exact hFB
  rw [← hAB] at hcB
  have hcA' : ∀ W, (Instr.slice 23 (.slice A xs.length cp) none (some (.int .i64 (k : Int))) none).run Try.prog W = .ok (.slice A (xs.take k).length cp) W := by rw [hlA]; exact hcA
  have hba : ∀ c ∈ xs.take k, 0 ≤ c ∧ c ≤ 255 := fun c hc => HXS.out c (List.mem_of_mem_take hc)
  have hbb : ∀ c ∈ xs.drop k, 0 ≤ c ∧ c ≤ 255 := fun c hc => HXS.out c (List.mem_of_mem_drop hc)
  have hbal : (xs.take k).length ≤ 100000 := by omega
  have hbbl : (xs.drop k).length ≤ 100000 := by rw [List.length_drop]; omega
  have hrun := run_out_app s0 (xs.take k) (xs.drop k)
  rw [List.take_append_drop] at hrun
  have HRUN := Aside0.mk hrun
  have HLA := Aside0.mk hlA
  have HBA := Aside0.mk hba
  have HBB := Aside0.mk hbb
  have FA := Aside0.mk (Kd.F_drew (Kd.F_below hFA B4.out))
  have FB := Aside0.mk hFB'
  have I2d := Aside0.mk (I2.out.below (below_drew1 (Below.refl _ w4)))
  clear hcA hFA hFB hFB' hAB hi0 hsz hba hbb I2 hrun hlA
  generalize hxa : xs.take k = xa at *
  generalize hxb : xs.drop k = xb at *
  have HXA := Aside0.mk hxa
  have HXB := Aside0.mk hxb
  clear hxa hxb
  have CALL1 := Aside0.mk (feed_res w4.drew _ (fun k => k < w.heap.size) _ s0 A cp xa I2d.out FA.out (fun k h1 h2 => by omega) hbal HBA.out)
  have CALL2 := Aside0.mk (show ∀ A5 w5, FeedRes w4.drew (fun k => k = p2) p2 s0 xa A5 w5 → Calls Try.prog 10 #[.pointer (some ⟨p2, 0, none⟩), .slice AB xb.length (cp - k)] w5 (fun e w' => ∃ A6, e = .returned (.slice A6 ((clr (s0.run xa)).run xb).out.length ((clr (s0.run xa)).run xb).out.length) ∧ Kd.F k35 w' (fun k => k = p2 ∨ w4.heap.size ≤ k) A6 ((clr (s0.run xa)).run xb).out.length ((clr (s0.run xa)).run xb).out ∧ Kd.F k35 w' (fun k => k = p2 ∨ w4.heap.size ≤ k) A5 (s0.run xa).out.length (s0.run xa).out ∧ Ch (fun k => k = p2) w4.drew w') from by
    rintro A5 w5 ⟨⟨F5, i5, f5, s5⟩, c5⟩
    have hb5 : Below w.heap.size w w5 := B4.out.drew.trans (Ch.to_below c5 (fun k hk => by omega) B4.out.drew.size)
    refine (feed_res w5 F5 (fun k => k < w.heap.size) _ _ AB (cp - k) xb i5 (Kd.F_below FB.out hb5) (fun k h1 h2 => by have := s5 k h2; have h3 := B4.out.size; simp at this; omega) hbbl HBB.out).mono ?_
    rintro e w6 ⟨A6, rfl, ⟨⟨F6, _, f6, s6⟩, c6⟩⟩
    have hz := c5.size
    refine ⟨A6, rfl, Kd.F_mono f6 (fun k hk => hk.1.1.elim (fun h => s5 k h) (fun h => .inr (Nat.le_trans hz h))), Kd.F_mono (c6.F f5 (fun k hk => hk.1.2)) (fun k hk => hk.1.1), c5.trans (c6.mono (fun k hk _ => s5 k hk))⟩)
  have hl56 : (s0.run xa).out.length + ((clr (s0.run xa)).run xb).out.length ≤ 9000 := by
    have h := HRUN.out.1
    have h2 := St.run_out s0 xs
    rw [h, List.length_append] at h2
    simp only [s0, List.length_nil] at h2
    simp only [s0]
    omega
  have HL := Aside0.mk (show ((s0.run xa).out.length + ((clr (s0.run xa)).run xb).out.length) * 32 ≤ 140737488355328 by omega)
  clear I2d FA FB hbal hbbl hl56
  go_region_law (first | (refine cat_step k35 rfl (.tmp 33) (.tmp 38) 31 35 (.agg #[.slice none 0 0, .int .i64 0]) 32 rfl Try.underlying31 info35 z35ok (s0.run xa).out ((clr (s0.run xa)).run xb).out A5 A6 _ _ _ _ _ rfl rfl H6.out.2.1 H6.out.1 (Nat.le_refl _) HL.out ?_; intro A7 c7 w7 hc7 f7 b7; have H7 := Aside0.mk f7; have B7 := Aside0.mk (H6.out.2.2.below b7); have C7 := Aside0.mk hc7; have Z6 := Aside0.mk H6.out.2.2.size; clear f7 b7 hc7 H5 H6) | (go_simp; go_at_call 10; (with_reducible refine (CALL2.out _ _ H5.out).mono ?_); rintro e w6 ⟨A6, rfl, h6⟩; have H6 := Aside0.mk h6; clear h6) | (go_simp; go_at_call 10; (with_reducible refine CALL1.out.mono ?_); rintro e w5 ⟨A5, rfl, h5⟩; have H5 := Aside0.mk h5; clear h5))
  have hlen : (s0.run xa).out.length + ((clr (s0.run xa)).run xb).out.length = (s0.run xs).out.length := by rw [HRUN.out.1, List.length_append]
  have TWO := Aside0.mk (show Kd.F k35 w7 (fun k => k = p2 ∨ w4.heap.size ≤ k) A7 (s0.run xs).out.length (s0.run xs).out by
    have h := H7.out
    rw [hlen, ← HRUN.out.1] at h
    have hz := Z6.out
    exact Kd.F_mono h (fun k hk => hk.elim id (fun hk => hk.elim id (fun hk => .inr (Nat.le_trans hz hk)))))
  simp only [hlen]
  go_wp2_with fail
  have I3 := Aside0.mk ((I3'.out.below (below_drew1 (Below.refl _ w4))).step B7.out (fun k h1 h2 => by omega))
  have B7' := Aside0.mk (show Below w.heap.size w w7 from B4.out.drew.trans (B7.out.to_below (fun k hk => by omega) B4.out.drew.size))
  have ONE := Aside0.mk (show Kd.F k35 w7 (fun k => k = p1 ∨ w3.heap.size ≤ k) A1 (s0.run xs).out.length (s0.run xs).out from by
    have h := B7.out.F (Kd.F_drew F1'.out) (fun k h1 h2 => by rcases h1.1.1 with h1 | h1 <;> omega)
    exact Kd.F_mono h (fun k hk => hk.1.1))
  clear hlen HRUN HLA HXA HXB CALL1 CALL2 H7 F1' I3' I1 HL Z6
  go_loopw [11, 12] (fun v i wr => ∃ j : Nat, i = .int .i64 j ∧ SplRel w7 p3 xs j v wr) (fun _ i _ => xs.length - (intOf i).toNat)
  case atStart => exact ⟨0, rfl, ⟨Nat.zero_le _, ⟨_, I3.out, fun k hk => .inl hk, Kd.N_nil _ _ _ _ _⟩, Ch.refl _ _⟩⟩
  case round =>
    obtain ⟨j, rfl, ⟨hj, ⟨F, hi, hsub, hN⟩, hch⟩⟩ := hrel
    obtain ⟨A11, c11, rfl⟩ := Kd.N_slice hN
    by_cases hlt : j < xs.length
    · have hbr : Below w.heap.size w wr := B7'.out.trans (hch.to_below (fun k hk => by omega) B7'.out.size)
      have hmid := Kd.F_below (Kd.F_mid (lo := j) (hi := j + 1) (c := cp) HX.out (by omega) (by omega) hcp) hbr
      have hone : (xs.take (j + 1)).drop j = [rd xs j] := by
        rw [List.take_succ_eq_append_getElem hlt, List.drop_append_of_le_length (by rw [List.length_take]; omega), List.drop_eq_nil_of_le (by rw [List.length_take]; omega)]
        simp [rd, List.getD_eq_getElem?_getD, hlt]
      rw [hone] at hmid
      obtain ⟨i0, hi0, _, hsz, _⟩ := info_parts info5
      have hcut := cut_mid (P := Try.prog) 23 5 .i64 .i64 Try.underlying23 hi0 1 hsz A xs.length cp (j : Int) ((j : Int) + 1) (by omega) (by omega) (by omega) hcp
      rw [show ((j : Int) + 1).toNat - (j : Int).toNat = ([rd xs j] : List Int).length by simp, Int.toNat_natCast] at hcut
      obtain ⟨AJ, hAJ⟩ : ∃ AJ, AJ = (if cp = j then A else A.map (·.add (j * 1))) := ⟨_, rfl⟩
      rw [← hAJ] at hcut
      have hmid' : Kd.F (Kd.int .u8) wr (fun k => k < w.heap.size) AJ ([rd xs j] : List Int).length [rd xs j] := by rw [hAJ]; exact hmid
      have hmem : rd xs j ∈ xs := by
        have : rd xs j = xs[j] := by simp [rd, List.getD_eq_getElem?_getD, hlt]
        rw [this]; exact List.getElem_mem hlt
      have CALL := Aside0.mk (show Calls Try.prog 10 #[.pointer (some ⟨p3, 0, none⟩), .slice AJ 1 (cp - j)] wr _ from feed_res wr F (fun k => k < w.heap.size) p3 _ AJ (cp - j) [rd xs j] hi hmid' (fun k h1 h2 => by have := hsub k h2; have := B7'.out.size; omega) (by simp) (by intro c hc; obtain rfl := List.mem_singleton.1 hc; exact HXS.out _ hmem))
      have hob : ∀ k, some k = (Value.slice A11 (s0.run (xs.take j)).out.length c11).ownBlock → ¬ F k ∧ k < wr.heap.size := fun k hk => ⟨(hN.1 k hk.symm).2, Kd.N_lt hN k hk.symm⟩
      have hll : ((s0.run (xs.take j)).out.length + ((clr (s0.run (xs.take j))).run [rd xs j]).out.length) * 32 ≤ 140737488355328 := by
        have h1 := St.run_out s0 (xs.take j)
        have h2 := St.run_out (clr (s0.run (xs.take j))) [rd xs j]
        have h3 := List.length_take_le j xs
        simp only [clr, s0, List.length_nil, List.length_cons] at h1 h2
        simp only [s0]
        simp only [clr]
        omega
      have HLL := Aside0.mk hll
      have HOB := Aside0.mk hob
      have HI := Aside0.mk hi
      have HN := Aside0.mk hN
      have HSUB := Aside0.mk hsub
      have HCH := Aside0.mk hch
      have HCUT := Aside0.mk hcut
      clear hmid hmid' hone hmem hAJ hi0 hsz hll hob hi hN hsub hch hbr hcut
      have hcut := HCUT.out
      go_wp2_with (first | ((with_reducible refine gate_builtin (b := .append) (xs := #[.tmp 46, .tmp 53]) rfl ?_); at_builtin; go_loud (refine nrow_list k35 (W := w') 0 rfl (.tmp 46) (.tmp 53) 31 35 (.agg #[.slice none 0 0, .int .i64 0]) 32 rfl Try.underlying31 info35 z35ok _ (s0.run (xs.take j)).out ((clr (s0.run (xs.take j))).run [rd xs j]).out A' _ _ (fun k => ((k = p3 ∨ w7.heap.size ≤ k) ∧ ¬ F k) ∧ k < wr.heap.size ∨ ((F k ∨ wr.heap.size ≤ k) ∧ ¬ F' k) ∧ k < w'.heap.size) _ rfl rfl GF.out ?aK ?aO (Nat.zero_le _) HLL.out ?_); (case aK => exact fun k hk => ⟨.inr hk, fun e => by have h1 := HOB.out k e; rcases hk.1.1 with h2 | h2; exact h1.1 h2; have := h1.2; omega⟩); (case aO => exact Kd.N_mono (Ch.N GC.out (Kd.N_bound HN.out) (fun k hk => hk.1.2)) (fun k hk => .inl hk)); intro A2 c2 w'' n2 ch2 at2; have N2 := Aside0.mk n2; have CH2 := Aside0.mk ch2; clear n2 ch2 at2) | (go_at_call 10; (with_reducible refine CALL.out.mono ?_); rintro e w' ⟨A', rfl, ⟨⟨F', gi, gf, gs⟩, gc⟩⟩; have GI := Aside0.mk gi; have GF := Aside0.mk gf; have GS := Aside0.mk gs; have GC := Aside0.mk gc; clear gi gf gs gc))
      go_roundw
      case rel => exact ⟨j + 1, by go_num, SplRel.next (m := 0) (A' := none) (ys := []) hlt HI.out.lt HSUB.out HN.out HCH.out GI.out GS.out GC.out N2.out CH2.out⟩
      case measure => simp [intOf]; omega
    · have hjl : j = xs.length := by omega
      subst hjl
      rw [List.take_length] at hN
      have EACH := Aside0.mk (Kd.N_F hN)
      have ONE' := Aside0.mk (hch.F ONE.out (fun k h1 h2 => by omega))
      have TWO' := Aside0.mk (hch.F TWO.out (fun k h1 h2 => by omega))
      have BR := Aside0.mk (B7'.out.trans (hch.to_below (fun k hk => by omega) B7'.out.size))
      have HLO := Aside0.mk (show (s0.run xs).out.length ≤ 1000000 by have := St.run_out s0 xs; simp only [s0, List.length_nil] at this; simp only [s0]; omega)
      clear hi hsub hN hch ONE TWO
      rw [List.take_length]
      go_wp2_with fail
      refine (same_any wr _ _ A1 A7 _ _ c7 (s0.run xs).out ONE'.out TWO'.out HLO.out).mono ?_
      rintro e w8 ⟨rfl, b8⟩
      have BR8 := Aside0.mk (below_step BR.out b8)
      have CALL8 := Aside0.mk (same_any w8 _ _ A1 A11 (s0.run xs).out.length (s0.run xs).out.length c11 (s0.run xs).out (Kd.F_below ONE'.out b8) (Kd.F_below EACH.out b8) HLO.out)
      clear b8
      go_wp2_with fail
      refine CALL8.out.mono ?_
      rintro e w9 ⟨rfl, b9⟩
      have BR9 := Aside0.mk (below_step BR8.out b9)
      clear b9
      go_wp2_with fail
      refine (works_any _).mono ?_
      rintro e w10 ⟨rfl, b10⟩
      have BR10 := Aside0.mk (below_step BR9.out b10)
      clear b10
      go_wp2_with fail
      go_ret
      exact ⟨rfl, BR10.out⟩
end Go.Proofs.Ytpmnjeiemocbbaa.Fr
