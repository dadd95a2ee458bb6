import Derived.Test.YtpmnjeiemocbbaaFrM
namespace Go.Proofs.Ytpmnjeiemocbbaa.Fr
set_option linter.unusedVariables false
set_option linter.unusedSimpArgs false
open Go.RowKit Go.Proofs.YtpmnjeiemocbbaaW.PrintWords Go.Proofs.Ytpmnjeiemocbbaa.FrK Go.Proofs.Ytpmnjeiemocbbaa.Bs Go.Proofs.YtpmnjeiemocbbaaW.PrintMore Go.Proofs.YtpmnjeiemocbbaaW.PrintLast

/-- The pieces that count, of the first k. -/
def cat (l : List (List Int)) (k : Nat) : List Int := ((l.take k).filter (fun x => decide (x.length ≤ 10000))).flatten
theorem cat_next (l : List (List Int)) (k : Nat) (h : k < l.length) : cat l (k + 1) = if (rd_L1 l k).length ≤ 10000 then cat l k ++ rd_L1 l k else cat l k := by
  have e : l.take (k + 1) = l.take k ++ [rd_L1 l k] := by
    rw [List.take_succ_eq_append_getElem h]; simp [rd_L1, List.getD_eq_getElem?_getD, h]
  unfold cat
  rw [e, List.filter_append]
  by_cases hx : (rd_L1 l k).length ≤ 10000
  · simp [hx]
  · simp [hx]
theorem cat_len (l : List (List Int)) (k : Nat) : (cat l k).length ≤ 10000 * k := by
  induction k with
  | zero => simp [cat]
  | succ k ih =>
    by_cases h : k < l.length
    · rw [cat_next l k h]
      split
      · rename_i hx; rw [List.length_append]; omega
      · omega
    · have : cat l (k + 1) = cat l k := by unfold cat; rw [List.take_of_length_le (by omega), List.take_of_length_le (by omega)]
      rw [this]; omega
theorem cat_bytes (l : List (List Int)) (k : Nat) (h : ∀ x ∈ l, ∀ c ∈ x, 0 ≤ c ∧ c ≤ 255) : ∀ c ∈ cat l k, 0 ≤ c ∧ c ≤ 255 := by
  intro c hc
  unfold cat at hc
  obtain ⟨x, hx, hcx⟩ := List.mem_flatten.1 hc
  exact h x (List.mem_of_mem_take (List.mem_filter.1 hx).1) c hcx
structure PieceRel (w : World) (p : Nat) (l : List (List Int)) (k : Nat) (v4 v5 : Value) (wr : World) : Prop where
  hk : k ≤ l.length ∧ k ≤ 30
  i : ∃ F, Idle wr F p (clr (s0.run (cat l k))) ∧ (∀ j, F j → w.heap.size ≤ j) ∧ Kd.N (Kd.int .u8) 5 wr 0 (fun j => w.heap.size ≤ j ∧ ¬ F j) v4 (cat l k) ∧
    Kd.N k35 35 wr 0 (fun j => (w.heap.size ≤ j ∧ ¬ F j) ∧ some j ≠ v4.ownBlock) v5 (s0.run (cat l k)).out
  b : Below w.heap.size w wr
theorem N_scal {α : Type} {enc : α → Value} {h1 : ∀ x, (enc x).oneCell' = true} {e base : Nat} {w : World} {ok : Nat → Prop} {v : Value} {xs : List α} (h : Kd.N (Kd.scalar enc h1) e w base ok v xs) : Kd.N (Kd.scalar enc h1) e w base (fun k => some k = v.ownBlock) v xs := by
  obtain ⟨_, rows, h2, h3, h4⟩ := h
  exact ⟨fun k hk => hk.symm, rows, h2, h3, fun j x c hx hc W' _ => by have := Kd.FK_now (h4 j x c hx hc); exact this⟩
/-- Behind 'all = append(all, l[k]...)'. -/
structure AfterA (w : World) (p : Nat) (F : Nat → Prop) (c x : List Int) (out : List S35) (v4 v5 : Value) (w2 : World) : Prop where
  i : Idle w2 F p (clr (s0.run c))
  sub : ∀ j, F j → w.heap.size ≤ j
  nA : Kd.N (Kd.int .u8) 5 w2 0 (fun j => some j = v4.ownBlock) v4 (c ++ x)
  nG : Kd.N k35 35 w2 0 (fun j => (w.heap.size ≤ j ∧ ¬ F j) ∧ some j ≠ v4.ownBlock) v5 out
  own : ∀ j, some j = v4.ownBlock → w.heap.size ≤ j ∧ ¬ F j
  b : Below w.heap.size w w2
theorem AfterA.mk' {w wr w2 : World} {p : Nat} {F : Nat → Prop} {c x : List Int} {out : List S35} {v4 v5 : Value} {A : Option Addr} {n cc : Nat} {okA : Nat → Prop} (hi : Idle wr F p (clr (s0.run c))) (hsub : ∀ j, F j → w.heap.size ≤ j)
    (hA : Kd.N (Kd.int .u8) 5 wr 0 (fun j => w.heap.size ≤ j ∧ ¬ F j) v4 c) (hG : Kd.N k35 35 wr 0 (fun j => (w.heap.size ≤ j ∧ ¬ F j) ∧ some j ≠ v4.ownBlock) v5 out) (hb : Below w.heap.size w wr)
    (n4 : Kd.N (Kd.int .u8) 5 w2 0 okA (.slice A n cc) (c ++ x)) (ch : Ch (fun j => some j = v4.ownBlock) wr w2) (hat : ∀ j, (Value.slice A n cc).ownBlock = some j → some j = v4.ownBlock ∨ wr.heap.size ≤ j) :
    AfterA w p F c x out (.slice A n cc) v5 w2 := by
  refine ⟨hi.step ch (fun j h1 h2 => (hA.1 j h2.symm).2 h1), hsub, N_scal n4, ?_, fun j hj => ?_, hb.trans (ch.to_below (fun j hj => (hA.1 j hj.symm).1) hb.size)⟩
  · refine Kd.N_mono (Ch.N ch (Kd.N_bound hG) (fun j h1 h2 => h1.1.2 h2)) (fun j hj => ⟨hj.1.1, fun e => ?_⟩)
    rcases hat j e.symm with h | h
    · exact hj.1.2 h
    · have := hj.2; omega
  · rcases hat j hj.symm with h | h
    · exact hA.1 j h.symm
    · exact ⟨Nat.le_trans hb.size h, fun hF => by have := hi.lt j hF; omega⟩
/-- Behind 'got = append(got, r.Feed(l[k])...)'. -/
theorem PieceRel.next {w w2 w3 w4 w7 : World} {p k : Nat} {l : List (List Int)} {F F' : Nat → Prop} {x : List Int} {v4 v5 : Value} {A : Option Addr} {n cc : Nat} (hk : k < l.length ∧ k < 30) (hc : cat l (k + 1) = cat l k ++ x)
    (ha : AfterA w p F (cat l k) x (s0.run (cat l k)).out v4 v5 w2) (hi : Idle w3 F' p (clr ((clr (s0.run (cat l k))).run x))) (hs' : ∀ j, F' j → F j ∨ w2.heap.size ≤ j) (hch : Ch F w2 w3)
    (hG : Kd.N k35 35 w4 0 (fun j => ((w.heap.size ≤ j ∧ ¬ F' j) ∧ some j ≠ v4.ownBlock) ∨ w3.heap.size ≤ j) (.slice A n cc) ((s0.run (cat l k)).out ++ ((clr (s0.run (cat l k))).run x).out)) (hchG : Ch (fun j => some j = v5.ownBlock) w3 w4) (h7 : Below w4.heap.size w4 w7) : PieceRel w p l (k + 1) v4 (.slice A n cc) w7 := by
  obtain ⟨e1, e2⟩ := run_out_app s0 (cat l k) x
  rw [← hc] at e1 e2
  have hz := hch.size
  have hz2 := ha.b.size
  have hv5 : ∀ j, some j = v5.ownBlock → ((w.heap.size ≤ j ∧ ¬ F j) ∧ some j ≠ v4.ownBlock) ∧ j < w2.heap.size := fun j hj => ⟨ha.nG.1 j hj.symm, Kd.N_lt ha.nG j hj.symm⟩
  have hv4 : ∀ j, some j = v4.ownBlock → j < w2.heap.size := fun j hj => Kd.N_lt ha.nA j hj.symm
  refine ⟨⟨hk.1, hk.2⟩, ⟨F', ?_, fun j hj => (hs' j hj).elim (ha.sub j) (fun h => Nat.le_trans hz2 h), ?_, ?_⟩, ?_⟩
  · rw [e2]
    exact (hi.step hchG (fun j h1 h2 => by
      have h3 := hv5 j h2
      rcases hs' j h1 with h4 | h4
      · exact h3.1.1.2 h4
      · have := h3.2; omega)).below h7
  · rw [hc]
    have h1 := Ch.N hch ha.nA (fun j hj => (ha.own j hj).2)
    have h2 := Ch.N hchG h1 (fun j hj e => (hv5 j e).1.2 hj)
    refine Kd.N_mono (Kd.N_below h2 h7) (fun j hj => ⟨(ha.own j hj).1, fun e => ?_⟩)
    rcases hs' j e with h4 | h4
    · exact (ha.own j hj).2 h4
    · have := hv4 j hj; omega
  · rw [e1]
    refine Kd.N_mono (Kd.N_below hG h7) (fun j hj => ?_)
    rcases hj with hj | hj
    · exact hj
    · exact ⟨⟨by omega, fun e => by have := hi.lt j e; omega⟩, fun e => by have := hv4 j e; omega⟩
  · have b3 : Below w.heap.size w w3 := ha.b.trans (hch.to_below (fun j hj => ha.sub j hj) hz2)
    have b4 : Below w.heap.size w w4 := b3.trans (hchG.to_below (fun j hj => (hv5 j hj).1.1.1) b3.size)
    exact below_step b4 h7
theorem PieceRel.below {w w4 w7 : World} {p k : Nat} {l : List (List Int)} {v4 v5 : Value} (h : PieceRel w p l k v4 v5 w4) (h7 : Below w4.heap.size w4 w7) : PieceRel w p l k v4 v5 w7 := by
  obtain ⟨hk, ⟨F, hi, hs, h1, h2⟩, hb⟩ := h
  exact ⟨hk, ⟨F, hi.below h7, hs, Kd.N_below h1 h7, Kd.N_below h2 h7⟩, below_step hb h7⟩
/-- What append asks at 'got'. -/
theorem AfterA.got {w w2 w3 : World} {p : Nat} {F F' : Nat → Prop} {c x : List Int} {out : List S35} {v4 v5 : Value} (ha : AfterA w p F c x out v4 v5 w2) (hs' : ∀ j, F' j → F j ∨ w2.heap.size ≤ j) (hch : Ch F w2 w3) :
    Kd.N k35 35 w3 0 (fun j => (w.heap.size ≤ j ∧ ¬ F' j) ∧ some j ≠ v4.ownBlock) v5 out ∧ ∀ j, ((F j ∨ w2.heap.size ≤ j) ∧ ¬ F' j) ∧ j < w3.heap.size → ((w.heap.size ≤ j ∧ ¬ F' j) ∧ some j ≠ v4.ownBlock) ∧ some j ≠ v5.ownBlock := by
  have hz2 := ha.b.size
  refine ⟨Kd.N_mono (Ch.N hch (Kd.N_bound ha.nG) (fun j hj => hj.1.1.2)) (fun j hj => ⟨⟨hj.1.1.1, fun e => ?_⟩, hj.1.2⟩), fun j hj => ⟨⟨⟨?_, hj.1.2⟩, fun e => ?_⟩, fun e => ?_⟩⟩
  · rcases hs' j e with h4 | h4
    · exact hj.1.1.2 h4
    · have := hj.2; omega
  · rcases hj.1.1 with h | h
    · exact ha.sub j h
    · omega
  · rcases hj.1.1 with h | h
    · exact (ha.own j e).2 h
    · have := Kd.N_lt ha.nA j e.symm; omega
  · rcases hj.1.1 with h | h
    · exact (ha.nG.1 j e.symm).1.2 h
    · have := Kd.N_lt ha.nG j e.symm; omega
theorem all_run (w : World) (okb : Nat → Prop) (A : Option Addr) (cp : Nat) (xs : List Int) (hx : Kd.F (Kd.int .u8) w okb A xs.length xs) (hcp : xs.length ≤ cp) (hxs : ∀ c ∈ xs, 0 ≤ c ∧ c ≤ 255) (hl : xs.length ≤ 1000000) :
    Calls Try.prog 13 #[.slice A xs.length cp] w fun e w' => ∃ A' c', e = .returned (.tuple #[.slice A' (s0.run xs).out.length c', .int .i64 (rest (s0.run xs)), .int .i64 (s0.run xs).skip]) ∧ Kd.F k35 w' (fun _ => True) A' (s0.run xs).out.length (s0.run xs).out ∧ Below w.heap.size w w' := by
  obtain ⟨h1, h2, h3⟩ := run_all _ xs (Nat.le_refl _) hxs
  rw [h1, h2, h3]
  refine (all_any w _ A cp xs (Kd.F_bound hx) (fun k hk => hk.2) hcp hxs hl).mono ?_
  rintro e w' ⟨v, rfl, hv, hb⟩
  obtain ⟨A', c', rfl, hc, hf⟩ := hv
  exact ⟨A', c', rfl, Kd.F_mono hf (fun _ _ => trivial), hb⟩
set_option maxRecDepth 100000 in
set_option maxHeartbeats 1000000 in
theorem pieces_any (w : World) (A : Option Addr) (cp : Nat) (l : List (List Int)) (hx : Kd.C (Kd.slice 5 (Kd.int .u8)) w A l.length l) (hxs : ∀ x ∈ l, ∀ c ∈ x, 0 ≤ c ∧ c ≤ 255) (hl : l.length ≤ 9223372036854775807) :
    Calls Try.prog 5 #[.slice A l.length cp] w fun e w' => e = .returned (.bool true) ∧ Below w.heap.size w w' := by
  have HX := Aside0.mk hx
  have HXS := Aside0.mk hxs
  clear hx hxs
  go_enter Try.func5, Try.ntmps5
  go_wp2_with fail
  refine (new_at _).mono ?_
  rintro e w1 ⟨p, rfl, y1, z1, i1, b1⟩
  have I1 := Aside0.mk i1
  have B1 := Aside0.mk b1
  clear i1 b1
  go_wp2_with fail
  go_loopw [4, 5, 6] (fun v4 v5 i wr => ∃ k : Nat, i = .int .i64 k ∧ PieceRel w p l k v4 v5 wr) (fun _ _ i _ => l.length - (intOf i).toNat)
  case atStart => exact ⟨0, rfl, ⟨⟨Nat.zero_le _, Nat.zero_le _⟩, ⟨_, I1.out, fun j hj => by omega, Kd.N_nil _ _ _ _ _, Kd.N_nil _ _ _ _ _⟩, B1.out⟩⟩
  case round =>
    obtain ⟨k, rfl, ⟨⟨hk, hk30⟩, ⟨F, hi, hsub, hA, hG⟩, hb⟩⟩ := hrel
    obtain ⟨A4, c4, rfl⟩ := Kd.N_slice hA
    obtain ⟨A5, c5, rfl⟩ := Kd.N_slice hG
    by_cases hlt : k < l.length ∧ k < 30
    · obtain ⟨hlt, hlt30⟩ := hlt
      have hC := Kd.C_below HX.out hb
      obtain ⟨ad, A0, c0, rfl, hcellw, hl0, hgw⟩ := at_L1 HX.out k (by omega) (by omega)
      rw [Int.toNat_natCast] at hcellw
      have hcell := pw_cell_below hb hcellw
      have hFx := F_came (Kd.heap_int _) hgw
      have hnext := cat_next l k hlt
      have hmem : rd_L1 l k ∈ l := by
        have : rd_L1 l k = l[k] := by simp [rd_L1, List.getD_eq_getElem?_getD, hlt]
        rw [this]; exact List.getElem_mem hlt
      have hbx := HXS.out _ hmem
      generalize rd_L1 l k = x at *
      have HG := Aside0.mk hG
      have HA := Aside0.mk hA
      have HI := Aside0.mk hi
      have HSUB := Aside0.mk hsub
      have HB := Aside0.mk hb
      have HBX := Aside0.mk hbx
      have H0 := Aside0.mk hFx
      have HNX := Aside0.mk hnext
      have HCW := Aside0.mk hcellw
      clear hG hA hi hsub hb hbx hgw hFx hcellw hnext hmem hC
      by_cases hlong : x.length ≤ 10000
      · have hd1 : decide (10000 < x.length) = false := by simpa using hlong
        have hcat : cat l (k + 1) = cat l k ++ x := by rw [HNX.out, if_pos hlong]
        have HCAT := Aside0.mk hcat
        have HLEN := Aside0.mk (cat_len l k)
        have HFX := Aside0.mk (Kd.F_below H0.out HB.out)
        have hlo : (s0.run (cat l k)).out.length + ((clr (s0.run (cat l k))).run x).out.length ≤ 310000 := by
          have h1 := St.run_out s0 (cat l k)
          have h2 := St.run_out (clr (s0.run (cat l k))) x
          have h3 := cat_len l k
          simp only [clr, s0, List.length_nil] at h1 h2
          simp only [s0]
          simp only [clr]
          omega
        have HLO := Aside0.mk hlo
        clear hlo
        clear hcat
        go_wp2_with (first | ((with_reducible refine gate_builtin (b := .append) (xs := #[.tmp 27, .tmp 31]) rfl ?_); at_builtin; go_loud (refine nrow_list (Kd.int .u8) (W := wr) 0 rfl (.tmp 27) (.tmp 31) 23 5 (.int .u8 0) 1 rfl Try.underlying23 info5 z5ok _ (cat l k) x A0 _ _ (fun j => w.heap.size ≤ j ∧ ¬ F j ∨ j < w.heap.size) (fun j => j < w.heap.size) rfl rfl HFX.out ?aK ?aO (Nat.zero_le _) ?aL ?_); (case aK => exact fun j hj => ⟨.inr hj, fun e => by have h1 := HA.out.1 j e.symm; omega⟩); (case aO => exact Kd.N_mono HA.out (fun j hj => .inl hj)); (case aL => have := HLEN.out; omega); intro A2 c2 w2 n2 ch2 at2; have HA2 := Aside0.mk (AfterA.mk' HI.out HSUB.out HA.out HG.out HB.out n2 ch2 at2); have hcell2 := pw_cell_below HA2.out.b HCW.out; clear n2 ch2 at2) | (go_at_call 10; (with_reducible refine (feed_res w2 F (fun j => j < w.heap.size) p _ A0 c0 x HA2.out.i (Kd.F_below H0.out HA2.out.b) ?d1 ?d2 HBX.out).mono ?_); (case d1 => exact fun j h1 h2 => by have := HSUB.out j h2; omega); (case d2 => omega); rintro e w3 ⟨A3, rfl, ⟨⟨F3, gi, gf, gs⟩, gc⟩⟩; have GI := Aside0.mk gi; have GF := Aside0.mk gf; have GS := Aside0.mk gs; have GC := Aside0.mk gc; have GOT := Aside0.mk (AfterA.got HA2.out gs gc); clear gi gf gs gc) | ((with_reducible refine gate_builtin (b := .append) (xs := #[.tmp 33, .tmp 39]) rfl ?_); at_builtin; go_loud (refine nrow_list k35 (W := w3) 0 rfl (.tmp 33) (.tmp 39) 31 35 (.agg #[.slice none 0 0, .int .i64 0]) 32 rfl Try.underlying31 info35 z35ok _ (s0.run (cat l k)).out ((clr (s0.run (cat l k))).run x).out A3 _ _ _ _ rfl rfl GF.out GOT.out.2 GOT.out.1 (Nat.zero_le _) ?aL ?_); (case aL => have := HLO.out; omega); intro A6 c6 w4 n4 ch4 at4; have N4 := Aside0.mk n4; have CH4 := Aside0.mk ch4; clear n4 ch4 at4))
        have HP4 := Aside0.mk (PieceRel.next ⟨hlt, hlt30⟩ HCAT.out HA2.out GI.out GS.out GC.out N4.out CH4.out (Below.refl _ _))
        have hl1 : (cat l k).length + x.length = (cat l (k + 1)).length := by rw [HCAT.out, List.length_append]
        have hl2 : (s0.run (cat l k)).out.length + ((clr (s0.run (cat l k))).run x).out.length = (s0.run (cat l (k + 1))).out.length := by
          have := (run_out_app s0 (cat l k) x).1
          rw [← HCAT.out] at this
          rw [this, List.length_append]
        simp only [hl1, hl2]
        simp only [hl1, hl2] at HP4
        clear hl1 hl2 GI GF GS GC GOT N4 CH4 HA2 HFX H0 HB HSUB HI HA HG HNX HLEN hcell hcell2
        obtain ⟨hk4, ⟨F4, hi4, hs4, hA4, hG4⟩, hb4⟩ := HP4.out
        have hca := (Kd.N_reads' hA4).2.1
        have hlen' := cat_len l (k + 1)
        have hlo' : (s0.run (cat l (k + 1))).out.length ≤ 1000000 := by
          have h1 := St.run_out s0 (cat l (k + 1))
          simp only [s0, List.length_nil] at h1
          simp only [s0]
          omega
        have C1 := Aside0.mk (all_run w4 _ A2 c2 (cat l (k + 1)) (Kd.N_F hA4) hca (cat_bytes l (k + 1) HXS.out) (by omega))
        have G4 := Aside0.mk (Kd.N_F hG4)
        have I4 := Aside0.mk hi4
        have HLO' := Aside0.mk hlo'
        clear hk4 hi4 hs4 hA4 hG4 hb4 hca hlen' hlo'
        go_wp2_with fail
        refine C1.out.mono ?_
        rintro e w5 ⟨A7, c7, rfl, f7, b5⟩
        have C2 := Aside0.mk (same_any w5 _ _ A6 A7 _ c6 c7 (s0.run (cat l (k + 1))).out (Kd.F_below G4.out b5) f7 HLO'.out)
        have I5 := Aside0.mk (I4.out.below b5)
        have B5 := Aside0.mk b5
        clear C1 G4 I4 f7 b5
        go_wp2_with fail
        refine C2.out.mono ?_
        rintro e w6 ⟨rfl, b6⟩
        have C3 := Aside0.mk (show Calls Try.prog 14 #[.pointer (some ⟨p, 0, none⟩)] w6 fun e w' => e = .returned (.int .i64 (rest (s0.run (cat l (k + 1))))) ∧ ∃ n, w' = w6.drewN n from rest_any w6 _ _ (clr (s0.run (cat l (k + 1)))) (I5.out.below b6))
        have I6 := Aside0.mk (I5.out.below b6)
        have B6 := Aside0.mk (below_step B5.out b6)
        clear C2 I5 b6 B5
        go_wp2_with fail
        refine C3.out.mono ?_
        rintro e w7 ⟨rfl, n7, rfl⟩
        have C4 := Aside0.mk (show Calls Try.prog 15 #[.pointer (some ⟨p, 0, none⟩)] (w6.drewN n7) fun e w' => e = .returned (.int .i64 (s0.run (cat l (k + 1))).skip) ∧ w6.drewN n7 = w' from skips_any (w6.drewN n7) _ _ (clr (s0.run (cat l (k + 1)))) (I6.out.below (pw_below_drewN (Below.refl _ _) n7)))
        have B7 := Aside0.mk (pw_below_drewN B6.out n7)
        clear C3 I6 B6
        go_wp2_with (go_at_call 15; refine C4.out.mono ?_; rintro e w8 ⟨rfl, rfl⟩)
        go_roundw
        case rel => exact ⟨k + 1, by go_num, PieceRel.below HP4.out B7.out⟩
        case measure => simp [intOf]; omega
      · have hd1 : decide (10000 < x.length) = true := by simpa using hlong
        have hcat : cat l (k + 1) = cat l k := by rw [HNX.out, if_neg hlong]
        have HCAT := Aside0.mk hcat
        clear hcat
        go_wp2_with fail
        go_roundw
        case rel => exact ⟨k + 1, by go_num, ⟨by omega, by omega⟩, ⟨F, by rw [HCAT.out]; exact HI.out, HSUB.out, by rw [HCAT.out]; exact HA.out, by rw [HCAT.out]; exact HG.out⟩, HB.out⟩
        case measure => simp [intOf]; omega
    · have HB := Aside0.mk hb
      clear hG hA hi hsub hb
      by_cases hkl : k < l.length
      · have : k = 30 := by omega
        subst this
        go_wp2_with (go_at_call 11; refine (works_any _).mono ?_; rintro e w' ⟨rfl, hb⟩)
        go_ret
        exact ⟨rfl, below_step HB.out hb⟩
      · go_wp2_with (go_at_call 11; refine (works_any _).mono ?_; rintro e w' ⟨rfl, hb⟩)
        go_ret
        exact ⟨rfl, below_step HB.out hb⟩
end Go.Proofs.Ytpmnjeiemocbbaa.Fr
