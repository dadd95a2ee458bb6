import Derived.Test.YtpmnjeiemocbbaaFrQ
import Derived.StillTailTactics
namespace Go.Proofs.Ytpmnjeiemocbbaa.Fr
set_option linter.unusedVariables false
set_option linter.unusedSimpArgs false
open Go.RowKit Go.Proofs.YtpmnjeiemocbbaaW.PrintWords Go.Proofs.Ytpmnjeiemocbbaa.FrK Go.Proofs.Ytpmnjeiemocbbaa.Bs Go.Proofs.YtpmnjeiemocbbaaW.PrintMore Go.Proofs.YtpmnjeiemocbbaaW.PrintLast
def packF (l : List Int) : List Int × Int := if (l.length : Int) = 0 then ([], 60) else if (l.length : Int) > 4200 then ([], 3) else ((l.length : Int) / 256 :: (l.length : Int) % 256 :: l, 0)
theorem pack_eq (l : List Int) : frame_Pack.f l = some (packF l) := by
  unfold frame_Pack.f packF
  by_cases h : (l.length : Int) = 0
  · rw [if_pos h, if_pos h]
  · rw [if_neg h, if_neg h]
    by_cases h2 : (l.length : Int) > 4200
    · rw [if_pos h2, if_pos h2]
    · rw [if_neg h2, if_neg h2]
      simp only [Option.bind_some, List.length_cons, List.length_nil]
      rw [if_pos (by omega), show ((l.length : Int) / 256) % 256 = (l.length : Int) / 256 by omega]
      rfl
theorem pack_ref (l : List Int) : breviaryref25_Pack.f l = some (packF l) := by
  unfold breviaryref25_Pack.f packF
  by_cases h : (l.length : Int) = 0
  · rw [if_pos h, if_pos h]
  · rw [if_neg h, if_neg h]
    by_cases h2 : (l.length : Int) > 4200
    · rw [if_pos h2, if_pos h2]
    · rw [if_neg h2, if_neg h2]
      simp only [Option.bind_some, List.length_cons, List.length_nil]
      rw [if_pos (by omega), show wrap64 ((l.length : Int) / 256) = (l.length : Int) / 256 by unfold wrap64; omega, show ((l.length : Int) / 256) % 256 = (l.length : Int) / 256 by omega]
      rfl
theorem pack_any (w : World) (A : Option Addr) (c : Nat) (l : List Int) (h : Kd.C (Kd.int .u8) w A l.length l) (hc : l.length ≤ c) :
    Calls Try.prog 7 #[.slice A l.length c] w fun e w' => ∃ A' c', e = .returned (.tuple #[.slice A' (packF l).1.length c', .int .i64 (packF l).2]) ∧ (packF l).1.length ≤ c' ∧ Kd.F (Kd.int .u8) w' (fun k => w.heap.size ≤ k ∧ k < w'.heap.size) A' (packF l).1.length (packF l).1 ∧ Below w.heap.size w w' := by
  refine (frame_Pack.calls A c l _ _ w h hc (pack_eq l)).mono ?_
  rintro e w' ⟨v, rfl, hr, hb⟩
  obtain ⟨A', c', rfl⟩ := Kd.R_slice hr
  exact ⟨A', c', rfl, (Kd.R_reads' hr).2.1, Kd.F_mono (F_of_R (Kd.R_bound hr)) (fun k hk => ⟨hk.2.1, hk.2.2.1⟩), hb⟩
theorem packref_any (w : World) (A : Option Addr) (c : Nat) (l : List Int) (h : Kd.C (Kd.int .u8) w A l.length l) (hc : l.length ≤ c) :
    Calls Try.prog 8 #[.slice A l.length c] w fun e w' => ∃ A' c', e = .returned (.tuple #[.slice A' (packF l).1.length c', .int .i64 (packF l).2]) ∧ Kd.C (Kd.int .u8) w' A' (packF l).1.length (packF l).1 ∧ Below w.heap.size w w' := by
  refine (breviaryref25_Pack.calls A c l _ _ w h hc (pack_ref l)).mono ?_
  rintro e w' ⟨v, rfl, hr, hb⟩
  obtain ⟨A', c', rfl⟩ := Kd.R_slice hr
  exact ⟨A', c', rfl, (Kd.R_reads' hr).2.2, hb⟩
theorem run_pack (l : List Int) (h0 : (l.length : Int) ≠ 0) (h1 : ¬ (l.length : Int) > 4200) : s0.run ((l.length : Int) / 256 :: (l.length : Int) % 256 :: l) = { s0 with out := [⟨l, 0⟩] } := by
  have e1 : s0.run ((l.length : Int) / 256 :: (l.length : Int) % 256 :: l) = (({ m := .num, far := 1, size := (l.length : Int) / 256, skip := 0, body := [], out := [] } : St).step ((l.length : Int) % 256)).run l := by
    simp [run_cons, s0, St.step, St.num]
  rw [e1]
  simp only [St.step, St.num]
  rw [if_neg (by omega), if_neg (by omega), if_neg (by omega), show (l.length : Int) / 256 * 256 + (l.length : Int) % 256 = l.length by omega, show ((1 : Int) + 1) = 2 from rfl, run_body_all _ _ l [] (by omega) (by simp)]
  rfl
theorem pack_bytes (l : List Int) (hb : ∀ c ∈ l, 0 ≤ c ∧ c ≤ 255) : (packF l).1.length ≤ 100000 ∧ ∀ c ∈ (packF l).1, 0 ≤ c ∧ c ≤ 255 := by
  unfold packF
  split
  · simp
  · split
    · simp
    · refine ⟨by simp; omega, fun c hc => ?_⟩
      simp only [List.mem_cons] at hc
      rcases hc with rfl | rfl | hc
      · omega
      · omega
      · exact hb c hc
theorem clr_pack (l : List Int) : clr (s0.run (packF l).1) = s0 := by
  unfold packF
  split
  · rfl
  · split
    · rfl
    · rename_i h0 h1
      simp only
      rw [run_pack l h0 h1]; rfl
structure PkRel (w : World) (p : Nat) (n : Nat) (k : Nat) (wr : World) : Prop where
  hk : k ≤ n ∧ k ≤ 10
  i : ∃ F, Idle wr F p s0 ∧ (∀ j, F j → w.heap.size ≤ j)
  b : Below w.heap.size w wr
theorem pack_cases (b : List Int) : ((packF b).2 = 0 ∧ s0.run (packF b).1 = { s0 with out := [⟨b, 0⟩] } ∧ b.length ≤ 4200) ∨ ((packF b).2 ≠ 0 ∧ (packF b).1 = []) := by
  unfold packF
  split
  · right; exact ⟨by decide, rfl⟩
  · split
    · right; exact ⟨by decide, rfl⟩
    · rename_i h0 h1
      exact .inl ⟨rfl, run_pack b h0 h1, by omega⟩
theorem PkRel.of {w wr w' : World} {p n k k' : Nat} (h : PkRel w p n k wr) (hb : Below wr.heap.size wr w') (hk : k' ≤ n ∧ k' ≤ 10) : PkRel w p n k' w' := by
  obtain ⟨_, ⟨F, hi, hs⟩, hb0⟩ := h
  exact ⟨hk, ⟨F, hi.below hb, hs⟩, below_step hb0 hb⟩
set_option maxRecDepth 100000 in
set_option maxHeartbeats 1000000 in
theorem packs_any (w : World) (A AB : Option Addr) (cp cb : Nat) (l : List (List Int)) (b : List Int) (hx : Kd.C (Kd.slice 5 (Kd.int .u8)) w A l.length l) (hy : Kd.C (Kd.int .u8) w AB b.length b) (hxs : ∀ x ∈ l, ∀ c ∈ x, 0 ≤ c ∧ c ≤ 255) (hys : ∀ c ∈ b, 0 ≤ c ∧ c ≤ 255) (hl : l.length ≤ 9223372036854775807) (hlb : b.length ≤ cb) :
    Calls Try.prog 3 #[.slice A l.length cp, .slice AB b.length cb] w fun e w' => e = .returned (.bool true) ∧ Below w.heap.size w w' := by
  have HX := Aside0.mk hx
  have HY := Aside0.mk hy
  have HXS := Aside0.mk hxs
  have HYS := Aside0.mk hys
  clear hx hxs hy hys
  go_enter Try.func3, Try.ntmps3
  go_wp2_with fail
  refine (pack_any w AB cb b HY.out hlb).mono ?_
  rintro e w1 ⟨A1, c1, rfl, hc1, f1, b1⟩
  have F1 := Aside0.mk f1
  have B1 := Aside0.mk b1
  have C1 := Aside0.mk hc1
  clear f1 b1 hc1
  go_wp2_with fail
  refine (packref_any w1 AB cb b (Kd.C_below HY.out B1.out) hlb).mono ?_
  rintro e w2 ⟨A2, c2, rfl, f2, b2⟩
  have B2 := Aside0.mk (below_step B1.out b2)
  have F1' := Aside0.mk (Kd.F_below F1.out b2)
  have q1 := Kd.C_string (c := c1) Try.underlying23 Try.underlying5 Try.underlying9 (Kd.F_now F1'.out)
  have q2 := Kd.C_string (c := c2) Try.underlying23 Try.underlying5 Try.underlying9 f2
  have BY := Aside0.mk (pack_bytes b HYS.out)
  have Z1 := Aside0.mk (show w1.heap.size ≤ w2.heap.size from b2.size)
  clear f2 b2 F1
  have HPC := Aside0.mk (pack_cases b)
  generalize hpb : (packF b).1 = pb at *
  generalize hpe : (packF b).2 = pe at *
  clear hpb hpe
  go_wp2_with fail
  refine (new_at _).mono ?_
  rintro e w3 ⟨p, rfl, y3, z3, i3, b3⟩
  have R3 := Aside0.mk (show PkRel w2 p l.length 0 w3 from ⟨⟨Nat.zero_le _, Nat.zero_le _⟩, ⟨_, i3, fun j hj => by omega⟩, b3⟩)
  clear i3 b3 q1 q2
  go_wp2_with fail
  go_loopw [10, 11, 12] (fun i v11 v12 wr => ∃ k : Nat, i = .int .i64 k ∧ PkRel w2 p l.length k wr) (fun i _ _ _ => l.length - (intOf i).toNat)
  case atStart => exact ⟨0, rfl, R3.out⟩
  case round =>
    obtain ⟨k, rfl, HR⟩ := hrel
    obtain ⟨⟨hk, hk10⟩, ⟨F, hi, hsub⟩, hb⟩ := HR
    have HB := Aside0.mk hb
    have HI := Aside0.mk hi
    have HSUB := Aside0.mk hsub
    clear hi hsub hb
    by_cases hlt : k < l.length ∧ k < 10
    · obtain ⟨hlt, hlt10⟩ := hlt
      obtain ⟨ad, A0, c0, rfl, hcellw, hl0, hgw⟩ := at_L1 HX.out k (by omega) (by omega)
      rw [Int.toNat_natCast] at hcellw
      have hb0 : Below w.heap.size w wr := B2.out.trans (HB.out.mono B2.out.size)
      have hcell := pw_cell_below hb0 hcellw
      have hmem : rd_L1 l k ∈ l := by
        have : rd_L1 l k = l[k] := by simp [rd_L1, List.getD_eq_getElem?_getD, hlt]
        rw [this]; exact List.getElem_mem hlt
      have HBX := Aside0.mk (HXS.out _ hmem)
      have HCX := Aside0.mk (Kd.C_below hgw hb0)
      generalize rd_L1 l k = x at *
      clear hcellw hgw hb0 hmem
      by_cases hlong : x.length ≤ 5000
      · have hd1 : decide (x.length ≤ 5000) = true := by simpa using hlong
        go_wp2_with fail
        refine (pack_any wr A0 c0 x HCX.out hl0).mono ?_
        rintro e w4 ⟨A4, c4, rfl, hc4, f4, b4⟩
        have PB := Aside0.mk (pack_bytes x HBX.out)
        have F4 := Aside0.mk f4
        have I4 := Aside0.mk (HI.out.below b4)
        have B4 := Aside0.mk (below_step HB.out b4)
        have hz := HB.out.size
        have CALL := Aside0.mk (feed_res w4 F _ p s0 A4 c4 (packF x).1 (HI.out.below b4) f4 (fun j h1 h2 => by have := HI.out.lt j h2; omega) PB.out.1 PB.out.2)
        clear b4 f4
        go_wp2_with fail
        refine CALL.out.mono ?_
        rintro e w5 ⟨A5, rfl, ⟨⟨F5, i5, f5, s5⟩, c5⟩⟩
        rw [clr_pack] at i5
        have hz4 := B4.out.size
        have HREL := Aside0.mk (show PkRel w2 p l.length (k + 1) w5 from ⟨⟨by omega, by omega⟩, ⟨F5, i5, fun j hj => (s5 j hj).elim (HSUB.out j) (fun h => by omega)⟩, B4.out.trans (c5.to_below (fun j hj => HSUB.out j hj) hz4)⟩)
        clear i5 f5 s5 c5
        go_wp2_with fail
        go_roundw
        case rel => exact ⟨k + 1, by go_num, HREL.out⟩
        case measure => simp [intOf]; omega
      · have hd1 : decide (x.length ≤ 5000) = false := by simpa using hlong
        go_wp2_with fail
        go_roundw
        case rel => exact ⟨k + 1, by go_num, ⟨⟨by omega, by omega⟩, ⟨F, HI.out, HSUB.out⟩, HB.out⟩⟩
        case measure => simp [intOf]; omega
    · have hfin : k ≤ l.length ∧ (k < l.length → k = 10) := ⟨hk, fun h => by omega⟩
      have BR := Aside0.mk (B2.out.trans (HB.out.mono B2.out.size))
      have FR := Aside0.mk (Kd.F_below F1'.out HB.out)
      have FY := Aside0.mk (F_came (Kd.heap_int _) HY.out)
      rcases HPC.out with ⟨rfl, hrun, hb42⟩ | ⟨hpe, rfl⟩
      · have CALL := Aside0.mk (feed_res wr F _ p s0 A1 c1 pb HI.out FR.out (fun j h1 h2 => by have := HSUB.out j h2; have := Z1.out; omega) BY.out.1 BY.out.2)
        have HRUN := Aside0.mk hrun
        clear hrun
        have hgd : k < l.length → decide ((k : Int) < 10) = false := fun h => by have := hfin.2 h; simp; omega
        by_cases hkl : k < l.length
        all_goals
          first | (have hg10 := hgd hkl) | skip
          clear hgd hfin
          go_wp2_with fail
          refine CALL.out.mono ?_
          rintro e w5 ⟨A5, rfl, ⟨⟨F5, i5, f5, s5⟩, c5⟩⟩
          rw [HRUN.out] at f5 ⊢
          have hb5 : Below w.heap.size w w5 := BR.out.trans (c5.to_below (fun j hj => by have := HSUB.out j hj; have := B2.out.size; omega) BR.out.size)
          obtain ⟨ad, A0, c0, rfl, hc0, hc1, hl0, hg0⟩ := at_T35 (Kd.F_now f5) 0 (by omega) (by simp)
          have hc0' : w5.cell? ad = some (.slice A0 b.length c0) := hc0
          have hc1' : w5.cell? ⟨ad.block, ad.off + 1, none⟩ = some (.int .i64 0) := hc1
          have q1 : ∀ n, (convert 23 9 (.slice A0 b.length c0)).run Try.prog (w5.drewN n) = .ok (.string (strOfNums b)) (w5.drewN n) := fun n => Kd.C_string Try.underlying23 Try.underlying5 Try.underlying9 (Kd.C_drewN hg0 n)
          have q2 : ∀ n, (convert 23 9 (.slice AB b.length cb)).run Try.prog (w5.drewN n) = .ok (.string (strOfNums b)) (w5.drewN n) := fun n => Kd.C_string Try.underlying23 Try.underlying5 Try.underlying9 (Kd.C_drewN (Kd.C_below HY.out hb5) n)
          have q3 : (convert 23 9 (.slice A0 b.length c0)).run Try.prog w5 = .ok (.string (strOfNums b)) w5 := q1 0
          have q4 : (convert 23 9 (.slice AB b.length cb)).run Try.prog w5 = .ok (.string (strOfNums b)) w5 := q2 0
          have q5 : (convert 23 9 (.slice A0 b.length c0)).run Try.prog w5.drew = .ok (.string (strOfNums b)) w5.drew := q1 1
          have q6 : (convert 23 9 (.slice AB b.length cb)).run Try.prog w5.drew = .ok (.string (strOfNums b)) w5.drew := q2 1
          have HB5 := Aside0.mk hb5
          clear hc0 hc1 hg0 i5 f5 s5 c5 hb5
          generalize strOfNums b = str at *
          go_wp2_with fail
          go_still_tail 21, (by kernel_rfl)
          change wpList _ _ _ _ _ w5.drew
          have HB6 := Aside0.mk (HB5.out.drew)
          clear HB5 q1 q2 q3 q4 q5 q6
          generalize w5.drew = w6 at *
          go_wp2_with (go_at_call 11; refine (works_any _).mono ?_; rintro e w' ⟨rfl, hb⟩)
          go_ret
          exact ⟨rfl, below_step HB6.out hb⟩
      · have hpb : (pe != 0) = true := bne_iff_ne.2 hpe
        have HPE := Aside0.mk hpe
        clear hpe
        by_cases hkl : k < l.length
        · have hk1 : k = 10 := by omega
          subst hk1
          go_wp2_with (go_at_call 11; refine (works_any _).mono ?_; rintro e w' ⟨rfl, hb⟩)
          all_goals (refine bodyPost_ret (results_tmp rfl _ _ _) rfl ?_)
          exact ⟨rfl, below_step BR.out hb⟩
        · go_wp2_with (go_at_call 11; refine (works_any _).mono ?_; rintro e w' ⟨rfl, hb⟩)
          all_goals (refine bodyPost_ret (results_tmp rfl _ _ _) rfl ?_)
          exact ⟨rfl, below_step BR.out hb⟩
theorem packs_row (W : World) (A : Option Addr) (cp : Nat) (l : List (List Int)) (f : Kd.C (Kd.slice 5 (Kd.int .u8)) W A l.length l) (e : l.length ≤ cp) (g : (∀ x ∈ l, (∀ y ∈ x, (Lit.int .u8 y).wf = true) ∧ x.length ≤ maxLen) ∧ l.length ≤ maxLen)
    (A' : Option Addr) (cp' : Nat) (b : List Int) (f' : Kd.C (Kd.int .u8) W A' b.length b) (e' : b.length ≤ cp') (g' : (∀ x ∈ b, (Lit.int .u8 x).wf = true) ∧ b.length ≤ maxLen) :
    Calls Try.prog 3 #[.slice A l.length cp, .slice A' b.length cp'] W fun e w' => e = .returned (.bool true) ∧ Below W.heap.size W w' :=
  packs_any W A A' cp cp' l b f f' (fun x hx c hc => wf_u8 ((g.1 x hx).1 c hc)) (fun c hc => wf_u8 (g'.1 c hc)) (by have := g.2; simp only [maxLen] at this; omega) e'
end Go.Proofs.Ytpmnjeiemocbbaa.Fr
