import Derived.Test.YtpmnjeiemocbbaaFrD
namespace Go.Proofs.Ytpmnjeiemocbbaa.Fr
set_option linter.unusedVariables false
set_option linter.unusedSimpArgs false
open Go.RowKit Go.Proofs.YtpmnjeiemocbbaaW.PrintWords Go.Proofs.Ytpmnjeiemocbbaa.FrK Go.Proofs.Ytpmnjeiemocbbaa.Bs

set_option maxHeartbeats 1000000 in
theorem clip_some (w : World) (a : Addr) (n c : Nat) (h : n ≤ c) : Calls Try.prog 17 #[.slice (some a) n c] w fun e w' => e = .returned (.slice (some a) n n) ∧ w = w' := by
  go_enter Try.func17, Try.ntmps17
  go_wp2
  go_ret
  exact ⟨rfl, rfl⟩
set_option maxHeartbeats 1000000 in
theorem clip_nil (w : World) : Calls Try.prog 17 #[.slice none 0 0] w fun e w' => e = .returned (.slice none 0 0) ∧ w = w' := by
  go_enter Try.func17, Try.ntmps17
  go_wp2
  go_ret
  exact ⟨rfl, rfl⟩
def St.ok (s : St) : Prop := match s.m with
  | .num => (s.far = 0 ∧ s.size = 0 ∨ s.far = 1 ∧ 0 ≤ s.size ∧ s.size ≤ 255) ∧ s.body = [] ∧ s.skip = 0
  | .bod => s.far = 2 ∧ 1 ≤ s.size ∧ s.size ≤ 4200 ∧ (s.body.length : Int) < s.size ∧ s.skip = 0
  | .skp => s.far = 0 ∧ s.size = 0 ∧ s.body = [] ∧ 1 ≤ s.skip ∧ s.skip ≤ 65535
theorem St.step_ok {s : St} (h : s.ok) {c : Int} (h0 : 0 ≤ c) (h1 : c ≤ 255) : (s.step c).ok := by
  obtain ⟨m, far, size, skip, body, out⟩ := s
  cases m
  · simp only [St.ok] at h
    obtain ⟨h, rfl, rfl⟩ := h
    simp only [St.step, St.num]
    rcases h with ⟨rfl, rfl⟩ | ⟨rfl, h2, h3⟩
    · simp [St.ok]; omega
    · simp only [told]
      rw [if_neg (by omega)]
      by_cases e : size * 256 + c = 0
      · rw [if_pos e]; simp [St.ok]
      · rw [if_neg e]
        by_cases e2 : size * 256 + c > 4200
        · rw [if_pos e2]; simp [St.ok]; omega
        · rw [if_neg e2]; simp [St.ok]; omega
  · simp only [St.ok] at h
    obtain ⟨rfl, rfl, rfl, h2, h3⟩ := h
    simp only [St.step, St.skp]
    by_cases e : skip - 1 = 0
    · rw [if_pos e]; simp [St.ok]; omega
    · rw [if_neg e]; simp [St.ok]; omega
  · simp only [St.ok] at h
    obtain ⟨rfl, h2, h3, h4, rfl⟩ := h
    simp only [St.step, St.bod]
    by_cases e : (body.length : Int) + 1 = size
    · rw [if_pos e]; simp [St.ok, told]
    · rw [if_neg e]; simp [St.ok]; omega
theorem St.step_out (s : St) (c : Int) : (s.step c).out.length ≤ s.out.length + 1 := by
  obtain ⟨m, far, size, skip, body, out⟩ := s
  cases m
  · simp only [St.step, St.num, told]; repeat' split
    all_goals simp
  · simp only [St.step, St.skp]; split <;> simp
  · simp only [St.step, St.bod, told]; split <;> simp
def St.run (s : St) (l : List Int) : St := l.foldl St.step s
theorem St.run_snoc (s : St) (l : List Int) (c : Int) : s.run (l ++ [c]) = (s.run l).step c := by simp [St.run]
theorem St.run_ok {s : St} (h : s.ok) : ∀ {l : List Int}, (∀ c ∈ l, 0 ≤ c ∧ c ≤ 255) → (s.run l).ok := by
  intro l
  induction l generalizing s with
  | nil => intro _; exact h
  | cons c l ih => intro hl; exact ih (St.step_ok h (hl c (by simp)).1 (hl c (by simp)).2) (fun d hd => hl d (by simp [hd]))
theorem St.run_out (s : St) (l : List Int) : (s.run l).out.length ≤ s.out.length + l.length := by
  induction l generalizing s with
  | nil => simp [St.run]
  | cons c l ih => have := ih (s.step c); have h2 := s.step_out c; simp only [List.length_cons]; unfold St.run at this ⊢; simp only [List.foldl_cons]; omega
def fnOf : Md → Nat
  | .num => 16
  | .skp => 19
  | .bod => 20
theorem step_any (w : World) (F : Nat → Prop) (p : Nat) (s : St) (bv ov : Value) (c : Int) (h : Rdr w F p s bv ov) (hi : s.ok) (hc : 0 ≤ c) (hc' : c ≤ 255) (hlen : s.out.length ≤ 1000000) :
    Calls Try.prog (fnOf s.m) #[.pointer (some ⟨p, 0, none⟩), .int .u8 c] w fun e w' => e = .returned (.tuple #[]) ∧ Fed w F p (s.step c) w' := by
  cases hm : s.m
  · have hi' := hi
    simp only [St.ok, hm] at hi'
    have e : s.step c = s.num c := by simp [St.step, hm]
    rw [e]
    obtain ⟨hi', hb, _⟩ := hi'
    rcases hi' with ⟨h1, h2⟩ | ⟨h1, h2, h3⟩
    · exact number0_any w F p s bv ov c h hm h2 hc hc' h1
    · exact number_any w F p s bv ov c h hm h2 h3 hc hc' h1 hlen
  · have hi' := hi
    simp only [St.ok, hm] at hi'
    have e : s.step c = s.skp := by simp [St.step, hm]
    rw [e]
    exact skipped_any w F p s bv ov c h hm hi'.2.2.2.1 hi'.2.2.2.2
  · have hi' := hi
    simp only [St.ok, hm] at hi'
    have e : s.step c = s.bod c := by simp [St.step, hm]
    rw [e]
    exact bodied_any w F p s bv ov c h hm (by omega) hlen
theorem F_of_R {α : Type} {d : Kd α} {e : Nat} {w : World} {base : Nat} {ok : Nat → Prop} {A : Option Addr} {n c : Nat} {xs : List α} (h : d.R e w base ok (.slice A n c) xs) : Kd.F d w ok A n xs := fun W' hW => by
  have h2 := Kd.R_reads' (Kd.R_step h hW)
  rw [h2.1]
  exact h2.2.2
theorem clip_any (w : World) (A : Option Addr) (n c : Nat) (h : n ≤ c) (hA : A = none → c = 0) : Calls Try.prog 17 #[.slice A n c] w fun e w' => e = .returned (.slice A n n) ∧ w = w' := by
  cases A with
  | some a => exact clip_some w a n c h
  | none => have := hA rfl; subst this; have : n = 0 := by omega
            subst this; exact clip_nil w
/-- What Feed leaves: the reader, and apart from it what it told. -/
structure FeedPost (w : World) (F : Nat → Prop) (p : Nat) (s' : St) (A : Option Addr) (bv : Value) (w' : World) : Prop where
  r : ∃ ov, Rdr w' (fun k => k = p ∨ some k = bv.ownBlock) p { s' with out := [] } bv ov
  f : Kd.F k35 w' (fun k => (F k ∨ w.heap.size ≤ k) ∧ k ≠ p ∧ some k ≠ bv.ownBlock) A s'.out.length s'.out
  sub : ∀ k, k = p ∨ some k = bv.ownBlock → F k ∨ w.heap.size ≤ k
  ch : Ch F w w'
theorem feed_end {w wr : World} {F : Nat → Prop} {p : Nat} {s : St} {bv : Value} {A : Option Addr} {n c : Nat} (h : Rdr wr (fun i => F i ∨ w.heap.size ≤ i) p s bv (.slice A n c)) (hch : Ch F w wr) (hF : F p) :
    FeedPost w F p s A bv (wr.setCell ⟨p, 5, none⟩ (.slice none 0 0)) := by
  have hc2 : Ch (fun k => k = p) wr (wr.setCell ⟨p, 5, none⟩ (.slice none 0 0)) := (Ch.refl (fun k => k = p) wr).setCell (p := ⟨p, 5, none⟩) (.inl rfl) _
  have hb := hc2.R (Kd.R_types h.body h.cells (by decide)) (fun k hk => hk.2)
  refine ⟨⟨.slice none 0 0, .inl rfl, blk_upd 5 _ h.cells rfl, Kd.R_of_own (Kd.own_of_R hb) (fun k hk => .inr hk.symm), Kd.R_nil _ _ _ _ _⟩, ?_, ?_, hch.trans (hc2.mono (fun k hk _ => .inl (by rw [hk]; exact hF)))⟩
  · have h2 := hc2.R (Kd.R_types h.out h.cells (by decide)) (fun k hk => hk.2)
    obtain ⟨A', c', e⟩ := Kd.R_slice h2
    injection e with e1 e2 e3
    have h3 := F_of_R h2
    rw [e2] at h3
    exact Kd.F_mono h3 (fun k hk => ⟨hk.1.1, hk.2, hk.1.2⟩)
  · rintro k (rfl | hk)
    · exact .inl hF
    · exact h.body.1 k hk.symm
/-- What a round of Feed keeps. -/
structure FeedRel (w : World) (F : Nat → Prop) (p : Nat) (s : St) (xs : List Int) (k : Nat) (wr : World) : Prop where
  hk : k ≤ xs.length
  r : ∃ bv ov, Rdr wr (fun i => F i ∨ w.heap.size ≤ i) p (s.run (xs.take k)) bv ov
  ch : Ch F w wr
set_option maxHeartbeats 1000000 in
theorem feed_any (w : World) (F okb : Nat → Prop) (p : Nat) (s : St) (bv ov : Value) (A : Option Addr) (cp : Nat) (xs : List Int) (h : Rdr w F p s bv ov) (hi : s.ok) (hx : Kd.F (Kd.int .u8) w okb A xs.length xs) (hd : ∀ k, okb k → ¬ F k) (hl : xs.length ≤ 100000) (ho : s.out = []) (hxs : ∀ c ∈ xs, 0 ≤ c ∧ c ≤ 255) :
    Calls Try.prog 10 #[.pointer (some ⟨p, 0, none⟩), .slice A xs.length cp] w fun e w' => ∃ A' bv', e = .returned (.slice A' (s.run xs).out.length (s.run xs).out.length) ∧ FeedPost w F p (s.run xs) A' bv' w' := by
  have qf : ∀ (m : Md) (w : World), (binOp .eql 44 (tkOf m p) .nilFunc).run Try.prog w = .ok (.bool false) w := by intro m w; cases m <;> kernel_rfl
  have qg : ∀ (m : Md) (x y : Operand) (w : World), (eqGuard .eql 44 x y (tkOf m p) .nilFunc).run Try.prog w = .ok () w := by intro m x y w; cases m <;> rfl
  obtain ⟨k0, k1, k2, k3, k4, k5, k6⟩ := blk6 h.cells
  have H := Aside0.mk h
  have HX := Aside0.mk hx
  have HD := Aside0.mk hd
  have HO := Aside0.mk ho
  have HXS := Aside0.mk hxs
  clear h hx hd ho hxs
  go_enter Try.func10, Try.ntmps10
  go_wp2

  go_loopw [19] (fun i wr => ∃ k : Nat, i = .int .i64 k ∧ FeedRel w F p s xs k wr) (fun i _ => xs.length - (intOf i).toNat)
  case atStart => exact ⟨0, rfl, ⟨Nat.zero_le _, ⟨bv, ov, by simpa [St.run] using ⟨.inl H.out.hp, H.out.cells, Kd.R_mono H.out.body (fun k hk => .inl hk), Kd.R_mono H.out.out (fun k hk => ⟨.inl hk.1, hk.2⟩)⟩⟩, Ch.refl _ _⟩⟩
  case round =>
    obtain ⟨k, rfl, HR⟩ := hrel
    obtain ⟨hk, ⟨bv', ov', hr⟩, hch⟩ := HR
    by_cases hlt : k < xs.length
    · have hF := (hch.F HX.out HD.out).now
      obtain ⟨ad, cs, rfl, _⟩ := Kd.C_get hF (0 : Int) k (by omega) (by omega)
      have hcell : wr.cell? (ad.add k) = some (.int .u8 (rd xs k)) := by have := Kd.foot_int hF k (by omega) (by omega); simpa using this
      have hmem : rd xs k ∈ xs := by
        have : rd xs k = xs[k] := by simp [rd, List.getD_eq_getElem?_getD, hlt]
        rw [this]; exact List.getElem_mem hlt
      obtain ⟨c0, c1⟩ := HXS.out _ hmem
      have hrk : (s.run (xs.take k)).step (rd xs k) = s.run (xs.take (k + 1)) := by
        rw [← St.run_snoc]; congr 1
        rw [List.take_succ_eq_append_getElem hlt]; simp [rd, List.getD_eq_getElem?_getD, hlt]
      have hstep := step_any wr _ p _ bv' ov' (rd xs k) hr (St.run_ok hi (fun c hc => HXS.out c (List.mem_of_mem_take hc))) c0 c1 (by have := St.run_out s (xs.take k); rw [HO.out] at this; have h2 := List.length_take_le k xs; simp only [List.length_nil] at this; omega)
      rw [hrk] at hstep
      have hk0 := (blk6 hr.cells).1
      have HS := Aside0.mk hstep
      have HCH := Aside0.mk hch
      clear hstep hrk hmem hr hF hch
      cases hm : (s.run (xs.take k)).m
      all_goals
        rw [hm] at hk0 HS
        simp only [tkOf, tkN, tkS, tkB] at hk0
        simp only [fnOf] at HS
        clear hm
        go_wp2_with (first | (go_at_call 16; refine HS.out.mono ?_; rintro e w' ⟨rfl, hq⟩) | (go_at_call 19; refine HS.out.mono ?_; rintro e w' ⟨rfl, hq⟩) | (go_at_call 20; refine HS.out.mono ?_; rintro e w' ⟨rfl, hq⟩))
        go_roundw
        case rel => exact ⟨k + 1, by go_num, by omega, by obtain ⟨b1, o1, hr1⟩ := hq.r; exact ⟨b1, o1, hr1.hp.elim id (fun h => .inr (Nat.le_trans HCH.out.size h)), hr1.cells, Kd.R_mono hr1.body (fun i hi => hi.elim id (fun h => .inr (Nat.le_trans HCH.out.size h))), Kd.R_mono hr1.out (fun i hi => ⟨hi.1.elim id (fun h => .inr (Nat.le_trans HCH.out.size h)), hi.2⟩)⟩, HCH.out.trans hq.ch⟩
        case measure => simp [intOf]; omega
    · have hk2 : k = xs.length := by omega
      subst hk2
      rw [List.take_length] at hr
      obtain ⟨A', c', rfl⟩ := Kd.R_slice hr.out
      have hcap : (s.run xs).out.length ≤ c' ∧ (A' = none → c' = 0) := by
        refine ⟨(Kd.R_reads' hr.out).2.1, fun hA => ?_⟩
        obtain ⟨_, inner, ho, _⟩ := hr.out
        rcases ho.2 with ⟨e, _⟩ | ⟨g, cap, cur, e, _⟩
        · injection e
        · subst hA; injection e with e1; cases e1
      have HP := Aside0.mk (feed_end hr hch H.out.hp)
      obtain ⟨j0, j1, j2, j3, j4, j5, j6⟩ := blk6 hr.cells
      have HC := Aside0.mk hcap
      clear hr hch hcap
      go_wp2_with (go_at_call 17; refine (clip_any _ _ _ _ HC.out.1 HC.out.2).mono ?_; rintro e w' ⟨rfl, rfl⟩)
      go_ret
      exact ⟨A', bv', rfl, HP.out⟩
end Go.Proofs.Ytpmnjeiemocbbaa.Fr
