import Derived.Test.YtpmnjeiemocbbaaFrB
namespace Go.Proofs.Ytpmnjeiemocbbaa.Fr
set_option linter.unusedVariables false
set_option linter.unusedSimpArgs false
open Go.RowKit Go.Proofs.YtpmnjeiemocbbaaW.PrintWords Go.Proofs.Ytpmnjeiemocbbaa.FrK Go.Proofs.Ytpmnjeiemocbbaa.Bs

inductive Md | num | skp | bod
def tkOf : Md → Nat → Value
  | .num, p => tkN p
  | .skp, p => tkS p
  | .bod, p => tkB p
structure St where
  m : Md
  far : Int
  size : Int
  skip : Int
  body : List Int
  out : List S35
def told (s : St) (x : S35) : St := { m := .num, far := 0, size := 0, skip := s.skip, body := [], out := s.out ++ [x] }
def St.num (s : St) (c : Int) : St :=
  if s.far + 1 < 2 then { s with size := s.size * 256 + c, far := s.far + 1 }
  else if s.size * 256 + c = 0 then told s ⟨[], 60⟩
  else if s.size * 256 + c > 4200 then { told s ⟨[], 60⟩ with skip := s.size * 256 + c, m := .skp }
  else { s with size := s.size * 256 + c, far := s.far + 1, m := .bod }
def St.bod (s : St) (c : Int) : St := if ((s.body.length : Int) + 1) = s.size then told s ⟨s.body ++ [c], 0⟩ else { s with body := s.body ++ [c] }
def St.skp (s : St) : St := if s.skip - 1 = 0 then { s with skip := s.skip - 1, m := .num } else { s with skip := s.skip - 1 }
def St.step (s : St) (c : Int) : St := match s.m with
  | .num => s.num c
  | .bod => s.bod c
  | .skp => s.skp
structure Rdr (w : World) (F : Nat → Prop) (p : Nat) (s : St) (bv ov : Value) : Prop where
  hp : F p
  cells : w.heap[p]? = some (.cells #[tkOf s.m p, .int .i64 s.far, .int .i64 s.size, .int .i64 s.skip, bv, ov] 46 (0, 0))
  body : (Kd.int .u8).R 5 w 0 F bv s.body
  out : k35.R 35 w 0 (fun k => F k ∧ some k ≠ bv.ownBlock) ov s.out
structure Fed (w : World) (F : Nat → Prop) (p : Nat) (s : St) (w' : World) : Prop where
  r : ∃ bv ov, Rdr w' (fun k => F k ∨ w.heap.size ≤ k) p s bv ov
  ch : Ch F w w'

theorem or8 (x c : Int) (h0 : 0 ≤ x) (h1 : x ≤ 255) (h2 : 0 ≤ c) (h3 : c ≤ 255) : bits .or .i64 (x * 256) c = x * 256 + c :=
  bits_join .i64 62 (by decide) (fun n h h' => IntWalk.i64_in n ⟨by omega, by omega⟩) 8 (x * 256) c (by omega) (by omega) (by omega) h2 (by omega) (by omega)
theorem rdr_same {w w' : World} {F : Nat → Prop} {p : Nat} {s s' : St} {bv ov : Value} (h : Rdr w F p s bv ov) (hb : s'.body = s.body) (ho : s'.out = s.out) (hch : Ch (fun k => k = p) w w')
    (hc : w'.heap[p]? = some (.cells #[tkOf s'.m p, .int .i64 s'.far, .int .i64 s'.size, .int .i64 s'.skip, bv, ov] 46 (0, 0))) : Fed w F p s' w' :=
  ⟨⟨bv, ov, .inl h.hp, hc, by rw [hb]; exact Kd.R_mono (hch.R (Kd.R_types h.body h.cells (by decide)) (fun k hk => hk.2)) (fun k hk => .inl hk.1),
    by rw [ho]; exact Kd.R_mono (hch.R (Kd.R_types h.out h.cells (by decide)) (fun k hk => hk.2)) (fun k hk => ⟨.inl hk.1.1, hk.1.2⟩)⟩, hch.mono (fun k hk _ => by rw [hk]; exact h.hp)⟩

set_option maxHeartbeats 1000000 in
theorem skipped_any (w : World) (F : Nat → Prop) (p : Nat) (s : St) (bv ov : Value) (c : Int) (h : Rdr w F p s bv ov) (hm : s.m = .skp) (h1 : 1 ≤ s.skip) (h2 : s.skip ≤ 65535) :
    Calls Try.prog 19 #[.pointer (some ⟨p, 0, none⟩), .int .u8 c] w fun e w' => e = .returned (.tuple #[]) ∧ Fed w F p s.skp w' := by
  obtain ⟨k0, k1, k2, k3, k4, k5, k6⟩ := blk6 h.cells
  have H := Aside0.mk h
  have HM := Aside0.mk hm
  clear h hm
  by_cases hs : s.skip - 1 = 0
  · have hb : (s.skip - 1 == 0) = true := by simpa using hs
    have HS := Aside0.mk hs
    clear hs
    go_enter Try.func19, Try.ntmps19
    go_wp2
    go_end0
    refine ⟨rfl, rdr_same (s' := s.skp) H.out ?_ ?_ (((Ch.refl (fun k => k = p) w).setCell (p := ⟨p, 3, none⟩) (.inl rfl) _).setCell (p := ⟨p, 0, none⟩) (.inl rfl) _) ?_⟩
    · simp [St.skp, HS.out]
    · simp [St.skp, HS.out]
    · exact blk_upd 0 _ (blk_upd 3 _ H.out.cells rfl) (by simp [St.skp, HS.out, tkOf, tkN])
  · have hb : (s.skip - 1 == 0) = false := by simpa using hs
    have HS := Aside0.mk hs
    clear hs
    go_enter Try.func19, Try.ntmps19
    go_wp2
    go_end0
    refine ⟨rfl, rdr_same (s' := s.skp) H.out ?_ ?_ ((Ch.refl (fun k => k = p) w).setCell (p := ⟨p, 3, none⟩) (.inl rfl) _) ?_⟩
    · simp [St.skp, HS.out]
    · simp [St.skp, HS.out]
    · exact blk_upd 3 _ H.out.cells (by simp [St.skp, HS.out, tkOf, HM.out])

theorem told_fed {w w1 w' : World} {F : Nat → Prop} {p : Nat} {s : St} {bv ov ov' : Value} {x : S35} {sk : Int} (h : Rdr w F p s bv ov) (hch1 : Ch (fun k => k = p) w w1) (m : Md)
    (hc : w'.heap[p]? = some (.cells #[tkOf m p, .int .i64 0, .int .i64 0, .int .i64 sk, .slice none 0 0, ov'] 46 (0, 0)))
    (hr : k35.R 35 w' 0 (fun k => F k ∨ w.heap.size ≤ k) ov' (s.out ++ [x])) (hch : Ch (fun k => k = p ∨ some k = ov.ownBlock) w1 w') : Fed w F p { told s x with skip := sk, m := m } w' :=
  ⟨⟨.slice none 0 0, ov', .inl h.hp, hc, Kd.R_nil _ _ _ _ _, Kd.R_mono hr (fun k hk => ⟨hk, by simp [Value.ownBlock]⟩)⟩,
    (hch1.mono (fun k hk _ => by rw [hk]; exact h.hp)).trans (hch.mono (fun k hk _ => .inl (by rcases hk with rfl | hk; exact h.hp; exact (h.out.1 k hk.symm).1)))⟩

set_option maxHeartbeats 1000000 in
theorem number0_any (w : World) (F : Nat → Prop) (p : Nat) (s : St) (bv ov : Value) (c : Int) (h : Rdr w F p s bv ov) (hm : s.m = .num) (h1 : s.size = 0) (hc : 0 ≤ c) (hc' : c ≤ 255) (hf : s.far = 0) :
    Calls Try.prog 16 #[.pointer (some ⟨p, 0, none⟩), .int .u8 c] w fun e w' => e = .returned (.tuple #[]) ∧ Fed w F p (s.num c) w' := by
  obtain ⟨k0, k1, k2, k3, k4, k5, k6⟩ := blk6 h.cells
  rw [hf] at k1
  rw [h1] at k2
  have ho := or8 0 c (by omega) (by omega) hc hc'
  simp only [Int.zero_mul, Int.zero_add] at ho
  have H := Aside0.mk h
  have HM := Aside0.mk hm
  have HS := Aside0.mk h1
  have HF := Aside0.mk hf
  clear h hm hf h1
  go_enter Try.func16, Try.ntmps16
  go_wp2
  refine bodyPost_ret (results_none rfl _ _ _) rfl ?_
  refine ⟨rfl, rdr_same (s' := s.num c) H.out ?_ ?_ (((Ch.refl (fun k => k = p) w).setCell (p := ⟨p, 2, none⟩) (.inl rfl) _).setCell (p := ⟨p, 1, none⟩) (.inl rfl) _) ?_⟩
  · simp [St.num, HF.out]
  · simp [St.num, HF.out]
  · exact blk_upd 1 _ (blk_upd 2 _ H.out.cells rfl) (by simp [St.num, HF.out, HS.out, HM.out])

set_option maxHeartbeats 1000000 in
theorem number_any (w : World) (F : Nat → Prop) (p : Nat) (s : St) (bv ov : Value) (c : Int) (h : Rdr w F p s bv ov) (hm : s.m = .num) (h1 : 0 ≤ s.size) (h2 : s.size ≤ 255) (hc : 0 ≤ c) (hc' : c ≤ 255) (hf : s.far = 1) (hlen : s.out.length ≤ 1000000) :
    Calls Try.prog 16 #[.pointer (some ⟨p, 0, none⟩), .int .u8 c] w fun e w' => e = .returned (.tuple #[]) ∧ Fed w F p (s.num c) w' := by
  obtain ⟨k0, k1, k2, k3, k4, k5, k6⟩ := blk6 h.cells
  obtain ⟨n, hn⟩ : ∃ n, n = s.size * 256 + c := ⟨_, rfl⟩
  have hor : bits .or .i64 (s.size * 256) c = n := by rw [hn]; exact or8 s.size c h1 h2 hc hc'
  have hn0 : 0 ≤ n := by omega
  have hn1 : n ≤ 65535 := by omega
  have HN := Aside0.mk hn
  have H := Aside0.mk h
  have HM := Aside0.mk hm
  have HF := Aside0.mk hf
  have HL := Aside0.mk hlen
  rw [hf] at k1
  have HW2 : Ch (fun k => k = p) w ((w.setCell ⟨p, 2, none⟩ (.int .i64 n)).setCell ⟨p, 1, none⟩ (.int .i64 2)) := ((Ch.refl (fun k => k = p) w).setCell (p := ⟨p, 2, none⟩) (.inl rfl) _).setCell (p := ⟨p, 1, none⟩) (.inl rfl) _
  have hcells := blk_upd (cs' := #[tkOf s.m p, .int .i64 2, .int .i64 n, .int .i64 s.skip, bv, ov]) 1 (.int .i64 2) (blk_upd 2 (.int .i64 n) h.cells rfl) rfl
  have hout := HW2.R (Kd.R_types h.out h.cells (by decide)) (fun k hk => hk.2)
  have HK := Aside0.mk hcells
  have HO := Aside0.mk hout
  have HW := Aside0.mk HW2
  clear h hm hn hf hcells hout HW2 hlen
  by_cases hz : n = 0
  · have hb : (n == 0) = true := by simpa using hz
    have HZ := Aside0.mk hz
    clear hz
    go_enter Try.func16, Try.ntmps16
    go_wp2_with (go_at_call 18; refine (tell_any _ p _ (fun _ => False) _ bv ov _ _ _ 60 s.out ⟨[], 60⟩ (.slice none 0 0) HK.out HO.out (k35_mkM _ _ _ _ (Kd.R_nil _ _ _ _ _)) (fun _ h => h.elim) HL.out).mono ?_; rintro e w' ⟨ov', rfl, g1, g2, g3⟩; have G1 := Aside0.mk g1; clear g1)
    go_end0
    have e : s.num c = { told s ⟨[], 60⟩ with skip := s.skip, m := .num } := by simp [St.num, HF.out, ← HN.out, HZ.out, told]
    rw [e]
    exact ⟨rfl, told_fed H.out HW.out .num G1.out (Kd.R_mono g2 (fun k hk => by rcases hk with hk | hk; exact .inl hk.1.1; exact .inr (Nat.le_trans HW.out.size hk))) g3⟩
  · have hb : (n == 0) = false := by simpa using hz
    have HZ := Aside0.mk hz
    clear hz
    by_cases hl : n > 4200
    · have hb2 : decide (4200 < n) = true := by simpa using hl
      have HL2 := Aside0.mk hl
      clear hl
      go_enter Try.func16, Try.ntmps16
      go_wp2_with (go_at_call 18; refine (tell_any _ p _ (fun _ => False) _ bv ov _ _ _ 60 s.out ⟨[], 60⟩ (.slice none 0 0) HK.out HO.out (k35_mkM _ _ _ _ (Kd.R_nil _ _ _ _ _)) (fun _ h => h.elim) HL.out).mono ?_; rintro e w' ⟨ov', rfl, g1, g2, g3⟩; obtain ⟨j0, j1, j2, j3, j4, j5, j6⟩ := blk6 g1; have G1 := Aside0.mk g1; clear g1)
      go_end0
      have e : s.num c = { told s ⟨[], 60⟩ with skip := n, m := .skp } := by
        have := HL2.out
        have hz := HZ.out
        simp only [St.num, HF.out, ← HN.out, told]
        rw [if_neg (by omega), if_neg hz, if_pos this]
      rw [e]
      have ch2 := fun u3 u0 => ((Ch.refl (fun k => k = p) w').setCell (p := ⟨p, 3, none⟩) (.inl rfl) u3).setCell (p := ⟨p, 0, none⟩) (.inl rfl) u0
      refine ⟨rfl, told_fed H.out HW.out .skp (blk_upd 0 _ (blk_upd 3 _ G1.out rfl) rfl) ?_ (g3.trans ((ch2 _ _).mono (fun k hk _ => .inl (.inl hk))))⟩
      exact Kd.R_mono ((ch2 _ _).R (Kd.R_types g2 G1.out (by decide)) (fun k hk => hk.2)) (fun k hk => by rcases hk.1 with hk | hk; exact .inl hk.1.1; exact .inr (Nat.le_trans HW.out.size hk))
    · have hb2 : decide (4200 < n) = false := by simpa using hl
      have HL2 := Aside0.mk hl
      clear hl
      go_enter Try.func16, Try.ntmps16
      go_wp2
      go_end0
      refine ⟨rfl, rdr_same (s' := s.num c) H.out ?_ ?_ (((HW.out.setCell (p := ⟨p, 0, none⟩) (.inl rfl) _))) ?_⟩
      · have := HL2.out; have hz := HZ.out; simp only [St.num, HF.out, ← HN.out, told]; rw [if_neg (by omega), if_neg hz, if_neg (by omega)]
      · have := HL2.out; have hz := HZ.out; simp only [St.num, HF.out, ← HN.out, told]; rw [if_neg (by omega), if_neg hz, if_neg (by omega)]
      · have e : s.num c = { s with size := n, far := 2, m := .bod } := by have := HL2.out; have hz := HZ.out; simp only [St.num, HF.out, ← HN.out, told]; rw [if_neg (by omega), if_neg hz, if_neg (by omega)]; rfl
        rw [e]
        exact blk_upd 0 _ HK.out rfl
end Go.Proofs.Ytpmnjeiemocbbaa.Fr
