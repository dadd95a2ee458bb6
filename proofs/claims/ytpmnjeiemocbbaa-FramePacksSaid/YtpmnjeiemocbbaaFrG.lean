import Derived.Test.YtpmnjeiemocbbaaFrE
import Derived.Test.YtpmnjeiemocbbaaWTab
namespace Go.Proofs.Ytpmnjeiemocbbaa.Fr
set_option linter.unusedVariables false
set_option linter.unusedSimpArgs false
open Go.RowKit Go.Proofs.YtpmnjeiemocbbaaW.PrintWords Go.Proofs.Ytpmnjeiemocbbaa.FrK Go.Proofs.Ytpmnjeiemocbbaa.Bs

def allF : Nat → List Int → List S35 × Int × Int
  | 0, _ => ([], 0, 0)
  | f + 1, a :: b :: rest =>
    if a * 256 + b = 0 then (⟨[], 60⟩ :: (allF f rest).1, (allF f rest).2)
    else if a * 256 + b > 4200 then
      if (rest.length : Int) < a * 256 + b then ([⟨[], 60⟩], 0, a * 256 + b - rest.length)
      else (⟨[], 60⟩ :: (allF f (rest.drop (a * 256 + b).toNat)).1, (allF f (rest.drop (a * 256 + b).toNat)).2)
    else if (rest.length : Int) < a * 256 + b then ([], rest.length + 2, 0)
    else (⟨rest.take (a * 256 + b).toNat, 0⟩ :: (allF f (rest.drop (a * 256 + b).toNat)).1, (allF f (rest.drop (a * 256 + b).toNat)).2)
  | _ + 1, l => ([], (l.length : Int), 0)
def all (l : List Int) : List S35 × Int × Int := allF (l.length + 1) l
theorem allF_more : ∀ (f g : Nat) (l : List Int), l.length < f → l.length < g → allF f l = allF g l := by
  intro f
  induction f with
  | zero => intro g l h _; omega
  | succ f ih =>
    intro g l h h2
    obtain ⟨g, rfl⟩ : ∃ m, g = m + 1 := ⟨g - 1, by omega⟩
    match l, h, h2 with
    | [], _, _ => rfl
    | [a], _, _ => rfl
    | a :: b :: rest, h, h2 =>
      simp only [List.length_cons] at h h2
      have h3 := ih g rest (by omega) (by omega)
      have h4 := ih g (rest.drop (a * 256 + b).toNat) (by simp; omega) (by simp; omega)
      simp only [allF, h3, h4]
theorem all_two (a b : Int) (rest : List Int) : all (a :: b :: rest) =
    if a * 256 + b = 0 then (⟨[], 60⟩ :: (all rest).1, (all rest).2)
    else if a * 256 + b > 4200 then
      if (rest.length : Int) < a * 256 + b then ([⟨[], 60⟩], 0, a * 256 + b - rest.length)
      else (⟨[], 60⟩ :: (all (rest.drop (a * 256 + b).toNat)).1, (all (rest.drop (a * 256 + b).toNat)).2)
    else if (rest.length : Int) < a * 256 + b then ([], rest.length + 2, 0)
    else (⟨rest.take (a * 256 + b).toNat, 0⟩ :: (all (rest.drop (a * 256 + b).toNat)).1, (all (rest.drop (a * 256 + b).toNat)).2) := by
  have h1 : all rest = allF (rest.length + 2) rest := allF_more _ _ _ (by omega) (by omega)
  have h2 : all (rest.drop (a * 256 + b).toNat) = allF (rest.length + 2) (rest.drop (a * 256 + b).toNat) := allF_more _ _ _ (by simp) (by simp; omega)
  rw [h1, h2]
  simp only [all, List.length_cons, allF]
theorem all_short (l : List Int) (h : l.length < 2) : all l = ([], (l.length : Int), 0) := by
  match l, h with
  | [], _ => rfl
  | [a], _ => rfl
/-- What a round of All keeps. -/
structure AllRel (w : World) (okb : Nat → Prop) (xs : List Int) (k : Nat) (v : Value) (wr : World) : Prop where
  hk : k ≤ xs.length
  r : ∃ l : List S35, Kd.N k35 35 wr w.heap.size (fun i => okb i ∨ w.heap.size ≤ i) v l ∧ l.length ≤ k ∧ (all xs).1 = l ++ (all (xs.drop k)).1 ∧ (all xs).2 = (all (xs.drop k)).2
  b : Below w.heap.size w wr
theorem ret3 {v : Value} {a b a' b' : Int} (h : a = a') (h' : b = b') : Ending.returned (.tuple #[v, .int .i64 a, .int .i64 b]) = .returned (.tuple #[v, .int .i64 a', .int .i64 b']) := by rw [h, h']
theorem int_eq {k : IntKind} {a b : Int} (h : a = b) : Value.int k a = Value.int k b := by rw [h]
theorem AllRel.next {w : World} {okb : Nat → Prop} {xs : List Int} {k k' : Nat} {A : Option Addr} {n c : Nat} {v : Value} {w2 w3 : World} {l : List S35} {x : S35} (hb : Below w.heap.size w w2) (hlk : l.length ≤ k) (hk' : k < k' ∧ k' ≤ xs.length)
    (hr2 : Kd.N k35 35 w2 w.heap.size (fun i => okb i ∨ w.heap.size ≤ i) v l) (hr : Kd.N k35 35 w3 w.heap.size (fun i => (okb i ∨ w.heap.size ≤ i) ∨ w2.heap.size ≤ i) (.slice A n c) (l ++ [x])) (hch : Ch (fun i => some i = v.ownBlock) w2 w3)
    (e1 : (all xs).1 = l ++ (all (xs.drop k)).1) (e2 : (all xs).2 = (all (xs.drop k)).2) (h : all (xs.drop k) = (x :: (all (xs.drop k')).1, (all (xs.drop k')).2)) : AllRel w okb xs k' (.slice A n c) w3 :=
  ⟨hk'.2, ⟨l ++ [x], Kd.N_mono hr (fun i hi => hi.elim id (fun h => .inr (Nat.le_trans hb.size h))), by simp; omega, by rw [e1, h]; simp, by rw [e2, h]⟩,
    hb.trans (hch.to_below (fun i hi => Kd.N_base hr2 i hi.symm) hb.size)⟩
set_option maxRecDepth 100000 in
set_option maxHeartbeats 2000000 in
theorem all_any (w : World) (okb : Nat → Prop) (A : Option Addr) (cp : Nat) (xs : List Int) (hx : Kd.F (Kd.int .u8) w okb A xs.length xs) (hob : ∀ k, okb k → k < w.heap.size) (hcp : xs.length ≤ cp) (hxs : ∀ c ∈ xs, 0 ≤ c ∧ c ≤ 255) (hl : xs.length ≤ 1000000) :
    Calls Try.prog 13 #[.slice A xs.length cp] w fun e w' => ∃ v, e = .returned (.tuple #[v, .int .i64 (all xs).2.1, .int .i64 (all xs).2.2]) ∧ Kd.V k35 35 w' 0 (fun k => okb k ∨ w.heap.size ≤ k) v (all xs).1 ∧ Below w.heap.size w w' := by
  have HX := Aside0.mk hx
  have HXS := Aside0.mk hxs
  have HOB := Aside0.mk hob
  clear hx hxs hob
  go_enter Try.func13, Try.ntmps13
  go_wp2
  go_loopw [5, 6] (fun v i wr => ∃ k : Nat, i = .int .i64 k ∧ AllRel w okb xs k v wr) (fun _ i _ => xs.length - (intOf i).toNat)
  case atStart => exact ⟨0, rfl, ⟨Nat.zero_le _, ⟨[], Kd.N_nil _ _ _ _ _, Nat.le_refl _, rfl, rfl⟩, Below.refl _ _⟩⟩
  case round =>
    obtain ⟨k, rfl, ⟨hk, ⟨l, hr, hlk, e1, e2⟩, hb⟩⟩ := hrel
    obtain ⟨A5, c5, rfl⟩ := Kd.N_slice hr
    have HR := Aside0.mk hr
    have HB := Aside0.mk hb
    have E1 := Aside0.mk e1
    have E2 := Aside0.mk e2
    clear hr hb e1 e2
    by_cases h2 : 2 ≤ (xs.length : Int) - (k : Int)
    · have hF := Kd.F_below HX.out HB.out
      obtain ⟨ad, cs, rfl, _⟩ := Kd.C_get (Kd.F_now hF) (0 : Int) k (by omega) (by omega)
      have hc0 : wr.cell? (ad.add k) = some (.int .u8 (rd xs k)) := by have := Kd.foot_int (Kd.F_now hF) k (by omega) (by omega); simpa using this
      have hc1 : wr.cell? ⟨ad.block, ad.off + (k + 1), none⟩ = some (.int .u8 (rd xs (k + 1))) := by have := Kd.foot_int (Kd.F_now hF) (k + 1) (by omega) (by omega); simpa [Addr.add] using this
      have hdrop : xs.drop k = rd xs k :: rd xs (k + 1) :: xs.drop (k + 2) := by
        rw [List.drop_eq_getElem_cons (by omega), List.drop_eq_getElem_cons (by omega)]
        congr 1
        · simp [rd, List.getD_eq_getElem?_getD, show k < xs.length by omega]
        · congr 1
          simp [rd, List.getD_eq_getElem?_getD, show k + 1 < xs.length by omega]
      have hm0 : 0 ≤ rd xs k ∧ rd xs k ≤ 255 := HXS.out _ (List.mem_of_mem_drop (by rw [hdrop]; simp))
      have hm1 : 0 ≤ rd xs (k + 1) ∧ rd xs (k + 1) ≤ 255 := HXS.out _ (List.mem_of_mem_drop (by rw [hdrop]; simp))
      have hall := all_two (rd xs k) (rd xs (k + 1)) (xs.drop (k + 2))
      rw [← hdrop] at hall
      have hdl : ((xs.drop (k + 2)).length : Int) = (xs.length : Int) - k - 2 := by rw [List.length_drop]; omega
      rw [hdl] at hall
      generalize rd xs k = x0 at *
      generalize rd xs (k + 1) = x1 at *
      obtain ⟨n, hn⟩ : ∃ n, n = x0 * 256 + x1 := ⟨_, rfl⟩
      obtain ⟨a0, b0⟩ := hm0
      obtain ⟨a1, b1⟩ := hm1
      have n0 : 0 ≤ n := by omega
      have n1 : n ≤ 65535 := by omega
      rw [← hn] at hall
      have HALL := Aside0.mk hall
      have s0 : IntKind.i64.wrap (x0 * 256) = x0 * 256 := IntWalk.i64_in _ ⟨by omega, by omega⟩
      have s1 : IntKind.i64.wrap (x0 * 256 + x1) = n := by rw [hn]; exact IntWalk.i64_in _ ⟨by omega, by omega⟩
      have s2 : IntKind.i64.wrap ((k : Int) + 1) = (k : Int) + 1 := IntWalk.i64_in _ ⟨by omega, by omega⟩
      have s3 : ((k : Int) + 1).toNat = k + 1 := by omega
      have s4 : decide (0 ≤ (k : Int) + 1) = true := by simp; omega
      have s5 : decide ((k : Int) + 1 < xs.length) = true := by simp; omega
      have s6 : (k : Int) < xs.length := by omega
      have s7 : (k : Int) + 1 < xs.length := by omega
      have s8 : 0 ≤ (k : Int) + 1 := by omega
      have HN := Aside0.mk hn
      clear hall hdrop hdl hn
      go_wp2
      go_quiet (fail)
      clear s0 s1 s2 s3 s4 s5
      have HR' := Aside0.mk (Kd.N_drewN HR.out nq)
      have HB' := Aside0.mk (pw_below_drewN HB.out nq)
      have HF' := Aside0.mk (Kd.F_drewN hF nq)
      clear HR HB hF hc0 hc1
      generalize wr.drewN nq = w2 at *
      by_cases hz : n = 0
      · have hb0 : (n == 0) = true := by simpa using hz
        have HZ := Aside0.mk hz
        clear hz
        go_wp2_with (first | ((with_reducible refine gate_builtin (b := .append) (xs := #[.tmp 28, .tmp 30]) rfl ?_); at_builtin; go_loud (refine napp_list k35 (W := w2) w.heap.size rfl (.tmp 28) (.tmp 30) 31 35 (.agg #[.slice none 0 0, .int .i64 0]) 32 rfl Try.underlying31 info35 z35ok _ l ⟨[], 60⟩ [.slice none 0 0, .int .i64 60] (fun i => okb i ∨ w.heap.size ≤ i) (fun _ => False) rfl rfl ?aM (fun _ h => h.elim) ?aR HB'.out.size ?aL ?_); (case aM => exact k35_mkF _ _ _ (Nat.le_refl _) (Kd.F_nil _ _ _)); (case aR => exact HR'.out); (case aL => omega); intro A1 c1 w3 HR1 HC1 HAT1; clear HAT1; have HR2 := Aside0.mk HR1; clear HR1))
        go_roundw
        case rel => exact ⟨k + 2, int_eq (by omega), AllRel.next HB'.out hlk (by omega) HR'.out HR2.out HC1 E1.out E2.out (by rw [HALL.out, if_pos HZ.out])⟩
        case measure => simp [intOf]; omega
      · have hb0 : (n == 0) = false := by simpa using hz
        have HZ := Aside0.mk hz
        clear hz
        by_cases hg : n > 4200
        · have hb1 : decide (4200 < n) = true := by simpa using hg
          have HG := Aside0.mk hg
          clear hg
          by_cases hs : (xs.length : Int) - k - 2 < n
          · go_wp2_with (first | ((with_reducible refine gate_builtin (b := .append) (xs := #[.tmp 36, .tmp 38]) rfl ?_); at_builtin; go_loud (refine napp_list k35 (W := w2) w.heap.size rfl (.tmp 36) (.tmp 38) 31 35 (.agg #[.slice none 0 0, .int .i64 0]) 32 rfl Try.underlying31 info35 z35ok _ l ⟨[], 60⟩ [.slice none 0 0, .int .i64 60] (fun i => okb i ∨ w.heap.size ≤ i) (fun _ => False) rfl rfl ?aM (fun _ h => h.elim) ?aR HB'.out.size ?aL ?_); (case aM => exact k35_mkF _ _ _ (Nat.le_refl _) (Kd.F_nil _ _ _)); (case aR => exact HR'.out); (case aL => omega); intro A1 c1 w3 HR1 HC1 HAT1; clear HAT1; have HR2 := Aside0.mk HR1; clear HR1))
            have h3 := HALL.out
            rw [if_neg HZ.out, if_pos HG.out, if_pos hs] at h3
            go_ret3
            refine ⟨_, ret3 (by rw [E2.out, h3]) (by rw [E2.out, h3]), ?_, HB'.out.trans (HC1.to_below (fun i hi => Kd.N_base HR'.out i hi.symm) HB'.out.size)⟩
            rw [E1.out, h3]
            exact Kd.V_mono (Kd.N_V HR2.out) (fun i hi => hi.elim id (fun h => .inr (Nat.le_trans HB'.out.size h)))
          · go_wp2_with (first | ((with_reducible refine gate_builtin (b := .append) (xs := #[.tmp 36, .tmp 38]) rfl ?_); at_builtin; go_loud (refine napp_list k35 (W := w2) w.heap.size rfl (.tmp 36) (.tmp 38) 31 35 (.agg #[.slice none 0 0, .int .i64 0]) 32 rfl Try.underlying31 info35 z35ok _ l ⟨[], 60⟩ [.slice none 0 0, .int .i64 60] (fun i => okb i ∨ w.heap.size ≤ i) (fun _ => False) rfl rfl ?aM (fun _ h => h.elim) ?aR HB'.out.size ?aL ?_); (case aM => exact k35_mkF _ _ _ (Nat.le_refl _) (Kd.F_nil _ _ _)); (case aR => exact HR'.out); (case aL => omega); intro A1 c1 w3 HR1 HC1 HAT1; clear HAT1; have HR2 := Aside0.mk HR1; clear HR1))
            go_roundw
            case rel => exact ⟨k + 2 + n.toNat, int_eq (by omega), AllRel.next HB'.out hlk (by omega) HR'.out HR2.out HC1 E1.out E2.out (by rw [HALL.out, if_neg HZ.out, if_pos HG.out, if_neg hs, List.drop_drop])⟩
            case measure => simp [intOf]; omega
        · have hb1 : decide (4200 < n) = false := by simpa using hg
          have HG := Aside0.mk hg
          clear hg
          by_cases hs : (xs.length : Int) - k - 2 < n
          · go_wp2
            have h3 := HALL.out
            rw [if_neg HZ.out, if_neg (by have := HG.out; omega), if_pos hs] at h3
            go_ret3
            refine ⟨_, ret3 (by rw [E2.out, h3]; show _ = (((xs.length : Int) - k - 2) + 2); omega) (by rw [E2.out, h3]), ?_, HB'.out⟩
            rw [E1.out, h3]
            simpa using Kd.N_V HR'.out
          · obtain ⟨i0, hi0, _, hsz, _⟩ := info_parts info5
            have hcut := cut_mid (P := Try.prog) 23 5 .i64 .i64 Try.underlying23 hi0 1 hsz (some ad) xs.length cp ((k : Int) + 2) ((k : Int) + 2 + n) (by omega) (by omega) (by omega) hcp
            have hmid := Kd.F_mid (lo := ((k : Int) + 2).toNat) (hi := ((k : Int) + 2 + n).toNat) (c := cp) HF'.out (by omega) (by omega) hcp
            rw [show (xs.take ((k : Int) + 2 + n).toNat).drop ((k : Int) + 2).toNat = (xs.drop (k + 2)).take n.toNat by rw [List.drop_take, show ((k : Int) + 2 + n).toNat - ((k : Int) + 2).toNat = n.toNat by omega, show ((k : Int) + 2).toNat = k + 2 by omega]] at hmid
            have hyl : ((xs.drop (k + 2)).take n.toNat).length = n.toNat := by rw [List.length_take, List.length_drop]; omega
            rw [show ((k : Int) + 2 + n).toNat - ((k : Int) + 2).toNat = ((xs.drop (k + 2)).take n.toNat).length by rw [hyl]; omega] at hcut
            obtain ⟨A22, hA22⟩ : ∃ A1, A1 = (if cp = ((k : Int) + 2).toNat then (some ad) else ((some ad) : Option Addr).map (·.add (((k : Int) + 2).toNat * 1))) := ⟨_, rfl⟩
            obtain ⟨c22, hc22⟩ : ∃ c1, c1 = cp - ((k : Int) + 2).toNat := ⟨_, rfl⟩
            have hyc : ((xs.drop (k + 2)).take n.toNat).length ≤ c22 := by rw [hyl, hc22]; omega
            rw [← hA22, ← hc22] at hcut
            have hmid' : Kd.F (Kd.int .u8) w2 okb A22 ((xs.drop (k + 2)).take n.toNat).length ((xs.drop (k + 2)).take n.toNat) := by rw [hA22]; exact hmid
            have HY := Aside0.mk hyc
            have HM := Aside0.mk hmid'
            have HD := Aside0.mk (show all (xs.drop k) = (⟨(xs.drop (k + 2)).take n.toNat, 0⟩ :: (all (xs.drop (k + 2 + n.toNat))).1, (all (xs.drop (k + 2 + n.toNat))).2) by rw [HALL.out, if_neg HZ.out, if_neg (by have := HG.out; omega), if_neg hs, List.drop_drop])
            have hnk : ∀ i, okb i → (okb i ∨ w.heap.size ≤ i) ∧ some i ≠ (Value.slice A5 l.length c5).ownBlock := fun i hi => ⟨.inl hi, fun e => by have h1 := Kd.N_base HR'.out i e.symm; have h2 := HOB.out i hi; omega⟩
            have HNK := Aside0.mk hnk
            clear hmid hmid' hyl hyc hA22 hc22 hi0 hsz hnk
            generalize (xs.drop (k + 2)).take n.toNat = y at *
            go_wp2_with (first | ((with_reducible refine gate_builtin (b := .append) (xs := #[.tmp 71, .tmp 81]) rfl ?_); at_builtin; go_loud (refine napp_list k35 (W := w2) w.heap.size rfl (.tmp 71) (.tmp 81) 31 35 (.agg #[.slice none 0 0, .int .i64 0]) 32 rfl Try.underlying31 info35 z35ok _ l ⟨y, 0⟩ [.slice A22 y.length c22, .int .i64 0] (fun i => okb i ∨ w.heap.size ≤ i) okb rfl rfl ?aM HNK.out ?aR HB'.out.size ?aL ?_); (case aM => exact k35_mkF _ _ _ HY.out HM.out); (case aR => exact HR'.out); (case aL => omega); intro A1 c1 w3 HR1 HC1 HAT1; clear HAT1; have HR2 := Aside0.mk HR1; clear HR1))
            go_roundw
            case rel => exact ⟨k + 2 + n.toNat, int_eq (by omega), AllRel.next HB'.out hlk (by omega) HR'.out HR2.out HC1 E1.out E2.out HD.out⟩
            case measure => simp [intOf]; omega
    · go_wp2
      go_ret3
      have h3 := all_short (xs.drop k) (by rw [List.length_drop]; omega)
      refine ⟨_, ret3 (by rw [E2.out, h3]; show _ = (((xs.drop k).length : Nat) : Int); rw [List.length_drop]; omega) (by rw [E2.out, h3]), ?_, HB.out⟩
      rw [E1.out, h3]
      simpa using Kd.N_V HR.out
end Go.Proofs.Ytpmnjeiemocbbaa.Fr
