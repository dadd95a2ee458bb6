import Derived.Test.YtgndmbkkggjklaaMk2
import Derived.Test.YtgndmbkkggjklaaBo
import Derived.WideShapes
import Derived.BigRegion
import Derived.BigQuiet
namespace Go.Proofs.Ytgndmbkkggjklaa.Jo
set_option linter.unusedVariables false
set_option linter.unusedSimpArgs false
open Go.RowKit Go.Proofs.YtgndmbkkggjklaaW.PrintWords Go.Proofs.YtgndmbkkggjklaaW.PrintLast Go.Proofs.YtgndmbkkggjklaaW.PrintMore Go.Proofs.Ytgndmbkkggjklaa.Bs
/-- What 'small' lets through has at most 50 changes. -/
theorem small_true : ∀ k, (∀ x3 x4 a0 a1 a2 l, breviarylaw32_small.l0 k x3 x4 a0 a1 a2 l = some true → l.length ≤ 50) ∧ (∀ x3 x4 b a0 a1 a2 l, breviarylaw32_small.j1 k x3 x4 b a0 a1 a2 l = some true → l.length ≤ 50)
  | 0 => ⟨fun _ _ _ _ _ _ h => by simp [breviarylaw32_small.l0] at h, fun _ _ _ _ _ _ _ h => by simp [breviarylaw32_small.j1] at h⟩
  | k + 1 => by
    obtain ⟨i0, i1⟩ := small_true k
    refine ⟨fun x3 x4 a0 a1 a2 l h => ?_, fun x3 x4 b a0 a1 a2 l h => ?_⟩
    · rw [breviarylaw32_small.l0] at h
      split at h
      · exact i1 _ _ _ _ _ _ _ h
      · exact i1 _ _ _ _ _ _ _ h
    · rw [breviarylaw32_small.j1] at h
      split at h
      · split at h
        · split at h
          · split at h
            · simp at h
            · exact i0 _ _ _ _ _ _ h
          · simp at h
        · simp at h
      · simp only [Option.some.injEq, decide_eq_true_eq] at h
        omega
theorem small_calls2 (w : World) (A : Option Addr) (cp : Nat) (c : S25) (hC : k46.C w A c.f3.length c.f3) (hc : c.f3.length ≤ cp) :
    ∃ r : Bool, (r = true → c.f3.length ≤ 50) ∧ ∀ W, Below w.heap.size w W → Calls Try.prog 6 #[.agg #[.int .i64 c.f0, .int .u64 c.f1, .int .u64 c.f2, .slice A c.f3.length cp]] W fun e w' => e = .returned (.bool r) ∧ Below W.heap.size W w' := by
  obtain ⟨r, hr⟩ := small_step c.f0 c.f1 c.f2 c.f3 60 0 0 200 (by omega) (by omega)
  exact ⟨r, fun h => (small_true 200).1 _ _ _ _ _ _ (h ▸ hr), fun W hW => breviarylaw32_small.calls 200 c.f0 c.f1 c.f2 A cp c.f3 r W (Kd.C_below hC hW) hc hr⟩
theorem putC_len {c : S25} (hr : rightC c = true) (hs : c.f3.length ≤ 50) : 0 < (putC c).length ∧ (putC c).length ≤ 7000000 := by
  have g := good_of_rightC c hr
  have h1 := flatX_len c.f3 g.all
  have h2 : c.f3.length * 139087 ≤ 50 * 139087 := Nat.mul_le_mul_right _ hs
  simp only [putC, bodyC, List.length_append, be_length]
  omega
/-- A commit that is put, and read again. -/
structure Fine (c : S25) : Prop where
  r : rightC c = true
  s : 0 ≤ c.f1 ∧ c.f1 < 18446744073709551616
  t : 0 ≤ c.f2 ∧ c.f2 < 18446744073709551616
  z : sizedC c
theorem torn_b (c : S25) (hr : rightC c = true) (pos m : Nat) (r : List Int) (hm : m < (putC c).length) : wholeP pos ((putC c ++ r).take m) = [] := by
  by_cases h4 : m < 4
  · exact wholeP_nil _ _ (by rw [List.length_take]; omega)
  have hl := bodyC_len c hr
  have e : putC c ++ r = be 4 ((bodyC c).length : Int) ++ (bodyC c ++ r) := by rw [putC, List.append_assoc]
  have hb4 := be_length 4 ((bodyC c).length : Int)
  have hpl : (putC c).length = 4 + (bodyC c).length := by rw [putC, List.length_append, be_length]
  have hv : val (((putC c ++ r).take m).take 4) = ((bodyC c).length : Int) := by
    rw [List.take_take, show min 4 m = 4 by omega, e, List.take_left' hb4, val_be 4 _ (by omega) (by show ((bodyC c).length : Int) < 4294967296; omega)]
  exact wholeP_stop (by rw [hv, Int.toNat_natCast, List.length_take]; omega)
theorem read_many : ∀ (gs : List S25) (pos : Nat) (acc : List S25) (r : List Int), (∀ g ∈ gs, Fine g) → readL (wholeP pos (gs.flatMap putC ++ r)) acc pos = readL (wholeP (pos + (gs.flatMap putC).length) r) (acc ++ gs) (pos + (gs.flatMap putC).length)
  | [], pos, acc, r, _ => by simp
  | g :: gs, pos, acc, r, h => by
    have hg := h g List.mem_cons_self
    rw [List.flatMap_cons, List.append_assoc, wholeP_b g hg.r, readL, commitP_b g hg.r hg.s hg.t, if_pos rfl, read_many gs _ _ r (fun x hx => h x (List.mem_cons_of_mem _ hx))]
    rw [List.length_append, Nat.add_assoc, List.append_assoc, List.singleton_append]
/-- Where each commit ends. -/
def Sm (gs : List S25) (j : Nat) : Nat := ((gs.take j).flatMap putC).length
theorem torn_read (gs : List S25) (hg : ∀ g ∈ gs, Fine g) (k m : Nat) (hm : m ≤ gs.length) (h1 : Sm gs m ≤ k) (h2 : m < gs.length → k < Sm gs (m + 1)) (h3 : k ≤ (gs.flatMap putC).length) : readP ((gs.flatMap putC).take k) = (gs.take m, Sm gs m, 0) := by
  have e : gs.flatMap putC = (gs.take m).flatMap putC ++ (gs.drop m).flatMap putC := by rw [← List.flatMap_append, List.take_append_drop]
  have ht : (gs.flatMap putC).take k = (gs.take m).flatMap putC ++ ((gs.drop m).flatMap putC).take (k - Sm gs m) := by
    conv => lhs; rw [e]
    rw [List.take_append, List.take_of_length_le (by exact h1)]; rfl
  rw [ht, readP]
  have hr := read_many (gs.take m) 0 [] (((gs.drop m).flatMap putC).take (k - Sm gs m)) (fun g h => hg g (List.mem_of_mem_take h))
  rw [Nat.zero_add, List.nil_append] at hr
  rw [hr]
  have hz : wholeP (((gs.take m).flatMap putC).length) (((gs.drop m).flatMap putC).take (k - Sm gs m)) = [] := by
    by_cases hlt : m < gs.length
    · rw [List.drop_eq_getElem_cons hlt, List.flatMap_cons]
      refine torn_b _ (hg _ (List.getElem_mem _)).r _ _ _ ?_
      have h4 := h2 hlt
      have : Sm gs (m + 1) = Sm gs m + (putC gs[m]).length := by
        unfold Sm
        rw [List.take_succ_eq_append_getElem hlt, List.flatMap_append, List.length_append]
        simp
      omega
    · rw [List.drop_of_length_le (by omega), List.flatMap_nil, List.take_nil]
      exact wholeP_nil _ _ (by simp)
  rw [hz, readL]; rfl
/-- The ends that the law counts. -/
def scN (es : List Int) (k : Int) : Nat → Int × Int
  | 0 => (0, 0)
  | j + 1 => if rd es j ≤ k then ((j : Int) + 1, rd es j) else scN es k j
theorem scN_is (gs : List S25) (es : List Int) (k : Nat) (he : ∀ j : Nat, j < gs.length → rd es j = Sm gs (j + 1)) : ∀ j, j ≤ gs.length → ∃ m : Nat, m ≤ j ∧ scN es k j = ((m : Int), (Sm gs m : Int)) ∧ Sm gs m ≤ k ∧ (m < j → k < Sm gs (m + 1))
  | 0, _ => ⟨0, Nat.le_refl _, by simp [scN, Sm], by simp [Sm], fun h => by omega⟩
  | j + 1, hj => by
    obtain ⟨m, h1, h2, h3, h4⟩ := scN_is gs es k he j (by omega)
    rw [scN, he j (by omega)]
    by_cases hk : (Sm gs (j + 1) : Int) ≤ k
    · rw [if_pos hk]
      exact ⟨j + 1, Nat.le_refl _, by simp, by omega, fun h => by omega⟩
    · rw [if_neg hk]
      refine ⟨m, by omega, h2, h3, fun h => ?_⟩
      by_cases e : m = j
      · subst e; omega
      · exact h4 (by omega)
theorem Sm_all (gs : List S25) : Sm gs gs.length = (gs.flatMap putC).length := by unfold Sm; rw [List.take_length]
/-- The law's count, and what is read. -/
theorem torn_law (gs : List S25) (es : List Int) (hg : ∀ g ∈ gs, Fine g) (hl : es.length = gs.length) (he : ∀ j : Nat, j < gs.length → rd es j = Sm gs (j + 1)) (k : Nat) (hk : k ≤ (gs.flatMap putC).length) : ∃ m : Nat, m ≤ gs.length ∧ scN es k es.length = ((m : Int), (Sm gs m : Int)) ∧ readP ((gs.flatMap putC).take k) = (gs.take m, Sm gs m, 0) := by
  obtain ⟨m, h1, h2, h3, h4⟩ := scN_is gs es k he gs.length (Nat.le_refl _)
  exact ⟨m, h1, by rw [hl]; exact h2, torn_read gs hg k m h1 h3 h4 hk⟩
theorem N_tight {k : IntKind} {e base : Nat} {w : World} {ok : Nat → Prop} {v : Value} {xs : List Int} (h : Kd.N (Kd.int k) e w base ok v xs) : Kd.N (Kd.int k) e w base (fun j => some j = v.ownBlock) v xs := by
  obtain ⟨h0, rows, hl, hR, hf⟩ := h
  exact ⟨fun k hk => hk.symm, rows, hl, hR, fun j x c hx hc => fun W' _ => by
    have h := Kd.FK_now (hf j x c hx hc)
    exact h⟩
/-- The three lists that the law grows. -/
structure Tn (w W : World) (vb vg ve : Value) (sg : Nat → Prop) (b : List Int) (gs : List S25) (es : List Int) : Prop where
  b : Kd.N (Kd.int .u8) 5 W w.heap.size (fun k => some k = vb.ownBlock) vb b
  g : Kd.N k25 25 W w.heap.size (fun k => sg k ∨ k < w.heap.size) vg gs
  e : Kd.N (Kd.int .i64) 3 W w.heap.size (fun k => some k = ve.ownBlock) ve es
  old : Below w.heap.size w W
  bg : ∀ k, vb.ownBlock = some k → ¬ sg k ∧ ve.ownBlock ≠ some k
  eg : ∀ k, ve.ownBlock = some k → ¬ sg k
  lt : ∀ k, sg k → k < W.heap.size
theorem Tn.start (w : World) : Tn w w (.slice none 0 0) (.slice none 0 0) (.slice none 0 0) (fun _ => False) [] [] [] :=
  ⟨Kd.N_nil _ _ _ _ _, Kd.N_nil _ _ _ _ _, Kd.N_nil _ _ _ _ _, Below.refl _ _, fun k hk => by simp [Value.ownBlock] at hk, fun k hk => by simp [Value.ownBlock] at hk, fun _ h => h.elim⟩
theorem Tn.below {w W W' : World} {vb vg ve : Value} {sg : Nat → Prop} {b : List Int} {gs : List S25} {es : List Int} (h : Tn w W vb vg ve sg b gs es) (hb : Below W.heap.size W W') : Tn w W' vb vg ve sg b gs es :=
  ⟨Kd.N_below h.b hb, Kd.N_below h.g hb, Kd.N_below h.e hb, below_step h.old hb, h.bg, h.eg, fun k hk => Nat.lt_of_lt_of_le (h.lt k hk) hb.size⟩
theorem Tn.addB {w W w1 : World} {vb vg ve v1 : Value} {sg : Nat → Prop} {b b1 : List Int} {gs : List S25} {es : List Int} {ok : Nat → Prop} (h : Tn w W vb vg ve sg b gs es)
    (hr : Kd.N (Kd.int .u8) 5 w1 w.heap.size ok v1 b1) (hch : Ch (fun k => some k = vb.ownBlock) W w1) (hat : ∀ k, v1.ownBlock = some k → some k = vb.ownBlock ∨ W.heap.size ≤ k) : Tn w w1 v1 vg ve sg b1 gs es := by
  refine ⟨N_tight hr, Kd.N_step h.g (fun k hk hlt => hch.block k hlt (fun e => ?_)), Kd.N_step h.e (fun k hk hlt => hch.block k hlt (fun e => (h.bg k e.symm).2 hk.symm)), h.old.trans (Ch.to_below hch (fun k hk => Kd.N_base h.b k hk.symm) h.old.size), fun k hk => ?_, h.eg, fun k hk => Nat.lt_of_lt_of_le (h.lt k hk) hch.size⟩
  · rcases hk with hk | hk
    · exact (h.bg k e.symm).1 hk
    · have := Kd.N_base h.b k e.symm; omega
  · rcases hat k hk with e | e
    · exact h.bg k e.symm
    · exact ⟨fun hs => by have := h.lt k hs; omega, fun he => by have := Kd.N_lt h.e k he; omega⟩
theorem Tn.addE {w W w1 : World} {vb vg ve v1 : Value} {sg : Nat → Prop} {b : List Int} {gs : List S25} {es es1 : List Int} {ok : Nat → Prop} (h : Tn w W vb vg ve sg b gs es)
    (hr : Kd.N (Kd.int .i64) 3 w1 w.heap.size ok v1 es1) (hch : Ch (fun k => some k = ve.ownBlock) W w1) (hat : ∀ k, v1.ownBlock = some k → some k = ve.ownBlock ∨ W.heap.size ≤ k) : Tn w w1 vb vg v1 sg b gs es1 := by
  refine ⟨Kd.N_step h.b (fun k hk hlt => hch.block k hlt (fun e => (h.bg k hk.symm).2 e.symm)), Kd.N_step h.g (fun k hk hlt => hch.block k hlt (fun e => ?_)), N_tight hr, h.old.trans (Ch.to_below hch (fun k hk => Kd.N_base h.e k hk.symm) h.old.size), fun k hk => ⟨(h.bg k hk).1, fun e => ?_⟩, fun k hk => ?_, fun k hk => Nat.lt_of_lt_of_le (h.lt k hk) hch.size⟩
  · rcases hk with hk | hk
    · exact h.eg k e.symm hk
    · have := Kd.N_base h.e k e.symm; omega
  · rcases hat k e with e1 | e1
    · exact (h.bg k hk).2 e1.symm
    · have := Kd.N_lt h.b k hk; omega
  · rcases hat k hk with e | e
    · exact h.eg k e.symm
    · exact fun hs => by have := h.lt k hs; omega
theorem Tn.addG {w W w1 : World} {vb vg ve v1 : Value} {sg : Nat → Prop} {b : List Int} {gs gs1 : List S25} {es : List Int} (h : Tn w W vb vg ve sg b gs es)
    (hr : Kd.N k25 25 w1 w.heap.size (fun k => (sg k ∨ k < w.heap.size) ∨ W.heap.size ≤ k) v1 gs1) (hch : Ch (fun k => some k = vg.ownBlock) W w1) : Tn w w1 vb v1 ve (fun k => (sg k ∨ W.heap.size ≤ k) ∧ k < w1.heap.size) b gs1 es := by
  have hsg : ∀ k, vg.ownBlock = some k → sg k := fun k hk => (h.g.1 k hk).elim id (fun hlt => by have := Kd.N_base h.g k hk; omega)
  refine ⟨Kd.N_step h.b (fun k hk hlt => hch.block k hlt (fun e => (h.bg k hk.symm).1 (hsg k e.symm))), Kd.N_mono (Kd.N_bound hr) (fun k hk => ?_), Kd.N_step h.e (fun k hk hlt => hch.block k hlt (fun e => h.eg k hk.symm (hsg k e.symm))), h.old.trans (Ch.to_below hch (fun k hk => Kd.N_base h.g k hk.symm) h.old.size), fun k hk => ⟨fun hs => ?_, (h.bg k hk).2⟩, fun k hk hs => ?_, fun k hk => hk.2⟩
  · rcases hk.1 with (e | e) | e
    · exact .inl ⟨.inl e, hk.2⟩
    · exact .inr e
    · exact .inl ⟨.inr e, hk.2⟩
  · rcases hs.1 with e | e
    · exact (h.bg k hk).1 e
    · have := Kd.N_lt h.b k hk; omega
  · rcases hs.1 with e | e
    · exact h.eg k hk e
    · have := Kd.N_lt h.e k hk; omega
end Go.Proofs.Ytgndmbkkggjklaa.Jo
namespace Go.Proofs.Ytgndmbkkggjklaa.Jo
set_option linter.unusedVariables false
set_option linter.unusedSimpArgs false
open Go.RowKit Go.Proofs.YtgndmbkkggjklaaW.PrintWords Go.Proofs.Ytgndmbkkggjklaa.Bs Go.WideShapes
theorem opens41 : Opens Try.prog 41 (Kd.slice 3 (Kd.int .i64)) (fun l => l.length ≤ maxLen) := (Opens.slice Try.underlying41 (by kernel_rfl) (Opens.int Try.underlying3)).imp (fun _ h => h.2)
theorem max_big {n : Nat} (h : n ≤ maxLen) : n ≤ 9223372036854775807 := by simp only [maxLen] at h; omega
theorem opens44 : Opens Try.prog 44 k44 (fun x => x.f1.size ≤ 9223372036854775807 ∧ x.f2.size ≤ 9223372036854775807 ∧ x.f4.length ≤ 9223372036854775807 ∧ x.f5.length ≤ 9223372036854775807) :=
  ((Opens.struct Try.underlying44 (by kernel_rfl) (OpensF.cons (Opens.int Try.underlying3) (by kernel_rfl) rfl (OpensF.cons (Opens.string Try.underlying9) (by kernel_rfl) rfl (OpensF.cons (Opens.string Try.underlying9) (by kernel_rfl) rfl (OpensF.cons (Opens.int Try.underlying3) (by kernel_rfl) rfl (OpensF.cons opens41 (by kernel_rfl) rfl (OpensF.cons opens41 (by kernel_rfl) rfl (OpensF.one (Opens.bool Try.underlying4) (by kernel_rfl) rfl)))))))).iso (fun x : S44 => (x.f0, x.f1, x.f2, x.f3, x.f4, x.f5, x.f6)) (fun y => ⟨y.1, y.2.1, y.2.2.1, y.2.2.2.1, y.2.2.2.2.1, y.2.2.2.2.2.1, y.2.2.2.2.2.2⟩) (fun _ => rfl)).imp (fun x h => ⟨max_big h.2.1, max_big h.2.2.1, max_big h.2.2.2.2.1, max_big h.2.2.2.2.2.1⟩)
theorem opens46 : Opens Try.prog 46 k46 sized :=
  ((Opens.struct Try.underlying46 (by kernel_rfl) (OpensF.cons (Opens.int Try.underlying3) (by kernel_rfl) rfl (OpensF.one opens44 (by kernel_rfl) rfl))).iso (fun x : S46 => (x.f0, x.f1)) (fun y => ⟨y.1, y.2⟩) (fun _ => rfl)).imp (fun x h => h.2)
theorem opens23 : Opens Try.prog 23 (Kd.slice 46 k46) (fun l => (∀ x ∈ l, sized x) ∧ l.length ≤ maxLen) := Opens.slice Try.underlying23 (by kernel_rfl) opens46
/-- What a commit that is handed in keeps to. -/
structure Good (c : S25) : Prop where
  siz : ∀ x ∈ c.f3, sized x
  len : c.f3.length ≤ 9223372036854775807
  st : 0 ≤ c.f1 ∧ c.f1 < 18446744073709551616
  tm : 0 ≤ c.f2 ∧ c.f2 < 18446744073709551616
theorem wf_u64 {x : Int} (h : (Lit.int .u64 x).wf = true) : 0 ≤ x ∧ x < 18446744073709551616 := by
  simp [Lit.wf, IntKind.min, IntKind.max, IntKind.signed, IntKind.bits] at h
  omega
theorem opens25 : Opens Try.prog 25 k25 Good :=
  ((Opens.struct Try.underlying25 (by kernel_rfl) (OpensF.cons (Opens.int Try.underlying3) (by kernel_rfl) rfl (OpensF.cons (Opens.int Try.underlying22) (by kernel_rfl) rfl (OpensF.cons (Opens.int Try.underlying22) (by kernel_rfl) rfl (OpensF.one opens23 (by kernel_rfl) rfl))))).iso (fun x : S25 => (x.f0, x.f1, x.f2, x.f3)) (fun y => ⟨y.1, y.2.1, y.2.2.1, y.2.2.2⟩) (fun _ => rfl)).imp (fun x h => ⟨h.2.2.2.1, max_big h.2.2.2.2, wf_u64 h.2.1, wf_u64 h.2.2.1⟩)
theorem agg25 {W : World} {r : Reach} {base : Nat} {v : Value} (h : Value.okWide Try.prog W r base 25 v) : ∃ cs, v = .agg cs := by
  obtain ⟨cs, e, _⟩ := okWide_struct Try.underlying25 h
  exact ⟨cs, e⟩
theorem com_of (W : World) (c : S25) (cs : Array Value) (h : k25.K W c (Value.agg cs).cells.toList) : ∃ (A : Option Addr) (cp : Nat), cs = #[.int .i64 c.f0, .int .u64 c.f1, .int .u64 c.f2, .slice A c.f3.length cp] ∧ c.f3.length ≤ cp ∧ k46.C W A c.f3.length c.f3 := by
  obtain ⟨A, cp, e, hc, hC⟩ := k25_open h
  exact ⟨A, cp, Array.toList_inj.mp e, hc, hC⟩
end Go.Proofs.Ytgndmbkkggjklaa.Jo
namespace Go.Proofs.Ytgndmbkkggjklaa.Jo
set_option linter.unusedVariables false
set_option linter.unusedSimpArgs false
open Go.RowKit Go.Proofs.YtgndmbkkggjklaaW.PrintWords Go.Proofs.YtgndmbkkggjklaaW.PrintLast Go.Proofs.YtgndmbkkggjklaaW.PrintMore Go.Proofs.Ytgndmbkkggjklaa.Bs
/-- What the three lists hold behind so many rounds. -/
structure OkG (i : Nat) (b : List Int) (gs : List S25) (es : List Int) : Prop where
  bb : b = gs.flatMap putC
  g : ∀ g ∈ gs, Fine g
  l : es.length = gs.length
  ee : ∀ j : Nat, j < gs.length → rd es j = Sm gs (j + 1)
  m : b.length ≤ 7000000 * i
  n : gs.length ≤ i
theorem OkG.start : OkG 0 [] [] [] := ⟨rfl, by simp, rfl, by simp, by simp, by simp⟩
theorem OkG.skip {i : Nat} {b : List Int} {gs : List S25} {es : List Int} (h : OkG i b gs es) : OkG (i + 1) b gs es := ⟨h.bb, h.g, h.l, h.ee, by have := h.m; omega, by have := h.n; omega⟩
theorem OkG.add {i n : Nat} {b : List Int} {gs : List S25} {es : List Int} {c : S25} (h : OkG i b gs es) (hf : Fine c) (hl : (putC c).length ≤ 7000000) (hn : n = b.length + (putC c).length) : OkG (i + 1) (b ++ putC c) (gs ++ [c]) (es ++ [(n : Int)]) := by
  subst hn
  refine ⟨by rw [h.bb]; simp, fun g hg => ?_, by simp [h.l], fun j hj => ?_, by rw [List.length_append]; have := h.m; omega, by rw [List.length_append, List.length_singleton]; have := h.n; omega⟩
  · rcases List.mem_append.1 hg with e | e
    · exact h.g g e
    · rw [List.mem_singleton] at e; subst e; exact hf
  · rw [List.length_append, List.length_singleton] at hj
    have hel := h.l
    by_cases hlt : j < gs.length
    · have h2 := h.ee j hlt
      unfold Sm at h2 ⊢
      rw [List.take_append_of_le_length (by omega), ← h2]
      simp only [rd, List.getD_eq_getElem?_getD, Int.toNat_natCast]
      rw [List.getElem?_append_left (by omega)]
    · have hj2 : j = gs.length := by omega
      subst hj2
      unfold Sm
      rw [List.take_of_length_le (by simp), List.flatMap_append, ← h.bb]
      simp only [rd, List.getD_eq_getElem?_getD, Int.toNat_natCast]
      rw [List.getElem?_append_right (by omega), hel]
      simp
theorem many_bys (gs : List S25) : Bys (gs.flatMap putC) := by
  intro x hx
  obtain ⟨g, _, h⟩ := List.mem_flatMap.1 hx
  exact putC_bys g x h
theorem FK_i64 (w : World) (ok : Nat → Prop) (n : Int) : Kd.FK (Kd.int .i64) w ok n [.int .i64 n] := fun W' _ => by
  show (Kd.int .i64).K W' n [.int .i64 n]
  rfl
theorem heap44 : Kd.Heap k44 := Kd.heap_iso _ (Kd.heap_pair (Kd.heap_int _) (Kd.heap_pair Kd.heap_string (Kd.heap_pair Kd.heap_string (Kd.heap_pair (Kd.heap_int _) (Kd.heap_pair (Kd.heap_slice _ (Kd.heap_int _)) (Kd.heap_pair (Kd.heap_slice _ (Kd.heap_int _)) Kd.heap_bool))))))
theorem heap46 : Kd.Heap k46 := Kd.heap_iso _ (Kd.heap_pair (Kd.heap_int _) heap44)
set_option maxRecDepth 100000 in
set_option maxHeartbeats 4000000 in
theorem torn_calls (w : World) (A : Option Addr) (cp : Nat) (l : List S25) (t : Int) (hC : k25.C w A l.length l) (hcp : l.length ≤ cp) (hg : ∀ x ∈ l, Good x) (hl : l.length ≤ 9223372036854775807) (ht0 : 0 ≤ t) (ht1 : t < 4294967296) :
    Calls Try.prog 5 #[.slice A l.length cp, .int .u32 t] w fun e w' => e = .returned (.bool true) ∧ Below w.heap.size w w' := by
  have HCC := Aside0.mk hC
  have HG := Aside0.mk hg
  have HT := Aside0.mk (And.intro ht0 ht1)
  have T0 := Aside0.mk (Tn.start w)
  have K0 := Aside0.mk OkG.start
  have hl2 := Kd.C_max hC
  clear hC hg ht0 ht1
  go_enter Try.func5, Try.ntmps5
  go_wp2_with fail
  go_loopw [5, 6, 7, 8] (fun v5 v6 v7 v8 wr => ∃ (i : Nat) (sg : Nat → Prop) (Ab : Option Addr) (cb : Nat) (Ag : Option Addr) (cg : Nat) (Ae : Option Addr) (ce : Nat) (b : List Int) (gs : List S25) (es : List Int), v5 = .slice Ab b.length cb ∧ v6 = .slice Ag gs.length cg ∧ v7 = .slice Ae es.length ce ∧ v8 = .int .i64 i ∧ i ≤ 10 ∧ i ≤ l.length ∧ Aside0 (Tn w wr (.slice Ab b.length cb) (.slice Ag gs.length cg) (.slice Ae es.length ce) sg b gs es) ∧ Aside0 (OkG i b gs es)) (fun _ _ _ v8 _ => 10 - (intOf v8).toNat)
  case atStart => exact ⟨0, _, none, 0, none, 0, none, 0, [], [], [], rfl, rfl, rfl, rfl, by omega, by omega, T0, K0⟩
  case round =>
    clear T0 K0
    obtain ⟨i, sg, Ab, cb, Ag, cg, Ae, ce, b, gs, es, rfl, rfl, rfl, rfl, hi, hil, T, K⟩ := hrel
    by_cases h1 : i < l.length
    · by_cases h2 : i < 10
      · have h1' : (i : Int) < (l.length : Int) := by omega
        have h2' : (i : Int) < 10 := by omega
        have h0' : (0 : Int) ≤ (i : Int) := by omega
        obtain ⟨ad, A3, c3, ea, w0, w1, w2, w3, l3, g0⟩ := at25 HCC.out i h1
        have a0 := pw_cell_below T.out.old w0
        have a1 := pw_cell_below T.out.old w1
        have a2 := pw_cell_below T.out.old w2
        have a3 := pw_cell_below T.out.old w3
        have HW := Aside0.mk (And.intro w0 (And.intro w1 (And.intro w2 w3)))
        clear w0 w1 w2 w3
        have g3 := Kd.C_below g0 T.out.old
        cases ea
        have hgd := HG.out _ (List.getElem_mem h1)
        generalize l[i] = x at *
        have HX := Aside0.mk hgd
        cases hr : rightC x with
        | false =>
          have CP := Aside0.mk (fun W (hW : Below wr.heap.size wr W) => put_not W A3 c3 x (Kd.C_below g3 hW) l3 hgd.siz hgd.len hr)
          clear hgd g3 g0 l3 hr h1 h2
          obtain ⟨x0, x1, x2, x3⟩ := x
          simp only at a0 a1 a2 a3 CP
          clear HW
          go_wp2_with fail
          (with_reducible refine (CP.out _ (Below.refl _ _)).mono ?_)
          rintro e w2 ⟨rfl, hb⟩
          have T2 := Aside0.mk (T.out.below hb)
          have K2 := Aside0.mk K.out.skip
          clear hb CP T K a0 a1 a2 a3
          go_wp2_with fail
          go_roundw
          case rel => exact ⟨i + 1, sg, Ab, cb, Ag, cg, Ae, ce, b, gs, es, rfl, rfl, rfl, by first | rfl | rw [wrap_succ i (by omega)] | simp, by omega, by omega, T2, K2⟩
          case measure => simp [intOf]; omega
        | true =>
          have CP := Aside0.mk (fun W (hW : Below wr.heap.size wr W) => put_calls W A3 c3 x (Kd.C_below g3 hW) l3 hgd.siz hgd.len hr hgd.st hgd.tm)
          obtain ⟨r, hr50, CS⟩ := small_calls2 wr A3 c3 x g3 l3
          have CSA := Aside0.mk CS
          have HF := Aside0.mk (Fine.mk hr hgd.st hgd.tm ⟨hgd.len, hgd.siz⟩)
          have HPL := Aside0.mk (fun h => (putC_len hr (hr50 h)).2)
          have G0 := Aside0.mk (fun W (hW : Below w.heap.size w W) => Kd.F_below (Kd.C_F heap46 g0) hW)
          have L3 := Aside0.mk l3
          clear hgd g3 g0 l3 hr h1 h2 CS hr50
          have HXE := Aside0.mk (show x = ⟨x.f0, x.f1, x.f2, x.f3⟩ from rfl)
          obtain ⟨x0, hx0⟩ : ∃ q, q = x.f0 := ⟨_, rfl⟩
          obtain ⟨x1, hx1⟩ : ∃ q, q = x.f1 := ⟨_, rfl⟩
          obtain ⟨x2, hx2⟩ : ∃ q, q = x.f2 := ⟨_, rfl⟩
          obtain ⟨x3, hx3⟩ : ∃ q, q = x.f3 := ⟨_, rfl⟩
          rw [← hx0] at a0 CP CSA HXE
          rw [← hx1] at a1 CP CSA HXE
          rw [← hx2] at a2 CP CSA HXE
          rw [← hx3] at a3 CP CSA HXE L3 G0
          rw [← hx0, ← hx1, ← hx2, ← hx3] at HW
          clear hx0 hx1 hx2 hx3
          go_wp2_with fail
          (with_reducible refine (CP.out _ (Below.refl _ _)).mono ?_)
          rintro e w2 ⟨⟨v, rfl, hR⟩, hb⟩
          obtain ⟨Ap, cp', rfl⟩ := Kd.R_slice hR
          have T2 := Aside0.mk (T.out.below hb)
          have FP := Aside0.mk (show Kd.F (Kd.int .u8) w2 (fun k => wr.heap.size ≤ k) Ap (putC x).length (putC x) from Kd.F_mono (Kd.N_F (N_tight (Kd.R_N hR))) (fun k hk => Kd.R_base hR k hk.symm))
          have b0 := pw_cell_below hb a0
          have b1 := pw_cell_below hb a1
          have b2 := pw_cell_below hb a2
          have b3 := pw_cell_below hb a3
          have BB := Aside0.mk hb
          clear hb hR CP a0 a1 a2 a3
          go_wp2_with fail
          (with_reducible refine (CSA.out _ BB.out).mono ?_)
          rintro e w3 ⟨rfl, hb⟩
          have T3 := Aside0.mk (T2.out.below hb)
          have c0 := pw_cell_below hb b0
          have c1 := pw_cell_below hb b1
          have c2 := pw_cell_below hb b2
          have c3' := pw_cell_below hb b3
          have FP3 := Aside0.mk (Kd.F_below FP.out hb)
          have BB3 := Aside0.mk (show wr.heap.size ≤ w3.heap.size from Nat.le_trans BB.out.size hb.size)
          clear hb b0 b1 b2 b3 T2 FP BB CSA
          cases r with
          | false =>
            have K2 := Aside0.mk K.out.skip
            clear K c0 c1 c2 c3'
            go_wp2_with fail
            go_roundw
            case rel => exact ⟨i + 1, sg, Ab, cb, Ag, cg, Ae, ce, b, gs, es, rfl, rfl, rfl, by first | rfl | rw [wrap_succ i (by omega)] | simp, by omega, by omega, T3, K2⟩
            case measure => simp [intOf]; omega
          | true =>
            have HP7 := Aside0.mk (HPL.out rfl)
            have HLEN := Aside0.mk (show (b.length + (putC x).length) * 1 ≤ 140737488355328 by have := K.out.m; have := HP7.out; omega)
            have HLG := Aside0.mk (show (gs.length + 1) * 48 ≤ 140737488355328 by have := K.out.n; omega)
            have HLE := Aside0.mk (show (es.length + 1) * 8 ≤ 140737488355328 by have := K.out.n; have := K.out.l; omega)
            go_upto_region 10 with (first | ((with_reducible refine gate_builtin (b := .append) (xs := #[.tmp 46, .tmp 47]) rfl ?_); at_builtin; go_loud (refine nrow_list (Kd.int .u8) (W := w3) w.heap.size rfl (.tmp 46) (.tmp 47) 28 5 (.int .u8 0) 1 rfl Try.underlying28 info5 ⟨rfl, by decide, by decide⟩ (.slice Ab b.length cb) b (putC x) Ap (putC x).length cp' (fun _ => True) (fun k => wr.heap.size ≤ k) rfl rfl FP3.out (fun k hk => ⟨trivial, fun e => by have := Kd.N_lt T.out.b k e.symm; omega⟩) (Kd.N_mono T3.out.b (fun _ _ => trivial)) T3.out.old.size HLEN.out ?_); intro Ab2 cb2 w4 hr4 hch4 hat4; have T4x := T3.out.addB hr4 hch4 hat4; clear hr4 hch4 hat4; obtain ⟨nb, hnb⟩ : ∃ q, q = b.length + (putC x).length := ⟨_, rfl⟩; rw [← hnb] at T4x ⊢; have HNB := Aside0.mk hnb; have T4 := Aside0.mk T4x; have d0 := pw_cell_below T4x.old HW.out.1; have d1 := pw_cell_below T4x.old HW.out.2.1; have d2 := pw_cell_below T4x.old HW.out.2.2.1; have d3 := pw_cell_below T4x.old HW.out.2.2.2; clear T4x hnb))
            clear c0 c1 c2 c3'
            have FK4 := Aside0.mk (show Kd.FK k25 w4 (fun k => k < w.heap.size) x [.int .i64 x0, .int .u64 x1, .int .u64 x2, .slice A3 x3.length c3] from HXE.out ▸ fun W' hW' => k25_mk W' ⟨x0, x1, x2, x3⟩ L3.out ((G0.out w4 T4.out.old) W' hW'))
            go_upto_region 11 with (first | ((with_reducible refine gate_builtin (b := .append) (xs := #[.tmp 49, .tmp 54]) rfl ?_); at_builtin; go_loud (refine napp_list k25 (W := w4) w.heap.size rfl (.tmp 49) (.tmp 54) 32 25 _ 48 rfl Try.underlying32 info25 ⟨rfl, by decide, by decide⟩ (.slice Ag gs.length cg) gs x _ (fun k => sg k ∨ k < w.heap.size) (fun k => k < w.heap.size) rfl rfl FK4.out (fun k hk => ⟨.inr hk, fun e => by have := Kd.N_base T4.out.g k e.symm; omega⟩) T4.out.g T4.out.old.size HLG.out ?_); intro Ag2 cg2 w5 hr5 hch5 hat5; have T5 := Aside0.mk (T4.out.addG hr5 hch5); clear hr5 hch5 hat5))
            clear d0 d1 d2 d3
            go_wp2_with (first | ((with_reducible refine gate_builtin (b := .append) (xs := #[.tmp 56, .tmp 59]) rfl ?_); at_builtin; go_loud (refine napp_list (Kd.int .i64) (W := w5) w.heap.size rfl (.tmp 56) (.tmp 59) 41 3 (.int .i64 0) 8 rfl Try.underlying41 info3' ⟨rfl, by decide, by decide⟩ (.slice Ae es.length ce) es (nb : Int) [.int .i64 (nb : Int)] (fun _ => True) (fun _ => False) rfl rfl (FK_i64 _ _ _) (fun _ h => h.elim) (Kd.N_mono T5.out.e (fun _ _ => trivial)) T5.out.old.size HLE.out ?_); intro Ae2 ce2 w6 hr6 hch6 hat6; have T6 := Aside0.mk (T5.out.addE hr6 hch6 hat6); clear hr6 hch6 hat6))
            have K2 := Aside0.mk (K.out.add HF.out HP7.out HNB.out)
            have EB : b.length + (putC x).length = (b ++ putC x).length := (List.length_append).symm
            have T7 := Aside0.mk (show Tn w w6 (.slice Ab2 (b ++ putC x).length cb2) (.slice Ag2 (gs ++ [x]).length cg2) (.slice Ae2 (es ++ [(nb : Int)]).length ce2) _ (b ++ putC x) (gs ++ [x]) (es ++ [(nb : Int)]) from by rw [← EB, ← HNB.out, List.length_append, List.length_append]; exact T6.out)
            clear EB
            go_roundw
            case rel => exact ⟨i + 1, _, Ab2, cb2, Ag2, cg2, Ae2, ce2, b ++ putC x, gs ++ [x], es ++ [(nb : Int)], by rw [List.length_append, HNB.out], by rw [List.length_append]; rfl, by rw [List.length_append]; rfl, by first | rfl | rw [wrap_succ i (by omega)] | simp, by omega, by omega, T7, K2⟩
            case measure => simp [intOf]; omega
      · have h1' : (i : Int) < (l.length : Int) := by omega
        have h2' : ¬ (i : Int) < 10 := by omega
        have hbn : b.length ≤ 70000000 := by have := K.out.m; omega
        obtain ⟨kk, hkk⟩ : ∃ kk : Nat, t % ((b.length : Int) + 1) = kk := ⟨(t % ((b.length : Int) + 1)).toNat, by have := Int.emod_nonneg t (show (b.length : Int) + 1 ≠ 0 by omega); omega⟩
        have hkb : kk ≤ b.length := by have := Int.emod_lt_of_pos t (show 0 < (b.length : Int) + 1 by omega); omega
        have hk7 : (kk : Int) ≤ 70000000 := by omega
        have hp1 : (0 : Int) < (b.length : Int) + 1 := by omega
        have ht0 := HT.out.1
        have HKB := Aside0.mk hkb
        have hel : es.length ≤ 10 := by have := K.out.l; have := K.out.n; omega
        clear hkb
        go_wp2_with fail
        clear hkk hp1 ht0 h1 h1'
        go_loop [12, 13, 14] (fun v12 v13 v14 => ∃ j : Nat, v14 = .int .i64 j ∧ j ≤ es.length ∧ v12 = .int .i64 (scN es kk j).1 ∧ v13 = .int .i64 (scN es kk j).2) (fun _ _ v14 => es.length - (intOf v14).toNat)
        case atStart => exact ⟨0, rfl, Nat.zero_le _, rfl, rfl⟩
        case round =>
          obtain ⟨j, rfl, hj, rfl, rfl⟩ := hrel
          by_cases hj1 : j < es.length
          · obtain ⟨ad, ea, hx⟩ := Kd.at_int (Kd.N_reads' T.out.e).2.2 (j : Int) (by omega) (by omega)
            cases ea
            rw [Int.toNat_natCast] at hx
            have ES := Aside0.mk (show scN es kk (j + 1) = if rd es j ≤ kk then ((j : Int) + 1, rd es j) else scN es kk j from rfl)
            have hj2 : (j : Int) < (es.length : Int) := by omega
            have hj0 : (0 : Int) ≤ (j : Int) := by omega
            have hj10 : (j : Int) < 10 := by omega
            by_cases hc : rd es j ≤ (kk : Int)
            · rw [if_pos hc] at ES
              go_wp2
              go_round
              case rel => exact ⟨j + 1, by first | rfl | rw [wrap_succ j (by omega)] | simp, by omega, by rw [ES.out], by rw [ES.out]⟩
              case measure => simp [intOf]; omega
            · rw [if_neg hc] at ES
              go_wp2
              go_round
              case rel => exact ⟨j + 1, by first | rfl | rw [wrap_succ j (by omega)] | simp, by omega, by rw [ES.out], by rw [ES.out]⟩
              case measure => simp [intOf]; omega
          · have hje : j = es.length := by omega
            subst hje
            obtain ⟨m, hm, hsc, hrd⟩ := torn_law gs es K.out.g K.out.l K.out.ee kk (by rw [← K.out.bb]; exact HKB.out)
            rw [hsc]
            rw [← K.out.bb] at hrd
            have htl : (b.take kk).length = kk := by rw [List.length_take]; have := HKB.out; omega
            have hmz : (gs.take m).length = m := by rw [List.length_take]; omega
            have CR := Aside0.mk (read_calls wr Ab cb (b.take kk) (Kd.C_take (Kd.N_reads' T.out.b).2.2 HKB.out) (by rw [htl]; have := (Kd.N_reads' T.out.b).2.1; have := HKB.out; omega) (bys_take (by rw [K.out.bb]; exact many_bys gs) kk) (by omega))
            rw [htl, hrd] at CR
            have HFG := Aside0.mk (Kd.N_F T.out.g)
            have hmc := (Kd.N_reads' T.out.g).2.1
            have HSZ := Aside0.mk (show ∀ x ∈ gs.take m, sizedC x from fun x hx => (K.out.g x (List.mem_of_mem_take hx)).z)
            have HMZ := Aside0.mk hmz
            have hmc2 : (m : Int) ≤ (cg : Int) := by omega
            have hkc : (kk : Int) ≤ (cb : Int) := by have := (Kd.N_reads' T.out.b).2.1; have := HKB.out; omega
            obtain ⟨sm, hsm⟩ : ∃ q, q = Sm gs m := ⟨_, rfl⟩
            rw [← hsm] at CR ⊢
            have CW := Aside0.mk (fun W => works_calls W)
            clear hsc hrd htl hmz hsm hmc
            simp only at CR
            go_wp2_with fail
            (with_reducible refine CR.out.mono ?_)
            rintro e w2 ⟨⟨v, rfl, hR⟩, hb⟩
            obtain ⟨A2, c2, rfl⟩ := Kd.R_slice hR
            have R2 := Aside0.mk hR
            have T2 := Aside0.mk (T.out.below hb)
            have FG2 := Aside0.mk (Kd.F_below HFG.out hb)
            clear hR hb CR
            go_wp2_with fail
            have hmz2 := HMZ.out
            have hmg : m ≤ gs.length := by rw [List.length_take] at hmz2; omega
            have CS := Aside0.mk (commits_same w2 A2 Ag c2 cg (gs.take m) (Kd.R_reads' R2.out).2.2 (Kd.C_take (Kd.F_now FG2.out) hmg) (by have := K.out.n; omega) HSZ.out)
            rw [hmz2] at CS
            (with_reducible refine CS.out.mono ?_)
            rintro e w3 ⟨rfl, hb⟩
            have B3 := Aside0.mk (below_step T2.out.old hb)
            clear hb CS hmz2 R2 T2 FG2
            go_wp2_with fail
            (with_reducible refine (CW.out w3).mono ?_)
            rintro e w4 ⟨rfl, hb⟩
            have B4 := Aside0.mk (below_step B3.out hb)
            clear hb CW
            go_wp2_with fail
            go_ret
            exact ⟨rfl, B4.out⟩
    · have h1' : ¬ (i : Int) < (l.length : Int) := by omega
      have hbn : b.length ≤ 70000000 := by have := K.out.m; omega
      obtain ⟨kk, hkk⟩ : ∃ kk : Nat, t % ((b.length : Int) + 1) = kk := ⟨(t % ((b.length : Int) + 1)).toNat, by have := Int.emod_nonneg t (show (b.length : Int) + 1 ≠ 0 by omega); omega⟩
      have hkb : kk ≤ b.length := by have := Int.emod_lt_of_pos t (show 0 < (b.length : Int) + 1 by omega); omega
      have hk7 : (kk : Int) ≤ 70000000 := by omega
      have hp1 : (0 : Int) < (b.length : Int) + 1 := by omega
      have ht0 := HT.out.1
      have HKB := Aside0.mk hkb
      have hel : es.length ≤ 10 := by have := K.out.l; have := K.out.n; omega
      clear hkb
      go_wp2_with fail
      clear hkk hp1 ht0 h1 h1'
      go_loop [12, 13, 14] (fun v12 v13 v14 => ∃ j : Nat, v14 = .int .i64 j ∧ j ≤ es.length ∧ v12 = .int .i64 (scN es kk j).1 ∧ v13 = .int .i64 (scN es kk j).2) (fun _ _ v14 => es.length - (intOf v14).toNat)
      case atStart => exact ⟨0, rfl, Nat.zero_le _, rfl, rfl⟩
      case round =>
        obtain ⟨j, rfl, hj, rfl, rfl⟩ := hrel
        by_cases hj1 : j < es.length
        · obtain ⟨ad, ea, hx⟩ := Kd.at_int (Kd.N_reads' T.out.e).2.2 (j : Int) (by omega) (by omega)
          cases ea
          rw [Int.toNat_natCast] at hx
          have ES := Aside0.mk (show scN es kk (j + 1) = if rd es j ≤ kk then ((j : Int) + 1, rd es j) else scN es kk j from rfl)
          have hj2 : (j : Int) < (es.length : Int) := by omega
          have hj0 : (0 : Int) ≤ (j : Int) := by omega
          have hj10 : (j : Int) < 10 := by omega
          by_cases hc : rd es j ≤ (kk : Int)
          · rw [if_pos hc] at ES
            go_wp2
            go_round
            case rel => exact ⟨j + 1, by first | rfl | rw [wrap_succ j (by omega)] | simp, by omega, by rw [ES.out], by rw [ES.out]⟩
            case measure => simp [intOf]; omega
          · rw [if_neg hc] at ES
            go_wp2
            go_round
            case rel => exact ⟨j + 1, by first | rfl | rw [wrap_succ j (by omega)] | simp, by omega, by rw [ES.out], by rw [ES.out]⟩
            case measure => simp [intOf]; omega
        · have hje : j = es.length := by omega
          subst hje
          obtain ⟨m, hm, hsc, hrd⟩ := torn_law gs es K.out.g K.out.l K.out.ee kk (by rw [← K.out.bb]; exact HKB.out)
          rw [hsc]
          rw [← K.out.bb] at hrd
          have htl : (b.take kk).length = kk := by rw [List.length_take]; have := HKB.out; omega
          have hmz : (gs.take m).length = m := by rw [List.length_take]; omega
          have CR := Aside0.mk (read_calls wr Ab cb (b.take kk) (Kd.C_take (Kd.N_reads' T.out.b).2.2 HKB.out) (by rw [htl]; have := (Kd.N_reads' T.out.b).2.1; have := HKB.out; omega) (bys_take (by rw [K.out.bb]; exact many_bys gs) kk) (by omega))
          rw [htl, hrd] at CR
          have HFG := Aside0.mk (Kd.N_F T.out.g)
          have hmc := (Kd.N_reads' T.out.g).2.1
          have HSZ := Aside0.mk (show ∀ x ∈ gs.take m, sizedC x from fun x hx => (K.out.g x (List.mem_of_mem_take hx)).z)
          have HMZ := Aside0.mk hmz
          have hmc2 : (m : Int) ≤ (cg : Int) := by omega
          have hkc : (kk : Int) ≤ (cb : Int) := by have := (Kd.N_reads' T.out.b).2.1; have := HKB.out; omega
          obtain ⟨sm, hsm⟩ : ∃ q, q = Sm gs m := ⟨_, rfl⟩
          rw [← hsm] at CR ⊢
          have CW := Aside0.mk (fun W => works_calls W)
          clear hsc hrd htl hmz hsm hmc
          simp only at CR
          go_wp2_with fail
          (with_reducible refine CR.out.mono ?_)
          rintro e w2 ⟨⟨v, rfl, hR⟩, hb⟩
          obtain ⟨A2, c2, rfl⟩ := Kd.R_slice hR
          have R2 := Aside0.mk hR
          have T2 := Aside0.mk (T.out.below hb)
          have FG2 := Aside0.mk (Kd.F_below HFG.out hb)
          clear hR hb CR
          go_wp2_with fail
          have hmz2 := HMZ.out
          have hmg : m ≤ gs.length := by rw [List.length_take] at hmz2; omega
          have CS := Aside0.mk (commits_same w2 A2 Ag c2 cg (gs.take m) (Kd.R_reads' R2.out).2.2 (Kd.C_take (Kd.F_now FG2.out) hmg) (by have := K.out.n; omega) HSZ.out)
          rw [hmz2] at CS
          (with_reducible refine CS.out.mono ?_)
          rintro e w3 ⟨rfl, hb⟩
          have B3 := Aside0.mk (below_step T2.out.old hb)
          clear hb CS hmz2 R2 T2 FG2
          go_wp2_with fail
          (with_reducible refine (CW.out w3).mono ?_)
          rintro e w4 ⟨rfl, hb⟩
          have B4 := Aside0.mk (below_step B3.out hb)
          clear hb CW
          go_wp2_with fail
          go_ret
          exact ⟨rfl, B4.out⟩
theorem opens32 : Opens Try.prog 32 (Kd.slice 25 k25) (fun l => (∀ x ∈ l, Good x) ∧ l.length ≤ maxLen) := Opens.slice Try.underlying32 (by kernel_rfl) opens25
theorem wf_u32 {x : Int} (h : (Lit.int .u32 x).wf = true) : 0 ≤ x ∧ x < 4294967296 := by
  simp [Lit.wf, IntKind.min, IntKind.max, IntKind.signed, IntKind.bits] at h
  omega
theorem torn_row (W : World) (A : Option Addr) (cp : Nat) (l : List S25) (f : k25.C W A l.length l) (e : l.length ≤ cp) (g : (∀ x ∈ l, Good x) ∧ l.length ≤ maxLen) (t : Int) (wf : (Lit.int .u32 t).wf = true) :
    Calls Try.prog 5 #[.slice A l.length cp, .int .u32 t] W fun e w' => e = .returned (.bool true) ∧ Below W.heap.size W w' :=
  torn_calls W A cp l t f e g.1 (max_big g.2) (wf_u32 wf).1 (wf_u32 wf).2
end Go.Proofs.Ytgndmbkkggjklaa.Jo
