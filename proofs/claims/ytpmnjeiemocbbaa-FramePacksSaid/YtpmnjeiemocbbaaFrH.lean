import Derived.Test.YtpmnjeiemocbbaaFrG
namespace Go.Proofs.Ytpmnjeiemocbbaa.Fr
set_option linter.unusedVariables false
set_option linter.unusedSimpArgs false
open Go.RowKit Go.Proofs.YtpmnjeiemocbbaaW.PrintWords Go.Proofs.Ytpmnjeiemocbbaa.FrK Go.Proofs.Ytpmnjeiemocbbaa.Bs

def s0 : St := { m := .num, far := 0, size := 0, skip := 0, body := [], out := [] }
def clr (s : St) : St := { s with out := [] }
def addO (o : List S35) (s : St) : St := { s with out := o ++ s.out }
theorem step_addO (o : List S35) (s : St) (c : Int) : (addO o s).step c = addO o (s.step c) := by
  obtain ⟨m, far, size, skip, body, out⟩ := s
  cases m
  · simp only [St.step, St.num, addO, told]
    by_cases h1 : far + 1 < 2
    · simp only [if_pos h1]; exact if_pos h1
    · by_cases h2 : size * 256 + c = 0
      · simp only [if_neg h1, if_pos h2, List.append_assoc]
      · by_cases h3 : size * 256 + c > 4200
        · simp only [if_neg h1, if_neg h2, if_pos h3, List.append_assoc]
        · simp only [if_neg h1, if_neg h2, if_neg h3]; exact (if_neg h1).trans ((if_neg h2).trans (if_neg h3))
  · simp only [St.step, St.skp, addO]
    by_cases h1 : skip - 1 = 0
    · simp only [if_pos h1]; exact if_pos h1
    · simp only [if_neg h1]; exact if_neg h1
  · simp only [St.step, St.bod, addO, told]
    by_cases h1 : (body.length : Int) + 1 = size
    · simp only [if_pos h1, List.append_assoc]
    · simp only [if_neg h1]; exact if_neg h1
theorem run_addO (o : List S35) (l : List Int) : ∀ s : St, (addO o s).run l = addO o (s.run l) := by
  induction l with
  | nil => intro s; rfl
  | cons c l ih => intro s; show ((addO o s).step c).run l = _; rw [step_addO, ih]; rfl
theorem addO_clr (s : St) : addO s.out (clr s) = s := by simp [addO, clr]
theorem run_app (s : St) (a b : List Int) : s.run (a ++ b) = (s.run a).run b := by simp [St.run]
theorem run_out_app (s : St) (a b : List Int) : (s.run (a ++ b)).out = (s.run a).out ++ ((clr (s.run a)).run b).out ∧ clr (s.run (a ++ b)) = clr ((clr (s.run a)).run b) := by
  rw [run_app]
  have h := run_addO (s.run a).out b (clr (s.run a))
  rw [addO_clr] at h
  rw [h]
  exact ⟨rfl, rfl⟩
theorem run_cons (s : St) (c : Int) (l : List Int) : s.run (c :: l) = (s.step c).run l := rfl
theorem run_nil (s : St) : s.run [] = s := rfl
/-- Bytes that are left out. -/
theorem run_skip (o : List S35) : ∀ (l : List Int) (n : Int), 1 ≤ n → (l.length : Int) < n → ({ m := .skp, far := 0, size := 0, skip := n, body := [], out := o } : St).run l = { m := .skp, far := 0, size := 0, skip := n - l.length, body := [], out := o } := by
  intro l
  induction l with
  | nil => intro n h1 h2; simp [St.run]
  | cons c l ih =>
    intro n h1 h2
    simp only [List.length_cons] at h2
    rw [run_cons]
    have e : (({ m := .skp, far := 0, size := 0, skip := n, body := [], out := o } : St).step c) = { m := .skp, far := 0, size := 0, skip := n - 1, body := [], out := o } := by
      simp only [St.step, St.skp]; rw [if_neg (by omega)]
    rw [e, ih (n - 1) (by omega) (by omega)]
    simp only [List.length_cons]
    congr 1
    omega
theorem run_skip_all (o : List S35) : ∀ (l : List Int) (n : Int), 1 ≤ n → (l.length : Int) = n → ({ m := .skp, far := 0, size := 0, skip := n, body := [], out := o } : St).run l = { m := .num, far := 0, size := 0, skip := 0, body := [], out := o } := by
  intro l
  induction l with
  | nil => intro n h1 h2; simp at h2; omega
  | cons c l ih =>
    intro n h1 h2
    simp only [List.length_cons] at h2
    rw [run_cons]
    by_cases h : n = 1
    · subst h
      have : l = [] := by cases l; rfl; simp at h2; omega
      subst this
      rfl
    · have e : (({ m := .skp, far := 0, size := 0, skip := n, body := [], out := o } : St).step c) = { m := .skp, far := 0, size := 0, skip := n - 1, body := [], out := o } := by
        simp only [St.step, St.skp]; rw [if_neg (by omega)]
      rw [e, ih (n - 1) (by omega) (by omega)]
theorem run_body (o : List S35) (n : Int) : ∀ (l p : List Int), ((p.length + l.length : Nat) : Int) < n → ({ m := .bod, far := 2, size := n, skip := 0, body := p, out := o } : St).run l = { m := .bod, far := 2, size := n, skip := 0, body := p ++ l, out := o } := by
  intro l
  induction l with
  | nil => intro p h; simp [St.run]
  | cons c l ih =>
    intro p h
    simp only [List.length_cons] at h
    rw [run_cons]
    have e : (({ m := .bod, far := 2, size := n, skip := 0, body := p, out := o } : St).step c) = { m := .bod, far := 2, size := n, skip := 0, body := p ++ [c], out := o } := by
      simp only [St.step, St.bod]; rw [if_neg (by omega)]
    rw [e, ih (p ++ [c]) (by simp; omega)]
    simp
theorem run_body_all (o : List S35) (n : Int) : ∀ (l p : List Int), 1 ≤ l.length → ((p.length + l.length : Nat) : Int) = n → ({ m := .bod, far := 2, size := n, skip := 0, body := p, out := o } : St).run l = { m := .num, far := 0, size := 0, skip := 0, body := [], out := o ++ [⟨p ++ l, 0⟩] } := by
  intro l
  induction l with
  | nil => intro p h1 h; simp at h1
  | cons c l ih =>
    intro p _ h
    simp only [List.length_cons] at h
    rw [run_cons]
    by_cases hl : l.length = 0
    · have : l = [] := by cases l; rfl; simp at hl
      subst this
      simp only [List.length_nil] at h
      simp only [St.step, St.bod, told]
      rw [if_pos (by omega)]
      rfl
    · have e : (({ m := .bod, far := 2, size := n, skip := 0, body := p, out := o } : St).step c) = { m := .bod, far := 2, size := n, skip := 0, body := p ++ [c], out := o } := by
        simp only [St.step, St.bod]; rw [if_neg (by omega)]
      rw [e, ih (p ++ [c]) (by omega) (by simp; omega)]
      simp
def rest (s : St) : Int := s.far + s.body.length
/-- What has come is told as the document says: out, rest and skip. -/
theorem run_all (N : Nat) : ∀ (l : List Int), l.length ≤ N → (∀ c ∈ l, 0 ≤ c ∧ c ≤ 255) → (s0.run l).out = (all l).1 ∧ rest (s0.run l) = (all l).2.1 ∧ (s0.run l).skip = (all l).2.2 := by
  induction N with
  | zero => intro l hl _; have : l = [] := by cases l; rfl; simp at hl
            subst this; exact ⟨rfl, rfl, rfl⟩
  | succ N ih =>
    intro l hl hb
    match l, hl, hb with
    | [], _, _ => exact ⟨rfl, rfl, rfl⟩
    | [a], _, hb => rw [all_short _ (by simp)]; exact ⟨rfl, rfl, rfl⟩
    | a :: b :: r, hl, hb =>
      have ha := hb a (by simp)
      have hb2 := hb b (by simp)
      have hr : ∀ c ∈ r, 0 ≤ c ∧ c ≤ 255 := fun c hc => hb c (by simp [hc])
      simp only [List.length_cons] at hl
      have e1 : s0.run (a :: b :: r) = (({ m := .num, far := 1, size := a, skip := 0, body := [], out := [] } : St).step b).run r := by
        simp [run_cons, s0, St.step, St.num]
      rw [e1, all_two]
      obtain ⟨n, hn⟩ : ∃ n, n = a * 256 + b := ⟨_, rfl⟩
      simp only [St.step, St.num, ← hn]
      rw [if_neg (by omega)]
      have key : ∀ (x : S35) (d : List Int), d.length ≤ N → (∀ c ∈ d, 0 ≤ c ∧ c ≤ 255) → ((({ m := .num, far := 0, size := 0, skip := 0, body := [], out := [] ++ [x] } : St).run d).out = x :: (all d).1 ∧ rest (({ m := .num, far := 0, size := 0, skip := 0, body := [], out := [] ++ [x] } : St).run d) = (all d).2.1 ∧ (({ m := .num, far := 0, size := 0, skip := 0, body := [], out := [] ++ [x] } : St).run d).skip = (all d).2.2) := by
        intro x d hd hdb
        have h1 := run_addO [x] d s0
        have h2 : addO [x] s0 = { m := .num, far := 0, size := 0, skip := 0, body := [], out := [] ++ [x] } := rfl
        rw [← h2, h1]
        obtain ⟨i1, i2, i3⟩ := ih d hd hdb
        exact ⟨by simp [addO, i1], i2, i3⟩
      by_cases hz : n = 0
      · rw [if_pos hz, if_pos hz]
        exact key _ r (by omega) hr
      · rw [if_neg hz, if_neg hz]
        by_cases hg : n > 4200
        · rw [if_pos hg, if_pos hg]
          simp only [told]
          by_cases hs : (r.length : Int) < n
          · rw [if_pos hs, run_skip _ _ _ (by omega) hs]
            exact ⟨rfl, rfl, rfl⟩
          · rw [if_neg hs]
            have h3 := run_app ({ m := .skp, far := 0, size := 0, skip := n, body := [], out := [] ++ [⟨[], 60⟩] } : St) (r.take n.toNat) (r.drop n.toNat)
            rw [List.take_append_drop, run_skip_all _ (r.take n.toNat) n (by omega) (by rw [List.length_take]; omega)] at h3
            rw [h3]
            exact key _ _ (by rw [List.length_drop]; omega) (fun c hc => hr c (List.mem_of_mem_drop hc))
        · rw [if_neg hg, if_neg hg]
          have e2 : ({ m := Md.bod, far := 1 + 1, size := n, skip := 0, body := [], out := [] } : St) = { m := .bod, far := 2, size := n, skip := 0, body := [], out := [] } := rfl
          rw [e2]
          by_cases hs : (r.length : Int) < n
          · rw [if_pos hs, run_body _ _ _ _ (by simpa using hs)]
            refine ⟨rfl, ?_, rfl⟩
            simp [rest]; omega
          · rw [if_neg hs]
            have h3 := run_app ({ m := .bod, far := 2, size := n, skip := 0, body := [], out := [] } : St) (r.take n.toNat) (r.drop n.toNat)
            rw [List.take_append_drop, run_body_all _ n (r.take n.toNat) [] (by rw [List.length_take]; omega) (by rw [List.length_take]; simp; omega)] at h3
            rw [h3]
            simp only [List.nil_append]
            have := key ⟨r.take n.toNat, 0⟩ _ (show (r.drop n.toNat).length ≤ N by rw [List.length_drop]; omega) (fun c hc => hr c (List.mem_of_mem_drop hc))
            simpa using this
end Go.Proofs.Ytpmnjeiemocbbaa.Fr
