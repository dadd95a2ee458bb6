import Derived.Test.YthkdihpbdaehbaaMr8
import Derived.ProofKit
import Derived.Deep.Slices
import Derived.WideShapes
namespace Go.Proofs.Ythkdihpbdaehbaa.Bs
set_option linter.unusedVariables false
set_option linter.unusedSimpArgs false
open Go.RowKit Go.Proofs.YthkdihpbdaehbaaW.PrintWords
/-- Whatever reads as a datum of type t is of kind d, and good. -/
def Opens {α : Type} (P : Program) (t : TypeId) (d : Kd α) (g : α → Prop) : Prop :=
  ∀ (H : Type) (enc : TypeId × Value → H) (W : World) (base : Nat) (spare : Nat → Bool) (held : Bool) (fuel : Nat) (cs : List Value) (x : DataW H × List MemPlace),
    DataW.trod enc P W base spare held fuel t cs = some x → ∃ a, d.K W a cs ∧ g a
theorem Opens.int {P : Program} {t : TypeId} {k : IntKind} (ht : P.underlying t = some (.int k)) : Opens P t (Kd.int k) (fun n => (Lit.int k n).wf = true) := by
  intro H enc W base spare held fuel cs x h
  obtain ⟨n, rfl, _, hw⟩ := DataW.trod_int ht h
  exact ⟨n, rfl, hw⟩
theorem Opens.bool {P : Program} {t : TypeId} (ht : P.underlying t = some .bool) : Opens P t Kd.bool (fun _ => True) := by
  intro H enc W base spare held fuel cs x h
  obtain ⟨b, rfl, _⟩ := DataW.trod_bool ht h
  exact ⟨b, rfl, trivial⟩
theorem Opens.string {P : Program} {t : TypeId} (ht : P.underlying t = some .string) : Opens P t Kd.string (fun s => s.size ≤ maxLen) := by
  intro H enc W base spare held fuel cs x h
  obtain ⟨s, rfl, _, hs⟩ := DataW.trod_string ht h
  exact ⟨s, rfl, hs⟩
theorem choose_list {α : Type} {p : Nat → α → Prop} : ∀ (n : Nat), (∀ i, i < n → ∃ a, p i a) → ∃ l : List α, l.length = n ∧ ∀ i a, l[i]? = some a → p i a := by
  intro n
  induction n with
  | zero => intro _; exact ⟨[], rfl, fun i a h => by simp at h⟩
  | succ n ih =>
    intro h
    obtain ⟨l, hl, hp⟩ := ih (fun i hi => h i (by omega))
    obtain ⟨a, ha⟩ := h n (by omega)
    refine ⟨l ++ [a], by simp [hl], fun i b hb => ?_⟩
    rcases Nat.lt_or_ge i l.length with hi | hi
    · rw [List.getElem?_append_left hi] at hb; exact hp i b hb
    · rw [List.getElem?_append_right hi] at hb
      have h0 : i - l.length = 0 := by
        have := (List.getElem?_eq_some_iff.1 hb).1
        simp at this; omega
      rw [h0] at hb
      simp at hb
      subst hb
      have : i = n := by omega
      subst this; exact ha
theorem Opens.slice {α : Type} {P : Program} {t e : TypeId} {d : Kd α} {g : α → Prop} (ht : P.underlying t = some (.slice e)) (hs : P.cellsOf e = d.sz) (he : Opens P e d g) : Opens P t (Kd.slice e d) (fun xs => (∀ x ∈ xs, g x) ∧ xs.length ≤ maxLen) := by
  intro H enc W base spare held fuel cs x h
  rcases Go.Deep.open_slice ht h with ⟨rfl, _⟩ | ⟨a, len, cap, m, n, D, Pl, rfl, _, hl, hm, hmm, _, hx⟩
  · exact ⟨[], ⟨none, 0, rfl, Nat.le_refl _, Kd.C_nil d W⟩, by simp, by simp⟩
  · have hlm : len ≤ m := by rw [hmm]; split <;> omega
    obtain ⟨xs, hxl, hxp⟩ := choose_list (p := fun i y => (∃ cs', cs'.length = d.sz ∧ (∀ j u, cs'[j]? = some u → W.cell? ((a.add (i * d.sz)).add j) = some u) ∧ d.K W y cs') ∧ g y) len (fun i hi => by
      obtain ⟨cs', h1, h2⟩ := hx i (by omega)
      obtain ⟨y, hy, hg⟩ := he H enc W base spare held n cs' _ h2
      obtain ⟨_, hlen, hc⟩ := World.cells?_some h1
      rw [hs] at hlen hc
      refine ⟨y, ⟨cs', hlen, fun j u hu => ?_, hy⟩, hg⟩
      have hj : j < d.sz := by rw [← hlen]; exact (List.getElem?_eq_some_iff.1 hu).1
      exact (hc j hj).trans hu)
    have hml : len ≤ 9223372036854775807 := by have := Nat.le_trans hl hm; simp only [maxLen] at this; omega
    refine ⟨xs, ⟨some a, cap, by rw [hxl], by omega, ?_⟩, ?_, by rw [hxl]; exact Nat.le_trans hl hm⟩
    · refine ⟨rfl, by omega, fun _ => ⟨a, rfl, fun j p hj => ?_⟩⟩
      obtain ⟨⟨cs', h1, h2, h3⟩, _⟩ := hxp j p hj
      exact ⟨cs', h1, h3, fun i u hu => by rw [← add_add]; exact h2 i u hu⟩
    · intro x hx
      obtain ⟨i, hi, rfl⟩ := List.mem_iff_getElem.1 hx
      exact (hxp i _ (List.getElem?_eq_getElem hi)).2
theorem Opens.imp {α : Type} {P : Program} {t : TypeId} {d : Kd α} {g g' : α → Prop} (h : Opens P t d g) (hg : ∀ a, g a → g' a) : Opens P t d g' := by
  intro H enc W base spare held fuel cs x hx
  obtain ⟨a, h1, h2⟩ := h H enc W base spare held fuel cs x hx
  exact ⟨a, h1, hg a h2⟩
theorem Opens.iso {α β : Type} {P : Program} {t : TypeId} {d : Kd α} {g : α → Prop} (h : Opens P t d g) (f : β → α) (inv : α → β) (hf : ∀ a, f (inv a) = a) : Opens P t (Kd.iso d f) (fun b => g (f b)) := by
  intro H enc W base spare held fuel cs x hx
  obtain ⟨a, h1, h2⟩ := h H enc W base spare held fuel cs x hx
  exact ⟨inv a, by show d.K W (f (inv a)) cs; rw [hf]; exact h1, by show g (f (inv a)); rw [hf]; exact h2⟩
/-- The fields of a struct, one behind the other, from off on. -/
def OpensF {α : Type} (P : Program) (fs : List Field) (off : Nat) (d : Kd α) (g : α → Prop) : Prop :=
  ∀ (H : Type) (enc : TypeId × Value → H) (W : World) (base : Nat) (spare : Nat → Bool) (held : Bool) (n : Nat) (cs : List Value),
    cs.length = off + d.sz → (∀ f ∈ fs, ∃ y, DataW.trod enc P W base spare held n f.type ((cs.drop f.offset).take (P.cellsOf f.type)) = some y) → ∃ a, d.K W a (cs.drop off) ∧ g a
theorem OpensF.one {α : Type} {P : Program} {f : Field} {off : Nat} {d : Kd α} {g : α → Prop} (h : Opens P f.type d g) (hs : P.cellsOf f.type = d.sz) (ho : f.offset = off) : OpensF P [f] off d g := by
  intro H enc W base spare held n cs hl hy
  obtain ⟨y, hy⟩ := hy f (by simp)
  rw [ho, hs, List.take_of_length_le (by rw [List.length_drop]; omega)] at hy
  exact h H enc W base spare held n _ _ hy
theorem OpensF.cons {α β : Type} {P : Program} {f : Field} {fs : List Field} {off : Nat} {d : Kd α} {d' : Kd β} {g : α → Prop} {g' : β → Prop} (h : Opens P f.type d g) (hs : P.cellsOf f.type = d.sz) (ho : f.offset = off) (hr : OpensF P fs (off + d.sz) d' g') :
    OpensF P (f :: fs) off (Kd.pair d d') (fun x => g x.1 ∧ g' x.2) := by
  intro H enc W base spare held n cs hl hy
  have hsz : (Kd.pair d d').sz = d.sz + d'.sz := rfl
  obtain ⟨y, hy0⟩ := hy f (by simp)
  rw [ho, hs] at hy0
  obtain ⟨a, h1, h2⟩ := h H enc W base spare held n _ _ hy0
  obtain ⟨b, h3, h4⟩ := hr H enc W base spare held n cs (by omega) (fun f hf => hy f (by simp [hf]))
  refine ⟨(a, b), ⟨_, _, ?_, h1, h3⟩, h2, h4⟩
  rw [← List.drop_drop, List.take_append_drop]
theorem Opens.struct {α : Type} {P : Program} {t : TypeId} {fs : Array Field} {d : Kd α} {g : α → Prop} (ht : P.underlying t = some (.struct fs)) (hs : P.cellsOf t = d.sz) (h : OpensF P fs.toList 0 d g) : Opens P t d g := by
  intro H enc W base spare held fuel cs x hx
  obtain ⟨xs, n, rfl, _, hl, hxl, hf⟩ := DataW.trod_struct ht hx
  have := h H enc W base spare held n cs (by omega) (fun f hmem => by
    obtain ⟨i, hi, rfl⟩ := List.mem_iff_getElem.1 hmem
    have h2 := hf i fs.toList[i] (by rw [← Array.getElem?_toList]; exact List.getElem?_eq_getElem hi)
    have hi' : i < xs.length := by rw [hxl]; simpa using hi
    rw [List.getElem?_eq_getElem hi'] at h2
    exact ⟨_, h2⟩)
  simpa using this
theorem Opens.top {α : Type} {P : Program} {t : TypeId} {d : Kd α} {g : α → Prop} (h : Opens P t d g) {H : Type} {enc : TypeId × Value → H} {W : World} {base : Nat} {spare : Nat → Bool} {held : Bool} {v : Value} {x : DataW H} {ps : List MemPlace} (ht : DataW.Trod enc P W base spare held t v x ps) :
    ∃ a, d.K W a v.cells.toList ∧ g a := by
  obtain ⟨fuel, hf⟩ := ht
  exact h H enc W base spare held fuel _ _ hf
theorem Opens.top_slice {α : Type} {P : Program} {t e : TypeId} {d : Kd α} {g : List α → Prop} (h : Opens P t (Kd.slice e d) g) {H : Type} {enc : TypeId × Value → H} {W : World} {base : Nat} {spare : Nat → Bool} {held : Bool} {a : Option Addr} {n c : Nat} {x : DataW H} {ps : List MemPlace} (ht : DataW.Trod enc P W base spare held t (.slice a n c) x ps) :
    ∃ xs : List α, n = xs.length ∧ xs.length ≤ c ∧ d.C W a xs.length xs ∧ g xs := by
  obtain ⟨xs, ⟨A, c', e1, hl, hC⟩, hg⟩ := h.top ht
  simp [Value.cells] at e1
  obtain ⟨rfl, rfl, rfl⟩ := e1
  exact ⟨xs, rfl, hl, hC, hg⟩
end Go.Proofs.Ythkdihpbdaehbaa.Bs
namespace Go.Proofs.Ythkdihpbdaehbaa.Pr
set_option linter.unusedVariables false
set_option linter.unusedSimpArgs false
open Go.RowKit Go.Proofs.YthkdihpbdaehbaaW.PrintWords Go.Proofs.Ythkdihpbdaehbaa.Bs Go.WideShapes
def k23 := Kd.pair (Kd.int .i64) (Kd.pair (Kd.int .i64) (Kd.pair (Kd.int .i64) (Kd.pair Kd.string Kd.string)))
def k25 := Kd.pair (Kd.int .i64) (Kd.pair Kd.string k23)
theorem opens23 : ∃ g, Opens Try.prog 23 k23 g :=
  ⟨_, Opens.struct Try.underlying23 (by kernel_rfl) (OpensF.cons (Opens.int Try.underlying3) (by kernel_rfl) rfl (OpensF.cons (Opens.int Try.underlying3) (by kernel_rfl) rfl (OpensF.cons (Opens.int Try.underlying3) (by kernel_rfl) rfl (OpensF.cons (Opens.string Try.underlying9) (by kernel_rfl) rfl (OpensF.one (Opens.string Try.underlying9) (by kernel_rfl) rfl)))))⟩
theorem opens25 : Opens Try.prog 25 k25 (fun _ => True) := by
  obtain ⟨g, h⟩ := opens23
  exact (Opens.struct Try.underlying25 (by kernel_rfl) (OpensF.cons (Opens.int Try.underlying3) (by kernel_rfl) rfl (OpensF.cons (Opens.string Try.underlying9) (by kernel_rfl) rfl (OpensF.one h (by kernel_rfl) rfl)))).imp (fun _ _ => trivial)
theorem agg25 {W : World} {r : Reach} {base : Nat} {v : Value} (h : Value.okWide Try.prog W r base 25 v) : ∃ cs, v = .agg cs := by
  obtain ⟨cs, e, _⟩ := okWide_struct Try.underlying25 h
  exact ⟨cs, e⟩
theorem req_of (W : World) (x) (cs : Array Value) (h : k25.K W x (Value.agg cs).cells.toList) : ∃ q : Rq, cs = q.cells := by
  obtain ⟨a, s, o, i, p, nm, os⟩ := x
  obtain ⟨c1, c2, e, h1, c3, c4, rfl, h3, c5, c6, rfl, h5, c7, c8, rfl, h7, c9, c10, rfl, h9, c11, c12, rfl, h11, h12⟩ := h
  have e1 : c1 = [.int .i64 a] := h1
  have e3 : c3 = [.string s] := h3
  have e5 : c5 = [.int .i64 o] := h5
  have e7 : c7 = [.int .i64 i] := h7
  have e9 : c9 = [.int .i64 p] := h9
  have e11 : c11 = [.string nm] := h11
  have e12 : c12 = [.string os] := h12
  subst e1 e3 e5 e7 e9 e11 e12
  exact ⟨⟨a, s, o, i, p, nm, os⟩, Array.toList_inj.mp e⟩
theorem reqs_row (W : World) (x) (cs : Array Value) (f : k25.K W x (Value.agg cs).cells.toList) (g : True) : Calls Try.prog 3 #[.agg cs] W fun e w' => e = .returned (.bool true) ∧ Below W.heap.size W w' := by
  obtain ⟨q, rfl⟩ := req_of W x cs f
  exact reqs_calls W q
end Go.Proofs.Ythkdihpbdaehbaa.Pr
namespace Go.Proofs.Ythkdihpbdaehbaa.Pr
set_option linter.unusedVariables false
set_option linter.unusedSimpArgs false
open Go.RowKit Go.Proofs.YthkdihpbdaehbaaW.PrintWords Go.Proofs.Ythkdihpbdaehbaa.Bs Go.WideShapes
def k40 := Kd.pair (Kd.int .i64) (Kd.int .i64)
def k42 := Kd.pair (Kd.int .i64) (Kd.pair (Kd.slice 3 (Kd.int .i64)) (Kd.pair Kd.bool (Kd.pair k40 Kd.string)))
def k44 := Kd.pair (Kd.int .i64) (Kd.pair (Kd.int .i64) (Kd.pair (Kd.int .i64) (Kd.pair (Kd.int .i64) (Kd.pair (Kd.int .u64) (Kd.pair k42 Kd.string)))))
theorem opens38 : Opens Try.prog 38 (Kd.slice 3 (Kd.int .i64)) (fun _ => True) := (Opens.slice Try.underlying38 (by kernel_rfl) (Opens.int Try.underlying3)).imp (fun _ _ => trivial)
theorem opens40 : Opens Try.prog 40 k40 (fun x => (Lit.int .i64 x.2).wf = true) :=
  (Opens.struct Try.underlying40 (by kernel_rfl) (OpensF.cons (Opens.int Try.underlying3) (by kernel_rfl) rfl (OpensF.one (Opens.int Try.underlying2) (by kernel_rfl) rfl))).imp (fun x h => h.2)
theorem opens42 : Opens Try.prog 42 k42 (fun x => (Lit.int .i64 x.2.2.2.1.2).wf = true) :=
  (Opens.struct Try.underlying42 (by kernel_rfl) (OpensF.cons (Opens.int Try.underlying3) (by kernel_rfl) rfl (OpensF.cons opens38 (by kernel_rfl) rfl (OpensF.cons (Opens.bool Try.underlying4) (by kernel_rfl) rfl (OpensF.cons opens40 (by kernel_rfl) rfl (OpensF.one (Opens.string Try.underlying9) (by kernel_rfl) rfl)))))).imp (fun x h => h.2.2.2.1)
theorem opens44 : Opens Try.prog 44 k44 (fun x => (Lit.int .u64 x.2.2.2.2.1).wf = true ∧ (Lit.int .i64 x.2.2.2.2.2.1.2.2.2.1.2).wf = true) :=
  (Opens.struct Try.underlying44 (by kernel_rfl) (OpensF.cons (Opens.int Try.underlying3) (by kernel_rfl) rfl (OpensF.cons (Opens.int Try.underlying28) (by kernel_rfl) rfl (OpensF.cons (Opens.int Try.underlying3) (by kernel_rfl) rfl (OpensF.cons (Opens.int Try.underlying3) (by kernel_rfl) rfl (OpensF.cons (Opens.int Try.underlying37) (by kernel_rfl) rfl (OpensF.cons opens42 (by kernel_rfl) rfl (OpensF.one (Opens.string Try.underlying9) (by kernel_rfl) rfl)))))))).imp (fun x h => ⟨h.2.2.2.2.1, h.2.2.2.2.2.1⟩)
theorem agg44 {W : World} {r : Reach} {base : Nat} {v : Value} (h : Value.okWide Try.prog W r base 44 v) : ∃ cs, v = .agg cs := by
  obtain ⟨cs, e, _⟩ := okWide_struct Try.underlying44 h
  exact ⟨cs, e⟩
theorem wf_u64 {x : Int} (h : (Lit.int .u64 x).wf = true) : 0 ≤ x ∧ x ≤ 18446744073709551615 := by
  simp [Lit.wf, IntKind.min, IntKind.max, IntKind.signed, IntKind.bits] at h
  omega
theorem wf_i64 {x : Int} (h : (Lit.int .i64 x).wf = true) : -9223372036854775808 ≤ x ∧ x ≤ 9223372036854775807 := by
  simp [Lit.wf, IntKind.min, IntKind.max, IntKind.signed, IntKind.bits] at h
  omega
theorem rep_of (W : World) (x) (cs : Array Value) (h : k44.K W x (Value.agg cs).cells.toList) (g : (Lit.int .u64 x.2.2.2.2.1).wf = true ∧ (Lit.int .i64 x.2.2.2.2.2.1.2.2.2.1.2).wf = true) : ∃ (q : Rp) (A : Option Addr) (c : Nat), cs = q.cells (.slice A q.nodes.length c) ∧ q.nodes.length ≤ c ∧ (Kd.int .i64).C W A q.nodes.length q.nodes ∧ q.kinds := by
  obtain ⟨k, er, tx, id, ti, ⟨vt, ns, vb, ⟨tag, vv⟩, vs⟩, s⟩ := x
  obtain ⟨c1, d1, e, h1, c2, d2, rfl, h2, c3, d3, rfl, h3, c4, d4, rfl, h4, c5, d5, rfl, h5, c6, d6, rfl, hV, h6⟩ := h
  obtain ⟨c7, d7, rfl, h7, c8, d8, rfl, h8, c9, d9, rfl, h9, c10, d10, rfl, hD, h10⟩ := hV
  obtain ⟨c11, d11, rfl, h11, h12⟩ := hD
  obtain ⟨A, c, e8, hle, hC⟩ := h8
  have e1 : c1 = [.int .i64 k] := h1
  have e2 : c2 = [.int .i64 er] := h2
  have e3 : c3 = [.int .i64 tx] := h3
  have e4 : c4 = [.int .i64 id] := h4
  have e5 : c5 = [.int .u64 ti] := h5
  have e6 : d6 = [.string s] := h6
  have e7 : c7 = [.int .i64 vt] := h7
  have e9 : c9 = [.bool vb] := h9
  have e10 : d10 = [.string vs] := h10
  have e11 : c11 = [.int .i64 tag] := h11
  have e12 : d11 = [.int .i64 vv] := h12
  subst e1 e2 e3 e4 e5 e6 e7 e8 e9 e10 e11 e12
  exact ⟨⟨k, er, tx, id, ti, vt, ns, vb, tag, vv, vs, s⟩, A, c, Array.toList_inj.mp e, hle, hC, ⟨wf_u64 g.1, wf_i64 g.2⟩⟩
theorem reps_row (W : World) (x) (cs : Array Value) (f : k44.K W x (Value.agg cs).cells.toList) (g : (Lit.int .u64 x.2.2.2.2.1).wf = true ∧ (Lit.int .i64 x.2.2.2.2.2.1.2.2.2.1.2).wf = true) : Calls Try.prog 5 #[.agg cs] W fun e w' => e = .returned (.bool true) ∧ Below W.heap.size W w' := by
  obtain ⟨q, A, c, rfl, hle, hC, hk⟩ := rep_of W x cs f g
  exact reps_calls W q A c hC hle hk
end Go.Proofs.Ythkdihpbdaehbaa.Pr
