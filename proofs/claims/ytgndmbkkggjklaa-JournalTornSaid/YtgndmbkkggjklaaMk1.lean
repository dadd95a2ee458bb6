import Derived.Test.YtgndmbkkggjklaaBt
import Derived.Test.YtgndmbkkggjklaaJoPa
import Derived.Test.YtgndmbkkggjklaaJoPb
import Derived.Laws.Bits64b
import Derived.Deep.RegionHeld3
import Derived.Deep.RegionLaw
import Derived.StillTailTactics
import Derived.BigRegion
import Derived.BigQuiet
import Derived.Test.YtgndmbkkggjklaaJpI
namespace Go.Proofs.Ytgndmbkkggjklaa.Jo
set_option linter.unusedVariables false
set_option linter.unusedSimpArgs false
open Go.RowKit Go.Proofs.YtgndmbkkggjklaaW.PrintWords Go.Proofs.YtgndmbkkggjklaaW.PrintMore Go.Proofs.Ytgndmbkkggjklaa.Bs

/-- A number's bytes, the greatest first. -/
def be : Nat → Int → List Int
  | 0, _ => []
  | s + 1, n => n / 256 ^ s % 256 :: be s n
theorem be_length (s : Nat) (n : Int) : (be s n).length = s := by
  induction s with
  | zero => rfl
  | succ s ih => simp [be, ih]
theorem be_bytes (s : Nat) (n : Int) : ∀ c ∈ be s n, 0 ≤ c ∧ c ≤ 255 := by
  induction s with
  | zero => simp [be]
  | succ s ih =>
    intro c hc
    simp only [be, List.mem_cons] at hc
    rcases hc with rfl | hc
    · omega
    · exact ih c hc
theorem z5ok : (Value.int .u8 0).cells.size = (Kd.int .u8).sz ∧ 0 < (Kd.int .u8).sz ∧ 0 < 1 := ⟨rfl, by decide, by decide⟩
/-- A row of bytes that has grown: where it lies, what else has changed. -/
structure Grew (B : Nat) (w : World) (v v' : Value) (xs : List Int) (w' : World) : Prop where
  row : (Kd.int .u8).R 5 w' B (fun _ => True) v' xs
  at_ : ∀ k, some k = v'.ownBlock → some k = v.ownBlock ∨ w.heap.size ≤ k
  ch : Ch (fun k => some k = v.ownBlock) w w'
theorem Grew.refl {B : Nat} {w : World} {v : Value} {xs : List Int} (h : (Kd.int .u8).R 5 w B (fun _ => True) v xs) : Grew B w v v xs w := ⟨h, fun _ hk => .inl hk, Ch.refl _ _⟩
theorem Grew.trans {B : Nat} {w w1 w2 : World} {v v1 v2 : Value} {xs ys : List Int} (h : Grew B w v v1 xs w1) (k : Grew B w1 v1 v2 ys w2) : Grew B w v v2 ys w2 := by
  have hz := h.ch.size
  refine ⟨k.row, fun i hi => ?_, h.ch.trans (k.ch.mono (fun i hi _ => h.at_ i hi))⟩
  rcases k.at_ i hi with e | e
  · exact h.at_ i e
  · exact .inr (Nat.le_trans hz e)
theorem Grew.before {B : Nat} {w W w' : World} {v v' : Value} {xs : List Int} (hW : Below w.heap.size w W) (k : Grew B W v v' xs w') : Grew B w v v' xs w' :=
  ⟨k.row, fun i hi => (k.at_ i hi).elim .inl (fun h => .inr (Nat.le_trans hW.size h)), (Ch.below (Ch.refl _ w) hW).trans (k.ch.mono (fun i hi _ => .inl hi))⟩
theorem Grew.after {B : Nat} {w w1 w2 : World} {v v' : Value} {xs : List Int} (h : Grew B w v v' xs w1) (hW : Below w1.heap.size w1 w2) : Grew B w v v' xs w2 :=
  ⟨Kd.R_below h.row hW, h.at_, h.ch.below hW⟩
theorem Grew.xs {B : Nat} {w w' : World} {v v' : Value} {xs ys : List Int} (h : Grew B w v v' xs w') (e : xs = ys) : Grew B w v v' ys w' := e ▸ h
theorem R_own8 {w : World} {B : Nat} {ok : Nat → Prop} {v : Value} {xs : List Int} (h : (Kd.int .u8).R 5 w B ok v xs) : (Kd.int .u8).R 5 w B (fun k => some k = v.ownBlock) v xs :=
  Kd.R_of_own (Kd.own_of_R h) (fun k hk => hk.symm)
/-- A block that stood stays, but the row's own. -/
theorem Grew.heap {B : Nat} {w w' : World} {v v' : Value} {xs : List Int} (h : Grew B w v v' xs w') {k : Nat} {o : Obj} (ho : w.heap[k]? = some o) (hn : some k ≠ v.ownBlock) : w'.heap[k]? = some o := h.ch.heap ho hn
theorem base_world (w : World) (B : Nat) (hB : B ≤ w.heap.size) : ∃ w0 : World, w0.heap.size = B ∧ Below w0.heap.size w0 w := by
  refine ⟨{ w with heap := w.heap.extract 0 B }, by simp; omega, rfl, rfl, rfl, by simp; omega, ?_⟩
  intro k hk
  have hk' : k < B := by simpa [Nat.min_eq_left hB] using hk
  show w.heap[k]? = (w.heap.extract 0 B)[k]?
  rw [Array.getElem?_extract]
  simp [hk', Nat.min_eq_left hB]
theorem wrap_pred (j : Nat) (h : j ≤ 9223372036854775807) : wrap64 ((j : Int) - 1) = (j : Int) - 1 := by unfold wrap64; omega
theorem wrap_succ (j : Nat) (h : j < 9223372036854775807) : wrap64 ((j : Int) + 1) = ((j + 1 : Nat) : Int) := by unfold wrap64; omega
theorem meas_up (j n : Nat) (h : j < n) (hn : n ≤ 9223372036854775807) : n - (intOf (.int .i64 (wrap64 ((j : Int) + 1)))).toNat < n - (intOf (.int .i64 (j : Int))).toNat := by
  rw [wrap_succ j (by omega)]; simp only [intOf, Int.toNat_natCast]; omega
theorem meas_in (j n : Nat) (h : j < n) : n - (intOf (.int .i64 ((j : Int) + 1))).toNat < n - (intOf (.int .i64 (j : Int))).toNat := by
  rw [show ((j : Int) + 1) = ((j + 1 : Nat) : Int) by omega]; simp only [intOf, Int.toNat_natCast]; omega
theorem pow_bytes (n : Int) (j : Nat) (hj : 1 ≤ j) : n / 2 ^ (8 * ((j : Int) - 1)).toNat = n / 256 ^ (j - 1) := by
  rw [show (8 * ((j : Int) - 1)).toNat = 8 * (j - 1) by omega, Int.pow_mul]; rfl
theorem laid_in (size : Nat) (hs : size ≤ 8) (n : Int) (h0 : 0 ≤ n) (l : List Int) (L i : Int) : ∀ (j k : Nat) (xs : List Int), j ≤ size → xs.length + j ≤ 140737488355328 → journal_laid.l1 (j + 1 + k) xs size n ((j : Int) - 1) l L i = journal_laid.l0 k (xs ++ be j n) size l L (wrap64 (i + 1)) := by
  intro j
  induction j with
  | zero => intro k xs _ _; rw [show 0 + 1 + k = k + 1 by omega, journal_laid.l1, if_neg (by omega)]; simp [be]
  | succ j ih =>
    intro k xs hj hl
    have e : wrap64 (8 * (((j + 1 : Nat) : Int) - 1)) = 8 * (((j + 1 : Nat) : Int) - 1) := by unfold wrap64; omega
    have e2 : wrap64 (((j + 1 : Nat) : Int) - 1 - 1) = (j : Int) - 1 := by unfold wrap64; omega
    have e3 : shr .u64 n (8 * (((j + 1 : Nat) : Int) - 1)) % 256 = n / 256 ^ j % 256 := by
      have := pow_bytes n (j + 1) (by omega)
      simp only [Nat.add_sub_cancel] at this
      rw [← this, shr, Nat.min_eq_left (by show _ ≤ 64; omega)]
    rw [show j + 1 + 1 + k = (j + 1 + k) + 1 by omega, journal_laid.l1, if_pos (by omega), e, if_pos (by omega), if_pos (by omega), e2, e3, ih k _ (by omega) (by simp; omega), List.append_assoc]
    rfl
theorem laid_out (size : Nat) (hs : size ≤ 8) (l : List Int) (h0 : ∀ n ∈ l, 0 ≤ n) (hl : l.length ≤ 1000000) : ∀ (d i : Nat) (xs : List Int), i + d = l.length → xs.length + d * size ≤ 140737488355328 → journal_laid.l0 (d * (size + 2) + 1) xs size l l.length i = some (xs ++ (l.drop i).flatMap (be size)) := by
  intro d
  induction d with
  | zero => intro i xs hi _; rw [show i = l.length by omega, show 0 * (size + 2) + 1 = 0 + 1 by omega, journal_laid.l0, if_neg (by omega)]; simp
  | succ d ih =>
    intro i xs hi hx
    have hil : i < l.length := by omega
    have e1 : rd l (i : Int) = l[i] := by simp [rd, List.getD, hil]
    have e2 : l.drop i = l[i] :: l.drop (i + 1) := by rw [List.drop_eq_getElem_cons hil]
    have e3 : (d + 1) * (size + 2) = size + 1 + (d * (size + 2) + 1) := by rw [Nat.add_mul]; omega
    have e4 : (d + 1) * size = d * size + size := by rw [Nat.add_mul]; omega
    rw [journal_laid.l0, if_pos (by omega), if_pos (by omega), if_pos (by omega), e1, wrap_pred size (by omega), e3, laid_in size hs _ (h0 _ (List.getElem_mem hil)) l _ _ size _ _ (Nat.le_refl _) (by omega), wrap_succ i (by omega), ih (i + 1) _ (by omega) (by rw [List.length_append, be_length]; omega), e2, List.flatMap_cons, List.append_assoc]
theorem laid_calls (B : Nat) (w : World) (v : Value) (xs : List Int) (size : Nat) (A : Option Addr) (c : Nat) (l : List Int) (okF : Nat → Prop) (ho : (Kd.int .u8).R 5 w B (fun _ => True) v xs) (hB : B ≤ w.heap.size)
    (hF : Kd.F (Kd.int .u64) w okF A l.length l) (hd : ∀ k, okF k → some k ≠ v.ownBlock) (hc : l.length ≤ c) (h0 : ∀ n ∈ l, 0 ≤ n) (hs : size ≤ 8) (hl : l.length ≤ 1000000) (hx : xs.length + l.length * size ≤ 140737488355328) :
    Calls Try.prog 15 #[v, .int .i64 size, .slice A l.length c] w fun e w' => ∃ v', e = .returned v' ∧ Grew B w v v' (xs ++ l.flatMap (be size)) w' := by
  obtain ⟨w0, rfl, hw0⟩ := base_world w B hB
  refine (journal_laid.calls _ (fun k => some k = v.ownBlock) v xs size A c l _ w0 w hw0 (R_own8 ho) (fun W hW => Kd.F_now (Kd.F_kept hF hW (fun k hk => hd k hk))) hc (by unfold journal_laid.f; exact laid_out size hs l h0 hl l.length 0 xs (by omega) hx)).mono ?_
  rintro e w' ⟨v', rfl, hR, hb, hk⟩
  refine ⟨v', rfl, Kd.R_mono hR (fun _ _ => trivial), fun k hk => hR.1 k hk.symm, ?_⟩
  exact ⟨hb.os.trans hw0.os.symm, hb.tape.trans hw0.tape.symm, hb.output.trans hw0.output.symm, hk.1, fun k hk1 hk2 => hk.2 k hk1 hk2⟩
end Go.Proofs.Ytgndmbkkggjklaa.Jo
namespace Go.Proofs.Ytgndmbkkggjklaa.Jo
set_option linter.unusedVariables false
set_option linter.unusedSimpArgs false
open Go.RowKit Go.Proofs.YtgndmbkkggjklaaW.PrintWords Go.Proofs.YtgndmbkkggjklaaW.PrintMore Go.Proofs.Ytgndmbkkggjklaa.Bs

/-- A block of cells as a row of elements. -/
theorem F_block {α : Type} (d : Kd α) {w : World} {g t : Nat} {cs : Array Value} {xs : List α} {okx : Nat → Prop} (hg : w.heap[g]? = some (.cells cs t (0, 0))) (hr : Reps (fun x c => Kd.FK d w okx x c) d.sz xs cs.toList) (hm : xs.length ≤ 9223372036854775807) :
    Kd.F d w (fun k => okx k ∨ k = g) (some ⟨g, 0, none⟩) xs.length xs := by
  intro W' hW
  have hg' : W'.heap[g]? = some (.cells cs t (0, 0)) := (hW g (.inr rfl) (blk_lt hg)).trans hg
  refine ⟨rfl, hm, fun _ => ⟨⟨g, 0, none⟩, rfl, fun j p hj => ⟨(cs.toList.drop (j * d.sz)).take d.sz, d.K_len (Kd.FK_now (hr.2 j p hj)), hr.2 j p hj W' (fun k hk hlt => hW k (.inl hk) hlt), fun i u hu => ?_⟩⟩⟩
  rw [add_plain, blk_cell hg']
  rw [List.getElem?_take] at hu
  split at hu
  · rw [List.getElem?_drop] at hu
    simpa using hu
  · cases hu
theorem FK_int {w : World} {ok : Nat → Prop} (k : IntKind) (x : Int) : Kd.FK (Kd.int k) w ok x [.int k x] := fun _ _ => rfl
theorem FK_string {w : World} {ok : Nat → Prop} (x : ByteArray) : Kd.FK Kd.string w ok x [.string x] := fun _ _ => rfl
theorem reps1 {α : Type} {R : α → List Value → Prop} {x : α} {v : Value} (h : R x [v]) : Reps R 1 [x] [v] := by
  have := (Reps.none R 1).snoc h rfl
  simpa using this
theorem reps2 {α : Type} {R : α → List Value → Prop} {x y : α} {u v : Value} (h : R x [u]) (k : R y [v]) : Reps R 1 [x, y] [u, v] := by
  have := (reps1 h).snoc k rfl
  simpa using this
theorem own_eq {v v' : Value} (h : ∀ k, v'.ownBlock = some k → some k = v.ownBlock) (k : Nat) (hk : some k = v'.ownBlock) : some k = v.ownBlock := h k hk.symm
section
variable {P : Program} {ops : Array Oper} {rest : List Oper} {o : Oper} {a : Act} {Q : Exit → Act → World → Prop}
/-- append(v, ys...) on a row of bytes of the call's own. -/
theorem gcat {W : World} (base : Nat) (hgd : o.guard = none) (s x : Operand) (t : TypeId)
    (ho : o.op = .call { callee := .builtin .append, args := #[s, x], argTypes := #[t, t] })
    (ht : P.underlying t = some (.slice 5)) (hinfo : (P.info? 5).map (fun i => (i.zero, i.size, i.bytes)) = some (some (.int .u8 0), 1, 1))
    (v : Value) (xs ys : List Int) (A' : Option Addr) (c' : Nat) (hs : a.eval s = v) (hx : a.eval x = .slice A' ys.length c')
    (HO : (Kd.int .u8).R 5 W base (fun _ => True) v xs) (HC : (Kd.int .u8).C W A' ys.length ys) (hbase : base ≤ W.heap.size) (hl : xs.length + ys.length ≤ 140737488355328)
    (h : ∀ A c w1 zs, Aside0 (zs = xs ++ ys) → Grew base W v (.slice A zs.length c) zs w1 → wpList P ops Q rest (a.put o.dst (.slice A zs.length c)) w1) :
    wpList P ops Q (o :: rest) a W := by
  refine Kd.R_append_rows (Kd.int .u8) (w0 := W) base hgd s x t 5 (.int .u8 0) 1 ho ht hinfo rfl (by decide) (by omega) v xs ys A' ys.length c' (fun _ => True) (fun _ => False) hs hx HO HC (fun _ _ h => h) (fun _ h => h.elim) (fun _ _ => trivial) (Below.refl _ _) hbase (by omega) ?_
  intro v1 w1 hr hb hg hat
  obtain ⟨A, c, rfl⟩ := Kd.R_slice hr
  refine h A c w1 _ ⟨rfl⟩ ⟨hr, fun k hk => ?_, ⟨hg.os, hg.tape, hg.output, hg.size, fun k hk hn => hg.block k hk (fun e => hn e)⟩⟩
  rcases hat with hat | ⟨b, hb1, hb2⟩
  · exact .inl (hk.trans hat)
  · rw [hb1] at hk; injection hk with hk; exact .inr (by omega)
/-- append(v, s...) with a string. -/
theorem gstr {W : World} (base : Nat) (hgd : o.guard = none) (s x : Operand) (t u : TypeId)
    (ho : o.op = .call { callee := .builtin .append, args := #[s, x], argTypes := #[t, u] })
    (ht : P.underlying t = some (.slice 5)) (hu : P.underlying u = some .string) (hinfo : (P.info? 5).map (fun i => (i.zero, i.size, i.bytes)) = some (some (.int .u8 0), 1, 1))
    (v : Value) (xs : List Int) (y : ByteArray) (hs : a.eval s = v) (hx : a.eval x = .string y) (HO : (Kd.int .u8).R 5 W base (fun _ => True) v xs) (hbase : base ≤ W.heap.size) (hl : xs.length + y.size ≤ 140737488355328)
    (h : ∀ A c w1 zs, Aside0 (zs = xs ++ bytesOf y) → Grew base W v (.slice A zs.length c) zs w1 → wpList P ops Q rest (a.put o.dst (.slice A zs.length c)) w1) :
    wpList P ops Q (o :: rest) a W := by
  refine wpList_plain hgd fun K hK => ?_
  have hw : Region.wanted o (yielded ops a.tmps) = true := by simp [Region.wanted, hgd]
  have e : xs.length + y.size = (xs ++ bytesOf y).length := by rw [List.length_append, bytesOf_length]
  have := str_step (ops := ops) (Q := Q) (Kc := K) base hw s x t u 5 ho ht hu hinfo v xs y (fun _ => True) hs hx HO hbase hl (fun A c W1 h1 h2 h3 => hK _ _ (by rw [e] at h1 h3 ⊢; exact h A c W1 _ ⟨rfl⟩ ⟨h1, fun k hk => h3 k hk.symm, h2⟩))
  rwa [if_pos hw] at this
/-- append(v, x), one byte. -/
theorem gbyte {W : World} (base : Nat) (hgd : o.guard = none) (s x : Operand) (t : TypeId)
    (ho : o.op = .call { callee := .builtin .append, args := #[s, x], argTypes := #[t, t] })
    (ht : P.underlying t = some (.slice 5)) (hinfo : (P.info? 5).map (fun i => (i.zero, i.size, i.bytes)) = some (some (.int .u8 0), 1, 1))
    (v : Value) (xs : List Int) (p : Int) (hs : a.eval s = v) (hx : a.eval x = .slice (some ⟨W.heap.size, 0, none⟩) 1 1)
    (HO : (Kd.int .u8).R 5 W base (fun _ => True) v xs) (hbase : base ≤ W.heap.size) (hl : xs.length + 1 ≤ 140737488355328)
    (h : ∀ A c w1 zs, Aside0 (zs = xs ++ [p]) → Grew base W v (.slice A zs.length c) zs w1 → wpList P ops Q rest (a.put o.dst (.slice A zs.length c)) w1) :
    wpList P ops Q (o :: rest) a (W.alloc (.cells [Value.int .u8 p].toArray 5)) := by
  have e : xs.length + 1 = (xs ++ [p]).length := by simp
  refine app_list (Kd.int .u8) (W := W) base hgd s x t 5 (.int .u8 0) 1 ho ht hinfo ⟨rfl, by decide, by decide⟩ v xs p [.int .u8 p] (fun _ => True) (fun _ => False) hs hx rfl (fun _ h => h.elim) HO hbase (by omega) ?_
  intro A c w1 h1 h2 h3
  rw [e] at h1 h3 ⊢
  exact h A c w1 _ ⟨rfl⟩ ⟨Kd.R_mono h1 (fun _ _ => trivial), fun k hk => h3 k hk.symm, h2⟩
end
def textB (s : ByteArray) : List Int := be 2 s.size ++ bytesOf s
def rowB (l : List Int) : List Int := be 2 l.length ++ l.flatMap (be 4)
theorem textB_len (s : ByteArray) : (textB s).length = s.size + 2 := by simp [textB, be_length, bytesOf_length]; omega
theorem flat_len (s : Nat) (l : List Int) : (l.flatMap (be s)).length = l.length * s := by
  induction l with
  | nil => simp
  | cons a l ih => rw [List.flatMap_cons, List.length_append, be_length, ih, List.length_cons, Nat.add_mul]; omega
theorem rowB_len (l : List Int) : (rowB l).length = l.length * 4 + 2 := by rw [rowB, List.length_append, be_length, flat_len]; omega
end Go.Proofs.Ytgndmbkkggjklaa.Jo
namespace Go.Proofs.Ytgndmbkkggjklaa.Jo
set_option linter.unusedVariables false
set_option linter.unusedSimpArgs false
open Go.RowKit Go.Proofs.YtgndmbkkggjklaaW.PrintWords Go.Proofs.YtgndmbkkggjklaaW.PrintMore Go.Proofs.Ytgndmbkkggjklaa.Bs

theorem flat_take {α β : Type} (f : α → List β) (l : List α) (i : Nat) (h : i < l.length) : (l.take (i + 1)).flatMap f = (l.take i).flatMap f ++ f l[i] := by
  rw [List.take_succ_eq_append_getElem h, List.flatMap_append]; simp
theorem flat_le {α : Type} (f : α → List Int) (n : Nat) : ∀ (l : List α), (∀ x ∈ l, (f x).length ≤ n) → (l.flatMap f).length ≤ l.length * n
  | [], _ => by simp
  | a :: l, h => by
    rw [List.flatMap_cons, List.length_append, List.length_cons, Nat.add_mul]
    have := flat_le f n l (fun x hx => h x (List.mem_cons_of_mem _ hx))
    have := h a (List.mem_cons_self)
    omega
theorem laid_lit (B : Nat) (w : World) (v : Value) (xs : List Int) (size : Nat) (ns : List Int) (cs : Array Value) (hcs : cs.toList = ns.map (Value.int .u64)) (ho : (Kd.int .u8).R 5 w B (fun _ => True) v xs) (hB : B ≤ w.heap.size)
    (h0 : ∀ n ∈ ns, 0 ≤ n) (hs : size ≤ 8) (hl : ns.length ≤ 1000000) (hx : xs.length ≤ 100100000000) :
    Calls Try.prog 15 #[v, .int .i64 size, .slice (some ⟨w.heap.size, 0, none⟩) ns.length ns.length] (w.alloc (.cells cs 22)) fun e w' => ∃ v', e = .returned v' ∧ Grew B w v v' (xs ++ ns.flatMap (be size)) w' := by
  have hW := below_alloc (Below.refl w.heap.size w) (.cells cs 22)
  have hg := heap_alloc_new w (.cells cs 22)
  have hF : Kd.F (Kd.int .u64) (w.alloc (.cells cs 22)) (fun k => False ∨ k = w.heap.size) (some ⟨w.heap.size, 0, none⟩) ns.length ns := by
    refine F_block (Kd.int .u64) (t := 22) (cs := cs) hg ⟨by rw [hcs]; simp [Kd.int, Kd.scalar], fun j p hj => ?_⟩ (by omega)
    intro W' _
    show _ = [Value.int .u64 p]
    rw [hcs]
    have hj1 : j < ns.length := (List.getElem?_eq_some_iff.1 hj).1
    have hj2 : ns[j] = p := (List.getElem?_eq_some_iff.1 hj).2
    show List.take 1 (List.drop (j * 1) _) = _
    rw [Nat.mul_one, List.drop_eq_getElem_cons (by simpa using hj1)]
    simp [hj2]
  have hm : ns.length * size ≤ 1000000 * 8 := Nat.mul_le_mul hl hs
  refine (laid_calls B _ v xs size _ ns.length ns _ (Kd.R_below ho hW) (Nat.le_trans hB hW.size) hF ?_ (Nat.le_refl _) h0 hs hl (by omega)).mono ?_
  · rintro k (h | rfl) e
    · exact h
    · have := own_lt (Kd.own_of_R ho) _ e.symm; omega
  · rintro e w' ⟨v', rfl, hG⟩
    exact ⟨v', rfl, hG.before hW⟩
theorem laid1 (B : Nat) (w : World) (v : Value) (xs : List Int) (size : Nat) (n : Int) (ho : (Kd.int .u8).R 5 w B (fun _ => True) v xs) (hB : B ≤ w.heap.size) (h0 : 0 ≤ n) (hs : size ≤ 8) (hx : xs.length ≤ 100100000000) :
    Calls Try.prog 15 #[v, .int .i64 size, .slice (some ⟨w.heap.size, 0, none⟩) 1 1] (w.alloc (.cells #[.int .u64 n] 22)) fun e w' => ∃ v', e = .returned v' ∧ Grew B w v v' (xs ++ be size n) w' := by
  have := laid_lit B w v xs size [n] #[.int .u64 n] rfl ho hB (by simpa using h0) hs (by simp) hx
  simpa using this
set_option maxRecDepth 100000 in
set_option maxHeartbeats 400000 in
theorem texts_calls (B : Nat) (w : World) (v : Value) (xs : List Int) (A : Option Addr) (c : Nat) (l : List ByteArray) (okF : Nat → Prop) (ho : (Kd.int .u8).R 5 w B (fun _ => True) v xs) (hB : B ≤ w.heap.size)
    (hF : Kd.F Kd.string w okF A l.length l) (hd : ∀ k, okF k → some k ≠ v.ownBlock) (hc : l.length ≤ c) (hl : l.length ≤ 10) (hs : ∀ s ∈ l, s.size ≤ 70000) (hx : xs.length ≤ 100000000000) :
    Calls Try.prog 16 #[v, .slice A l.length c] w fun e w' => ∃ v', e = .returned v' ∧ Grew B w v v' (xs ++ l.flatMap textB) w' := by
  have H0 := Aside0.mk (Grew.refl ho)
  have HF := Aside0.mk hF
  have HD := Aside0.mk hd
  have HS := Aside0.mk hs
  have HBW := Aside0.mk hB
  clear ho hF hd hs hB
  go_enter Try.func16, Try.ntmps16
  go_wp2
  go_loopw [0, 9] (fun v0 v9 wr => ∃ i : Nat, v9 = .int .i64 i ∧ i ≤ l.length ∧ Aside0 (Grew B w v v0 (xs ++ (l.take i).flatMap textB) wr)) (fun _ v9 _ => (l.length - (intOf v9).toNat))
  case atStart => exact ⟨0, rfl, Nat.zero_le _, ⟨by simpa using H0.out⟩⟩
  case round =>
    clear H0
    obtain ⟨i, rfl, hi, HG⟩ := hrel
    by_cases hil : i < l.length
    · have hlen : (xs ++ (l.take i).flatMap textB).length ≤ 100001000000 := by
        have h1 := flat_le textB 70002 (l.take i) (fun s hs => by rw [textB_len]; have := HS.out s (List.mem_of_mem_take hs); omega)
        rw [List.length_take] at h1
        rw [List.length_append]
        have : min i l.length ≤ 10 := by omega
        have : min i l.length * 70002 ≤ 10 * 70002 := Nat.mul_le_mul_right _ this
        omega
      have hsz := HS.out _ (List.getElem_mem hil)
      have hnext := flat_take textB l i hil
      have hFr := Kd.F_step HF.out (fun k hk hlt => HG.out.ch.block k hlt (fun e => HD.out k hk e))
      obtain ⟨ad, e, hx0⟩ := Kd.at_string (Kd.F_now hFr) i (by omega) (by omega)
      cases e
      have hrd : rdOf ByteArray.empty l (i : Int) = l[i] := by simp [rdOf, List.getD, hil]
      rw [hrd, Int.toNat_natCast] at hx0
      generalize hy : l[i] = y at *
      generalize hys : xs ++ (l.take i).flatMap textB = ys at *
      have hu : IntKind.u64.wrap (y.size : Int) = y.size := by rw [IntKind.wrap_u64]; omega
      have HLEN := Aside0.mk hlen
      have HN := Aside0.mk hnext
      have HSZ := Aside0.mk hsz
      have HYS := Aside0.mk hys
      clear hlen hnext hsz hys hFr hrd hy
      have hi0 : (0 : Int) ≤ (i : Int) := by omega
      have hi1 : (i : Int) < (l.length : Int) := by omega
      go_wp2_with fail
      refine (laid1 B wr u0 ys 2 (y.size : Int) HG.out.row (Nat.le_trans HBW.out HG.out.ch.size) (by omega) (by decide) (by have := HLEN.out; omega)).mono ?_
      rintro e w1 ⟨v1, rfl, hG1⟩
      have hG2 := HG.out.trans hG1
      have hl2 : (ys ++ be 2 (y.size : Int)).length + y.size ≤ 140737488355328 := by rw [List.length_append, be_length]; have := HLEN.out; have := HSZ.out; omega
      obtain ⟨A1, c1, rfl⟩ := Kd.R_slice hG2.row
      generalize hzs : ys ++ be 2 (y.size : Int) = zs at *
      have HG2 := Aside0.mk hG2
      have HL2 := Aside0.mk hl2
      have HZS := Aside0.mk hzs
      clear hG1 hG2 hl2 hzs
      go_wp2_with (first | ((with_reducible refine gate_builtin (b := .append) (xs := #[.tmp 18, .tmp 19]) rfl ?_); at_builtin; go_loud (refine gstr B rfl (.tmp 18) (.tmp 19) 28 9 rfl Try.underlying28 Try.underlying9 info5 _ zs y rfl rfl HG2.out.row (Nat.le_trans HBW.out HG2.out.ch.size) HL2.out ?_); intro A3 c3 w3 z3 N3 hG3; have HG3 := Aside0.mk (HG2.out.trans hG3); clear hG3))
      go_roundw
      case rel => exact ⟨i + 1, by simp, by omega, ⟨HG3.out.xs (by rw [HN.out, N3.out, ← HZS.out, ← HYS.out]; simp [textB])⟩⟩
      case measure => simp [intOf]; omega
    · have : i = l.length := by omega
      subst this
      have HG2 := Aside0.mk (show Grew B w v u0 (xs ++ l.flatMap textB) wr by simpa using HG.out)
      go_wp2
      go_ret
      exact ⟨_, rfl, HG2.out⟩
end Go.Proofs.Ytgndmbkkggjklaa.Jo
namespace Go.Proofs.Ytgndmbkkggjklaa.Jo
set_option linter.unusedVariables false
set_option linter.unusedSimpArgs false
open Go.RowKit Go.Proofs.YtgndmbkkggjklaaW.PrintWords Go.Proofs.YtgndmbkkggjklaaW.PrintMore Go.Proofs.Ytgndmbkkggjklaa.Bs

/-- A row of rows, at a place. -/
theorem F_rowAt {W : World} {ok : Nat → Prop} {A : Option Addr} {l : List (List Int)} (h : Kd.F (Kd.slice 3 (Kd.int .i64)) W ok A l.length l) (i : Nat) (hi : i < l.length) :
    ∃ ad A0 c0, A = some ad ∧ W.cell? (ad.add i) = some (.slice A0 l[i].length c0) ∧ l[i].length ≤ c0 ∧ Kd.F (Kd.int .i64) W ok A0 l[i].length l[i] := by
  obtain ⟨ad, c, e, hl, hK, hc⟩ := Kd.F_get h ([] : List Int) (i : Int) (by omega) (by omega)
  have hrd : l.getD (i : Int).toNat [] = l[i] := by simp [List.getD, hi]
  rw [hrd] at hK
  obtain ⟨A0, c0, rfl, h1, h2⟩ := Kd.FK_slice_open hK
  have := hc.1 0 _ rfl
  simp only [Int.toNat_natCast, Nat.add_zero, Kd.slice, Nat.mul_one] at this
  exact ⟨ad, A0, c0, e, this, h1, h2⟩
set_option maxRecDepth 100000 in
set_option maxHeartbeats 400000 in
theorem rows_calls (B : Nat) (w : World) (v : Value) (xs : List Int) (A : Option Addr) (c : Nat) (l : List (List Int)) (okF : Nat → Prop) (ho : (Kd.int .u8).R 5 w B (fun _ => True) v xs) (hB : B ≤ w.heap.size)
    (hF : Kd.F (Kd.slice 3 (Kd.int .i64)) w okF A l.length l) (hd : ∀ k, okF k → some k ≠ v.ownBlock) (hc : l.length ≤ c) (hl : l.length ≤ 10) (hs : ∀ s ∈ l, s.length ≤ 10000 ∧ ∀ n ∈ s, 0 ≤ n ∧ n ≤ 9223372036854775807) (hx : xs.length ≤ 100000000000) :
    Calls Try.prog 17 #[v, .slice A l.length c] w fun e w' => ∃ v', e = .returned v' ∧ Grew B w v v' (xs ++ l.flatMap rowB) w' := by
  have H0 := Aside0.mk (Grew.refl ho)
  have HF := Aside0.mk (Kd.F_bound hF)
  have HD := Aside0.mk hd
  have HS := Aside0.mk hs
  have HBW := Aside0.mk hB
  clear ho hF hd hs hB
  go_enter Try.func17, Try.ntmps17
  go_wp2
  go_loopw [0, 11] (fun v0 v11 wr => ∃ i : Nat, v11 = .int .i64 i ∧ i ≤ l.length ∧ Aside0 (Grew B w v v0 (xs ++ (l.take i).flatMap rowB) wr)) (fun _ v11 _ => (l.length - (intOf v11).toNat))
  case atStart => exact ⟨0, rfl, Nat.zero_le _, ⟨by simpa using H0.out⟩⟩
  case round =>
    clear H0
    obtain ⟨i, rfl, hi, HG⟩ := hrel
    by_cases hil : i < l.length
    · have hlen : (xs ++ (l.take i).flatMap rowB).length ≤ 100000500000 := by
        have h1 := flat_le rowB 40002 (l.take i) (fun s hs => by rw [rowB_len]; have := (HS.out s (List.mem_of_mem_take hs)).1; omega)
        rw [List.length_take] at h1
        rw [List.length_append]
        have : min i l.length ≤ 10 := by omega
        have : min i l.length * 40002 ≤ 10 * 40002 := Nat.mul_le_mul_right _ this
        omega
      have hsz := HS.out _ (List.getElem_mem hil)
      have hnext := flat_take rowB l i hil
      have hFr := Kd.F_step HF.out (fun k hk hlt => HG.out.ch.block k hlt (fun e => HD.out k hk.1 e))
      obtain ⟨ad, A0, c0, e, hx0, hc0, hF0⟩ := F_rowAt hFr i hil
      cases e
      generalize hy : l[i] = y at *
      generalize hys : xs ++ (l.take i).flatMap rowB = ys at *
      have hu : IntKind.u64.wrap (y.length : Int) = y.length := by rw [IntKind.wrap_u64]; omega
      have HLEN := Aside0.mk hlen
      have HN := Aside0.mk hnext
      have HSZ := Aside0.mk hsz
      have HYS := Aside0.mk hys
      have HF0 := Aside0.mk hF0
      have HNE := Aside0.mk (show ∀ k, (okF k ∧ k < w.heap.size) → some k ≠ u0.ownBlock from fun k hk e => (HG.out.at_ k e).elim (fun e1 => HD.out k hk.1 e1) (fun e1 => by have := hk.2; omega))
      have HC0 := Aside0.mk hc0
      have HR0 := Aside0.mk (Grew.refl HG.out.row)
      clear hlen hnext hsz hys hFr hy hF0 hc0
      have hi0 : (0 : Int) ≤ (i : Int) := by omega
      have hi1 : (i : Int) < (l.length : Int) := by omega
      go_wp2_with fail
      refine (laid1 B wr u0 ys 2 (y.length : Int) HG.out.row (Nat.le_trans HBW.out HG.out.ch.size) (by omega) (by decide) (by have := HLEN.out; omega)).mono ?_
      rintro e w1 ⟨v1, rfl, hG1⟩
      have HR1 := Aside0.mk (HR0.out.trans hG1)
      clear hG1 HR0
      go_wp2
      go_loopw [0, 23] (fun v0 v23 wr2 => ∃ j : Nat, v23 = .int .i64 j ∧ j ≤ y.length ∧ Aside0 (Grew B wr u0 v0 (ys ++ be 2 (y.length : Int) ++ (y.take j).flatMap (be 4)) wr2)) (fun _ v23 _ => (y.length - (intOf v23).toNat))
      case atStart => exact ⟨0, rfl, Nat.zero_le _, ⟨by simpa using HR1.out⟩⟩
      case round =>
        clear HR1
        obtain ⟨j, rfl, hj, HI⟩ := hrel
        by_cases hjl : j < y.length
        · have hFj := Kd.F_step HF0.out (fun k hk hlt => HI.out.ch.block k hlt (fun e => HNE.out k hk e))
          obtain ⟨ad2, e2, hx2⟩ := Kd.at_int (Kd.F_now hFj) j (by omega) (by omega)
          cases e2
          have hrd : rd y (j : Int) = y[j] := by simp [rd, List.getD, hjl]
          rw [hrd, Int.toNat_natCast] at hx2
          have hn := HSZ.out.2 _ (List.getElem_mem hjl)
          have hnext := flat_take (be 4) y j hjl
          have hlen2 : (ys ++ be 2 (y.length : Int) ++ (y.take j).flatMap (be 4)).length ≤ 100000600000 := by
            rw [List.length_append, List.length_append, be_length, flat_len, List.length_take]; have := HLEN.out; have := HSZ.out.1; omega
          generalize hnn : y[j] = n at *
          generalize hzs : ys ++ be 2 (y.length : Int) ++ (y.take j).flatMap (be 4) = zs at *
          have hun : IntKind.u64.wrap n = n := by rw [IntKind.wrap_u64]; omega
          have hn0 := hn.1
          have HN2 := Aside0.mk hnext
          have HL2 := Aside0.mk hlen2
          have HZS := Aside0.mk hzs
          clear hFj hrd hn hnext hlen2 hnn hzs hx0
          have hj0 : (0 : Int) ≤ (j : Int) := by omega
          have hj1 : (j : Int) < (y.length : Int) := by omega
          go_wp2_with fail
          refine (laid1 B wr u0 zs 4 n HI.out.row (Nat.le_trans (Nat.le_trans HBW.out HG.out.ch.size) HI.out.ch.size) hn0 (by decide) (by have := HL2.out; omega)).mono ?_
          rintro e w3 ⟨v3, rfl, hG3⟩
          have HG3 := Aside0.mk (HI.out.trans hG3)
          have hwj : wrap64 ((j : Int) + 1) = ((j + 1 : Nat) : Int) := wrap_succ j (by have := HSZ.out.1; omega)
          clear hG3
          go_wp2
          go_roundw
          case rel => exact ⟨j + 1, by first | rfl | rw [hwj] | simp, by omega, ⟨HG3.out.xs (by rw [HN2.out, ← HZS.out]; simp)⟩⟩
          case measure => exact meas_up j _ hjl (Nat.le_trans HSZ.out.1 (by decide))
        · have hj2 : j = y.length := by omega
          subst hj2
          have HI2 := Aside0.mk (HG.out.trans HI.out)
          clear hx0
          go_wp2
          go_roundw
          case rel => exact ⟨i + 1, by simp, by omega, ⟨HI2.out.xs (by rw [HN.out, ← HYS.out]; simp [rowB])⟩⟩
          case measure => exact meas_in i _ hil
    · have : i = l.length := by omega
      subst this
      have HG2 := Aside0.mk (show Grew B w v u0 (xs ++ l.flatMap rowB) wr by simpa using HG.out)
      go_wp2
      go_ret
      exact ⟨_, rfl, HG2.out⟩
end Go.Proofs.Ytgndmbkkggjklaa.Jo
namespace Go.Proofs.Ytgndmbkkggjklaa.Jo
set_option linter.unusedVariables false
set_option linter.unusedSimpArgs false
open Go.RowKit Go.Proofs.YtgndmbkkggjklaaW.PrintWords Go.Proofs.YtgndmbkkggjklaaW.PrintMore Go.Proofs.Ytgndmbkkggjklaa.Bs
theorem Drawn0.two {a b c : World} (h : Drawn0 a b) (k : Drawn0 b c) : Drawn0 a c := by
  obtain ⟨m, rfl⟩ := h
  obtain ⟨n, rfl⟩ := k
  exact ⟨m + n, by simp [World.drewN, Nat.add_assoc]⟩
def isHi (n : Int) : Bool := decide (n > 20000)
def anyHi (ns : List Int) : Bool := ns.any isHi
set_option maxRecDepth 100000 in
theorem isHi_calls (w : World) (n : Int) : Calls Try.prog 42 #[.int .i64 n] w fun e w' => e = .returned (.bool (isHi n)) ∧ Drawn0 w w' := by
  go_enter Try.func42, Try.ntmps42
  go_wp2
  go_ret
  exact ⟨rfl, Drawn0.refl _⟩
set_option maxRecDepth 100000 in
set_option maxHeartbeats 400000 in
theorem indexHi (w : World) (A : Option Addr) (c : Nat) (ns : List Int) (hC : (Kd.int .i64).C w A ns.length ns) (hl : ns.length ≤ 9223372036854775807) :
    Calls Try.prog 49 #[.slice A ns.length c, .func (.func 42) #[] #[]] w fun e w' => (∃ r : Int, e = .returned (.int .i64 r) ∧ decide (0 ≤ r) = anyHi ns) ∧ Drawn0 w w' := by
  have HC := Aside0.mk hC
  clear hC
  go_enter Try.func49, Try.ntmps49
  go_wp2_with fail
  go_loopw [5, 8] (fun v5 v8 wr => ∃ j : Nat, v8 = .int .i64 j ∧ j ≤ ns.length ∧ Aside0 (anyHi ns = anyHi (ns.drop j)) ∧ Aside0 (Drawn0 w wr)) (fun v5 v8 _ => ns.length - (intOf v8).toNat)
  case atStart => exact ⟨0, rfl, Nat.zero_le _, ⟨rfl⟩, ⟨Drawn0.refl _⟩⟩
  case round =>
    obtain ⟨j, rfl, hj, HB, HD⟩ := hrel
    by_cases hjs : j < ns.length
    · have hjs' : (j : Int) < ns.length := by omega
      have hCw : (Kd.int .i64).C wr A ns.length ns := by obtain ⟨nd, e⟩ := HD.out; rw [e]; exact Kd.C_drewN HC.out nd
      obtain ⟨ad, e, hcell⟩ := Kd.at_int hCw j (by omega) (by omega)
      cases e
      rw [Int.toNat_natCast] at hcell
      have hdrop : ns.drop j = rd ns j :: ns.drop (j + 1) := by
        rw [List.drop_eq_getElem_cons hjs]; simp [rd, List.getD_eq_getElem?_getD, hjs]
      have hbad : anyHi ns = (isHi (rd ns j) || anyHi (ns.drop (j + 1))) := by
        rw [HB.out, hdrop]; simp [anyHi]
      have HBAD := Aside0.mk hbad
      have C1 := fun w => isHi_calls w (rd ns j)
      generalize isHi (rd ns j) = f at *
      clear hdrop hbad hCw
      cases f with
      | false =>
        go_wp2_with (first | (go_at_call 42; (with_reducible refine (C1 _).mono ?_); rintro e w' ⟨rfl, hd⟩; have HD2 := Aside0.mk hd; clear hd))
        go_roundw
        case rel => exact ⟨j + 1, by first | rfl | rw [wrap_succ j (by omega)] | simp, hjs, ⟨by rw [HBAD.out]; rfl⟩, ⟨Drawn0.two HD.out HD2.out⟩⟩
        case measure => first | exact meas_up j _ hjs hl | exact meas_in j _ hjs
      | true =>
        go_wp2_with (first | (go_at_call 42; (with_reducible refine (C1 _).mono ?_); rintro e w' ⟨rfl, hd⟩; have HD2 := Aside0.mk hd; clear hd))
        go_ret
        exact ⟨⟨j, rfl, by rw [HBAD.out]; simp⟩, Drawn0.two HD.out HD2.out⟩
    · have hjs' : ¬ (j : Int) < ns.length := by omega
      have hd0 : ns.drop j = [] := List.drop_eq_nil_of_le (by omega)
      have HE := Aside0.mk (show anyHi ns = false by rw [HB.out, hd0]; rfl)
      go_wp2
      go_ret
      exact ⟨⟨-1, rfl, by rw [HE.out]; rfl⟩, HD.out⟩
set_option maxRecDepth 100000 in
set_option maxHeartbeats 400000 in
theorem containsHi (w : World) (A : Option Addr) (c : Nat) (ns : List Int) (hC : (Kd.int .i64).C w A ns.length ns) (hl : ns.length ≤ 9223372036854775807) :
    Calls Try.prog 41 #[.slice A ns.length c, .func (.func 42) #[] #[]] w fun e w' => e = .returned (.bool (anyHi ns)) ∧ Drawn0 w w' := by
  have C1 := indexHi w A c ns hC hl
  clear hC
  go_enter Try.func41, Try.ntmps41
  go_wp2_with fail
  refine C1.mono ?_
  rintro e w2 ⟨⟨r, rfl, hr⟩, hd⟩
  have HR := Aside0.mk hr
  have HD := Aside0.mk hd
  clear hr hd C1
  go_wp2_with fail
  go_ret
  exact ⟨by rw [← HR.out]; rfl, HD.out⟩
def isLo (n : Int) : Bool := decide (n < 1)
def anyLo (ns : List Int) : Bool := ns.any isLo
set_option maxRecDepth 100000 in
theorem isLo_calls (w : World) (n : Int) : Calls Try.prog 48 #[.int .i64 n] w fun e w' => e = .returned (.bool (isLo n)) ∧ Drawn0 w w' := by
  go_enter Try.func48, Try.ntmps48
  go_wp2
  go_ret
  exact ⟨rfl, Drawn0.refl _⟩
set_option maxRecDepth 100000 in
set_option maxHeartbeats 400000 in
theorem indexLo (w : World) (A : Option Addr) (c : Nat) (ns : List Int) (hC : (Kd.int .i64).C w A ns.length ns) (hl : ns.length ≤ 9223372036854775807) :
    Calls Try.prog 49 #[.slice A ns.length c, .func (.func 48) #[] #[]] w fun e w' => (∃ r : Int, e = .returned (.int .i64 r) ∧ decide (0 ≤ r) = anyLo ns) ∧ Drawn0 w w' := by
  have HC := Aside0.mk hC
  clear hC
  go_enter Try.func49, Try.ntmps49
  go_wp2_with fail
  go_loopw [5, 8] (fun v5 v8 wr => ∃ j : Nat, v8 = .int .i64 j ∧ j ≤ ns.length ∧ Aside0 (anyLo ns = anyLo (ns.drop j)) ∧ Aside0 (Drawn0 w wr)) (fun v5 v8 _ => ns.length - (intOf v8).toNat)
  case atStart => exact ⟨0, rfl, Nat.zero_le _, ⟨rfl⟩, ⟨Drawn0.refl _⟩⟩
  case round =>
    obtain ⟨j, rfl, hj, HB, HD⟩ := hrel
    by_cases hjs : j < ns.length
    · have hjs' : (j : Int) < ns.length := by omega
      have hCw : (Kd.int .i64).C wr A ns.length ns := by obtain ⟨nd, e⟩ := HD.out; rw [e]; exact Kd.C_drewN HC.out nd
      obtain ⟨ad, e, hcell⟩ := Kd.at_int hCw j (by omega) (by omega)
      cases e
      rw [Int.toNat_natCast] at hcell
      have hdrop : ns.drop j = rd ns j :: ns.drop (j + 1) := by
        rw [List.drop_eq_getElem_cons hjs]; simp [rd, List.getD_eq_getElem?_getD, hjs]
      have hbad : anyLo ns = (isLo (rd ns j) || anyLo (ns.drop (j + 1))) := by
        rw [HB.out, hdrop]; simp [anyLo]
      have HBAD := Aside0.mk hbad
      have C1 := fun w => isLo_calls w (rd ns j)
      generalize isLo (rd ns j) = f at *
      clear hdrop hbad hCw
      cases f with
      | false =>
        go_wp2_with (first | (go_at_call 48; (with_reducible refine (C1 _).mono ?_); rintro e w' ⟨rfl, hd⟩; have HD2 := Aside0.mk hd; clear hd))
        go_roundw
        case rel => exact ⟨j + 1, by first | rfl | rw [wrap_succ j (by omega)] | simp, hjs, ⟨by rw [HBAD.out]; rfl⟩, ⟨Drawn0.two HD.out HD2.out⟩⟩
        case measure => first | exact meas_up j _ hjs hl | exact meas_in j _ hjs
      | true =>
        go_wp2_with (first | (go_at_call 48; (with_reducible refine (C1 _).mono ?_); rintro e w' ⟨rfl, hd⟩; have HD2 := Aside0.mk hd; clear hd))
        go_ret
        exact ⟨⟨j, rfl, by rw [HBAD.out]; simp⟩, Drawn0.two HD.out HD2.out⟩
    · have hjs' : ¬ (j : Int) < ns.length := by omega
      have hd0 : ns.drop j = [] := List.drop_eq_nil_of_le (by omega)
      have HE := Aside0.mk (show anyLo ns = false by rw [HB.out, hd0]; rfl)
      go_wp2
      go_ret
      exact ⟨⟨-1, rfl, by rw [HE.out]; rfl⟩, HD.out⟩
set_option maxRecDepth 100000 in
set_option maxHeartbeats 400000 in
theorem containsLo (w : World) (A : Option Addr) (c : Nat) (ns : List Int) (hC : (Kd.int .i64).C w A ns.length ns) (hl : ns.length ≤ 9223372036854775807) :
    Calls Try.prog 41 #[.slice A ns.length c, .func (.func 48) #[] #[]] w fun e w' => e = .returned (.bool (anyLo ns)) ∧ Drawn0 w w' := by
  have C1 := indexLo w A c ns hC hl
  clear hC
  go_enter Try.func41, Try.ntmps41
  go_wp2_with fail
  refine C1.mono ?_
  rintro e w2 ⟨⟨r, rfl, hr⟩, hd⟩
  have HR := Aside0.mk hr
  have HD := Aside0.mk hd
  clear hr hd C1
  go_wp2_with fail
  go_ret
  exact ⟨by rw [← HR.out]; rfl, HD.out⟩
def rowB' (ns : List Int) : Bool := decide (ns.length ≤ 1000) && !anyHi ns
set_option maxRecDepth 100000 in
set_option maxHeartbeats 400000 in
theorem row_calls (w : World) (A : Option Addr) (c : Nat) (ns : List Int) (hC : (Kd.int .i64).C w A ns.length ns) (hl : ns.length ≤ 9223372036854775807) :
    Calls Try.prog 30 #[.slice A ns.length c] w fun e w' => e = .returned (.bool (rowB' ns)) ∧ Drawn0 w w' := by
  have C1 := fun m => containsHi (w.drewN m) A c ns (Kd.C_drewN hC m) hl
  have C1' := containsHi w A c ns hC hl
  by_cases h : ns.length ≤ 1000
  · have h' : (ns.length : Int) ≤ 1000 := by omega
    have E := Aside0.mk (show rowB' ns = !anyHi ns by simp [rowB', h])
    clear hC
    generalize anyHi ns = b at *
    go_enter Try.func30, Try.ntmps30
    go_wp2_with (first | (go_at_call 41; (first | (with_reducible refine C1'.mono ?_) | (with_reducible refine (C1 _).mono ?_)); rintro e w' ⟨rfl, hd⟩; have HD2 := Aside0.mk hd; clear hd))
    go_ret
    exact ⟨by rw [E.out]; rfl, HD2.out⟩
  · have h' : ¬ (ns.length : Int) ≤ 1000 := by omega
    have E := Aside0.mk (show rowB' ns = false by simp [rowB', h])
    clear hC C1 C1'
    go_enter Try.func30, Try.ntmps30
    go_wp2
    go_ret
    exact ⟨by rw [E.out]; rfl, Drawn0.refl _⟩
set_option maxRecDepth 100000 in
set_option maxHeartbeats 400000 in
theorem numbers_calls (w : World) (A : Option Addr) (c : Nat) (ns : List Int) (hC : (Kd.int .i64).C w A ns.length ns) (hl : ns.length ≤ 9223372036854775807) :
    Calls Try.prog 40 #[.slice A ns.length c] w fun e w' => e = .returned (.bool (!anyLo ns)) ∧ Drawn0 w w' := by
  have C1' := containsLo w A c ns hC hl
  clear hC
  generalize anyLo ns = b at *
  go_enter Try.func40, Try.ntmps40
  go_wp2_with fail
  refine C1'.mono ?_
  rintro e w' ⟨rfl, hd⟩
  have HD2 := Aside0.mk hd
  clear hd C1'
  go_wp2
  go_ret
  exact ⟨rfl, HD2.out⟩
end Go.Proofs.Ytgndmbkkggjklaa.Jo
namespace Go.Proofs.Ytgndmbkkggjklaa.Jo
set_option linter.unusedVariables false
set_option linter.unusedSimpArgs false
open Go.RowKit Go.Proofs.YtgndmbkkggjklaaW.PrintWords Go.Proofs.YtgndmbkkggjklaaW.PrintMore Go.Proofs.Ytgndmbkkggjklaa.Bs
def goneR (r : S44) : Bool := decide (r.f0 = 0) && r.f1.toList.isEmpty && r.f2.toList.isEmpty && decide (r.f3 = 0) && decide (r.f4 = []) && decide (r.f5 = [])
def hereR (r : S44) : Bool := decide (1 ≤ r.f0) && decide (r.f0 ≤ 6) && decide (0 ≤ r.f3) && !anyLo r.f4 && !anyLo r.f5
def rightR (r : S44) : Bool := if r.f6 then goneR r else hereR r
theorem drawn_below {B : Nat} {w W W' : World} (h : Below B w W) (k : Drawn0 W W') : Below B w W' := by
  obtain ⟨n, rfl⟩ := k
  exact pw_below_drewN h n
set_option maxRecDepth 100000 in
set_option maxHeartbeats 400000 in
theorem right_gone (w : World) (A4 A5 : Option Addr) (c4 c5 : Nat) (k p : Int) (n t : ByteArray) (ks bs : List Int) :
    Calls Try.prog 29 #[.agg #[.int .i64 k, .string n, .string t, .int .i64 p, .slice A4 ks.length c4, .slice A5 bs.length c5, .bool true]] w fun e w' => e = .returned (.bool (goneR ⟨k, n, t, p, ks, bs, true⟩)) ∧ Below w.heap.size w w' := by
  go_enter Try.func29, Try.ntmps29
  go_wp2
  all_goals
    go_ret
    exact ⟨by first | (simp [goneR, *]; done) | (simp [goneR, *]; cases bs <;> simp; try omega), by repeat (first | exact Below.refl _ _ | apply below_alloc | apply pw_below_drewN | apply below_drew1)⟩
set_option maxRecDepth 100000 in
set_option maxHeartbeats 400000 in
theorem right_here (w : World) (A4 A5 : Option Addr) (c4 c5 : Nat) (k p : Int) (n t : ByteArray) (ks bs : List Int) (hk : (Kd.int .i64).C w A4 ks.length ks) (hb : (Kd.int .i64).C w A5 bs.length bs) (h4 : ks.length ≤ 9223372036854775807) (h5 : bs.length ≤ 9223372036854775807) :
    Calls Try.prog 29 #[.agg #[.int .i64 k, .string n, .string t, .int .i64 p, .slice A4 ks.length c4, .slice A5 bs.length c5, .bool false]] w fun e w' => e = .returned (.bool (hereR ⟨k, n, t, p, ks, bs, false⟩)) ∧ Below w.heap.size w w' := by
  have HK := Aside0.mk hk
  have HB := Aside0.mk hb
  have C4 := Aside0.mk (fun W hW => numbers_calls W A4 c4 ks (Kd.C_below hk hW) h4)
  have C5 := Aside0.mk (fun W hW => numbers_calls W A5 c5 bs (Kd.C_below hb hW) h5)
  have E := Aside0.mk (show hereR ⟨k, n, t, p, ks, bs, false⟩ = (decide (1 ≤ k) && decide (k ≤ 6) && decide (0 ≤ p) && !anyLo ks && !anyLo bs) from rfl)
  clear hk hb h4 h5
  generalize anyLo ks = x4 at *
  generalize anyLo bs = x5 at *
  go_enter Try.func29, Try.ntmps29
  cases x4
  all_goals
    go_wp2_with (first | (go_at_call 40; first | (with_reducible refine (C4.out _ (by repeat (first | exact Below.refl _ _ | apply below_alloc | apply pw_below_drewN | apply below_drew1))).mono ?_; rintro e w4 ⟨rfl, ⟨nd, rfl⟩⟩) | (with_reducible refine (C5.out _ (by repeat (first | exact Below.refl _ _ | apply below_alloc | apply pw_below_drewN | apply below_drew1))).mono ?_; rintro e w5 ⟨rfl, ⟨ne, rfl⟩⟩)))
  all_goals
    go_ret
    exact ⟨by rw [E.out]; first | (simp [*]; done) | (simp [*]; intros; omega), by repeat (first | exact Below.refl _ _ | apply below_alloc | apply pw_below_drewN | apply below_drew1)⟩
theorem right_calls (w : World) (A4 A5 : Option Addr) (c4 c5 : Nat) (r : S44) (hk : (Kd.int .i64).C w A4 r.f4.length r.f4) (hb : (Kd.int .i64).C w A5 r.f5.length r.f5) (h4 : r.f4.length ≤ 9223372036854775807) (h5 : r.f5.length ≤ 9223372036854775807) :
    Calls Try.prog 29 #[.agg #[.int .i64 r.f0, .string r.f1, .string r.f2, .int .i64 r.f3, .slice A4 r.f4.length c4, .slice A5 r.f5.length c5, .bool r.f6]] w fun e w' => e = .returned (.bool (rightR r)) ∧ Below w.heap.size w w' := by
  obtain ⟨k, n, t, p, ks, bs, g⟩ := r
  cases g with
  | true => exact right_gone w A4 A5 c4 c5 k p n t ks bs
  | false => exact right_here w A4 A5 c4 c5 k p n t ks bs hk hb h4 h5
end Go.Proofs.Ytgndmbkkggjklaa.Jo
namespace Go.Proofs.Ytgndmbkkggjklaa.Jo
set_option linter.unusedVariables false
set_option linter.unusedSimpArgs false
open Go.RowKit Go.Proofs.YtgndmbkkggjklaaW.PrintWords Go.Proofs.YtgndmbkkggjklaaW.PrintMore Go.Proofs.Ytgndmbkkggjklaa.Bs
def rightX (x : S46) (b : Int) : Bool := decide (b < x.f0) && decide (x.f0 ≤ 20000) && rightR x.f1 && decide (x.f1.f1.size ≤ 65535) && decide (x.f1.f2.size ≤ 65535) && rowB' x.f1.f4 && rowB' x.f1.f5 && decide (x.f1.f3 ≤ 20000)
set_option maxRecDepth 100000 in
set_option maxHeartbeats 4000000 in
theorem rightx_calls (w : World) (A4 A5 : Option Addr) (c4 c5 : Nat) (id b k p : Int) (n t : ByteArray) (ks bs : List Int) (g : Bool) (hk : (Kd.int .i64).C w A4 ks.length ks) (hb : (Kd.int .i64).C w A5 bs.length bs) (h4 : ks.length ≤ 9223372036854775807) (h5 : bs.length ≤ 9223372036854775807) (hn : n.size ≤ 9223372036854775807) (ht : t.size ≤ 9223372036854775807) :
    Calls Try.prog 18 #[.agg #[.int .i64 id, .int .i64 k, .string n, .string t, .int .i64 p, .slice A4 ks.length c4, .slice A5 bs.length c5, .bool g], .int .i64 b] w fun e w' => e = .returned (.bool (rightX ⟨id, ⟨k, n, t, p, ks, bs, g⟩⟩ b)) ∧ Below w.heap.size w w' := by
  have C1 := Aside0.mk (fun W (hW : Below w.heap.size w W) => right_calls W A4 A5 c4 c5 ⟨k, n, t, p, ks, bs, g⟩ (Kd.C_below hk hW) (Kd.C_below hb hW) h4 h5)
  have C4 := Aside0.mk (fun W (hW : Below w.heap.size w W) => row_calls W A4 c4 ks (Kd.C_below hk hW) h4)
  have C5 := Aside0.mk (fun W (hW : Below w.heap.size w W) => row_calls W A5 c5 bs (Kd.C_below hb hW) h5)
  have E := Aside0.mk (show rightX ⟨id, ⟨k, n, t, p, ks, bs, g⟩⟩ b = (decide (b < id) && decide (id ≤ 20000) && rightR ⟨k, n, t, p, ks, bs, g⟩ && decide (n.size ≤ 65535) && decide (t.size ≤ 65535) && rowB' ks && rowB' bs && decide (p ≤ 20000)) from rfl)
  clear hk hb h4 h5
  generalize rightR ⟨k, n, t, p, ks, bs, g⟩ = x1 at *
  generalize rowB' ks = x4 at *
  generalize rowB' bs = x5 at *
  go_enter Try.func18, Try.ntmps18
  obtain rfl | ⟨rfl, rfl⟩ | ⟨rfl, rfl, rfl⟩ | ⟨rfl, rfl, rfl⟩ : x1 = false ∨ (x1 = true ∧ x4 = false) ∨ (x1 = true ∧ x4 = true ∧ x5 = false) ∨ (x1 = true ∧ x4 = true ∧ x5 = true) := by cases x1 <;> cases x4 <;> cases x5 <;> simp
  all_goals
    go_wp2_with (first
      | (go_at_call 29; (with_reducible refine (C1.out _ (by repeat (first | exact Below.refl _ _ | apply below_alloc | apply pw_below_drewN | apply below_drew1))).mono ?_); rintro e w1 ⟨rfl, hb1⟩; have BB : Below w.heap.size w w1 := below_step (by repeat (first | exact Below.refl _ _ | apply below_alloc | apply pw_below_drewN | apply below_drew1)) hb1; have q := (hb1.block w.heap.size (by simp)).trans (heap_alloc_new w _); obtain ⟨q0, q1, q2, q3, q4, q5, q6, q7⟩ : w1.cell? ⟨w.heap.size, 0, none⟩ = some (.int .i64 id) ∧ w1.cell? ⟨w.heap.size, 1, none⟩ = some (.int .i64 k) ∧ w1.cell? ⟨w.heap.size, 2, none⟩ = some (.string n) ∧ w1.cell? ⟨w.heap.size, 3, none⟩ = some (.string t) ∧ w1.cell? ⟨w.heap.size, 4, none⟩ = some (.int .i64 p) ∧ w1.cell? ⟨w.heap.size, 5, none⟩ = some (.slice A4 ks.length c4) ∧ w1.cell? ⟨w.heap.size, 6, none⟩ = some (.slice A5 bs.length c5) ∧ w1.cell? ⟨w.heap.size, 7, none⟩ = some (.bool g) := ⟨blk_cell q 0, blk_cell q 1, blk_cell q 2, blk_cell q 3, blk_cell q 4, blk_cell q 5, blk_cell q 6, blk_cell q 7⟩; have HB1 := Aside0.mk BB; clear hb1 BB q)
      | (go_at_call 30; first
        | (with_reducible refine (C4.out _ (by repeat (first | exact HB1.out | apply below_alloc | apply pw_below_drewN | apply below_drew1))).mono ?_; rintro e w4 ⟨rfl, ⟨nd, rfl⟩⟩)
        | (with_reducible refine (C5.out _ (by repeat (first | exact HB1.out | apply below_alloc | apply pw_below_drewN | apply below_drew1))).mono ?_; rintro e w5 ⟨rfl, ⟨ne, rfl⟩⟩)))
  all_goals
    go_ret
    exact ⟨by rw [E.out]; first | (simp [*]; done) | (simp [*]; intros; omega), by repeat (first | exact Below.refl _ _ | exact HB1.out | apply below_alloc | apply pw_below_drewN | apply below_drew1)⟩
end Go.Proofs.Ytgndmbkkggjklaa.Jo
namespace Go.Proofs.Ytgndmbkkggjklaa.Jo
set_option linter.unusedVariables false
set_option linter.unusedSimpArgs false
open Go.RowKit Go.Proofs.YtgndmbkkggjklaaW.PrintWords Go.Proofs.YtgndmbkkggjklaaW.PrintMore Go.Proofs.Ytgndmbkkggjklaa.Bs
def rightL : Int → List S46 → Bool
  | _, [] => true
  | b, x :: l => rightX x b && rightL x.f0 l
def rightC (c : S25) : Bool := decide (1 ≤ c.f0) && decide (c.f0 ≤ 2147483647) && decide (c.f1 < c.f2) && decide (1 ≤ c.f3.length) && rightL 0 c.f3
/-- What the model's lengths are. -/
def sized (x : S46) : Prop := x.f1.f1.size ≤ 9223372036854775807 ∧ x.f1.f2.size ≤ 9223372036854775807 ∧ x.f1.f4.length ≤ 9223372036854775807 ∧ x.f1.f5.length ≤ 9223372036854775807
theorem blk4 {w : World} {g t : Nat} {a b c d : Value} (h : w.heap[g]? = some (.cells #[a, b, c, d] t (0, 0))) : w.cell? ⟨g, 0, none⟩ = some a ∧ w.cell? ⟨g, 1, none⟩ = some b ∧ w.cell? ⟨g, 2, none⟩ = some c ∧ w.cell? ⟨g, 3, none⟩ = some d ∧ ∀ i, w.frozen? ⟨g, i, none⟩ = false :=
  ⟨blk_cell h 0, blk_cell h 1, blk_cell h 2, blk_cell h 3, fun i => blk_frozen h i⟩
theorem at46 {w : World} {A : Option Addr} {l : List S46} (h : k46.C w A l.length l) (j : Nat) (hj : j < l.length) : ∃ ad A5 c5 A6 c6, A = some ad ∧ w.cell? (ad.add (j * 8)) = some (.int .i64 l[j].f0) ∧ w.cell? ⟨(ad.add (j * 8)).block, (ad.add (j * 8)).off + 1, none⟩ = some (.int .i64 l[j].f1.f0) ∧ w.cell? ⟨(ad.add (j * 8)).block, (ad.add (j * 8)).off + 2, none⟩ = some (.string l[j].f1.f1) ∧ w.cell? ⟨(ad.add (j * 8)).block, (ad.add (j * 8)).off + 3, none⟩ = some (.string l[j].f1.f2)
    ∧ w.cell? ⟨(ad.add (j * 8)).block, (ad.add (j * 8)).off + 4, none⟩ = some (.int .i64 l[j].f1.f3) ∧ w.cell? ⟨(ad.add (j * 8)).block, (ad.add (j * 8)).off + 5, none⟩ = some (.slice A5 l[j].f1.f4.length c5) ∧ w.cell? ⟨(ad.add (j * 8)).block, (ad.add (j * 8)).off + 6, none⟩ = some (.slice A6 l[j].f1.f5.length c6) ∧ w.cell? ⟨(ad.add (j * 8)).block, (ad.add (j * 8)).off + 7, none⟩ = some (.bool l[j].f1.f6)
    ∧ l[j].f1.f4.length ≤ c5 ∧ (Kd.int .i64).C w A5 l[j].f1.f4.length l[j].f1.f4 ∧ l[j].f1.f5.length ≤ c6 ∧ (Kd.int .i64).C w A6 l[j].f1.f5.length l[j].f1.f5 := by
  have := at_T46 h (j : Int) (by omega) (by omega)
  rw [show rd_T46 l (j : Int) = l[j] by simp [rd_T46, List.getD, hj], Int.toNat_natCast] at this
  exact this
set_option maxRecDepth 100000 in
set_option maxHeartbeats 4000000 in
theorem rightc_loop (w : World) (A : Option Addr) (c : Nat) (tx s t : Int) (l : List S46) (hC : k46.C w A l.length l) (hc : l.length ≤ c) (hs : ∀ x ∈ l, sized x) (hl : l.length ≤ 9223372036854775807) (h1 : 1 ≤ tx) (h2 : tx ≤ 2147483647) (h3 : s < t) (h4 : 1 ≤ l.length) :
    Calls Try.prog 9 #[.agg #[.int .i64 tx, .int .u64 s, .int .u64 t, .slice A l.length c]] w fun e w' => e = .returned (.bool (rightL 0 l)) ∧ Below w.heap.size w w' := by
  have HC := Aside0.mk hC
  have HS := Aside0.mk hs
  have h4' : (1 : Int) ≤ l.length := by omega
  clear hC hs
  go_enter Try.func9, Try.ntmps9
  go_wp2
  go_loopw [3, 30] (fun v3 v30 wr => ∃ (j : Nat) (b : Int), v3 = .int .i64 b ∧ v30 = .int .i64 j ∧ j ≤ l.length ∧ Aside0 (rightL 0 l = rightL b (l.drop j)) ∧ Aside0 (Below w.heap.size w wr)) (fun _ v30 _ => l.length - (intOf v30).toNat)
  case atStart => exact ⟨0, 0, rfl, rfl, Nat.zero_le _, ⟨rfl⟩, ⟨below_alloc (Below.refl _ _) _⟩⟩
  case round =>
    obtain ⟨j, b, rfl, rfl, hj, HE, HB⟩ := hrel
    by_cases hjl : j < l.length
    · obtain ⟨ad, A5, c5, A6, c6, e, k0, k1, k2, k3, k4, k5, k6, k7, l5, g5, l6, g6⟩ := at46 (Kd.C_below HC.out HB.out) j hjl
      cases e
      obtain ⟨s1, s2, s3, s4⟩ := HS.out _ (List.getElem_mem hjl)
      have hnext : rightL 0 l = (rightX l[j] b && rightL l[j].f0 (l.drop (j + 1))) := by
        rw [HE.out, List.drop_eq_getElem_cons hjl]; rfl
      have C1 := Aside0.mk (fun W (hW : Below wr.heap.size wr W) => rightx_calls W A5 A6 c5 c6 l[j].f0 b l[j].f1.f0 l[j].f1.f3 l[j].f1.f1 l[j].f1.f2 l[j].f1.f4 l[j].f1.f5 l[j].f1.f6 (Kd.C_below g5 hW) (Kd.C_below g6 hW) s3 s4 s1 s2)
      generalize hx : l[j] = x at *
      obtain ⟨i0, r⟩ := x
      obtain ⟨x0, x1, x2, x3, x4, x5, x6⟩ := r
      have HN := Aside0.mk hnext
      clear hnext hx g5 g6
      simp only at k0 k1 k2 k3 k4 k5 k6 k7 l5 l6 s1 s2 s3 s4 C1 HN
      generalize rightX ⟨i0, ⟨x0, x1, x2, x3, x4, x5, x6⟩⟩ b = y at *
      have hj0 : (0 : Int) ≤ (j : Int) := by omega
      have hj1 : (j : Int) < (l.length : Int) := by omega
      go_wp2_with fail
      have hW := below_alloc (Below.refl wr.heap.size wr) (.cells #[.int .i64 i0, .int .i64 x0, .string x1, .string x2, .int .i64 x3, .slice A5 x4.length c5, .slice A6 x5.length c6, .bool x6] 46)
      refine (C1.out _ hW).mono ?_
      rintro e w2 ⟨rfl, hb2⟩
      have q := (hb2.block wr.heap.size (by simp)).trans (heap_alloc_new wr _)
      have q0 : w2.cell? ⟨wr.heap.size, 0, none⟩ = some (.int .i64 i0) := blk_cell q 0
      have HB2 := Aside0.mk (below_step (below_step HB.out hW) hb2)
      clear q hb2 hW C1
      cases y with
      | true =>
        go_wp2
        go_roundw
        case rel => exact ⟨j + 1, i0, rfl, by first | rfl | rw [wrap_succ j (by omega)] | simp, by omega, ⟨by rw [HN.out]; rfl⟩, ⟨HB2.out⟩⟩
        case measure => first | exact meas_up j _ hjl hl | exact meas_in j _ hjl
      | false =>
        go_wp2
        go_ret
        exact ⟨by rw [HN.out]; rfl, HB2.out⟩
    · have : j = l.length := by omega
      subst this
      have HE2 := Aside0.mk (show rightL 0 l = true by rw [HE.out]; simp [rightL])
      go_wp2
      go_ret
      exact ⟨by rw [HE2.out]; rfl, HB.out⟩
set_option maxRecDepth 100000 in
set_option maxHeartbeats 4000000 in
theorem rightc_not (w : World) (A : Option Addr) (c : Nat) (tx s t : Int) (n : Nat) (hn : n ≤ 9223372036854775807) (h : (decide (1 ≤ tx) && decide (tx ≤ 2147483647) && decide (s < t) && decide (1 ≤ n)) = false) :
    Calls Try.prog 9 #[.agg #[.int .i64 tx, .int .u64 s, .int .u64 t, .slice A n c]] w fun e w' => e = .returned (.bool false) ∧ Below w.heap.size w w' := by
  by_cases h1 : 1 ≤ tx
  · by_cases h2 : tx ≤ 2147483647
    · by_cases h3 : s < t
      · have h4 : ¬ 1 ≤ (n : Int) := by simp [h1, h2, h3] at h; omega
        have h4' : (n : Int) < 1 := by omega
        clear h
        go_enter Try.func9, Try.ntmps9
        go_wp2
        go_ret
        exact ⟨rfl, below_alloc (Below.refl _ _) _⟩
      · have h3' : t ≤ s := by omega
        clear h
        go_enter Try.func9, Try.ntmps9
        go_wp2
        go_ret
        exact ⟨rfl, below_alloc (Below.refl _ _) _⟩
    · have h2' : 2147483647 < tx := by omega
      clear h
      go_enter Try.func9, Try.ntmps9
      go_wp2
      go_ret
      exact ⟨rfl, below_alloc (Below.refl _ _) _⟩
  · have h1' : tx < 1 := by omega
    clear h
    go_enter Try.func9, Try.ntmps9
    go_wp2
    go_ret
    exact ⟨rfl, below_alloc (Below.refl _ _) _⟩
theorem rightc_calls (w : World) (A : Option Addr) (cp : Nat) (c : S25) (hC : k46.C w A c.f3.length c.f3) (hc : c.f3.length ≤ cp) (hs : ∀ x ∈ c.f3, sized x) (hl : c.f3.length ≤ 9223372036854775807) :
    Calls Try.prog 9 #[.agg #[.int .i64 c.f0, .int .u64 c.f1, .int .u64 c.f2, .slice A c.f3.length cp]] w fun e w' => e = .returned (.bool (rightC c)) ∧ Below w.heap.size w w' := by
  obtain ⟨tx, s, t, l⟩ := c
  simp only at hC hc hs hl ⊢
  by_cases h : (decide (1 ≤ tx) && decide (tx ≤ 2147483647) && decide (s < t) && decide (1 ≤ l.length)) = true
  · have e : rightC ⟨tx, s, t, l⟩ = rightL 0 l := by show (_ && rightL 0 l) = _; rw [h]; rfl
    rw [e]
    simp only [Bool.and_eq_true, decide_eq_true_eq] at h
    exact rightc_loop w A cp tx s t l hC hc hs hl h.1.1.1 h.1.1.2 h.1.2 h.2
  · have h' := Bool.eq_false_iff.2 h
    have e : rightC ⟨tx, s, t, l⟩ = false := by show (_ && rightL 0 l) = _; rw [h']; rfl
    rw [e]
    exact rightc_not w A cp tx s t l.length hl h'
end Go.Proofs.Ytgndmbkkggjklaa.Jo
namespace Go.Proofs.Ytgndmbkkggjklaa.Jo
set_option linter.unusedVariables false
set_option linter.unusedSimpArgs false
open Go.RowKit Go.Proofs.YtgndmbkkggjklaaW.PrintWords Go.Proofs.YtgndmbkkggjklaaW.PrintMore Go.Proofs.Ytgndmbkkggjklaa.Bs
theorem texts_lit (B : Nat) (w : World) (v : Value) (xs : List Int) (s t : ByteArray) (ho : (Kd.int .u8).R 5 w B (fun _ => True) v xs) (hB : B ≤ w.heap.size) (hs : s.size ≤ 65535) (ht : t.size ≤ 65535) (hx : xs.length ≤ 100000000000) :
    Calls Try.prog 16 #[v, .slice (some ⟨w.heap.size, 0, none⟩) 2 2] (w.alloc (.cells #[.string s, .string t] 9)) fun e w' => ∃ v', e = .returned v' ∧ Grew B w v v' (xs ++ textB s ++ textB t) w' := by
  have hW := below_alloc (Below.refl w.heap.size w) (.cells #[.string s, .string t] 9)
  have hg := heap_alloc_new w (.cells #[.string s, .string t] 9)
  refine (texts_calls B _ v xs _ 2 [s, t] _ (Kd.R_below ho hW) (Nat.le_trans hB hW.size) (F_block Kd.string (okx := fun _ => False) hg (reps2 (FK_string s) (FK_string t)) (by simp)) ?_ (by simp) (by simp) (by intro x hx; simp at hx; rcases hx with rfl | rfl <;> omega) hx).mono ?_
  · rintro k (h | rfl) e
    · exact h
    · have := own_lt (Kd.own_of_R ho) _ e.symm; omega
  · rintro e w' ⟨v', rfl, hG⟩
    exact ⟨v', rfl, (hG.before hW).xs (by simp)⟩
theorem rows_lit (B : Nat) (w : World) (v : Value) (xs : List Int) (A4 A5 : Option Addr) (c4 c5 : Nat) (ks bs : List Int) (ok : Nat → Prop) (ho : (Kd.int .u8).R 5 w B (fun _ => True) v xs) (hB : B ≤ w.heap.size)
    (hk : Kd.F (Kd.int .i64) w ok A4 ks.length ks) (hb : Kd.F (Kd.int .i64) w ok A5 bs.length bs) (hok : ∀ k, ok k → some k ≠ v.ownBlock) (h4 : ks.length ≤ c4) (h5 : bs.length ≤ c5) (hkn : ks.length ≤ 10000 ∧ ∀ n ∈ ks, 0 ≤ n ∧ n ≤ 9223372036854775807) (hbn : bs.length ≤ 10000 ∧ ∀ n ∈ bs, 0 ≤ n ∧ n ≤ 9223372036854775807) (hx : xs.length ≤ 100000000000) :
    Calls Try.prog 17 #[v, .slice (some ⟨w.heap.size, 0, none⟩) 2 2] (w.alloc (.cells #[.slice A4 ks.length c4, .slice A5 bs.length c5] 41)) fun e w' => ∃ v', e = .returned v' ∧ Grew B w v v' (xs ++ rowB ks ++ rowB bs) w' := by
  have hW := below_alloc (Below.refl w.heap.size w) (.cells #[.slice A4 ks.length c4, .slice A5 bs.length c5] 41)
  have hg := heap_alloc_new w (.cells #[.slice A4 ks.length c4, .slice A5 bs.length c5] 41)
  refine (rows_calls B _ v xs _ 2 [ks, bs] _ (Kd.R_below ho hW) (Nat.le_trans hB hW.size) (F_block (Kd.slice 3 (Kd.int .i64)) (okx := ok) hg (reps2 (Kd.FK_slice_mk h4 (Kd.F_below hk hW)) (Kd.FK_slice_mk h5 (Kd.F_below hb hW))) (by simp)) ?_ (by simp) (by simp) (by intro x hx; simp at hx; rcases hx with rfl | rfl; exact hkn; exact hbn) hx).mono ?_
  · rintro k (h | rfl) e
    · exact hok k h e
    · have := own_lt (Kd.own_of_R ho) _ e.symm; omega
  · rintro e w' ⟨v', rfl, hG⟩
    exact ⟨v', rfl, (hG.before hW).xs (by simp)⟩
def putX (x : S46) : List Int := be 4 x.f0 ++ be 1 x.f1.f0 ++ (if x.f1.f6 then [] else be 4 x.f1.f3 ++ textB x.f1.f1 ++ textB x.f1.f2 ++ rowB x.f1.f4 ++ rowB x.f1.f5)
def bodyC (c : S25) : List Int := be 4 c.f0 ++ be 8 c.f1 ++ be 8 c.f2 ++ be 2 c.f3.length ++ c.f3.flatMap putX
def putC (c : S25) : List Int := be 4 (bodyC c).length ++ bodyC c
structure goodX (x : S46) : Prop where
  id : 1 ≤ x.f0 ∧ x.f0 ≤ 20000
  kind : 0 ≤ x.f1.f0 ∧ x.f1.f0 ≤ 6
  parent : 0 ≤ x.f1.f3 ∧ x.f1.f3 ≤ 20000
  name : x.f1.f1.size ≤ 65535
  text : x.f1.f2.size ≤ 65535
  kids : x.f1.f4.length ≤ 1000 ∧ ∀ n ∈ x.f1.f4, 1 ≤ n ∧ n ≤ 20000
  attrs : x.f1.f5.length ≤ 1000 ∧ ∀ n ∈ x.f1.f5, 1 ≤ n ∧ n ≤ 20000
theorem good_of_right (x : S46) (b : Int) (hb : 0 ≤ b) (h : rightX x b = true) : goodX x ∧ b < x.f0 := by
  obtain ⟨i, k, n, t, p, ks, bs, g⟩ := x
  simp only [rightX, rightR, rowB', anyHi, Bool.and_eq_true, decide_eq_true_eq, Bool.not_eq_true', List.any_eq_false, isHi, decide_eq_false_iff_not] at h
  obtain ⟨⟨⟨⟨⟨⟨⟨h1, h2⟩, h3⟩, h4⟩, h5⟩, h6, h7⟩, h8, h9⟩, h10⟩ := h
  cases g with
  | true =>
    simp only [if_pos, goneR, Bool.and_eq_true, decide_eq_true_eq] at h3
    obtain ⟨⟨⟨⟨⟨a1, a2⟩, a3⟩, a4⟩, a5⟩, a6⟩ := h3
    subst a1; subst a4; subst a5; subst a6
    exact ⟨⟨⟨by show 1 ≤ i; omega, h2⟩, by simp, by simp, h4, h5, by simp, by simp⟩, h1⟩
  | false =>
    simp only [Bool.false_eq_true, if_false, hereR, anyLo, isLo, Bool.and_eq_true, decide_eq_true_eq, Bool.not_eq_true', List.any_eq_false, decide_eq_false_iff_not] at h3
    obtain ⟨⟨⟨⟨a1, a2⟩, a3⟩, a4⟩, a5⟩ := h3
    exact ⟨⟨⟨by show 1 ≤ i; omega, h2⟩, ⟨by show 0 ≤ k; omega, a2⟩, ⟨a3, h10⟩, h4, h5, ⟨h6, fun m hm => ⟨by have := a4 m hm; omega, by have := h7 m hm; omega⟩⟩, ⟨h8, fun m hm => ⟨by have := a5 m hm; omega, by have := h9 m hm; omega⟩⟩⟩, h1⟩
theorem good_of_rightL : ∀ (l : List S46) (b : Int), 0 ≤ b → b ≤ 20000 → rightL b l = true → (∀ x ∈ l, goodX x) ∧ (l.length : Int) ≤ 20000 - b
  | [], b, h0, h1, _ => ⟨by simp, by simp; omega⟩
  | x :: l, b, h0, h1, h => by
    simp only [rightL, Bool.and_eq_true] at h
    obtain ⟨g, hb⟩ := good_of_right x b h0 h.1
    have hi := g.id
    obtain ⟨i1, i2⟩ := good_of_rightL l x.f0 (by omega) (by omega) h.2
    refine ⟨?_, by rw [List.length_cons]; omega⟩
    intro y hy
    rcases List.mem_cons.1 hy with rfl | hy
    · exact g
    · exact i1 y hy
structure goodC (c : S25) : Prop where
  txn : 1 ≤ c.f0 ∧ c.f0 ≤ 2147483647
  all : ∀ x ∈ c.f3, goodX x
  len : 1 ≤ c.f3.length ∧ c.f3.length ≤ 20000
theorem good_of_rightC (c : S25) (h : rightC c = true) : goodC c := by
  simp only [rightC, Bool.and_eq_true, decide_eq_true_eq] at h
  obtain ⟨⟨⟨⟨h1, h2⟩, h3⟩, h4⟩, h5⟩ := h
  obtain ⟨i1, i2⟩ := good_of_rightL c.f3 0 (by omega) (by omega) h5
  exact ⟨⟨h1, h2⟩, i1, h4, by omega⟩
theorem putX_len (x : S46) (g : goodX x) : (putX x).length ≤ 139087 := by
  obtain ⟨_, _, _, n, t, k, b⟩ := g
  have := k.1
  have := b.1
  unfold putX
  split <;> simp only [List.length_append, be_length, textB_len, rowB_len, List.length_nil] <;> omega
theorem flatX_len (l : List S46) (h : ∀ x ∈ l, goodX x) : (l.flatMap putX).length ≤ l.length * 139087 := flat_le putX 139087 l (fun x hx => putX_len x (h x hx))
end Go.Proofs.Ytgndmbkkggjklaa.Jo
namespace Go.Proofs.Ytgndmbkkggjklaa.Jo
set_option linter.unusedVariables false
set_option linter.unusedSimpArgs false
open Go.RowKit Go.Proofs.YtgndmbkkggjklaaW.PrintWords Go.Proofs.YtgndmbkkggjklaaW.PrintMore Go.Proofs.Ytgndmbkkggjklaa.Bs
theorem blk8 {w : World} {g t : Nat} {a b c d e f h i : Value} (q : w.heap[g]? = some (.cells #[a, b, c, d, e, f, h, i] t (0, 0))) : w.cell? ⟨g, 0, none⟩ = some a ∧ w.cell? ⟨g, 1, none⟩ = some b ∧ w.cell? ⟨g, 2, none⟩ = some c ∧ w.cell? ⟨g, 3, none⟩ = some d ∧ w.cell? ⟨g, 4, none⟩ = some e ∧ w.cell? ⟨g, 5, none⟩ = some f ∧ w.cell? ⟨g, 6, none⟩ = some h ∧ w.cell? ⟨g, 7, none⟩ = some i ∧ ∀ j, w.frozen? ⟨g, j, none⟩ = false :=
  ⟨blk_cell q 0, blk_cell q 1, blk_cell q 2, blk_cell q 3, blk_cell q 4, blk_cell q 5, blk_cell q 6, blk_cell q 7, fun j => blk_frozen q j⟩
theorem Grew.next {B : Nat} {w w1 w2 : World} {v v1 v2 : Value} {xs ys : List Int} (h : Grew B w v v1 xs w1) (k : Grew B w1 v1 v2 ys w2) : ∃ A c zs, v2 = .slice A zs.length c ∧ Aside0 (zs = ys) ∧ Aside0 (Grew B w v (.slice A zs.length c) zs w2) := by
  obtain ⟨A, c, rfl⟩ := Kd.R_slice k.row
  exact ⟨A, c, ys, rfl, ⟨rfl⟩, ⟨h.trans k⟩⟩
theorem below_three {w w1 w2 w3 : World} (h : Below w.heap.size w w1) (h2 : Below w1.heap.size w1 w2) (h3 : Below w.heap.size w2 w3) : Below w.heap.size w w3 :=
  (below_step h h2).trans h3
set_option maxRecDepth 100000 in
set_option maxHeartbeats 4000000 in
theorem put_not (w : World) (A : Option Addr) (cp : Nat) (c : S25) (hC : k46.C w A c.f3.length c.f3) (hc : c.f3.length ≤ cp) (hs : ∀ x ∈ c.f3, sized x) (hl : c.f3.length ≤ 9223372036854775807) (hr : rightC c = false) :
    Calls Try.prog 8 #[.agg #[.int .i64 c.f0, .int .u64 c.f1, .int .u64 c.f2, .slice A c.f3.length cp]] w fun e w' => e = .returned (.tuple #[.slice none 0 0, .int .i64 2]) ∧ Below w.heap.size w w' := by
  have C1 := Aside0.mk (fun W (hW : Below w.heap.size w W) => rightc_calls W A cp c (Kd.C_below hC hW) hc hs hl)
  rw [hr] at C1
  obtain ⟨tx, s, t, l⟩ := c
  simp only at C1 hc ⊢
  clear hC hs hr
  go_enter Try.func8, Try.ntmps8
  go_wp2_with fail
  refine (C1.out _ (below_alloc (Below.refl _ _) _)).mono ?_
  rintro e w1 ⟨rfl, hb⟩
  have HB := Aside0.mk (below_step (below_alloc (Below.refl w.heap.size w) _) hb)
  clear hb C1
  go_wp2
  go_ret2
  exact ⟨rfl, HB.out⟩
set_option maxRecDepth 100000 in
set_option maxHeartbeats 4000000 in
theorem put_calls (w : World) (A : Option Addr) (cp : Nat) (c : S25) (hC : k46.C w A c.f3.length c.f3) (hc : c.f3.length ≤ cp) (hs : ∀ x ∈ c.f3, sized x) (hl : c.f3.length ≤ 9223372036854775807) (hr : rightC c = true) (h1 : 0 ≤ c.f1 ∧ c.f1 < 18446744073709551616) (h2 : 0 ≤ c.f2 ∧ c.f2 < 18446744073709551616) :
    Calls Try.prog 8 #[.agg #[.int .i64 c.f0, .int .u64 c.f1, .int .u64 c.f2, .slice A c.f3.length cp]] w fun e w' => (∃ v, e = .returned (.tuple #[v, .int .i64 0]) ∧ (Kd.int .u8).R 5 w' w.heap.size (fun _ => True) v (putC c)) ∧ Below w.heap.size w w' := by
  have C1 := Aside0.mk (fun W (hW : Below w.heap.size w W) => rightc_calls W A cp c (Kd.C_below hC hW) hc hs hl)
  rw [hr] at C1
  have GC := Aside0.mk (good_of_rightC c hr)
  have EC := Aside0.mk (show bodyC c = be 4 c.f0 ++ be 8 c.f1 ++ be 8 c.f2 ++ be 2 c.f3.length ++ c.f3.flatMap putX from rfl)
  have EP := Aside0.mk (show putC c = be 4 (bodyC c).length ++ bodyC c from rfl)
  obtain ⟨tx, s, t, l⟩ := c
  simp only at C1 hc hC EC hl h1 h2 ⊢
  have HC := Aside0.mk hC
  have hl2 : l.length ≤ 20000 := GC.out.len.2
  have htx : 1 ≤ tx ∧ tx ≤ 2147483647 := GC.out.txn
  have GA := Aside0.mk (show ∀ x ∈ l, goodX x from GC.out.all)
  have u1 : IntKind.u64.wrap tx = tx := by rw [IntKind.wrap_u64]; omega
  have u2 : IntKind.u64.wrap (l.length : Int) = l.length := by rw [IntKind.wrap_u64]; omega
  generalize bodyC ⟨tx, s, t, l⟩ = bd at *
  generalize putC ⟨tx, s, t, l⟩ = pc at *
  clear hC hs hr GC hl
  go_enter Try.func8, Try.ntmps8
  go_wp2_with fail
  refine (C1.out _ (below_alloc (Below.refl _ _) _)).mono ?_
  rintro e w1 ⟨rfl, hb⟩
  have q := (hb.block w.heap.size (by simp)).trans (heap_alloc_new w _)
  have hlw := hb.size
  have hsz1 : w.heap.size + 1 ≤ w1.heap.size := by simpa using hlw
  have HB1 := Aside0.mk (below_step (below_alloc (Below.refl w.heap.size w) _) hb)
  obtain ⟨q0, q1, q2, q3, q4⟩ := blk4 q
  have Q := Aside0.mk q
  clear hb C1 q hlw
  have G0 := Aside0.mk (Grew.refl (B := w.heap.size) (Kd.R_nil (Kd.int .u8) 5 w1 w.heap.size (fun _ => True)))
  have HBW := Aside0.mk (show w.heap.size ≤ w1.heap.size from HB1.out.size)
  go_wp2_with fail
  refine (laid1 w.heap.size w1 _ [] 4 tx G0.out.row HBW.out (by omega) (by decide) (by simp)).mono ?_
  rintro e w2 ⟨v2, rfl, hG⟩
  obtain ⟨A2, c2, z2, rfl, N2, G2⟩ := G0.out.next hG
  clear hG q0 q1 q2 q3 q4
  obtain ⟨q0, q1, q2, q3, q4⟩ := blk4 (G2.out.ch.heap Q.out (by simp [Value.ownBlock]))
  have L2 := Aside0.mk (show z2.length = 4 by rw [N2.out]; simp [be_length])
  go_wp2_with fail
  refine (laid_lit w.heap.size w2 _ z2 8 [s, t] #[.int .u64 s, .int .u64 t] rfl G2.out.row (Nat.le_trans HBW.out G2.out.ch.size) (by intro n hn; simp at hn; rcases hn with rfl | rfl <;> omega) (by decide) (by simp) (by rw [L2.out]; decide)).mono ?_
  rintro e w3 ⟨v3, rfl, hG⟩
  obtain ⟨A3, c3, z3, rfl, N3, G3⟩ := G2.out.next hG
  clear hG q0 q1 q2 q3 q4
  obtain ⟨q0, q1, q2, q3, q4⟩ := blk4 (G3.out.ch.heap Q.out (by simp [Value.ownBlock]))
  have L3 := Aside0.mk (show z3.length = 20 by rw [N3.out]; simp [be_length, L2.out])
  go_wp2_with fail
  refine (laid1 w.heap.size w3 _ z3 2 (l.length : Int) G3.out.row (Nat.le_trans HBW.out G3.out.ch.size) (by omega) (by decide) (by rw [L3.out]; decide)).mono ?_
  rintro e w4 ⟨v4, rfl, hG⟩
  obtain ⟨A4, c4, z4, rfl, N4, G4⟩ := G3.out.next hG
  clear hG q0 q1 q2 q3 q4
  obtain ⟨q0, q1, q2, q3, q4⟩ := blk4 (G4.out.ch.heap Q.out (by simp [Value.ownBlock]))
  have L4 := Aside0.mk (show z4.length = 22 by rw [N4.out]; simp [be_length, L3.out])
  have M4 := Aside0.mk (show z4 = be 4 tx ++ be 8 s ++ be 8 t ++ be 2 (l.length : Int) by rw [N4.out, N3.out, N2.out]; simp)
  clear N2 N3 N4 G0 G2 G3 L2 L3
  go_wp2
  go_loopw [4, 32] (fun v4 v32 wr => ∃ (j : Nat) (Ab : Option Addr) (cb : Nat) (zs : List Int), v4 = .slice Ab zs.length cb ∧ v32 = .int .i64 j ∧ j ≤ l.length ∧ Aside0 (zs = z4 ++ (l.take j).flatMap putX) ∧ Aside0 (Grew w.heap.size w1 (.slice none 0 0) (.slice Ab zs.length cb) zs wr)) (fun _ v32 _ => l.length - (intOf v32).toNat)
  case atStart => exact ⟨0, _, _, z4, rfl, rfl, Nat.zero_le _, ⟨by simp⟩, G4⟩
  case round =>
    clear G4 q0 q1 q2 q3 q4
    obtain ⟨j, Ab, cb, zs, rfl, rfl, hj, NZ, G⟩ := hrel
    have LZ := Aside0.mk (show zs.length ≤ 22 + 20000 * 139087 by
      rw [NZ.out, List.length_append, L4.out]
      have h1 := flatX_len (l.take j) (fun x hx => GA.out x (List.mem_of_mem_take hx))
      rw [List.length_take] at h1
      have h2 : min j l.length * 139087 ≤ 20000 * 139087 := Nat.mul_le_mul_right _ (by omega)
      omega)
    have HBr := Aside0.mk (show w.heap.size ≤ wr.heap.size from Nat.le_trans HBW.out G.out.ch.size)
    have HWr := Aside0.mk (show Below w.heap.size w wr from below_step HB1.out (Ch.to_below G.out.ch (fun k hk => by simp [Value.ownBlock] at hk) (Nat.le_refl _)))
    obtain ⟨q0, q1, q2, q3, q4⟩ := blk4 (G.out.ch.heap Q.out (by simp [Value.ownBlock]))
    by_cases hjl : j < l.length
    · obtain ⟨ad, A5, c5, A6, c6, e, k0, k1, k2, k3, k4, k5, k6, k7, l5, g5, l6, g6⟩ := at46 HC.out j hjl
      cases e
      replace k0 := pw_cell_below HWr.out k0
      replace k1 := pw_cell_below HWr.out k1
      replace k2 := pw_cell_below HWr.out k2
      replace k3 := pw_cell_below HWr.out k3
      replace k4 := pw_cell_below HWr.out k4
      replace k5 := pw_cell_below HWr.out k5
      replace k6 := pw_cell_below HWr.out k6
      replace k7 := pw_cell_below HWr.out k7
      have F5 := Aside0.mk (Kd.C_F (Kd.heap_int .i64) g5)
      have F6 := Aside0.mk (Kd.C_F (Kd.heap_int .i64) g6)
      have hg := GA.out _ (List.getElem_mem hjl)
      have hnext := flat_take putX l j hjl
      generalize hx : l[j] = x at *
      obtain ⟨i0, ⟨x0, x1, x2, x3, x4, x5, x6⟩⟩ := x
      obtain ⟨b1, b2, b3, b4, b5, b6, b7⟩ := hg
      simp only at k0 k1 k2 k3 k4 k5 k6 k7 l5 l6 F5 F6 b1 b2 b3 b4 b5 b6 b7
      have B6 := Aside0.mk (show x4.length ≤ 10000 ∧ ∀ n ∈ x4, 0 ≤ n ∧ n ≤ 9223372036854775807 from ⟨by omega, fun n hn => by have := b6.2 n hn; omega⟩)
      have B7 := Aside0.mk (show x5.length ≤ 10000 ∧ ∀ n ∈ x5, 0 ≤ n ∧ n ≤ 9223372036854775807 from ⟨by omega, fun n hn => by have := b7.2 n hn; omega⟩)
      have B6' := b6.1
      have B7' := b7.1
      have HN := Aside0.mk hnext
      have hi0 : (0 : Int) ≤ (j : Int) := by omega
      have hi1 : (j : Int) < (l.length : Int) := by omega
      have v1' : IntKind.u64.wrap i0 = i0 := by rw [IntKind.wrap_u64]; omega
      have v2' : IntKind.u64.wrap x0 = x0 := by rw [IntKind.wrap_u64]; omega
      have v3' : IntKind.u64.wrap x3 = x3 := by rw [IntKind.wrap_u64]; omega
      have hW := below_alloc (Below.refl wr.heap.size wr) (.cells #[.int .i64 i0, .int .i64 x0, .string x1, .string x2, .int .i64 x3, .slice A5 x4.length c5, .slice A6 x5.length c6, .bool x6] 46)
      have hnew := heap_alloc_new wr (.cells #[.int .i64 i0, .int .i64 x0, .string x1, .string x2, .int .i64 x3, .slice A5 x4.length c5, .slice A6 x5.length c6, .bool x6] 46)
      have HNE := Aside0.mk (show some wr.heap.size ≠ (Value.slice Ab zs.length cb).ownBlock from fun e => by have := own_lt (Kd.own_of_R G.out.row) _ e.symm; omega)
      have H0 := Aside0.mk (Grew.refl (Kd.R_below G.out.row hW))
      have G1 := Aside0.mk (G.out.after hW)
      clear g5 g6 hx b6 b7 hnext hj G
      go_wp2_with fail
      have hws : (wr.alloc (.cells #[.int .i64 i0, .int .i64 x0, .string x1, .string x2, .int .i64 x3, .slice A5 x4.length c5, .slice A6 x5.length c6, .bool x6] 46)).heap.size = wr.heap.size + 1 := by simp
      generalize hWW : wr.alloc (.cells #[.int .i64 i0, .int .i64 x0, .string x1, .string x2, .int .i64 x3, .slice A5 x4.length c5, .slice A6 x5.length c6, .bool x6] 46) = W at *
      have HNEW := Aside0.mk hnew
      have HW := Aside0.mk hW
      rw [← hws]
      clear hW hnew hWW hws
      refine (laid1 w.heap.size W _ zs 4 i0 H0.out.row (Nat.le_trans HBr.out HW.out.size) (by omega) (by decide) (by have := LZ.out; omega)).mono ?_
      rintro e w11 ⟨v11, rfl, hG⟩
      obtain ⟨A11, c11, z11, rfl, N11, G11⟩ := H0.out.next hG
      have L11 := Aside0.mk (show z11.length = zs.length + 4 by rw [N11.out, List.length_append, be_length])
      clear hG k0 k1 k2 k3 k4 k5 k6 k7 q0 q1 q2 q3 q4
      obtain ⟨a0, a1, a2, a3, a4, a5, a6, a7, a8⟩ := blk8 (G11.out.heap HNEW.out HNE.out)
      go_wp2_with fail
      refine (laid1 w.heap.size w11 _ z11 1 x0 G11.out.row (Nat.le_trans (Nat.le_trans HBr.out HW.out.size) G11.out.ch.size) (by omega) (by decide) (by rw [L11.out]; have := LZ.out; omega)).mono ?_
      rintro e w12 ⟨v12, rfl, hG⟩
      obtain ⟨A12, c12, z12, rfl, N12, G12⟩ := G11.out.next hG
      clear hG a0 a1 a2 a3 a4 a5 a6 a7 a8
      obtain ⟨a0, a1, a2, a3, a4, a5, a6, a7, a8⟩ := blk8 (G12.out.heap HNEW.out HNE.out)
      have L12 := Aside0.mk (show z12.length = zs.length + 5 by rw [N12.out, List.length_append, be_length, L11.out])
      cases x6 with
      | true =>
        go_wp2
        go_roundw
        case rel => exact ⟨j + 1, A12, c12, z12, rfl, by first | rfl | rw [wrap_succ j (by omega)] | simp, by omega, ⟨by rw [HN.out, N12.out, N11.out, NZ.out]; simp [putX]⟩, ⟨G1.out.trans G12.out⟩⟩
        case measure => first | exact meas_in j _ hjl | exact meas_up j _ hjl (by omega)
      | false =>
        go_wp2_with fail
        refine (laid1 w.heap.size w12 _ z12 4 x3 G12.out.row (Nat.le_trans (Nat.le_trans HBr.out HW.out.size) G12.out.ch.size) (by omega) (by decide) (by rw [L12.out]; have := LZ.out; omega)).mono ?_
        rintro e w13 ⟨v13, rfl, hG⟩
        obtain ⟨A13, c13, z13, rfl, N13, G13⟩ := G12.out.next hG
        clear hG a0 a1 a2 a3 a4 a5 a6 a7 a8
        obtain ⟨a0, a1, a2, a3, a4, a5, a6, a7, a8⟩ := blk8 (G13.out.heap HNEW.out HNE.out)
        have L13 := Aside0.mk (show z13.length = zs.length + 9 by rw [N13.out, List.length_append, be_length, L12.out])
        go_wp2_with fail
        refine (texts_lit w.heap.size w13 _ z13 x1 x2 G13.out.row (Nat.le_trans (Nat.le_trans HBr.out HW.out.size) G13.out.ch.size) b4 b5 (by rw [L13.out]; have := LZ.out; omega)).mono ?_
        rintro e w14 ⟨v14, rfl, hG⟩
        obtain ⟨A14, c14, z14, rfl, N14, G14⟩ := G13.out.next hG
        clear hG a0 a1 a2 a3 a4 a5 a6 a7 a8
        obtain ⟨a0, a1, a2, a3, a4, a5, a6, a7, a8⟩ := blk8 (G14.out.heap HNEW.out HNE.out)
        have L14 := Aside0.mk (show z14.length ≤ zs.length + 200000 by rw [N14.out, List.length_append, List.length_append, textB_len, textB_len, L13.out]; omega)
        have FB := Aside0.mk (show Below w.heap.size w w14 from below_three HWr.out HW.out (Ch.to_below G14.out.ch (fun k hk => own_base (Kd.own_of_R H0.out.row) k hk.symm) (Nat.le_trans HBr.out HW.out.size)))
        go_wp2_with fail
        refine (rows_lit w.heap.size w14 _ z14 A5 A6 c5 c6 x4 x5 (fun k => k < w.heap.size) G14.out.row (Nat.le_trans (Nat.le_trans HBr.out HW.out.size) G14.out.ch.size) (Kd.F_below F5.out FB.out) (Kd.F_below F6.out FB.out) (fun k hk e => by have := own_base (Kd.own_of_R G14.out.row) k e.symm; omega) l5 l6 B6.out B7.out (by have := L14.out; have := LZ.out; omega)).mono ?_
        rintro e w15 ⟨v15, rfl, hG⟩
        obtain ⟨A15, c15, z15, rfl, N15, G15⟩ := G14.out.next hG
        clear hG a0 a1 a2 a3 a4 a5 a6 a7 a8
        go_wp2
        go_roundw
        case rel => exact ⟨j + 1, A15, c15, z15, rfl, by first | rfl | rw [wrap_succ j (by omega)] | simp, by omega, ⟨by rw [HN.out, N15.out, N14.out, N13.out, N12.out, N11.out, NZ.out]; simp [putX]⟩, ⟨G1.out.trans G15.out⟩⟩
        case measure => first | exact meas_in j _ hjl | exact meas_up j _ hjl (by omega)
    · have hjn : j = l.length := by omega
      subst hjn
      have EB := Aside0.mk (show zs = bd by rw [NZ.out, EC.out, M4.out]; simp)
      have u3 : IntKind.u64.wrap (zs.length : Int) = zs.length := by rw [IntKind.wrap_u64]; have := LZ.out; omega
      go_wp2_with fail
      refine (laid1 w.heap.size wr _ [] 4 (zs.length : Int) (Kd.R_nil (Kd.int .u8) 5 wr w.heap.size (fun _ => True)) HBr.out (by omega) (by decide) (by simp)).mono ?_
      rintro e w5 ⟨v5, rfl, hG⟩
      obtain ⟨A5, c5, z5, rfl, N5, G5⟩ := (Grew.refl (Kd.R_nil (Kd.int .u8) 5 wr w.heap.size (fun _ => True))).next hG
      have hRb := G5.out.ch.R G.out.row (fun k _ hk => by simp [Value.ownBlock] at hk)
      have HC5 := Aside0.mk (Kd.R_reads' hRb).2.2
      have L5 := Aside0.mk (show z5.length + zs.length ≤ 140737488355328 by rw [N5.out, List.length_append, be_length]; have := LZ.out; simp only [List.length_nil]; omega)
      clear hG hRb
      go_wp2_with (first | ((with_reducible refine gate_builtin (b := .append) (xs := #[.tmp 82, .tmp 83]) rfl ?_); at_builtin; go_loud (refine gcat w.heap.size rfl (.tmp 82) (.tmp 83) 28 rfl Try.underlying28 info5 _ z5 zs _ _ rfl rfl G5.out.row HC5.out (Nat.le_trans HBr.out G5.out.ch.size) L5.out ?_); intro A9 c9 w9 z9 N9 hG9; have G9 := Aside0.mk (G5.out.trans hG9); clear hG9))
      go_ret2
      exact ⟨⟨_, rfl, by rw [show pc = z9 by rw [EP.out, N9.out, N5.out, EB.out]; simp]; exact G9.out.row⟩, below_step HWr.out (Ch.to_below G9.out.ch (fun k hk => by simp [Value.ownBlock] at hk) (Nat.le_refl _))⟩
end Go.Proofs.Ytgndmbkkggjklaa.Jo
namespace Go.Proofs.Ytgndmbkkggjklaa.Jo
set_option linter.unusedVariables false
set_option linter.unusedSimpArgs false
open Go.RowKit Go.Proofs.YtgndmbkkggjklaaW.PrintWords Go.Proofs.YtgndmbkkggjklaaW.PrintMore Go.Proofs.Ytgndmbkkggjklaa.Bs
theorem set_last (j : Nat) (l : List Int) (v : Int) : (List.replicate (j + 1) 0 ++ l).set j v = List.replicate j 0 ++ v :: l := by
  rw [List.replicate_succ', List.append_assoc, List.set_append_right _ _ (by simp)]; simp
theorem num_len (j i : Nat) (n : Int) (h : i ≤ 8) (hj : j ≤ 8) : (List.replicate (j + 1) (0 : Int) ++ be i n).length = j + 1 + i := by
  rw [List.length_append, be_length, List.length_replicate]
theorem num_one (m n : Int) (k i j : Nat) (l : List Int) (h2 : 0 ≤ m) (h3 : m ≤ 18446744073709551615) (hj : j ≤ 8) (hl : l.length = j + 1 + i) : breviaryref32_number.l0 (k + 1) m l ((j + 1 : Nat) - 1 : Int) = breviaryref32_number.l0 k (m / 256) (l.set j (m % 256)) ((j : Int) - 1) := by
  have h6 : IntKind.u64.wrap (m.tdiv 256) = m / 256 := by
    rw [Int.tdiv_eq_ediv_of_nonneg h2, IntKind.wrap_u64]; omega
  have h7 : m.tmod 256 % 256 = m % 256 := by rw [Int.tmod_eq_emod_of_nonneg h2]; omega
  have h8 : wrap64 (((j + 1 : Nat) : Int) - 1 - 1) = (j : Int) - 1 := by unfold wrap64; omega
  have h9 : (((j + 1 : Nat) : Int) - 1).toNat = j := by omega
  rw [breviaryref32_number.l0, if_pos (by omega), if_pos (by omega), if_pos (by omega), h6, h7, h8, h9]
theorem num_step (n : Int) (size : Nat) (hn : 0 ≤ n) (h1 : n ≤ 18446744073709551615) (hs : size ≤ 8) : ∀ j i, i + j = size → breviaryref32_number.l0 (j + 1) (n / 256 ^ i) (List.replicate j 0 ++ be i n) ((j : Int) - 1) = some (be size n) := by
  intro j
  induction j with
  | zero => intro i hi; obtain rfl : i = size := by omega
            rw [breviaryref32_number.l0, if_neg (by simp)]; simp
  | succ j ih =>
    intro i hi
    have h2 : 0 ≤ n / 256 ^ i := Int.ediv_nonneg hn (Int.le_of_lt (Int.pow_pos (by decide)))
    have h3 : n / 256 ^ i / 256 = n / 256 ^ (i + 1) := by rw [Int.ediv_ediv_of_nonneg (Int.le_of_lt (Int.pow_pos (by decide))), Int.pow_succ]
    have h4 : n / 256 ^ i ≤ n := Int.ediv_le_self _ hn
    rw [num_one (n / 256 ^ i) n (j + 1) i j _ h2 (Int.le_trans h4 h1) (by omega) (num_len j i n (by omega) (by omega)), set_last, h3]
    exact ih (i + 1) (by omega)
theorem num_be (n : Int) (size : Nat) (hn : 0 ≤ n) (h1 : n ≤ 18446744073709551615) (hs : size ≤ 8) : breviaryref32_number.f (size + 1) n size = some (be size n) := by
  have h := num_step n size hn h1 hs size 0 (by omega)
  rw [breviaryref32_number.f, if_pos (by omega), if_pos (by simp; omega), wrap_pred size (by omega), Int.toNat_natCast]
  simpa [be] using h
/-- A new row of bytes is what a call returns. -/
def Gives (w : World) (l : List Int) (e : Ending) (w' : World) : Prop := ∃ v, e = .returned v ∧ (Kd.int .u8).R 5 w' w.heap.size (fun _ => True) v l ∧ Below w.heap.size w w'
theorem number_calls (w : World) (n : Int) (size : Nat) (hn : 0 ≤ n) (h1 : n ≤ 18446744073709551615) (hs : size ≤ 8) : Calls Try.prog 23 #[.int .u64 n, .int .i64 size] w (Gives w (be size n)) :=
  (breviaryref32_number.calls (size + 1) n size (be size n) w (num_be n size hn h1 hs)).mono (fun e w' h => h)
theorem refrow_step (ns : List Int) (hl : ns.length ≤ 10000) (h0 : ∀ n ∈ ns, 0 ≤ n ∧ n ≤ 9223372036854775807) : ∀ (d j : Nat) (xs : List Int), j + d = ns.length → xs.length + d * 4 ≤ 1000000 → breviaryref32_row.l0 (d + 5 + 1) ns xs j = some (xs ++ (ns.drop j).flatMap (be 4)) := by
  intro d
  induction d with
  | zero => intro j xs hj _; rw [breviaryref32_row.l0, if_neg (by omega), show j = ns.length by omega]; simp
  | succ d ih =>
    intro j xs hj hx
    have hjl : j < ns.length := by omega
    have e1 : rd ns (j : Int) = ns[j] := by simp [rd, List.getD, hjl]
    have hn := h0 _ (List.getElem_mem hjl)
    have e2 : IntKind.u64.wrap ns[j] = ns[j] := by rw [IntKind.wrap_u64]; omega
    have e3 : breviaryref32_number.f (d + 5 + 1) ns[j] 4 = some (be 4 ns[j]) := at_rounds (fun k => breviaryref32_number.mono _ _ k) (show 4 + 1 ≤ d + 5 + 1 by omega) (num_be ns[j] 4 hn.1 (by omega) (by decide))
    rw [show d + 1 + 5 + 1 = (d + 5 + 1) + 1 by omega, breviaryref32_row.l0, if_pos (by omega), if_pos (by omega), e1, e2, e3]
    simp only [Option.bind_some]
    rw [if_pos (by rw [be_length]; omega), wrap_succ j (by omega), ih (j + 1) _ (by omega) (by rw [List.length_append, be_length]; omega), List.drop_eq_getElem_cons hjl, List.flatMap_cons, List.append_assoc]
theorem refrow_calls (w : World) (A : Option Addr) (c : Nat) (ns : List Int) (hC : (Kd.int .i64).C w A ns.length ns) (hc : ns.length ≤ c) (hl : ns.length ≤ 10000) (h0 : ∀ n ∈ ns, 0 ≤ n ∧ n ≤ 9223372036854775807) : Calls Try.prog 25 #[.slice A ns.length c] w (Gives w (rowB ns)) := by
  refine (breviaryref32_row.calls (ns.length + 5 + 1) A c ns (rowB ns) w hC hc ?_).mono (fun e w' h => h)
  have e2 : IntKind.u64.wrap (ns.length : Int) = ns.length := by rw [IntKind.wrap_u64]; omega
  have e3 : breviaryref32_number.f (ns.length + 5 + 1) (ns.length : Int) 2 = some (be 2 ns.length) := at_rounds (fun k => breviaryref32_number.mono _ _ k) (show 2 + 1 ≤ ns.length + 5 + 1 by omega) (num_be ns.length 2 (by omega) (by omega) (by decide))
  unfold breviaryref32_row.f
  rw [e2, e3, Option.bind_some]
  have := refrow_step ns hl h0 ns.length 0 (be 2 ns.length) (by omega) (by rw [be_length]; omega)
  simpa [rowB] using this
theorem below_step2 {w w1 w2 : World} {v v' : Value} {xs : List Int} {ys : List Int} (h : Below w.heap.size w w1) (hz : w.heap.size ≤ w1.heap.size) (k : Grew w.heap.size w1 v v' xs w2) (hR : (Kd.int .u8).R 5 w1 w.heap.size (fun _ => True) v ys) : Below w.heap.size w w2 :=
  h.trans (Ch.to_below k.ch (fun i hi => own_base (Kd.own_of_R hR) i hi.symm) hz)
section
variable {P : Program} {ops : Array Oper} {rest : List Oper} {o : Oper} {a : Act} {Q : Exit → Act → World → Prop}
theorem gcat' {W : World} (base : Nat) (hgd : o.guard = none) (s x : Operand) (t : TypeId)
    (ho : o.op = .call { callee := .builtin .append, args := #[s, x], argTypes := #[t, t] })
    (ht : P.underlying t = some (.slice 5)) (hinfo : (P.info? 5).map (fun i => (i.zero, i.size, i.bytes)) = some (some (.int .u8 0), 1, 1))
    (v : Value) (xs ys : List Int) (m : Nat) (hm : ys.length = m) (A' : Option Addr) (c' : Nat) (hs : a.eval s = v) (hx : a.eval x = .slice A' m c')
    (HO : (Kd.int .u8).R 5 W base (fun _ => True) v xs) (HC : (Kd.int .u8).C W A' m ys) (hbase : base ≤ W.heap.size) (hl : xs.length + ys.length ≤ 140737488355328)
    (h : ∀ A c w1 zs, Aside0 (zs = xs ++ ys) → Grew base W v (.slice A zs.length c) zs w1 → wpList P ops Q rest (a.put o.dst (.slice A zs.length c)) w1) :
    wpList P ops Q (o :: rest) a W := by
  subst hm
  exact gcat base hgd s x t ho ht hinfo v xs ys A' c' hs hx HO HC hbase hl h
end
set_option maxRecDepth 100000 in
set_option maxHeartbeats 400000 in
theorem reftext_calls (w : World) (s : ByteArray) (hs : s.size ≤ 65535) : Calls Try.prog 24 #[.string s] w (Gives w (textB s)) := by
  have hu : IntKind.u64.wrap (s.size : Int) = s.size := by rw [IntKind.wrap_u64]; omega
  have C1 := number_calls w (s.size : Int) 2 (by omega) (by omega) (by decide)
  have kb := fun W => print_bytes (P := Try.prog) 9 28 5 Try.underlying9 Try.underlying28 Try.underlying5 s W
  go_enter Try.func24, Try.ntmps24
  go_wp2_with fail
  refine C1.mono ?_
  rintro e w1 ⟨v, rfl, hR, hB⟩
  obtain ⟨A, c, rfl⟩ := Kd.R_slice hR
  have hS := bytes_reads w1 5 s (by omega)
  have hz1 := hB.size
  have hW := bytes_below (Below.refl w1.heap.size w1) (Nat.le_refl _) 5 s
  have HR := Aside0.mk (Kd.R_below hR hW)
  have HC := Aside0.mk (Kd.C_of_reads (h1 := fun _ => rfl) (readsInt_of.1 hS))
  have HBW := Aside0.mk (below_step hB hW)
  have hl : (be 2 (s.size : Int)).length + (bytesOf s).length ≤ 140737488355328 := by rw [be_length, bytesOf_length]; omega
  have HL := Aside0.mk hl
  have HZ := Aside0.mk (Nat.le_trans hB.size hW.size)
  have HT := Aside0.mk (show textB s = be 2 (s.size : Int) ++ bytesOf s from rfl)
  clear C1 hR hS hB hW hz1 hl
  generalize be 2 (s.size : Int) = bl at *
  go_wp2_with (first | ((with_reducible refine gate_builtin (b := .append) (xs := #[.tmp 6, .tmp 8]) rfl ?_); at_builtin; go_loud (refine gcat' w.heap.size rfl (.tmp 6) (.tmp 8) 28 rfl Try.underlying28 info5 _ bl (bytesOf s) _ (bytesOf_length s) _ _ rfl rfl HR.out HC.out HZ.out HL.out ?_); intro A2 c2 w2 zs NZ G2; have GG := Aside0.mk G2; clear G2))
  go_ret
  exact ⟨_, rfl, by rw [HT.out, ← NZ.out]; exact GG.out.row, below_step2 HBW.out HZ.out GG.out HR.out⟩
end Go.Proofs.Ytgndmbkkggjklaa.Jo
namespace Go.Proofs.Ytgndmbkkggjklaa.Jo
set_option linter.unusedVariables false
set_option linter.unusedSimpArgs false
open Go.RowKit Go.Proofs.YtgndmbkkggjklaaW.PrintWords Go.Proofs.YtgndmbkkggjklaaW.PrintMore Go.Proofs.Ytgndmbkkggjklaa.Bs
theorem Gives.grew {B : Nat} {w w' : World} {l : List Int} {v : Value} (h : (Kd.int .u8).R 5 w' w.heap.size (fun _ => True) v l) (hb : Below w.heap.size w w') (hB : B ≤ w.heap.size) : Grew B w (.slice none 0 0) v l w' :=
  ⟨Kd.R_lower h hB, fun k hk => .inr (own_base (Kd.own_of_R h) k hk.symm), Ch.below (Ch.refl _ _) hb⟩
theorem blk7 {w : World} {g t : Nat} {a b c d e f h : Value} (q : w.heap[g]? = some (.cells #[a, b, c, d, e, f, h] t (0, 0))) : w.cell? ⟨g, 0, none⟩ = some a ∧ w.cell? ⟨g, 1, none⟩ = some b ∧ w.cell? ⟨g, 2, none⟩ = some c ∧ w.cell? ⟨g, 3, none⟩ = some d ∧ w.cell? ⟨g, 4, none⟩ = some e ∧ w.cell? ⟨g, 5, none⟩ = some f ∧ w.cell? ⟨g, 6, none⟩ = some h ∧ ∀ j, w.frozen? ⟨g, j, none⟩ = false :=
  ⟨blk_cell q 0, blk_cell q 1, blk_cell q 2, blk_cell q 3, blk_cell q 4, blk_cell q 5, blk_cell q 6, fun j => blk_frozen q j⟩
theorem be1 (n : Int) : be 1 n = [n % 256] := by simp [be]
set_option maxRecDepth 100000 in
set_option maxHeartbeats 4000000 in
theorem refput_calls (w : World) (A : Option Addr) (cp : Nat) (c : S25) (hC : k46.C w A c.f3.length c.f3) (hc : c.f3.length ≤ cp) (hr : rightC c = true) (h1 : 0 ≤ c.f1 ∧ c.f1 < 18446744073709551616) (h2 : 0 ≤ c.f2 ∧ c.f2 < 18446744073709551616) :
    Calls Try.prog 12 #[.agg #[.int .i64 c.f0, .int .u64 c.f1, .int .u64 c.f2, .slice A c.f3.length cp]] w (Gives w (putC c)) := by
  have GC := Aside0.mk (good_of_rightC c hr)
  have EC := Aside0.mk (show bodyC c = be 4 c.f0 ++ be 8 c.f1 ++ be 8 c.f2 ++ be 2 c.f3.length ++ c.f3.flatMap putX from rfl)
  have EP := Aside0.mk (show putC c = be 4 (bodyC c).length ++ bodyC c from rfl)
  obtain ⟨tx, s, t, l⟩ := c
  simp only at hc hC EC h1 h2 ⊢
  have HC := Aside0.mk hC
  have hl2 : l.length ≤ 20000 := GC.out.len.2
  have htx : 1 ≤ tx ∧ tx ≤ 2147483647 := GC.out.txn
  have GA := Aside0.mk (show ∀ x ∈ l, goodX x from GC.out.all)
  have u1 : IntKind.u64.wrap tx = tx := by rw [IntKind.wrap_u64]; omega
  have u2 : IntKind.u64.wrap (l.length : Int) = l.length := by rw [IntKind.wrap_u64]; omega
  generalize bodyC ⟨tx, s, t, l⟩ = bd at *
  generalize putC ⟨tx, s, t, l⟩ = pc at *
  clear hC hr GC
  have hW := below_alloc (Below.refl w.heap.size w) (.cells #[.int .i64 tx, .int .u64 s, .int .u64 t, .slice A l.length cp] 25)
  have q := heap_alloc_new w (.cells #[.int .i64 tx, .int .u64 s, .int .u64 t, .slice A l.length cp] 25)
  obtain ⟨w1, hw1⟩ : ∃ w1, w1 = w.alloc (.cells #[.int .i64 tx, .int .u64 s, .int .u64 t, .slice A l.length cp] 25) := ⟨_, rfl⟩
  have HB1 := Aside0.mk (hw1 ▸ hW)
  have Q := Aside0.mk (hw1 ▸ q)
  have HBW := Aside0.mk (show w.heap.size ≤ w1.heap.size from HB1.out.size)
  obtain ⟨q0, q1, q2, q3, q4⟩ := blk4 Q.out
  clear hW q
  go_enter Try.func12, Try.ntmps12
  go_wp2_with fail
  rw [← hw1]
  refine (number_calls w1 tx 4 (by omega) (by omega) (by decide)).mono ?_
  rintro e w2 ⟨v2, rfl, hr, hb⟩
  have hG := Gives.grew hr hb HBW.out
  obtain ⟨A2, c2, rfl⟩ := Kd.R_slice hG.row
  obtain ⟨z2, N2⟩ : ∃ z, z = be 4 tx := ⟨_, rfl⟩
  rw [← N2] at hG ⊢
  have L2 := Aside0.mk (show z2.length = 4 by rw [N2]; simp [be_length])
  replace N2 := Aside0.mk N2
  have G2 := Aside0.mk hG
  clear hr hb hG q0 q1 q2 q3 q4
  obtain ⟨q0, q1, q2, q3, q4⟩ := blk4 (G2.out.ch.heap Q.out (by simp [Value.ownBlock]))
  go_wp2_with fail
  refine (number_calls w2 s 8 h1.1 (by omega) (by decide)).mono ?_
  rintro e x3 ⟨y3, rfl, hr, hb⟩
  obtain ⟨B3, d3, rfl⟩ := Kd.R_slice hr
  have GA3 := Aside0.mk (G2.out.after hb)
  have HC3 := Aside0.mk (Kd.R_reads' hr).2.2
  have HZ3 := Aside0.mk (show w.heap.size ≤ x3.heap.size from Nat.le_trans HBW.out GA3.out.ch.size)
  have HL3 := Aside0.mk (show z2.length + (be 8 s).length ≤ 140737488355328 by rw [L2.out, be_length]; decide)
  clear hr hb q0 q1 q2 q3 q4
  obtain ⟨q0, q1, q2, q3, q4⟩ := blk4 (GA3.out.ch.heap Q.out (by simp [Value.ownBlock]))
  obtain ⟨ys3, NY3⟩ : ∃ y, y = be 8 s := ⟨_, rfl⟩
  rw [← NY3] at HC3 HL3 ⊢
  replace NY3 := Aside0.mk NY3
  go_wp2_with (first | ((with_reducible refine gate_builtin (b := .append) (xs := #[.tmp 10, .tmp 13]) rfl ?_); at_builtin; go_loud (refine gcat w.heap.size rfl (.tmp 10) (.tmp 13) 28 rfl Try.underlying28 info5 _ z2 ys3 _ _ rfl rfl GA3.out.row HC3.out HZ3.out HL3.out ?_); intro A3 c3 w3 z3 N3 hG; have G3 := Aside0.mk (GA3.out.trans hG); clear hG q0 q1 q2 q3 q4; obtain ⟨q0, q1, q2, q3, q4⟩ := blk4 (G3.out.ch.heap Q.out (by simp [Value.ownBlock]))))
  have L3 := Aside0.mk (show z3.length = 12 by rw [N3.out, List.length_append, NY3.out, be_length, L2.out])
  refine (number_calls w3 t 8 h2.1 (by omega) (by decide)).mono ?_
  rintro e x4 ⟨y4, rfl, hr, hb⟩
  obtain ⟨B4, d4, rfl⟩ := Kd.R_slice hr
  have GA4 := Aside0.mk (G3.out.after hb)
  have HC4 := Aside0.mk (Kd.R_reads' hr).2.2
  have HZ4 := Aside0.mk (show w.heap.size ≤ x4.heap.size from Nat.le_trans HBW.out GA4.out.ch.size)
  have HL4 := Aside0.mk (show z3.length + (be 8 t).length ≤ 140737488355328 by rw [L3.out, be_length]; decide)
  clear hr hb q0 q1 q2 q3 q4
  obtain ⟨q0, q1, q2, q3, q4⟩ := blk4 (GA4.out.ch.heap Q.out (by simp [Value.ownBlock]))
  obtain ⟨ys4, NY4⟩ : ∃ y, y = be 8 t := ⟨_, rfl⟩
  rw [← NY4] at HC4 HL4 ⊢
  replace NY4 := Aside0.mk NY4
  go_wp2_with (first | ((with_reducible refine gate_builtin (b := .append) (xs := #[.tmp 15, .tmp 18]) rfl ?_); at_builtin; go_loud (refine gcat w.heap.size rfl (.tmp 15) (.tmp 18) 28 rfl Try.underlying28 info5 _ z3 ys4 _ _ rfl rfl GA4.out.row HC4.out HZ4.out HL4.out ?_); intro A4 c4 w4 z4 N4 hG; have G4 := Aside0.mk (GA4.out.trans hG); clear hG q0 q1 q2 q3 q4; obtain ⟨q0, q1, q2, q3, q4⟩ := blk4 (G4.out.ch.heap Q.out (by simp [Value.ownBlock]))))
  have L4 := Aside0.mk (show z4.length = 20 by rw [N4.out, List.length_append, NY4.out, be_length, L3.out])
  refine (number_calls w4 (l.length : Int) 2 (by omega) (by omega) (by decide)).mono ?_
  rintro e x5 ⟨y5, rfl, hr, hb⟩
  obtain ⟨B5, d5, rfl⟩ := Kd.R_slice hr
  have GA5 := Aside0.mk (G4.out.after hb)
  have HC5 := Aside0.mk (Kd.R_reads' hr).2.2
  have HZ5 := Aside0.mk (show w.heap.size ≤ x5.heap.size from Nat.le_trans HBW.out GA5.out.ch.size)
  have HL5 := Aside0.mk (show z4.length + (be 2 (l.length : Int)).length ≤ 140737488355328 by rw [L4.out, be_length]; decide)
  clear hr hb q0 q1 q2 q3 q4
  obtain ⟨q0, q1, q2, q3, q4⟩ := blk4 (GA5.out.ch.heap Q.out (by simp [Value.ownBlock]))
  obtain ⟨ys5, NY5⟩ : ∃ y, y = be 2 (l.length : Int) := ⟨_, rfl⟩
  rw [← NY5] at HC5 HL5 ⊢
  replace NY5 := Aside0.mk NY5
  go_wp2_with (first | ((with_reducible refine gate_builtin (b := .append) (xs := #[.tmp 20, .tmp 25]) rfl ?_); at_builtin; go_loud (refine gcat w.heap.size rfl (.tmp 20) (.tmp 25) 28 rfl Try.underlying28 info5 _ z4 ys5 _ _ rfl rfl GA5.out.row HC5.out HZ5.out HL5.out ?_); intro A5 c5 w5 z5 N5 hG; have G5 := Aside0.mk (GA5.out.trans hG); clear hG q0 q1 q2 q3 q4; obtain ⟨q0, q1, q2, q3, q4⟩ := blk4 (G5.out.ch.heap Q.out (by simp [Value.ownBlock]))))
  have L5 := Aside0.mk (show z5.length = 22 by rw [N5.out, List.length_append, NY5.out, be_length, L4.out])
  have M5 := Aside0.mk (show z5 = be 4 tx ++ be 8 s ++ be 8 t ++ be 2 (l.length : Int) by rw [N5.out, NY5.out, N4.out, NY4.out, N3.out, NY3.out, N2.out])
  clear N2 N3 N4 N5 NY3 NY4 NY5 G2 G3 G4 GA3 GA4 GA5 L2 L3 L4 HC3 HC4 HC5 HL3 HL4 HL5
  go_loopw [3, 4] (fun v3 v4 wr => ∃ (j : Nat) (Ab : Option Addr) (cb : Nat) (zs : List Int), v3 = .slice Ab zs.length cb ∧ v4 = .int .i64 j ∧ j ≤ l.length ∧ Aside0 (zs = z5 ++ (l.take j).flatMap putX) ∧ Aside0 (Grew w.heap.size w1 (.slice none 0 0) (.slice Ab zs.length cb) zs wr)) (fun _ v4 _ => l.length - (intOf v4).toNat)
  case atStart => exact ⟨0, _, _, z5, rfl, rfl, Nat.zero_le _, ⟨by simp⟩, G5⟩
  case round =>
    clear G5 q0 q1 q2 q3 q4
    obtain ⟨j, Ab, cb, zs, rfl, rfl, hj, NZ, G⟩ := hrel
    have LZ := Aside0.mk (show zs.length ≤ 22 + 20000 * 139087 by
      rw [NZ.out, List.length_append, L5.out]
      have h1 := flatX_len (l.take j) (fun x hx => GA.out x (List.mem_of_mem_take hx))
      rw [List.length_take] at h1
      have h2 : min j l.length * 139087 ≤ 20000 * 139087 := Nat.mul_le_mul_right _ (by omega)
      omega)
    have HBr := Aside0.mk (show w.heap.size ≤ wr.heap.size from Nat.le_trans HBW.out G.out.ch.size)
    have HWr := Aside0.mk (show Below w.heap.size w wr from below_step HB1.out (Ch.to_below G.out.ch (fun k hk => by simp [Value.ownBlock] at hk) (Nat.le_refl _)))
    obtain ⟨q0, q1, q2, q3, q4⟩ := blk4 (G.out.ch.heap Q.out (by simp [Value.ownBlock]))
    by_cases hjl : j < l.length
    · obtain ⟨ad, A5, c5', A6, c6', e, k0, k1, k2, k3, k4, k5, k6, k7, l5, g5, l6, g6⟩ := at46 HC.out j hjl
      cases e
      replace k0 := pw_cell_below HWr.out k0
      replace k1 := pw_cell_below HWr.out k1
      replace k2 := pw_cell_below HWr.out k2
      replace k3 := pw_cell_below HWr.out k3
      replace k4 := pw_cell_below HWr.out k4
      replace k5 := pw_cell_below HWr.out k5
      replace k6 := pw_cell_below HWr.out k6
      replace k7 := pw_cell_below HWr.out k7
      have F5 := Aside0.mk (Kd.C_F (Kd.heap_int .i64) g5)
      have F6 := Aside0.mk (Kd.C_F (Kd.heap_int .i64) g6)
      have hg := GA.out _ (List.getElem_mem hjl)
      have hnext := flat_take putX l j hjl
      generalize hx : l[j] = x at *
      obtain ⟨i0, ⟨x0, x1, x2, x3, x4, x5, x6⟩⟩ := x
      obtain ⟨b1, b2, b3, b4, b5, b6, b7⟩ := hg
      simp only at k0 k1 k2 k3 k4 k5 k6 k7 l5 l6 F5 F6 b1 b2 b3 b4 b5 b6 b7
      have B6 := Aside0.mk (show x4.length ≤ 10000 ∧ ∀ n ∈ x4, 0 ≤ n ∧ n ≤ 9223372036854775807 from ⟨by omega, fun n hn => by have := b6.2 n hn; omega⟩)
      have B7 := Aside0.mk (show x5.length ≤ 10000 ∧ ∀ n ∈ x5, 0 ≤ n ∧ n ≤ 9223372036854775807 from ⟨by omega, fun n hn => by have := b7.2 n hn; omega⟩)
      have B6' := b6.1
      have B7' := b7.1
      have HN := Aside0.mk hnext
      have hi0 : (0 : Int) ≤ (j : Int) := by omega
      have hi1 : (j : Int) < (l.length : Int) := by omega
      have v1' : IntKind.u64.wrap i0 = i0 := by rw [IntKind.wrap_u64]; omega
      have v3' : IntKind.u64.wrap x3 = x3 := by rw [IntKind.wrap_u64]; omega
      have v2' : IntKind.u8.wrap x0 = x0 % 256 := by rw [IntKind.wrap_u8]
      have hW := below_alloc (Below.refl wr.heap.size wr) (.cells #[.int .i64 x0, .string x1, .string x2, .int .i64 x3, .slice A5 x4.length c5', .slice A6 x5.length c6', .bool x6] 44)
      have hnew := heap_alloc_new wr (.cells #[.int .i64 x0, .string x1, .string x2, .int .i64 x3, .slice A5 x4.length c5', .slice A6 x5.length c6', .bool x6] 44)
      have HNE := Aside0.mk (show some wr.heap.size ≠ (Value.slice Ab zs.length cb).ownBlock from fun e => by have := own_lt (Kd.own_of_R G.out.row) _ e.symm; omega)
      have H0 := Aside0.mk (Grew.refl (Kd.R_below G.out.row hW))
      have G1 := Aside0.mk (G.out.after hW)
      clear g5 g6 hx b6 b7 hnext hj G
      go_upto_region 9 with (fail)
      have hws : (wr.alloc (.cells #[.int .i64 x0, .string x1, .string x2, .int .i64 x3, .slice A5 x4.length c5', .slice A6 x5.length c6', .bool x6] 44)).heap.size = wr.heap.size + 1 := by simp
      generalize hWW : wr.alloc (.cells #[.int .i64 x0, .string x1, .string x2, .int .i64 x3, .slice A5 x4.length c5', .slice A6 x5.length c6', .bool x6] 44) = W at *
      have HNEW := Aside0.mk hnew
      have HW := Aside0.mk hW
      clear hW hnew hWW hws
      replace k0 := pw_cell_below HW.out k0
      replace k1 := pw_cell_below HW.out k1
      replace k2 := pw_cell_below HW.out k2
      replace k3 := pw_cell_below HW.out k3
      replace k4 := pw_cell_below HW.out k4
      replace k5 := pw_cell_below HW.out k5
      replace k6 := pw_cell_below HW.out k6
      replace k7 := pw_cell_below HW.out k7
      clear q0 q1 q2 q3 q4
      obtain ⟨q0, q1, q2, q3, q4⟩ := blk4 (G1.out.ch.heap Q.out (by simp [Value.ownBlock]))
      obtain ⟨a0, a1, a2, a3, a4, a5, a6, a7⟩ := blk7 HNEW.out
      go_wp2_with fail
      refine (number_calls W i0 4 (by omega) (by omega) (by decide)).mono ?_
      rintro e x11 ⟨y11, rfl, hr, hb⟩
      obtain ⟨B11, d11, rfl⟩ := Kd.R_slice hr
      have GA11 := Aside0.mk (H0.out.after hb)
      have HC11 := Aside0.mk (Kd.R_reads' hr).2.2
      have HZ11 := Aside0.mk (show w.heap.size ≤ x11.heap.size from Nat.le_trans (Nat.le_trans HBr.out HW.out.size) GA11.out.ch.size)
      have HL11 := Aside0.mk (show zs.length + (be 4 i0).length ≤ 140737488355328 by rw [be_length]; have := LZ.out; omega)
      clear hr hb q0 q1 q2 q3 q4 k0 k1 k2 k3 k4 k5 k6 k7
      obtain ⟨a0, a1, a2, a3, a4, a5, a6, a7⟩ := blk7 (GA11.out.heap HNEW.out HNE.out)
      obtain ⟨ys11, NY11⟩ : ∃ y, y = be 4 i0 := ⟨_, rfl⟩
      rw [← NY11] at HC11 HL11 ⊢
      replace NY11 := Aside0.mk NY11
      go_wp2_with (first | ((with_reducible refine gate_builtin (b := .append) (xs := #[.tmp 40, .tmp 48]) rfl ?_); at_builtin; go_loud (refine gcat w.heap.size rfl (.tmp 40) (.tmp 48) 28 rfl Try.underlying28 info5 _ zs ys11 _ _ rfl rfl GA11.out.row HC11.out HZ11.out HL11.out ?_); intro A11 c11 w11 z11 N11 hG; have G11 := Aside0.mk (GA11.out.trans hG); clear hG a0 a1 a2 a3 a4 a5 a6 a7; obtain ⟨a0, a1, a2, a3, a4, a5, a6, a7⟩ := blk7 (G11.out.heap HNEW.out HNE.out)) | ((with_reducible refine gate_builtin (b := .append) (xs := #[.tmp 50, .tmp 54]) rfl ?_); at_builtin; go_loud (refine gbyte w.heap.size rfl (.tmp 50) (.tmp 54) 28 rfl Try.underlying28 info5 _ z11 (x0 % 256) rfl rfl G11.out.row (Nat.le_trans (Nat.le_trans HBr.out HW.out.size) G11.out.ch.size) (by rw [N11.out, List.length_append, NY11.out, be_length]; have := LZ.out; omega) ?_); intro A12 c12 w12 z12 N12 hG; have G12 := Aside0.mk (G11.out.trans hG); clear hG a0 a1 a2 a3 a4 a5 a6 a7; obtain ⟨a0, a1, a2, a3, a4, a5, a6, a7⟩ := blk7 (G12.out.heap HNEW.out HNE.out)))
      · rename_i hx6
        refine ⟨⟨j + 1, A12, c12, z12, rfl, by first | rfl | rw [wrap_succ j (by omega)] | simp, by omega, ⟨by rw [HN.out, N12.out, N11.out, NY11.out, NZ.out]; simp [putX, be1, hx6]⟩, ⟨G1.out.trans G12.out⟩⟩, ?_⟩
        first | exact meas_in j _ hjl | exact meas_up j _ hjl (by omega)
      · have hx6 : x6 = false := by first | assumption | (simpa using ‹¬ x6 = true›)
        have L12 := Aside0.mk (show z12.length = zs.length + 5 by rw [N12.out, List.length_append, N11.out, List.length_append, NY11.out, be_length]; rfl)
        refine (number_calls w12 x3 4 (by omega) (by omega) (by decide)).mono ?_
        rintro e x13 ⟨y13, rfl, hr, hb⟩
        obtain ⟨B13, d13, rfl⟩ := Kd.R_slice hr
        have GA13 := Aside0.mk (G12.out.after hb)
        have HC13 := Aside0.mk (Kd.R_reads' hr).2.2
        have HZ13 := Aside0.mk (show w.heap.size ≤ x13.heap.size from Nat.le_trans (Nat.le_trans HBr.out HW.out.size) GA13.out.ch.size)
        have HL13 := Aside0.mk (show z12.length + (be 4 x3).length ≤ 140737488355328 by rw [be_length, L12.out]; have := LZ.out; omega)
        clear hr hb a0 a1 a2 a3 a4 a5 a6 a7
        obtain ⟨a0, a1, a2, a3, a4, a5, a6, a7⟩ := blk7 (GA13.out.heap HNEW.out HNE.out)
        obtain ⟨ys13, NY13⟩ : ∃ y, y = be 4 x3 := ⟨_, rfl⟩
        rw [← NY13] at HC13 HL13 ⊢
        replace NY13 := Aside0.mk NY13
        go_wp2_with (first | ((with_reducible refine gate_builtin (b := .append) (xs := #[.tmp 58, .tmp 62]) rfl ?_); at_builtin; go_loud (refine gcat w.heap.size rfl (.tmp 58) (.tmp 62) 28 rfl Try.underlying28 info5 _ z12 ys13 _ _ rfl rfl GA13.out.row HC13.out HZ13.out HL13.out ?_); intro A13 c13 w13 z13 N13 hG; have G13 := Aside0.mk (GA13.out.trans hG); clear hG a0 a1 a2 a3 a4 a5 a6 a7; obtain ⟨a0, a1, a2, a3, a4, a5, a6, a7⟩ := blk7 (G13.out.heap HNEW.out HNE.out)))
        have L13 := Aside0.mk (show z13.length = zs.length + 9 by rw [N13.out, List.length_append, NY13.out, be_length, L12.out])
        refine (reftext_calls w13 x1 b4).mono ?_
        rintro e x14 ⟨y14, rfl, hr, hb⟩
        obtain ⟨B14, d14, rfl⟩ := Kd.R_slice hr
        have GA14 := Aside0.mk (G13.out.after hb)
        have HC14 := Aside0.mk (Kd.R_reads' hr).2.2
        have HZ14 := Aside0.mk (show w.heap.size ≤ x14.heap.size from Nat.le_trans (Nat.le_trans HBr.out HW.out.size) GA14.out.ch.size)
        have HL14 := Aside0.mk (show z13.length + (textB x1).length ≤ 140737488355328 by rw [textB_len, L13.out]; have := LZ.out; omega)
        clear hr hb a0 a1 a2 a3 a4 a5 a6 a7
        obtain ⟨a0, a1, a2, a3, a4, a5, a6, a7⟩ := blk7 (GA14.out.heap HNEW.out HNE.out)
        obtain ⟨ys14, NY14⟩ : ∃ y, y = textB x1 := ⟨_, rfl⟩
        rw [← NY14] at HC14 HL14 ⊢
        replace NY14 := Aside0.mk NY14
        go_wp2_with (first | ((with_reducible refine gate_builtin (b := .append) (xs := #[.tmp 64, .tmp 67]) rfl ?_); at_builtin; go_loud (refine gcat w.heap.size rfl (.tmp 64) (.tmp 67) 28 rfl Try.underlying28 info5 _ z13 ys14 _ _ rfl rfl GA14.out.row HC14.out HZ14.out HL14.out ?_); intro A14 c14 w14 z14 N14 hG; have G14 := Aside0.mk (GA14.out.trans hG); clear hG a0 a1 a2 a3 a4 a5 a6 a7; obtain ⟨a0, a1, a2, a3, a4, a5, a6, a7⟩ := blk7 (G14.out.heap HNEW.out HNE.out)))
        have L14 := Aside0.mk (show z14.length ≤ zs.length + 100000 by rw [N14.out, List.length_append, NY14.out, textB_len, L13.out]; omega)
        refine (reftext_calls w14 x2 b5).mono ?_
        rintro e x15 ⟨y15, rfl, hr, hb⟩
        obtain ⟨B15, d15, rfl⟩ := Kd.R_slice hr
        have GA15 := Aside0.mk (G14.out.after hb)
        have HC15 := Aside0.mk (Kd.R_reads' hr).2.2
        have HZ15 := Aside0.mk (show w.heap.size ≤ x15.heap.size from Nat.le_trans (Nat.le_trans HBr.out HW.out.size) GA15.out.ch.size)
        have HL15 := Aside0.mk (show z14.length + (textB x2).length ≤ 140737488355328 by rw [textB_len]; have := L14.out; have := LZ.out; omega)
        clear hr hb a0 a1 a2 a3 a4 a5 a6 a7
        obtain ⟨a0, a1, a2, a3, a4, a5, a6, a7⟩ := blk7 (GA15.out.heap HNEW.out HNE.out)
        obtain ⟨ys15, NY15⟩ : ∃ y, y = textB x2 := ⟨_, rfl⟩
        rw [← NY15] at HC15 HL15 ⊢
        replace NY15 := Aside0.mk NY15
        go_wp2_with (first | ((with_reducible refine gate_builtin (b := .append) (xs := #[.tmp 69, .tmp 72]) rfl ?_); at_builtin; go_loud (refine gcat w.heap.size rfl (.tmp 69) (.tmp 72) 28 rfl Try.underlying28 info5 _ z14 ys15 _ _ rfl rfl GA15.out.row HC15.out HZ15.out HL15.out ?_); intro A15 c15 w15 z15 N15 hG; have G15 := Aside0.mk (GA15.out.trans hG); clear hG a0 a1 a2 a3 a4 a5 a6 a7; obtain ⟨a0, a1, a2, a3, a4, a5, a6, a7⟩ := blk7 (G15.out.heap HNEW.out HNE.out)))
        have L15 := Aside0.mk (show z15.length ≤ zs.length + 200000 by rw [N15.out, List.length_append, NY15.out, textB_len]; have := L14.out; omega)
        refine (refrow_calls w15 A5 c5' x4 (Kd.F_now (Kd.F_below F5.out (show Below w.heap.size w w15 from below_three HWr.out HW.out (Ch.to_below G15.out.ch (fun k hk => own_base (Kd.own_of_R H0.out.row) k hk.symm) (Nat.le_trans HBr.out HW.out.size))))) l5 B6.out.1 B6.out.2).mono ?_
        rintro e x16 ⟨y16, rfl, hr, hb⟩
        obtain ⟨B16, d16, rfl⟩ := Kd.R_slice hr
        have GA16 := Aside0.mk (G15.out.after hb)
        have HC16 := Aside0.mk (Kd.R_reads' hr).2.2
        have HZ16 := Aside0.mk (show w.heap.size ≤ x16.heap.size from Nat.le_trans (Nat.le_trans HBr.out HW.out.size) GA16.out.ch.size)
        have HL16 := Aside0.mk (show z15.length + (rowB x4).length ≤ 140737488355328 by rw [rowB_len]; have := L15.out; have := LZ.out; omega)
        clear hr hb a0 a1 a2 a3 a4 a5 a6 a7
        obtain ⟨a0, a1, a2, a3, a4, a5, a6, a7⟩ := blk7 (GA16.out.heap HNEW.out HNE.out)
        obtain ⟨ys16, NY16⟩ : ∃ y, y = rowB x4 := ⟨_, rfl⟩
        rw [← NY16] at HC16 HL16 ⊢
        replace NY16 := Aside0.mk NY16
        go_wp2_with (first | ((with_reducible refine gate_builtin (b := .append) (xs := #[.tmp 74, .tmp 77]) rfl ?_); at_builtin; go_loud (refine gcat w.heap.size rfl (.tmp 74) (.tmp 77) 28 rfl Try.underlying28 info5 _ z15 ys16 _ _ rfl rfl GA16.out.row HC16.out HZ16.out HL16.out ?_); intro A16 c16 w16 z16 N16 hG; have G16 := Aside0.mk (GA16.out.trans hG); clear hG a0 a1 a2 a3 a4 a5 a6 a7; obtain ⟨a0, a1, a2, a3, a4, a5, a6, a7⟩ := blk7 (G16.out.heap HNEW.out HNE.out)))
        have L16 := Aside0.mk (show z16.length ≤ zs.length + 250000 by rw [N16.out, List.length_append, NY16.out, rowB_len]; have := L15.out; omega)
        refine (refrow_calls w16 A6 c6' x5 (Kd.F_now (Kd.F_below F6.out (show Below w.heap.size w w16 from below_three HWr.out HW.out (Ch.to_below G16.out.ch (fun k hk => own_base (Kd.own_of_R H0.out.row) k hk.symm) (Nat.le_trans HBr.out HW.out.size))))) l6 B7.out.1 B7.out.2).mono ?_
        rintro e x17 ⟨y17, rfl, hr, hb⟩
        obtain ⟨B17, d17, rfl⟩ := Kd.R_slice hr
        have GA17 := Aside0.mk (G16.out.after hb)
        have HC17 := Aside0.mk (Kd.R_reads' hr).2.2
        have HZ17 := Aside0.mk (show w.heap.size ≤ x17.heap.size from Nat.le_trans (Nat.le_trans HBr.out HW.out.size) GA17.out.ch.size)
        have HL17 := Aside0.mk (show z16.length + (rowB x5).length ≤ 140737488355328 by rw [rowB_len]; have := L16.out; have := LZ.out; omega)
        clear hr hb a0 a1 a2 a3 a4 a5 a6 a7
        obtain ⟨a0, a1, a2, a3, a4, a5, a6, a7⟩ := blk7 (GA17.out.heap HNEW.out HNE.out)
        obtain ⟨ys17, NY17⟩ : ∃ y, y = rowB x5 := ⟨_, rfl⟩
        rw [← NY17] at HC17 HL17 ⊢
        replace NY17 := Aside0.mk NY17
        go_wp2_with (first | ((with_reducible refine gate_builtin (b := .append) (xs := #[.tmp 79, .tmp 82]) rfl ?_); at_builtin; go_loud (refine gcat w.heap.size rfl (.tmp 79) (.tmp 82) 28 rfl Try.underlying28 info5 _ z16 ys17 _ _ rfl rfl GA17.out.row HC17.out HZ17.out HL17.out ?_); intro A17 c17 w17 z17 N17 hG; have G17 := Aside0.mk (GA17.out.trans hG); clear hG a0 a1 a2 a3 a4 a5 a6 a7; obtain ⟨a0, a1, a2, a3, a4, a5, a6, a7⟩ := blk7 (G17.out.heap HNEW.out HNE.out)))
        refine ⟨⟨j + 1, A17, c17, z17, rfl, by first | rfl | rw [wrap_succ j (by omega)] | simp, by omega, ⟨by rw [HN.out, N17.out, NY17.out, N16.out, NY16.out, N15.out, NY15.out, N14.out, NY14.out, N13.out, NY13.out, N12.out, N11.out, NY11.out, NZ.out]; simp [putX, be1, hx6]⟩, ⟨G1.out.trans G17.out⟩⟩, ?_⟩
        first | exact meas_in j _ hjl | exact meas_up j _ hjl (by omega)
    · have hjn : j = l.length := by omega
      subst hjn
      have EB := Aside0.mk (show zs = bd by rw [NZ.out, EC.out, M5.out]; simp)
      have u3 : IntKind.u64.wrap (zs.length : Int) = zs.length := by rw [IntKind.wrap_u64]; have := LZ.out; omega
      go_wp2_with fail
      refine (number_calls wr (zs.length : Int) 4 (by omega) (by have := LZ.out; omega) (by decide)).mono ?_
      rintro e w6 ⟨v6, rfl, hr, hb⟩
      have hG := Gives.grew hr hb HBr.out
      obtain ⟨A6, c6, rfl⟩ := Kd.R_slice hG.row
      obtain ⟨z6, N6⟩ : ∃ z, z = be 4 (zs.length : Int) := ⟨_, rfl⟩
      rw [← N6] at hG ⊢
      have L6 := Aside0.mk (show z6.length + zs.length ≤ 140737488355328 by rw [N6, be_length]; have := LZ.out; omega)
      replace N6 := Aside0.mk N6
      have HC6 := Aside0.mk (Kd.R_reads' (Kd.R_below G.out.row hb)).2.2
      have HZ6 := Aside0.mk (Nat.le_trans HBr.out hb.size)
      have G6 := Aside0.mk hG
      clear hr hb hG q0 q1 q2 q3 q4
      go_wp2_with (first | ((with_reducible refine gate_builtin (b := .append) (xs := #[.tmp 87, .tmp 88]) rfl ?_); at_builtin; go_loud (refine gcat w.heap.size rfl (.tmp 87) (.tmp 88) 28 rfl Try.underlying28 info5 _ z6 zs _ _ rfl rfl G6.out.row HC6.out HZ6.out L6.out ?_); intro A9 c9 w9 z9 N9 hG9; have G9 := Aside0.mk (G6.out.trans hG9); clear hG9))
      go_ret
      exact ⟨_, rfl, by rw [show pc = z9 by rw [EP.out, N9.out, N6.out, EB.out]]; exact G9.out.row, below_step HWr.out (Ch.to_below G9.out.ch (fun k hk => by simp [Value.ownBlock] at hk) (Nat.le_refl _))⟩
end Go.Proofs.Ytgndmbkkggjklaa.Jo
namespace Go.Proofs.Ytgndmbkkggjklaa.Jo
set_option linter.unusedVariables false
set_option linter.unusedSimpArgs false
open Go.RowKit Go.Proofs.YtgndmbkkggjklaaW.PrintWords Go.Proofs.YtgndmbkkggjklaaW.PrintLast Go.Proofs.YtgndmbkkggjklaaW.PrintMore Go.Proofs.Ytgndmbkkggjklaa.Bs
/-- What is left to read, and whether it was too short. -/
structure St where
  bs : List Int
  sh : Bool
def takeP (n : Nat) (s : St) : List Int × St := if s.sh = true ∨ s.bs.length < n then ([], ⟨s.bs, true⟩) else (s.bs.take n, ⟨s.bs.drop n, false⟩)
def val (l : List Int) : Int := l.foldl (fun a c => a * 256 + c) 0
def numP (n : Nat) (s : St) : Int × St := (val (takeP n s).1, (takeP n s).2)
def Bys (l : List Int) : Prop := ∀ x ∈ l, 0 ≤ x ∧ x ≤ 255
theorem takeP_bys {n : Nat} {s : St} (h : Bys s.bs) : Bys (takeP n s).1 ∧ Bys (takeP n s).2.bs := by
  unfold takeP
  split
  · exact ⟨(by intro x hx; simp at hx), h⟩
  · exact ⟨fun x hx => h x (List.mem_of_mem_take hx), fun x hx => h x (List.mem_of_mem_drop hx)⟩
theorem takeP_len (n : Nat) (s : St) : (takeP n s).1.length ≤ n ∧ (takeP n s).1.length ≤ s.bs.length ∧ (takeP n s).2.bs.length ≤ s.bs.length := by
  unfold takeP
  split
  · simp
  · simp only [List.length_take, List.length_drop]; omega
/-- A reader: what it is to read lies in what was there at w0. -/
structure Src (w0 w : World) (p : Nat) (s : St) : Prop where
  r : ∃ A c, w.heap[p]? = some (.cells #[.slice A s.bs.length c, .bool s.sh] 69 (0, 0)) ∧ s.bs.length ≤ c ∧ (Kd.int .u8).C w0 A s.bs.length s.bs
  old : Below w0.heap.size w0 w
  hp : w0.heap.size ≤ p
theorem Src.step {w0 w w1 : World} {p : Nat} {s : St} {S : Nat → Prop} (h : Src w0 w p s) (hch : Ch S w w1) (hp : ¬ S p) (hS : ∀ k, S k → w0.heap.size ≤ k) : Src w0 w1 p s := by
  obtain ⟨⟨A, c, hc, hl, hC⟩, ho, hpp⟩ := h
  exact ⟨⟨A, c, hch.heap hc hp, hl, hC⟩, ho.trans (Ch.to_below hch hS ho.size), hpp⟩
theorem Src.below {w0 w w1 : World} {p : Nat} {s : St} (h : Src w0 w p s) (hb : Below w.heap.size w w1) : Src w0 w1 p s :=
  h.step (Ch.below (Ch.refl (fun _ => False) w) hb) (fun h => h) (fun _ h => h.elim)
/-- What a call that reads leaves. -/
structure Rd (w0 w : World) (p : Nat) (s : St) (w' : World) : Prop where
  s : Src w0 w' p s
  ch : Ch (fun k => k = p) w w'
theorem Rd.trans {w0 w w1 w2 : World} {p : Nat} {s s' : St} (h : Rd w0 w p s w1) (k : Rd w0 w1 p s' w2) : Rd w0 w p s' w2 :=
  ⟨k.s, h.ch.trans (k.ch.mono (fun i hi _ => .inl hi))⟩
theorem Rd.below {w0 w w1 w2 : World} {p : Nat} {s : St} (h : Rd w0 w p s w1) (hb : Below w1.heap.size w1 w2) : Rd w0 w p s w2 := ⟨h.s.below hb, h.ch.below hb⟩
theorem Rd.before {w0 w w1 w2 : World} {p : Nat} {s : St} (hb : Below w.heap.size w w1) (h : Rd w0 w1 p s w2) : Rd w0 w p s w2 := ⟨h.s, (Ch.below (Ch.refl _ w) hb).trans (h.ch.mono (fun i hi _ => .inl hi))⟩
theorem take_mk {w0 w : World} {p n : Nat} {xs : List Int} {A : Option Addr} {c : Nat} (ho : Below w0.heap.size w0 w) (hp : w0.heap.size ≤ p) (hc : w.heap[p]? = some (.cells #[.slice A xs.length c, .bool false] 69 (0, 0))) (hl : xs.length ≤ c) (hC : (Kd.int .u8).C w0 A xs.length xs) (hn : n ≤ xs.length) (A' : Option Addr) (m d : Nat) (hm : m = xs.length - n) (hA : A' = if c = n then A else A.map (fun x => x.add n)) (hd : d = c - n) :
    (∃ A1 c1, Ending.returned (.slice A n c) = .returned (.slice A1 (xs.take n).length c1) ∧ (xs.take n).length ≤ c1 ∧ (Kd.int .u8).C w0 A1 (xs.take n).length (xs.take n)) ∧ Rd w0 w p ⟨xs.drop n, false⟩ (w.setCell ⟨p, 0, none⟩ (.slice A' m d)) := by
  subst hm
  have hlt : (xs.take n).length = n := by rw [List.length_take]; omega
  have hld : (xs.drop n).length = xs.length - n := List.length_drop
  have h1 := Kd.C_take (m := n) hC hn
  have h2 := Kd.C_drop (m := n) (c := c) hC hn hl
  refine ⟨⟨A, c, by rw [hlt], by omega, h1⟩, ⟨⟨⟨A', d, ?_, by show (xs.drop n).length ≤ d; omega, ?_⟩, Below.setCell ho hp _, hp⟩, (Ch.refl (fun k => k = p) w).setCell (p := ⟨p, 0, none⟩) (.inl rfl) _⟩⟩
  · show _ = some (Obj.cells #[.slice A' (xs.drop n).length d, .bool false] 69 (0, 0))
    rw [hld]; exact blk_upd 0 _ hc rfl
  · have e : (if c = n then A else A.map (·.add (n * (Kd.int .u8).sz))) = A' := by
      rw [hA]; split
      · rfl
      · rw [show n * (Kd.int .u8).sz = n from Nat.mul_one n]
    show (Kd.int .u8).C w0 A' (xs.drop n).length (xs.drop n)
    rw [← e]; exact h2
/-- What take returns. -/
def Took (w0 : World) (l : List Int) (e : Ending) : Prop := ∃ A c, e = .returned (.slice A l.length c) ∧ l.length ≤ c ∧ (Kd.int .u8).C w0 A l.length l
set_option maxRecDepth 100000 in
set_option maxHeartbeats 400000 in
theorem take_calls (w0 w : World) (p n : Nat) (s : St) (h : Src w0 w p s) :
    Calls Try.prog 33 #[.pointer (some ⟨p, 0, none⟩), .int .i64 n] w fun e w' => Took w0 (takeP n s).1 e ∧ Rd w0 w p (takeP n s).2 w' := by
  obtain ⟨bs, sh⟩ := s
  obtain ⟨⟨A, c, hc, hl, hC⟩, ho, hp⟩ := h
  simp only at hc hl hC
  obtain ⟨k0, k1, k2⟩ := blk2 hc
  have HC := Aside0.mk hC
  have HH := Aside0.mk hc
  have HO := Aside0.mk ho
  have HP := Aside0.mk hp
  have short : ∀ x, w.heap[p]? = some (.cells #[.slice A bs.length c, .bool x] 69 (0, 0)) → (Took w0 [] (.returned (.slice none 0 0)) ∧ Rd w0 w p ⟨bs, true⟩ (w.setCell ⟨p, 1, none⟩ (.bool true))) := fun x hx =>
    ⟨⟨none, 0, rfl, Nat.le_refl _, Kd.C_nil _ _⟩, ⟨⟨A, c, blk_upd 1 _ hx rfl, hl, hC⟩, Below.setCell ho hp _, hp⟩, (Ch.refl (fun k => k = p) w).setCell (p := ⟨p, 1, none⟩) (.inl rfl) _⟩
  have SH := Aside0.mk short
  clear hC hc ho hp short
  cases sh with
  | true =>
    have E := Aside0.mk (show takeP n ⟨bs, true⟩ = ([], ⟨bs, true⟩) by simp [takeP])
    go_enter Try.func33, Try.ntmps33
    go_wp2_with fail
    go_ret
    rw [E.out]
    exact SH.out true HH.out
  | false =>
    by_cases hn : bs.length < n
    · have hn' : (bs.length : Int) < n := by omega
      have E := Aside0.mk (show takeP n ⟨bs, false⟩ = ([], ⟨bs, true⟩) by simp [takeP, hn])
      go_enter Try.func33, Try.ntmps33
      go_wp2_with fail
      go_ret
      rw [E.out]
      exact SH.out false HH.out
    · have hn' : ¬ (bs.length : Int) < n := by omega
      have hnl : n ≤ bs.length := by omega
      have hn2 : n ≤ c := by omega
      have E := Aside0.mk (show takeP n ⟨bs, false⟩ = (bs.take n, ⟨bs.drop n, false⟩) by simp [takeP, hn])
      by_cases hcn : c = n
      · subst hcn
        go_enter Try.func33, Try.ntmps33
        go_wp2_with fail
        go_ret
        rw [E.out]
        exact take_mk HO.out HP.out HH.out hl HC.out hnl _ _ _ (by omega) (if_pos rfl).symm (Nat.sub_self _).symm
      · go_enter Try.func33, Try.ntmps33
        go_wp2_with fail
        go_ret
        rw [E.out]
        exact take_mk HO.out HP.out HH.out hl HC.out hnl _ _ _ rfl (if_neg hcn).symm rfl
end Go.Proofs.Ytgndmbkkggjklaa.Jo
namespace Go.Proofs.Ytgndmbkkggjklaa.Jo
set_option linter.unusedVariables false
set_option linter.unusedSimpArgs false
open Go.RowKit Go.Proofs.YtgndmbkkggjklaaW.PrintWords Go.Proofs.YtgndmbkkggjklaaW.PrintLast Go.Proofs.YtgndmbkkggjklaaW.PrintMore Go.Proofs.Ytgndmbkkggjklaa.Bs
theorem or_byte (v y : Int) (h0 : 0 ≤ v) (h1 : v < 72057594037927936) (a : 0 ≤ y) (b : y ≤ 255) : bits BinOp.or IntKind.u64 (IntKind.u64.wrap (v * 256)) y = v * 256 + y := by
  rw [IntKind.wrap_u64]
  obtain ⟨m, rfl⟩ := Int.eq_ofNat_of_zero_le h0
  obtain ⟨n, rfl⟩ := Int.eq_ofNat_of_zero_le a
  have e1 : (m : Int) * 256 % 18446744073709551616 = ((m * 256 : Nat) : Int) := by omega
  rw [e1, bits_or_u64_nat _ _ (by omega) (by omega)]
  have e3 : m * 256 ||| n = m * 256 + n := by
    rw [show m * 256 = m <<< 8 from (Nat.shiftLeft_eq m 8).symm, ← Nat.shiftLeft_add_eq_or_of_lt (by omega : n < 2 ^ 8)]
  rw [e3]; omega
theorem val_snoc (l : List Int) (y : Int) : val (l ++ [y]) = val l * 256 + y := by simp [val]
theorem val_bound : ∀ (m : Nat) (l : List Int), l.length = m → Bys l → 0 ≤ val l ∧ val l < ((256 ^ m : Nat) : Int) := by
  intro m
  induction m with
  | zero => intro l hl h; rw [List.eq_nil_of_length_eq_zero hl]; decide
  | succ m ih =>
    intro l hl h
    have hne : l ≠ [] := by intro e; rw [e] at hl; simp at hl
    have e := List.dropLast_concat_getLast hne
    have h1 := ih l.dropLast (by rw [List.length_dropLast, hl]; rfl) (fun x hx => h x (List.dropLast_subset l hx))
    have h2 := h (l.getLast hne) (List.getLast_mem hne)
    rw [← e, val_snoc, Nat.pow_succ]
    omega
theorem val_le (l : List Int) (h : Bys l) (m : Nat) (hl : l.length ≤ m) : 0 ≤ val l ∧ val l < ((256 ^ m : Nat) : Int) := by
  have h1 := val_bound _ l rfl h
  have h2 : (256 : Nat) ^ l.length ≤ 256 ^ m := Nat.pow_le_pow_right (by decide) hl
  omega
theorem val_bound7 (l : List Int) (h : Bys l) (hl : l.length ≤ 7) : 0 ≤ val l ∧ val l < 72057594037927936 := val_le l h 7 hl
theorem numP_bound {n : Nat} {s : St} (h : Bys s.bs) : 0 ≤ (numP n s).1 ∧ (numP n s).1 < ((256 ^ n : Nat) : Int) :=
  val_le _ (takeP_bys h).1 n (takeP_len n s).1
theorem numP_bys {n : Nat} {s : St} (h : Bys s.bs) : Bys (numP n s).2.bs := (takeP_bys h).2
theorem val_next (l : List Int) (j : Nat) (hj : j < l.length) : val (l.take (j + 1)) = val (l.take j) * 256 + rd l j := by
  rw [List.take_succ_eq_append_getElem hj, val_snoc]
  simp [rd, List.getD_eq_getElem?_getD, List.getElem?_eq_getElem hj]
set_option maxRecDepth 100000 in
set_option maxHeartbeats 400000 in
theorem number_get (w0 w : World) (p size : Nat) (s : St) (h : Src w0 w p s) (hby : Bys s.bs) (hs8 : size ≤ 8) :
    Calls Try.prog 35 #[.pointer (some ⟨p, 0, none⟩), .int .i64 size] w fun e w' => e = .returned (.int .u64 (numP size s).1) ∧ Rd w0 w p (numP size s).2 w' := by
  have C1 := take_calls w0 w p size s h
  have hTb := (takeP_bys (n := size) hby).1
  have hTl := (takeP_len size s).1
  have E := Aside0.mk (show (numP size s).1 = val (takeP size s).1 from rfl)
  have E2 := Aside0.mk (show (numP size s).2 = (takeP size s).2 from rfl)
  clear h hby
  generalize takeP size s = tk at *
  obtain ⟨T, s'⟩ := tk
  simp only at C1 hTb hTl E E2
  go_enter Try.func35, Try.ntmps35
  go_wp2_with fail
  refine C1.mono ?_
  rintro e w2 ⟨⟨A, c, rfl, hlc, hC⟩, hR⟩
  have HC := Aside0.mk (Kd.C_below hC hR.s.old)
  have HR := Aside0.mk hR
  have HTB := Aside0.mk hTb
  clear hC hR C1 hTb
  go_wp2_with fail
  go_loopw [5, 12] (fun v5 v12 wr => ∃ j : Nat, v12 = .int .i64 j ∧ v5 = .int .u64 (val (T.take j)) ∧ j ≤ T.length ∧ Aside0 (Below w2.heap.size w2 wr)) (fun _ v12 _ => T.length - (intOf v12).toNat)
  case atStart => exact ⟨0, rfl, rfl, Nat.zero_le _, ⟨Below.refl _ _⟩⟩
  case round =>
    obtain ⟨j, rfl, rfl, hj, HB⟩ := hrel
    by_cases hjs : j < T.length
    · have hjs' : (j : Int) < T.length := by omega
      obtain ⟨ad, e, hcell⟩ := Kd.at_int (Kd.C_below HC.out HB.out) j (by omega) (by omega)
      cases e
      rw [Int.toNat_natCast] at hcell
      have hyT : rd T j ∈ T := by
        rw [show rd T j = T[j] by simp [rd, List.getD, hjs]]
        exact List.getElem_mem _
      obtain ⟨y0, y1⟩ := HTB.out _ hyT
      obtain ⟨v0, v1⟩ := val_bound7 (T.take j) (fun x hx => HTB.out x (List.mem_of_mem_take hx)) (by rw [List.length_take]; omega)
      have hor := or_byte _ _ v0 v1 y0 y1
      have HN := Aside0.mk (val_next T j hjs)
      have hTl' : T.length ≤ 8 := by omega
      clear hyT v0 v1
      generalize rd T j = y at *
      generalize val (List.take j T) = v at *
      go_wp2
      go_roundw
      case rel => exact ⟨j + 1, by first | rfl | rw [wrap_succ j (by omega)] | simp, by rw [HN.out], by omega, HB⟩
      case measure => first | exact meas_in j _ hjs | exact meas_up j _ hjs (by omega)
    · have hj2 : j = T.length := by omega
      subst hj2
      have hv : val (T.take T.length) = val T := by rw [List.take_length]
      have HV := Aside0.mk hv
      clear hv
      go_wp2
      go_ret
      exact ⟨by rw [E.out, ← HV.out]; rfl, by rw [E2.out]; exact HR.out.below HB.out⟩
set_option maxRecDepth 100000 in
set_option maxHeartbeats 400000 in
theorem integer_get (w0 w : World) (p size : Nat) (s : St) (h : Src w0 w p s) (hby : Bys s.bs) (hs4 : size ≤ 4) :
    Calls Try.prog 34 #[.pointer (some ⟨p, 0, none⟩), .int .i64 size] w fun e w' => e = .returned (.int .i64 (numP size s).1) ∧ Rd w0 w p (numP size s).2 w' := by
  have C1 := number_get w0 w p size s h hby (by omega)
  have hb := numP_bound (n := size) hby
  have h2 : (256 : Nat) ^ size ≤ 256 ^ 4 := Nat.pow_le_pow_right (by decide) hs4
  have h3 : (256 : Nat) ^ 4 = 4294967296 := by decide
  have hw : wrap64 (numP size s).1 = (numP size s).1 := IntWalk.wrap64_in _ ⟨by omega, by omega⟩
  clear h hby hb h2 h3
  generalize numP size s = n at *
  go_enter Try.func34, Try.ntmps34
  go_wp2_with fail
  refine C1.mono ?_
  rintro e w2 ⟨rfl, hR⟩
  have HR := Aside0.mk hR
  clear hR C1
  go_wp2
  go_ret
  exact ⟨by show Ending.returned (.int .i64 (wrap64 n.fst)) = _; rw [hw], HR.out⟩
def textP (s : St) : ByteArray × St := (strOfNums (takeP (numP 2 s).1.toNat (numP 2 s).2).1, (takeP (numP 2 s).1.toNat (numP 2 s).2).2)
set_option maxRecDepth 100000 in
set_option maxHeartbeats 400000 in
theorem text_get (w0 w : World) (p : Nat) (s : St) (h : Src w0 w p s) (hby : Bys s.bs) :
    Calls Try.prog 43 #[.pointer (some ⟨p, 0, none⟩)] w fun e w' => e = .returned (.string (textP s).1) ∧ Rd w0 w p (textP s).2 w' := by
  have C1 := integer_get w0 w p 2 s h hby (by decide)
  have hb := (numP_bound (n := 2) hby).1
  have C2 := Aside0.mk (fun (W : World) (hW : Src w0 W p (numP 2 s).2) => take_calls w0 W p (numP 2 s).1.toNat (numP 2 s).2 hW)
  have E := Aside0.mk (show (textP s).1 = strOfNums (takeP (numP 2 s).1.toNat (numP 2 s).2).1 from rfl)
  have E2 := Aside0.mk (show (textP s).2 = (takeP (numP 2 s).1.toNat (numP 2 s).2).2 from rfl)
  have ht : (((numP 2 s).1.toNat : Nat) : Int) = (numP 2 s).1 := Int.toNat_of_nonneg hb
  rw [ht] at C2
  clear h hby ht hb
  generalize takeP (numP 2 s).1.toNat (numP 2 s).2 = t at *
  generalize numP 2 s = n at *
  go_enter Try.func43, Try.ntmps43
  go_wp2_with fail
  refine C1.mono ?_
  rintro e w2 ⟨rfl, hR⟩
  have HR := Aside0.mk hR
  clear hR C1
  go_wp2_with fail
  refine (C2.out w2 HR.out.s).mono ?_
  rintro e w3 ⟨⟨A, c, rfl, hlc, hC⟩, hR2⟩
  have hC3 := Kd.C_below hC hR2.s.old
  have hst : (convert 28 9 (.slice A t.1.length c)).run Try.prog w3 = .ok (.string (strOfNums t.1)) w3 := Kd.C_string Try.underlying28 Try.underlying5 Try.underlying9 hC3
  have HR2 := Aside0.mk (HR.out.trans hR2)
  clear hC hC3 hR2 C2
  go_wp2
  go_ret
  exact ⟨by rw [E.out]; rfl, by rw [E2.out]; exact HR2.out⟩
def rowL : Nat → St → List Int → List Int × St
  | 0, s, acc => (acc, s)
  | n + 1, s, acc => if s.sh = true then (acc, s) else rowL n (numP 4 s).2 (acc ++ [(numP 4 s).1])
def rowP (s : St) : List Int × St := rowL (numP 2 s).1.toNat (numP 2 s).2 []
theorem Src.cells {w0 w : World} {p : Nat} {s : St} (h : Src w0 w p s) : w.cell? ⟨p, 1, none⟩ = some (.bool s.sh) ∧ ∀ i, w.frozen? ⟨p, i, none⟩ = false := by
  obtain ⟨⟨A, c, hc, hl, hC⟩, ho, hp⟩ := h
  obtain ⟨k0, k1, k2⟩ := blk2 hc
  exact ⟨k1, k2⟩
theorem Src.p_lt {w0 w : World} {p : Nat} {s : St} (h : Src w0 w p s) : p < w.heap.size := by
  obtain ⟨⟨A, c, hc, hl, hC⟩, ho, hp⟩ := h
  exact blk_lt hc
theorem Rd.own {w0 w w3 w4 : World} {p : Nat} {s : St} {v : Value} (h : Rd w0 w p s w3) (hb : ∀ k, v.ownBlock = some k → w.heap.size ≤ k) (hch : Ch (fun k => some k = v.ownBlock) w3 w4) (hp : p < w.heap.size) : Rd w0 w p s w4 :=
  ⟨h.s.step hch (fun e => by have := hb p e.symm; omega) (fun k hk => by have := hb k hk.symm; have := h.s.hp; omega), h.ch.trans (hch.mono (fun k hk _ => .inr (hb k hk.symm)))⟩
theorem info3' : (Try.prog.info? 3).map (fun i => (i.zero, i.size, i.bytes)) = some (some (.int .i64 0), 1, 8) := by kernel_rfl
set_option maxRecDepth 100000 in
set_option maxHeartbeats 1000000 in
theorem row_get (w0 w : World) (p : Nat) (s : St) (h : Src w0 w p s) (hby : Bys s.bs) :
    Calls Try.prog 44 #[.pointer (some ⟨p, 0, none⟩)] w fun e w' => (∃ v, e = .returned v ∧ (Kd.int .i64).R 3 w' w.heap.size (fun _ => True) v (rowP s).1) ∧ Rd w0 w p (rowP s).2 w' := by
  have C1 := integer_get w0 w p 2 s h hby (by decide)
  have hb := numP_bound (n := 2) hby
  have h3 : (256 : Nat) ^ 2 = 65536 := by decide
  have hn0 : 0 ≤ (numP 2 s).1 := hb.1
  have hn1 : (numP 2 s).1 < 65536 := by rw [h3] at hb; exact hb.2
  have hbn := numP_bys (n := 2) hby
  have E := Aside0.mk (show rowP s = rowL (numP 2 s).1.toNat (numP 2 s).2 [] from rfl)
  have HP := Aside0.mk h.p_lt
  clear h hby hb h3
  generalize rowP s = rp at *
  generalize numP 2 s = n at *
  obtain ⟨n, s1⟩ := n
  simp only at C1 hn0 hn1 hbn E
  obtain ⟨m, rfl⟩ : ∃ m : Nat, n = m := ⟨n.toNat, by omega⟩
  have hm : m < 65536 := by omega
  rw [Int.toNat_natCast] at E
  clear hn0 hn1
  go_enter Try.func44, Try.ntmps44
  go_wp2_with fail
  refine C1.mono ?_
  rintro e w2 ⟨rfl, hR⟩
  have HR := Aside0.mk hR
  have HBN := Aside0.mk hbn
  clear hR C1 hbn
  go_wp2_with fail
  go_loopw [3, 4] (fun v3 v4 wr => ∃ (j : Nat) (A : Option Addr) (c : Nat) (acc : List Int) (st : St), v3 = .slice A acc.length c ∧ v4 = .int .i64 j ∧ j + acc.length = m ∧ Aside0 (rp = rowL j st acc) ∧ Aside0 (Bys st.bs) ∧ Aside0 ((Kd.int .i64).R 3 wr w.heap.size (fun _ => True) (.slice A acc.length c) acc) ∧ Aside0 (Rd w0 w p st wr)) (fun _ v4 _ => (intOf v4).toNat)
  case atStart => exact ⟨m, none, 0, [], s1, rfl, rfl, by simp, E, HBN, ⟨Kd.R_nil _ _ _ _ _⟩, HR⟩
  case round =>
    clear HR HBN E
    obtain ⟨j, A, c, acc, st, rfl, rfl, hj, E, HBN, HO, HR⟩ := hrel
    obtain ⟨st, sh⟩ := st
    obtain ⟨k1, k2⟩ := HR.out.s.cells
    simp only at k1
    cases j with
    | zero =>
      have HE := Aside0.mk (show rp = (acc, ⟨st, sh⟩) by rw [E.out]; rfl)
      go_wp2
      go_ret
      rw [HE.out]
      exact ⟨⟨_, rfl, HO.out⟩, HR.out⟩
    | succ j =>
      have hj0 : (0 : Int) < ((j + 1 : Nat) : Int) := by omega
      cases sh with
      | true =>
        have HE := Aside0.mk (show rp = (acc, ⟨st, true⟩) by rw [E.out]; rfl)
        go_wp2
        go_ret
        rw [HE.out]
        exact ⟨⟨_, rfl, HO.out⟩, HR.out⟩
      | false =>
        have HE := Aside0.mk (show rp = rowL j (numP 4 ⟨st, false⟩).2 (acc ++ [(numP 4 ⟨st, false⟩).1]) by rw [E.out]; rfl)
        have C2 := integer_get w0 wr p 4 ⟨st, false⟩ HR.out.s HBN.out (by decide)
        have HB2 := Aside0.mk (numP_bys (n := 4) HBN.out)
        have HZ := Aside0.mk (show w.heap.size ≤ wr.heap.size from HR.out.ch.size)
        have hlen : (acc.length + 1) * 8 ≤ 140737488355328 := by omega
        have HLEN := Aside0.mk hlen
        have hpne : ∀ k, some k = (Value.slice A acc.length c).ownBlock → ¬ k = p := fun k hk e => by
          have := own_base (Kd.own_of_R HO.out) k hk.symm; have := HP.out; omega
        have HPNE := Aside0.mk hpne
        clear E HBN hlen hpne
        generalize numP 4 ⟨st, false⟩ = nn at *
        obtain ⟨x, st2⟩ := nn
        simp only at HE C2 HB2
        go_wp2_with fail
        refine C2.mono ?_
        rintro e w3 ⟨rfl, hR3⟩
        have HO3 := Aside0.mk (Kd.R_mono (hR3.ch.R (Kd.R_of_own (ok := fun k => some k = (Value.slice A acc.length c).ownBlock) (Kd.own_of_R HO.out) (fun k hk => hk.symm)) (fun k hk => HPNE.out k hk)) (fun _ _ => trivial) : (Kd.int .i64).R 3 w3 w.heap.size (fun _ => True) (.slice A acc.length c) acc)
        have HZ3 := Aside0.mk (Nat.le_trans HZ.out hR3.ch.size)
        have HR3 := Aside0.mk (HR.out.trans hR3)
        have HPP := Aside0.mk hR3.s.p_lt
        clear hR3 C2 HO k1 k2
        go_wp2_with (first | ((with_reducible refine gate_builtin (b := .append) (xs := #[.tmp 18, .tmp 21]) rfl ?_); at_builtin; go_loud (refine app_list (Kd.int .i64) (W := w3) w.heap.size rfl (.tmp 18) (.tmp 21) 41 3 (.int .i64 0) 8 rfl Try.underlying41 info3' ⟨rfl, by decide, by decide⟩ _ acc x [.int .i64 x] (fun _ => True) (fun _ => False) rfl rfl rfl (fun _ h => h.elim) HO3.out HZ3.out HLEN.out ?_); intro A4 c4 w4 hr4 hch4 hat4; have HO4 := Aside0.mk (Kd.R_mono hr4 (fun _ _ => trivial) : (Kd.int .i64).R 3 w4 w.heap.size (fun _ => True) _ _); have HR4 := Aside0.mk (HR3.out.own (fun k hk => own_base (Kd.own_of_R HO3.out) k hk) hch4 HP.out); clear hr4 hch4 hat4))
        have hl2 : (acc ++ [x]).length = acc.length + 1 := by simp
        go_roundw
        case rel => exact ⟨j, A4, c4, acc ++ [x], st2, by rw [hl2], by simp, by rw [hl2]; omega, HE, HB2, ⟨by rw [hl2]; exact HO4.out⟩, HR4⟩
        case measure => simp [intOf]
end Go.Proofs.Ytgndmbkkggjklaa.Jo
namespace Go.Proofs.Ytgndmbkkggjklaa.Jo
set_option linter.unusedVariables false
set_option linter.unusedSimpArgs false
open Go.RowKit Go.Proofs.YtgndmbkkggjklaaW.PrintWords Go.Proofs.YtgndmbkkggjklaaW.PrintLast Go.Proofs.YtgndmbkkggjklaaW.PrintMore Go.Proofs.Ytgndmbkkggjklaa.Bs
def changeP (s : St) : S46 × St :=
  if (numP 1 (numP 4 s).2).1 = 0 then (⟨(numP 4 s).1, ⟨0, ByteArray.empty, ByteArray.empty, 0, [], [], true⟩⟩, (numP 1 (numP 4 s).2).2)
  else (⟨(numP 4 s).1, ⟨(numP 1 (numP 4 s).2).1, (textP (numP 4 (numP 1 (numP 4 s).2).2).2).1, (textP (textP (numP 4 (numP 1 (numP 4 s).2).2).2).2).1, (numP 4 (numP 1 (numP 4 s).2).2).1,
      (rowP (textP (textP (numP 4 (numP 1 (numP 4 s).2).2).2).2).2).1, (rowP (rowP (textP (textP (numP 4 (numP 1 (numP 4 s).2).2).2).2).2).2).1, false⟩⟩, (rowP (rowP (textP (textP (numP 4 (numP 1 (numP 4 s).2).2).2).2).2).2).2)
theorem textP_bys {s : St} (h : Bys s.bs) : Bys (textP s).2.bs := (takeP_bys (numP_bys h)).2
theorem rowL_bys : ∀ (n : Nat) (s : St) (acc : List Int), Bys s.bs → Bys (rowL n s acc).2.bs
  | 0, s, acc, h => h
  | n + 1, s, acc, h => by
    unfold rowL
    split
    · exact h
    · exact rowL_bys n _ _ (numP_bys h)
theorem rowP_bys {s : St} (h : Bys s.bs) : Bys (rowP s).2.bs := rowL_bys _ _ _ (numP_bys h)
theorem changeP_bys {s : St} (h : Bys s.bs) : Bys (changeP s).2.bs := by
  unfold changeP
  split
  · exact numP_bys (numP_bys h)
  · exact rowP_bys (rowP_bys (textP_bys (textP_bys (numP_bys (numP_bys (numP_bys h))))))
theorem Rd.set {w0 w w3 : World} {p g i : Nat} {s : St} (h : Rd w0 w p s w3) (hg : w.heap.size ≤ g) (hp : p < w.heap.size) (u : Value) : Rd w0 w p s (w3.setCell ⟨g, i, none⟩ u) :=
  ⟨h.s.step ((Ch.refl (fun k => k = g) w3).setCell (p := ⟨g, i, none⟩) (.inl rfl) u) (fun e => by omega) (fun k hk => by have := h.s.hp; omega), h.ch.trans ((Ch.refl (fun k => k = g) w3).setCell (p := ⟨g, i, none⟩) (.inl rfl) u |>.mono (fun k hk _ => .inr (hk ▸ hg)))⟩
theorem Rd.keeps {w0 w w1 : World} {p g : Nat} {s : St} {o : Obj} (h : Rd w0 w p s w1) (ho : w.heap[g]? = some o) (hne : g ≠ p) : w1.heap[g]? = some o := h.ch.heap ho hne
theorem Rd.self {w0 w : World} {p : Nat} {s : St} (h : Src w0 w p s) : Rd w0 w p s w := ⟨h, Ch.refl _ _⟩
def set8 (w : World) (g : Nat) (b0 b1 b2 b3 b4 b5 b6 b7 : Value) : World := (((((((w.setCell ⟨g, 0, none⟩ b0).setCell ⟨g, 1, none⟩ b1).setCell ⟨g, 2, none⟩ b2).setCell ⟨g, 3, none⟩ b3).setCell ⟨g, 4, none⟩ b4).setCell ⟨g, 5, none⟩ b5).setCell ⟨g, 6, none⟩ b6).setCell ⟨g, 7, none⟩ b7
theorem set8_q {w : World} {g t : Nat} {a0 a1 a2 a3 a4 a5 a6 a7 : Value} (h : w.heap[g]? = some (.cells #[a0, a1, a2, a3, a4, a5, a6, a7] t (0, 0))) (b0 b1 b2 b3 b4 b5 b6 b7 : Value) : (set8 w g b0 b1 b2 b3 b4 b5 b6 b7).heap[g]? = some (.cells #[b0, b1, b2, b3, b4, b5, b6, b7] t (0, 0)) := by
  have h0 := blk_upd (cs' := #[b0, a1, a2, a3, a4, a5, a6, a7]) 0 b0 h rfl
  have h1 := blk_upd (cs' := #[b0, b1, a2, a3, a4, a5, a6, a7]) 1 b1 h0 rfl
  have h2 := blk_upd (cs' := #[b0, b1, b2, a3, a4, a5, a6, a7]) 2 b2 h1 rfl
  have h3 := blk_upd (cs' := #[b0, b1, b2, b3, a4, a5, a6, a7]) 3 b3 h2 rfl
  have h4 := blk_upd (cs' := #[b0, b1, b2, b3, b4, a5, a6, a7]) 4 b4 h3 rfl
  have h5 := blk_upd (cs' := #[b0, b1, b2, b3, b4, b5, a6, a7]) 5 b5 h4 rfl
  have h6 := blk_upd (cs' := #[b0, b1, b2, b3, b4, b5, b6, a7]) 6 b6 h5 rfl
  exact blk_upd (cs' := #[b0, b1, b2, b3, b4, b5, b6, b7]) 7 b7 h6 rfl
theorem set8_ch (w : World) (g : Nat) (b0 b1 b2 b3 b4 b5 b6 b7 : Value) : Ch (fun k => k = g) w (set8 w g b0 b1 b2 b3 b4 b5 b6 b7) :=
  (((((((((Ch.refl (fun k => k = g) w).setCell (p := ⟨g, 0, none⟩) (.inl rfl) b0).setCell (p := ⟨g, 1, none⟩) (.inl rfl) b1).setCell (p := ⟨g, 2, none⟩) (.inl rfl) b2).setCell (p := ⟨g, 3, none⟩) (.inl rfl) b3).setCell (p := ⟨g, 4, none⟩) (.inl rfl) b4).setCell (p := ⟨g, 5, none⟩) (.inl rfl) b5).setCell (p := ⟨g, 6, none⟩) (.inl rfl) b6).setCell (p := ⟨g, 7, none⟩) (.inl rfl) b7)
theorem R_at_base {w : World} {B : Nat} {v : Value} {l : List Int} (h : (Kd.int .i64).R 3 w B (fun _ => True) v l) : (Kd.int .i64).R 3 w B (fun i => B ≤ i) v l :=
  Kd.R_of_own (h1 := fun _ => rfl) (Kd.own_of_R h) (fun i hi => own_base (Kd.own_of_R h) i hi)
theorem Rd.chg {w0 w w3 w4 : World} {p g : Nat} {s : St} (h : Rd w0 w p s w3) (hch : Ch (fun k => k = g) w3 w4) (hg : w.heap.size ≤ g) (hp : p < w.heap.size) : Rd w0 w p s w4 :=
  ⟨h.s.step hch (fun e => by omega) (fun k hk => by have := h.s.hp; omega), h.ch.trans (hch.mono (fun k hk _ => .inr (hk ▸ hg)))⟩
set_option maxRecDepth 100000 in
set_option maxHeartbeats 4000000 in
theorem change_get (w0 w : World) (p : Nat) (s : St) (h : Src w0 w p s) (hby : Bys s.bs) :
    Calls Try.prog 36 #[.pointer (some ⟨p, 0, none⟩)] w fun e w' => (∃ cs : List Value, e = .returned (.agg cs.toArray) ∧ k46.M w' w.heap.size (fun k => w.heap.size ≤ k) (changeP s).1 cs) ∧ Rd w0 w p (changeP s).2 w' := by
  have HP := Aside0.mk h.p_lt
  obtain ⟨n1, s1, e1⟩ : ∃ a b, numP 4 s = (a, b) := ⟨_, _, rfl⟩
  have b1 := Aside0.mk (show Bys s1.bs by have := numP_bys (n := 4) hby; rw [e1] at this; exact this)
  obtain ⟨k, s2, e2⟩ : ∃ a b, numP 1 s1 = (a, b) := ⟨_, _, rfl⟩
  have b2 := Aside0.mk (show Bys s2.bs by have := numP_bys (n := 1) b1.out; rw [e2] at this; exact this)
  obtain ⟨par, s3, e3⟩ : ∃ a b, numP 4 s2 = (a, b) := ⟨_, _, rfl⟩
  have b3 := Aside0.mk (show Bys s3.bs by have := numP_bys (n := 4) b2.out; rw [e3] at this; exact this)
  obtain ⟨nm, s4, e4⟩ : ∃ a b, textP s3 = (a, b) := ⟨_, _, rfl⟩
  have b4 := Aside0.mk (show Bys s4.bs by have := textP_bys b3.out; rw [e4] at this; exact this)
  obtain ⟨tx, s5, e5⟩ : ∃ a b, textP s4 = (a, b) := ⟨_, _, rfl⟩
  have b5 := Aside0.mk (show Bys s5.bs by have := textP_bys b4.out; rw [e5] at this; exact this)
  obtain ⟨ks, s6, e6⟩ : ∃ a b, rowP s5 = (a, b) := ⟨_, _, rfl⟩
  have b6 := Aside0.mk (show Bys s6.bs by have := rowP_bys b5.out; rw [e6] at this; exact this)
  obtain ⟨bs, s7, e7⟩ : ∃ a b, rowP s6 = (a, b) := ⟨_, _, rfl⟩
  have b7 := Aside0.mk (show Bys s7.bs by have := rowP_bys b6.out; rw [e7] at this; exact this)
  have E := Aside0.mk (show changeP s = if k = 0 then (⟨n1, ⟨0, ByteArray.empty, ByteArray.empty, 0, [], [], true⟩⟩, s2) else (⟨n1, ⟨k, nm, tx, par, ks, bs, false⟩⟩, s7) by simp only [changeP, e1, e2, e3, e4, e5, e6, e7])
  have C1 := Aside0.mk (fun (W : World) (hW : Src w0 W p s) => show Calls Try.prog _ _ W _ from integer_get w0 W p 4 s hW hby (by decide))
  rw [e1] at C1
  have C2 := Aside0.mk (fun (W : World) (hW : Src w0 W p s1) => show Calls Try.prog _ _ W _ from integer_get w0 W p 1 s1 hW b1.out (by decide))
  rw [e2] at C2
  have C3 := Aside0.mk (fun (W : World) (hW : Src w0 W p s2) => show Calls Try.prog _ _ W _ from integer_get w0 W p 4 s2 hW b2.out (by decide))
  rw [e3] at C3
  have C4 := Aside0.mk (fun (W : World) (hW : Src w0 W p s3) => show Calls Try.prog _ _ W _ from text_get w0 W p  s3 hW b3.out)
  rw [e4] at C4
  have C5 := Aside0.mk (fun (W : World) (hW : Src w0 W p s4) => show Calls Try.prog _ _ W _ from text_get w0 W p  s4 hW b4.out)
  rw [e5] at C5
  have C6 := Aside0.mk (fun (W : World) (hW : Src w0 W p s5) => show Calls Try.prog _ _ W _ from row_get w0 W p  s5 hW b5.out)
  rw [e6] at C6
  have C7 := Aside0.mk (fun (W : World) (hW : Src w0 W p s6) => show Calls Try.prog _ _ W _ from row_get w0 W p  s6 hW b6.out)
  rw [e7] at C7
  generalize changeP s = cp at *
  have hW := below_alloc (Below.refl w.heap.size w) (.cells #[.int .i64 0, .int .i64 0, .string ⟨#[]⟩, .string ⟨#[]⟩, .int .i64 0, .slice none 0 0, .slice none 0 0, .bool false] 46)
  have hT := heap_alloc_new w (.cells #[.int .i64 0, .int .i64 0, .string ⟨#[]⟩, .string ⟨#[]⟩, .int .i64 0, .slice none 0 0, .slice none 0 0, .bool false] 46)
  have R0 := Aside0.mk (Rd.self h)
  clear h hby e1 e2 e3 e4 e5 e6 e7 b1 b2 b3 b4 b5 b6 b7
  go_enter Try.func36, Try.ntmps36
  go_wp2_with fail
  obtain ⟨W1, hW1⟩ : ∃ x, x = w.alloc (.cells #[.int .i64 0, .int .i64 0, .string ⟨#[]⟩, .string ⟨#[]⟩, .int .i64 0, .slice none 0 0, .slice none 0 0, .bool false] 46) := ⟨_, rfl⟩
  rw [← hW1] at hW hT ⊢
  have R1 := Aside0.mk (R0.out.below hW)
  have T1 := Aside0.mk hT
  have HZ1 := Aside0.mk (show w.heap.size ≤ W1.heap.size from hW.size)
  clear hW hT hW1 R0
  refine (C1.out W1 R1.out.s).mono ?_
  rintro e w2 ⟨rfl, hR⟩
  have R2 := Aside0.mk (R1.out.trans hR)
  have T2 := Aside0.mk (hR.keeps T1.out (by have := HP.out; omega))
  have HZ2 := Aside0.mk (Nat.le_trans HZ1.out hR.ch.size)
  clear hR C1 R1 T1 HZ1
  go_wp2_with fail
  have hW := below_alloc (Below.refl w2.heap.size w2) (.cells #[.int .i64 n1, .int .i64 0, .string ⟨#[]⟩, .string ⟨#[]⟩, .int .i64 0, .slice none 0 0, .slice none 0 0, .bool false] 46)
  have hH := heap_alloc_new w2 (.cells #[.int .i64 n1, .int .i64 0, .string ⟨#[]⟩, .string ⟨#[]⟩, .int .i64 0, .slice none 0 0, .slice none 0 0, .bool false] 46)
  obtain ⟨W3, hW3⟩ : ∃ x, x = w2.alloc (.cells #[.int .i64 n1, .int .i64 0, .string ⟨#[]⟩, .string ⟨#[]⟩, .int .i64 0, .slice none 0 0, .slice none 0 0, .bool false] 46) := ⟨_, rfl⟩
  rw [← hW3] at hW hH ⊢
  have HG := Aside0.mk (show w.heap.size < w2.heap.size from Nat.lt_of_le_of_ne HZ2.out (fun e => by have := blk_lt T2.out; omega))
  have hR3 := R2.out.below hW
  generalize w2.heap.size = g at *
  have R3 := Aside0.mk hR3
  have T3 := Aside0.mk ((hW.block _ HG.out).trans T2.out)
  have H3 := Aside0.mk hH
  clear hW hH hW3 R2 T2 HZ2 hR3
  refine (C2.out W3 R3.out.s).mono ?_
  rintro e w4 ⟨rfl, hR⟩
  have R4 := Aside0.mk (R3.out.trans hR)
  have T4 := Aside0.mk (hR.keeps T3.out (by have := HP.out; omega))
  have H4 := Aside0.mk (hR.keeps H3.out (by have := HP.out; have := HG.out; omega))
  obtain ⟨a0, a1, a2, a3, a4, a5, a6, a7, a8⟩ := blk8 H4.out
  clear hR C2 R3 T3 H3
  go_upto_region 3 with (fail)
  obtain ⟨W5, hW5⟩ : ∃ x, x = w4.setCell ⟨g, 1, none⟩ (.int .i64 k) := ⟨_, rfl⟩
  rw [← hW5]
  have R5 := Aside0.mk (show Rd w0 w p s2 W5 from hW5 ▸ R4.out.set (Nat.le_of_lt HG.out) HP.out _)
  have T5 := Aside0.mk (show W5.heap[w.heap.size]? = _ from hW5 ▸ (Below.heap_setCell w4 ⟨g, 1, none⟩ (.int .i64 k) w.heap.size (by show w.heap.size ≠ g; have := HG.out; omega)).trans T4.out)
  have H5 := Aside0.mk (show W5.heap[g]? = some (.cells #[.int .i64 n1, .int .i64 k, .string ⟨#[]⟩, .string ⟨#[]⟩, .int .i64 0, .slice none 0 0, .slice none 0 0, .bool false] 46 (0, 0)) from hW5 ▸ blk_upd 1 (.int .i64 k) H4.out rfl)
  clear hW5 R4 T4 H4 a0 a1 a2 a3 a4 a5 a6 a7 a8
  obtain ⟨a0, a1, a2, a3, a4, a5, a6, a7, a8⟩ := blk8 H5.out
  obtain ⟨t0, t1, t2, t3, t4, t5, t6, t7, t8⟩ := blk8 T5.out
  by_cases hk : k = 0
  · have hk' : (k == 0) = true := by simpa using hk
    have E0 := Aside0.mk (show cp = (⟨n1, ⟨0, ⟨#[]⟩, ⟨#[]⟩, 0, [], [], true⟩⟩, s2) by rw [E.out, if_pos hk]; rfl)
    subst hk
    clear E C3 C4 C5 C6 C7
    go_upto_region 5 with (fail)
    obtain ⟨W6, hW6⟩ : ∃ x, x = W5.setCell ⟨g, 7, none⟩ (.bool true) := ⟨_, rfl⟩
    rw [← hW6]
    have R6 := Aside0.mk (show Rd w0 w p s2 W6 from hW6 ▸ R5.out.set (Nat.le_of_lt HG.out) HP.out _)
    have T6 := Aside0.mk (show W6.heap[w.heap.size]? = _ from hW6 ▸ (Below.heap_setCell W5 ⟨g, 7, none⟩ (.bool true) w.heap.size (by show w.heap.size ≠ g; have := HG.out; omega)).trans T5.out)
    have H6 := Aside0.mk (show W6.heap[g]? = some (.cells #[.int .i64 n1, .int .i64 0, .string ⟨#[]⟩, .string ⟨#[]⟩, .int .i64 0, .slice none 0 0, .slice none 0 0, .bool true] 46 (0, 0)) from hW6 ▸ blk_upd 7 (.bool true) H5.out rfl)
    clear hW6 R5 T5 H5 a0 a1 a2 a3 a4 a5 a6 a7 a8 t0 t1 t2 t3 t4 t5 t6 t7 t8
    obtain ⟨a0, a1, a2, a3, a4, a5, a6, a7, a8⟩ := blk8 H6.out
    obtain ⟨t0, t1, t2, t3, t4, t5, t6, t7, t8⟩ := blk8 T6.out
    have S := Aside0.mk (set8_q T6.out (.int .i64 n1) (.int .i64 0) (.string ⟨#[]⟩) (.string ⟨#[]⟩) (.int .i64 0) (.slice none 0 0) (.slice none 0 0) (.bool true))
    have SR := Aside0.mk (R6.out.chg (set8_ch W6 w.heap.size (.int .i64 n1) (.int .i64 0) (.string ⟨#[]⟩) (.string ⟨#[]⟩) (.int .i64 0) (.slice none 0 0) (.slice none 0 0) (.bool true)) (Nat.le_refl _) HP.out)
    go_wp2_with fail
    change bodyPost Try.prog Try.f36 _ Exit.ret _ (set8 W6 w.heap.size (.int .i64 n1) (.int .i64 0) (.string ⟨#[]⟩) (.string ⟨#[]⟩) (.int .i64 0) (.slice none 0 0) (.slice none 0 0) (.bool true))
    clear t0 t1 t2 t3 t4 t5 t6 t7 t8 a0 a1 a2 a3 a4 a5 a6 a7 a8
    generalize set8 W6 w.heap.size (.int .i64 n1) (.int .i64 0) (.string ⟨#[]⟩) (.string ⟨#[]⟩) (.int .i64 0) (.slice none 0 0) (.slice none 0 0) (.bool true) = w9 at *
    obtain ⟨d0, d1, d2, d3, d4, d5, d6, d7, d8⟩ := blk8 S.out
    refine bodyPost_ret (v := .agg #[.int .i64 n1, .int .i64 0, .string ⟨#[]⟩, .string ⟨#[]⟩, .int .i64 0, .slice none 0 0, .slice none 0 0, .bool true]) (by simp [results, Try.results36, go_sem, d0, d1, d2, d3, d4, d5, d6, d7]) rfl ?_
    rw [E0.out]
    exact ⟨⟨[.int .i64 n1, .int .i64 0, .string ⟨#[]⟩, .string ⟨#[]⟩, .int .i64 0, .slice none 0 0, .slice none 0 0, .bool true], rfl, k46_mkM _ _ _ ⟨n1, ⟨0, ⟨#[]⟩, ⟨#[]⟩, 0, [], [], true⟩⟩ (Kd.R_nil _ _ _ _ _) (Kd.R_nil _ _ _ _ _)⟩, SR.out⟩
  · have hk' : (k == 0) = false := by simpa using hk
    have E0 := Aside0.mk (show cp = (⟨n1, ⟨k, nm, tx, par, ks, bs, false⟩⟩, s7) by rw [E.out, if_neg hk])
    clear E hk
    go_wp2_with fail
    clear t0 t1 t2 t3 t4 t5 t6 t7 t8 a0 a1 a2 a3 a4 a5 a6 a7 a8
    refine (C3.out W5 R5.out.s).mono ?_
    rintro e w6 ⟨rfl, hR⟩
    have R6 := Aside0.mk (R5.out.trans hR)
    have T6 := Aside0.mk (hR.keeps T5.out (by have := HP.out; omega))
    have H6 := Aside0.mk (hR.keeps H5.out (by have := HP.out; have := HG.out; omega))
    obtain ⟨a0, a1, a2, a3, a4, a5, a6, a7, a8⟩ := blk8 H6.out
    clear hR C3 R5 T5 H5
    go_wp2_with fail
    obtain ⟨W7, hW⟩ : ∃ x, x = w6.setCell ⟨g, 4, none⟩ (.int .i64 par) := ⟨_, rfl⟩
    rw [← hW]
    have R7 := Aside0.mk (show Rd w0 w p s3 W7 from hW ▸ (R6.out.set (i := 4) (Nat.le_of_lt HG.out) HP.out (.int .i64 par)))
    have T7 := Aside0.mk (show W7.heap[w.heap.size]? = _ from hW ▸ ((Below.heap_setCell w6 ⟨g, 4, none⟩ (.int .i64 par) w.heap.size (Nat.ne_of_lt HG.out)).trans T6.out))
    have H7 := Aside0.mk (show W7.heap[g]? = some (.cells #[.int .i64 n1, .int .i64 k, .string ⟨#[]⟩, .string ⟨#[]⟩, .int .i64 par, .slice none 0 0, .slice none 0 0, .bool false] 46 (0, 0)) from hW ▸ (blk_upd (cs' := #[.int .i64 n1, .int .i64 k, .string ⟨#[]⟩, .string ⟨#[]⟩, .int .i64 par, .slice none 0 0, .slice none 0 0, .bool false]) 4 (.int .i64 par) H6.out rfl))
    clear hW R6 T6 H6 a0 a1 a2 a3 a4 a5 a6 a7 a8
    refine (C4.out W7 R7.out.s).mono ?_
    rintro e w8 ⟨rfl, hR⟩
    have R8 := Aside0.mk (R7.out.trans hR)
    have T8 := Aside0.mk (hR.keeps T7.out (by have := HP.out; omega))
    have H8 := Aside0.mk (hR.keeps H7.out (by have := HP.out; have := HG.out; omega))
    clear hR C4 R7 T7 H7
    go_wp2_with fail
    refine (C5.out w8 R8.out.s).mono ?_
    rintro e w9 ⟨rfl, hR⟩
    have R9 := Aside0.mk (R8.out.trans hR)
    have T9 := Aside0.mk (hR.keeps T8.out (by have := HP.out; omega))
    have H9 := Aside0.mk (hR.keeps H8.out (by have := HP.out; have := HG.out; omega))
    obtain ⟨a0, a1, a2, a3, a4, a5, a6, a7, a8⟩ := blk8 H9.out
    clear hR C5 R8 T8 H8
    go_wp2_with fail
    obtain ⟨W10, hW⟩ : ∃ x, x = (w9.setCell ⟨g, 2, none⟩ (.string nm)).setCell ⟨g, 3, none⟩ (.string tx) := ⟨_, rfl⟩
    rw [← hW]
    have R10 := Aside0.mk (show Rd w0 w p s5 W10 from hW ▸ ((R9.out.set (i := 2) (Nat.le_of_lt HG.out) HP.out (.string nm)).set (i := 3) (Nat.le_of_lt HG.out) HP.out (.string tx)))
    have T10 := Aside0.mk (show W10.heap[w.heap.size]? = _ from hW ▸ ((Below.heap_setCell (w9.setCell ⟨g, 2, none⟩ (.string nm)) ⟨g, 3, none⟩ (.string tx) w.heap.size (Nat.ne_of_lt HG.out)).trans ((Below.heap_setCell w9 ⟨g, 2, none⟩ (.string nm) w.heap.size (Nat.ne_of_lt HG.out)).trans T9.out)))
    have H10 := Aside0.mk (show W10.heap[g]? = some (.cells #[.int .i64 n1, .int .i64 k, .string nm, .string tx, .int .i64 par, .slice none 0 0, .slice none 0 0, .bool false] 46 (0, 0)) from hW ▸ (blk_upd (cs' := #[.int .i64 n1, .int .i64 k, .string nm, .string tx, .int .i64 par, .slice none 0 0, .slice none 0 0, .bool false]) 3 (.string tx) (blk_upd (cs' := #[.int .i64 n1, .int .i64 k, .string nm, .string ⟨#[]⟩, .int .i64 par, .slice none 0 0, .slice none 0 0, .bool false]) 2 (.string nm) H9.out rfl) rfl))
    clear hW R9 T9 H9 a0 a1 a2 a3 a4 a5 a6 a7 a8
    refine (C6.out W10 R10.out.s).mono ?_
    rintro e w11 ⟨⟨vk, rfl, hk1⟩, hR⟩
    have R11 := Aside0.mk (R10.out.trans hR)
    have T11 := Aside0.mk (hR.keeps T10.out (by have := HP.out; omega))
    have H11 := Aside0.mk (hR.keeps H10.out (by have := HP.out; have := HG.out; omega))
    obtain ⟨Ak, ck, rfl⟩ := Kd.R_slice hk1
    have lk := (Kd.R_reads' hk1).2.1
    have FK1 := Aside0.mk (R_at_base hk1)
    have HZ10 := Aside0.mk (show w.heap.size ≤ W10.heap.size from R10.out.ch.size)
    have HGA := Aside0.mk (show g < W10.heap.size from blk_lt H10.out)
    have HP10 := Aside0.mk (show p < W10.heap.size from R10.out.s.p_lt)
    clear hR C6 R10 T10 H10 hk1
    go_wp2_with fail
    refine (C7.out w11 R11.out.s).mono ?_
    rintro e w12 ⟨⟨vb, rfl, hb1⟩, hR⟩
    have R12 := Aside0.mk (R11.out.trans hR)
    have T12 := Aside0.mk (hR.keeps T11.out (by have := HP.out; omega))
    have H12 := Aside0.mk (hR.keeps H11.out (by have := HP.out; have := HG.out; omega))
    obtain ⟨Ab, cb, rfl⟩ := Kd.R_slice hb1
    have lb := (Kd.R_reads' hb1).2.1
    have HZ11 := Aside0.mk (show w.heap.size ≤ w11.heap.size from R11.out.ch.size)
    have FB1 := Aside0.mk (R_at_base hb1)
    have FK2 := Aside0.mk (hR.ch.R FK1.out (fun i hi e => by have := HP10.out; omega))
    have HG11 := Aside0.mk (show g < w11.heap.size from blk_lt H11.out)
    have HG10 := Aside0.mk HGA.out
    obtain ⟨a0, a1, a2, a3, a4, a5, a6, a7, a8⟩ := blk8 H12.out
    clear hR C7 R11 T11 H11 hb1 FK1
    go_upto_region 9 with (fail)
    obtain ⟨W13, hW⟩ : ∃ x, x = (w12.setCell ⟨g, 5, none⟩ (.slice Ak ks.length ck)).setCell ⟨g, 6, none⟩ (.slice Ab bs.length cb) := ⟨_, rfl⟩
    rw [← hW]
    have R13 := Aside0.mk (show Rd w0 w p s7 W13 from hW ▸ ((R12.out.set (i := 5) (Nat.le_of_lt HG.out) HP.out (.slice Ak ks.length ck)).set (i := 6) (Nat.le_of_lt HG.out) HP.out (.slice Ab bs.length cb)))
    have T13 := Aside0.mk (show W13.heap[w.heap.size]? = _ from hW ▸ ((Below.heap_setCell (w12.setCell ⟨g, 5, none⟩ (.slice Ak ks.length ck)) ⟨g, 6, none⟩ (.slice Ab bs.length cb) w.heap.size (Nat.ne_of_lt HG.out)).trans ((Below.heap_setCell w12 ⟨g, 5, none⟩ (.slice Ak ks.length ck) w.heap.size (Nat.ne_of_lt HG.out)).trans T12.out)))
    have H13 := Aside0.mk (show W13.heap[g]? = some (.cells #[.int .i64 n1, .int .i64 k, .string nm, .string tx, .int .i64 par, .slice Ak ks.length ck, .slice Ab bs.length cb, .bool false] 46 (0, 0)) from hW ▸ (blk_upd (cs' := #[.int .i64 n1, .int .i64 k, .string nm, .string tx, .int .i64 par, .slice Ak ks.length ck, .slice Ab bs.length cb, .bool false]) 6 (.slice Ab bs.length cb) (blk_upd (cs' := #[.int .i64 n1, .int .i64 k, .string nm, .string tx, .int .i64 par, .slice Ak ks.length ck, .slice none 0 0, .bool false]) 5 (.slice Ak ks.length ck) H12.out rfl) rfl))
    have hch13 : Ch (fun i => i = g) w12 W13 := hW ▸ (((Ch.refl (fun i => i = g) w12).setCell (p := ⟨g, 5, none⟩) (.inl rfl) _).setCell (p := ⟨g, 6, none⟩) (.inl rfl) _)
    have FK3 := Aside0.mk (hch13.R FK2.out (fun i hi e => by have := HG10.out; omega))
    have FB3 := Aside0.mk (hch13.R FB1.out (fun i hi e => by have := HG11.out; omega))
    have HZ13 := Aside0.mk (show w.heap.size < W10.heap.size ∧ w.heap.size < w11.heap.size from ⟨by have := HG.out; have := HG10.out; omega, by have := HG.out; have := HG11.out; omega⟩)
    clear hW hch13 R12 T12 H12 FK2 FB1 a0 a1 a2 a3 a4 a5 a6 a7 a8
    obtain ⟨a0, a1, a2, a3, a4, a5, a6, a7, a8⟩ := blk8 H13.out
    obtain ⟨t0, t1, t2, t3, t4, t5, t6, t7, t8⟩ := blk8 T13.out
    have S := Aside0.mk (set8_q T13.out (.int .i64 n1) (.int .i64 k) (.string nm) (.string tx) (.int .i64 par) (.slice Ak ks.length ck) (.slice Ab bs.length cb) (.bool false))
    have hc8 := set8_ch W13 w.heap.size (.int .i64 n1) (.int .i64 k) (.string nm) (.string tx) (.int .i64 par) (.slice Ak ks.length ck) (.slice Ab bs.length cb) (.bool false)
    have SR := Aside0.mk (R13.out.chg hc8 (Nat.le_refl _) HP.out)
    have FK4 := Aside0.mk (hc8.R FK3.out (fun i hi e => by have := HZ13.out.1; omega))
    have FB4 := Aside0.mk (hc8.R FB3.out (fun i hi e => by have := HZ13.out.2; omega))
    clear hc8 FK3 FB3
    go_wp2_with fail
    change bodyPost Try.prog Try.f36 _ Exit.ret _ (set8 W13 w.heap.size (.int .i64 n1) (.int .i64 k) (.string nm) (.string tx) (.int .i64 par) (.slice Ak ks.length ck) (.slice Ab bs.length cb) (.bool false))
    clear t0 t1 t2 t3 t4 t5 t6 t7 t8 a0 a1 a2 a3 a4 a5 a6 a7 a8
    generalize set8 W13 w.heap.size (.int .i64 n1) (.int .i64 k) (.string nm) (.string tx) (.int .i64 par) (.slice Ak ks.length ck) (.slice Ab bs.length cb) (.bool false) = w14 at *
    obtain ⟨d0, d1, d2, d3, d4, d5, d6, d7, d8⟩ := blk8 S.out
    refine bodyPost_ret (v := .agg #[.int .i64 n1, .int .i64 k, .string nm, .string tx, .int .i64 par, .slice Ak ks.length ck, .slice Ab bs.length cb, .bool false]) (by simp [results, Try.results36, go_sem, d0, d1, d2, d3, d4, d5, d6, d7]) rfl ?_
    rw [E0.out]
    refine ⟨⟨[.int .i64 n1, .int .i64 k, .string nm, .string tx, .int .i64 par, .slice Ak ks.length ck, .slice Ab bs.length cb, .bool false], rfl, k46_mkM _ _ _ ⟨n1, ⟨k, nm, tx, par, ks, bs, false⟩⟩ (Kd.R_mono (Kd.R_lower FK4.out (Nat.le_of_lt HZ13.out.1)) (fun i hi => by have := HZ13.out.1; show w.heap.size ≤ i; have : W10.heap.size ≤ i := hi; omega)) (Kd.R_mono (Kd.R_lower FB4.out (Nat.le_of_lt HZ13.out.2)) (fun i hi => by have := HZ13.out.2; show w.heap.size ≤ i; have : w11.heap.size ≤ i := hi; omega))⟩, SR.out⟩
end Go.Proofs.Ytgndmbkkggjklaa.Jo
namespace Go.Proofs.Ytgndmbkkggjklaa.Jo
set_option linter.unusedVariables false
set_option linter.unusedSimpArgs false
open Go.RowKit Go.Proofs.YtgndmbkkggjklaaW.PrintWords Go.Proofs.YtgndmbkkggjklaaW.PrintLast Go.Proofs.YtgndmbkkggjklaaW.PrintMore Go.Proofs.Ytgndmbkkggjklaa.Bs
theorem str_size (l : List Int) : (strOfNums l).size = l.length := by
  show (strOfNums l).data.size = _
  simp [strOfNums]
def changesL : Nat → St → List S46 → List S46 × St
  | 0, s, acc => (acc, s)
  | n + 1, s, acc => if s.sh = true then (acc, s) else changesL n (changeP s).2 (acc ++ [(changeP s).1])
def commitP (bs : List Int) : S25 × Bool :=
  let s1 := numP 4 ⟨bs, false⟩
  let s2 := numP 8 s1.2
  let s3 := numP 8 s2.2
  let s4 := numP 2 s3.2
  let s5 := changesL s4.1.toNat s4.2 []
  (⟨s1.1, s2.1, s3.1, s5.1⟩, !s5.2.sh && decide (s5.2.bs.length = 0) && rightC ⟨s1.1, s2.1, s3.1, s5.1⟩)
theorem numP_len (n : Nat) (s : St) : (numP n s).2.bs.length ≤ s.bs.length := (takeP_len n s).2.2
theorem textP_len (s : St) : (textP s).1.size ≤ s.bs.length ∧ (textP s).2.bs.length ≤ s.bs.length := by
  have h1 := numP_len 2 s
  have h2 := takeP_len (numP 2 s).1.toNat (numP 2 s).2
  refine ⟨?_, Nat.le_trans h2.2.2 h1⟩
  show (strOfNums _).size ≤ _
  rw [str_size]
  exact Nat.le_trans h2.2.1 h1
theorem rowL_len : ∀ (n : Nat) (s : St) (acc : List Int), (rowL n s acc).1.length ≤ acc.length + n ∧ (rowL n s acc).2.bs.length ≤ s.bs.length
  | 0, s, acc => ⟨Nat.le_refl _, Nat.le_refl _⟩
  | n + 1, s, acc => by
    unfold rowL
    split
    · exact ⟨by simp, Nat.le_refl _⟩
    · have h := rowL_len n (numP 4 s).2 (acc ++ [(numP 4 s).1])
      have h2 := numP_len 4 s
      rw [List.length_append, List.length_singleton] at h
      omega
theorem rowP_len {s : St} (hb : Bys s.bs) : (rowP s).1.length ≤ 65535 ∧ (rowP s).2.bs.length ≤ s.bs.length := by
  have h1 := numP_len 2 s
  have h2 := rowL_len (numP 2 s).1.toNat (numP 2 s).2 []
  have h3 := numP_bound (n := 2) hb
  have h4 : (256 : Nat) ^ 2 = 65536 := by decide
  rw [h4] at h3
  simp only [List.length_nil] at h2
  unfold rowP
  omega
theorem changeP_sized {s : St} (hb : Bys s.bs) (hl : s.bs.length ≤ 9000000000000000000) : sized (changeP s).1 ∧ (changeP s).2.bs.length ≤ s.bs.length := by
  have l1 := numP_len 4 s
  have b1 := numP_bys (n := 4) hb
  unfold changeP
  generalize numP 4 s = n1 at *
  have l2 := numP_len 1 n1.2
  have b2 := numP_bys (n := 1) b1
  generalize numP 1 n1.2 = n2 at *
  split
  · exact ⟨⟨by simp, by simp, by simp, by simp⟩, by show n2.2.bs.length ≤ _; omega⟩
  · have l3 := numP_len 4 n2.2
    have b3 := numP_bys (n := 4) b2
    generalize numP 4 n2.2 = n3 at *
    have l4 := textP_len n3.2
    have b4 := textP_bys b3
    generalize textP n3.2 = n4 at *
    have l5 := textP_len n4.2
    have b5 := textP_bys b4
    generalize textP n4.2 = n5 at *
    have l6 := rowP_len b5
    have b6 := rowP_bys b5
    generalize rowP n5.2 = n6 at *
    have l7 := rowP_len b6
    generalize rowP n6.2 = n7 at *
    exact ⟨⟨by show n4.1.size ≤ _; omega, by show n5.1.size ≤ _; omega, by show n6.1.length ≤ _; omega, by show n7.1.length ≤ _; omega⟩, by show n7.2.bs.length ≤ _; omega⟩
theorem M46_open {w : World} {base : Nat} {ok : Nat → Prop} {x : S46} {cs : List Value} (h : k46.M w base ok x cs) : ∃ A5 c5 A6 c6, cs = [.int .i64 x.f0, .int .i64 x.f1.f0, .string x.f1.f1, .string x.f1.f2, .int .i64 x.f1.f3, .slice A5 x.f1.f4.length c5, .slice A6 x.f1.f5.length c6, .bool x.f1.f6] := by
  obtain ⟨A5, c5, A6, c6, e, _⟩ := k46_open (k46.K_of_M h)
  exact ⟨A5, c5, A6, c6, e⟩
theorem info46 : (Try.prog.info? 46).map (fun i => (i.zero, i.size, i.bytes)) = some (some (.agg #[.int .i64 0, .int .i64 0, .string ByteArray.empty, .string ByteArray.empty, .int .i64 0, .slice none 0 0, .slice none 0 0, .bool false]), 8, 112) := by kernel_rfl
theorem info25 : (Try.prog.info? 25).map (fun i => (i.zero, i.size, i.bytes)) = some (some (.agg #[.int .i64 0, .int .u64 0, .int .u64 0, .slice none 0 0]), 4, 48) := by kernel_rfl
end Go.Proofs.Ytgndmbkkggjklaa.Jo
namespace Go.Proofs.Ytgndmbkkggjklaa.Jo
set_option linter.unusedVariables false
set_option linter.unusedSimpArgs false
open Go.RowKit Go.Proofs.YtgndmbkkggjklaaW.PrintWords Go.Proofs.YtgndmbkkggjklaaW.PrintLast Go.Proofs.YtgndmbkkggjklaaW.PrintMore Go.Proofs.Ytgndmbkkggjklaa.Bs
def set4 (w : World) (g : Nat) (b0 b1 b2 b3 : Value) : World := (((w.setCell ⟨g, 0, none⟩ b0).setCell ⟨g, 1, none⟩ b1).setCell ⟨g, 2, none⟩ b2).setCell ⟨g, 3, none⟩ b3
theorem set4_q {w : World} {g t : Nat} {a0 a1 a2 a3 : Value} (h : w.heap[g]? = some (.cells #[a0, a1, a2, a3] t (0, 0))) (b0 b1 b2 b3 : Value) : (set4 w g b0 b1 b2 b3).heap[g]? = some (.cells #[b0, b1, b2, b3] t (0, 0)) := by
  have h0 := blk_upd (cs' := #[b0, a1, a2, a3]) 0 b0 h rfl
  have h1 := blk_upd (cs' := #[b0, b1, a2, a3]) 1 b1 h0 rfl
  have h2 := blk_upd (cs' := #[b0, b1, b2, a3]) 2 b2 h1 rfl
  exact blk_upd (cs' := #[b0, b1, b2, b3]) 3 b3 h2 rfl
theorem set4_ch (w : World) (g : Nat) (b0 b1 b2 b3 : Value) : Ch (fun k => k = g) w (set4 w g b0 b1 b2 b3) :=
  ((((Ch.refl (fun k => k = g) w).setCell (p := ⟨g, 0, none⟩) (.inl rfl) b0).setCell (p := ⟨g, 1, none⟩) (.inl rfl) b1).setCell (p := ⟨g, 2, none⟩) (.inl rfl) b2).setCell (p := ⟨g, 3, none⟩) (.inl rfl) b3
/-- The loop over the changes: where all stands. -/
structure Cl (w W : World) (p g : Nat) (tx st tm : Int) (A : Option Addr) (c : Nat) (acc : List S46) (s : St) (wr : World) : Prop where
  src : Src w wr p s
  blk : wr.heap[g]? = some (.cells #[.int .i64 tx, .int .u64 st, .int .u64 tm, .slice A acc.length c] 25 (0, 0))
  row : k46.R 46 wr W.heap.size (fun k => W.heap.size ≤ k) (.slice A acc.length c) acc
  ch : Ch (fun k => k = p ∨ k = g) W wr
  siz : ∀ x ∈ acc, sized x
theorem Cl.read {w W wr w' : World} {p g : Nat} {tx st tm : Int} {A : Option Addr} {c : Nat} {acc : List S46} {s s' : St} (h : Cl w W p g tx st tm A c acc s wr) (hr : Rd w wr p s' w') (hp : p < W.heap.size) (hg : g ≠ p) : Cl w W p g tx st tm A c acc s' w' :=
  ⟨hr.s, hr.keeps h.blk hg, Kd.R_step h.row (fun k hk hlt => hr.ch.block k hlt (fun e => by omega)), h.ch.trans (hr.ch.mono (fun k hk _ => .inl (.inl hk))), h.siz⟩
theorem Cl.add {w W wr w1 : World} {p g : Nat} {tx st tm : Int} {A A1 : Option Addr} {c c1 m : Nat} {acc : List S46} {x : S46} {s : St} (h : Cl w W p g tx st tm A c acc s wr) (hp : p < W.heap.size) (hg : g < W.heap.size) (hpg : p ≠ g) (hw : w.heap.size ≤ g) (hx : sized x) (hm : m = (acc ++ [x]).length)
    (hr : k46.R 46 w1 W.heap.size (fun k => W.heap.size ≤ k) (.slice A1 m c1) (acc ++ [x])) (hch : Ch (fun k => some k = (Value.slice A acc.length c).ownBlock) wr w1) : Cl w W p g tx st tm A1 c1 (acc ++ [x]) s (w1.setCell ⟨g, 3, none⟩ (.slice A1 m c1)) := by
  subst hm
  have hb : ∀ k, some k = (Value.slice A acc.length c).ownBlock → W.heap.size ≤ k := fun k hk => h.row.1 k hk.symm
  have hset : Ch (fun k => k = g) w1 (w1.setCell ⟨g, 3, none⟩ (.slice A1 (acc ++ [x]).length c1)) := (Ch.refl (fun k => k = g) w1).setCell (p := ⟨g, 3, none⟩) (.inl rfl) _
  have hs1 : Src w w1 p s := h.src.step hch (fun e => by have := hb p e; omega) (fun k hk => by have := hb k hk; omega)
  refine ⟨hs1.step hset hpg (fun k hk => hk ▸ hw), blk_upd 3 _ (hch.heap h.blk (fun e => by have := hb g e; omega)) rfl, Kd.R_step hr (fun k hk hlt => hset.block k hlt (fun e => by omega)), (h.ch.trans (hch.mono (fun k hk _ => .inr (hb k hk)))).trans (hset.mono (fun k hk _ => .inl (.inr hk))), ?_⟩
  intro y hy
  rcases List.mem_append.1 hy with hy | hy
  · exact h.siz y hy
  · rw [List.mem_singleton] at hy; subst hy; exact hx
theorem Cl.result {w W wr w9 : World} {p g : Nat} {tx st tm : Int} {A : Option Addr} {c : Nat} {acc : List S46} {s : St} (h : Cl w W p g tx st tm A c acc s wr) (hb : Below wr.heap.size wr w9) (hW : Below w.heap.size w W) (hlt : w.heap.size < W.heap.size) (hp : w.heap.size ≤ p) (hg : w.heap.size ≤ g) :
    k25.M (set4 w9 w.heap.size (.int .i64 tx) (.int .u64 st) (.int .u64 tm) (.slice A acc.length c)) w.heap.size (fun k => w.heap.size ≤ k) ⟨tx, st, tm, acc⟩ [.int .i64 tx, .int .u64 st, .int .u64 tm, .slice A acc.length c] ∧ Below w.heap.size w (set4 w9 w.heap.size (.int .i64 tx) (.int .u64 st) (.int .u64 tm) (.slice A acc.length c)) := by
  have hch := set4_ch w9 w.heap.size (.int .i64 tx) (.int .u64 st) (.int .u64 tm) (.slice A acc.length c)
  have hR := hch.R (Kd.R_below h.row hb) (fun k hk e => by omega)
  refine ⟨k25_mkM _ _ _ ⟨tx, st, tm, acc⟩ (Kd.R_mono (Kd.R_lower hR (Nat.le_of_lt hlt)) (fun k hk => by omega)), ?_⟩
  have h1 := Ch.to_below h.ch (B := w.heap.size) (fun k hk => by rcases hk with rfl | rfl <;> assumption) (by omega)
  have h2 := below_step (hW.trans h1) hb
  exact h2.trans (Ch.to_below hch (fun k hk => by omega) h2.size)
set_option maxRecDepth 100000 in
set_option maxHeartbeats 8000000 in
theorem commit_get (w : World) (A : Option Addr) (cp : Nat) (bs : List Int) (hC : (Kd.int .u8).C w A bs.length bs) (hc : bs.length ≤ cp) (hby : Bys bs) (hlen : bs.length ≤ 9000000000000000000) :
    Calls Try.prog 22 #[.slice A bs.length cp] w fun e w' => (∃ cs : List Value, e = .returned (.tuple #[.agg cs.toArray, .bool (commitP bs).2]) ∧ k25.M w' w.heap.size (fun k => w.heap.size ≤ k) (commitP bs).1 cs) ∧ Below w.heap.size w w' := by
  obtain ⟨tx, s1, e1⟩ : ∃ a b, numP 4 ⟨bs, false⟩ = (a, b) := ⟨_, _, rfl⟩
  have b1 := Aside0.mk (show Bys s1.bs by have := numP_bys (n := 4) (s := ⟨bs, false⟩) hby; rw [e1] at this; exact this)
  have l1 := Aside0.mk (show s1.bs.length ≤ 9000000000000000000 by have := numP_len 4 ⟨bs, false⟩; rw [e1] at this; exact Nat.le_trans this hlen)
  obtain ⟨st, s2, e2⟩ : ∃ a b, numP 8 s1 = (a, b) := ⟨_, _, rfl⟩
  have b2 := Aside0.mk (show Bys s2.bs by have := numP_bys (n := 8)  b1.out; rw [e2] at this; exact this)
  have l2 := Aside0.mk (show s2.bs.length ≤ 9000000000000000000 by have := numP_len 8 s1; rw [e2] at this; exact Nat.le_trans this l1.out)
  obtain ⟨tm, s3, e3⟩ : ∃ a b, numP 8 s2 = (a, b) := ⟨_, _, rfl⟩
  have b3 := Aside0.mk (show Bys s3.bs by have := numP_bys (n := 8)  b2.out; rw [e3] at this; exact this)
  have l3 := Aside0.mk (show s3.bs.length ≤ 9000000000000000000 by have := numP_len 8 s2; rw [e3] at this; exact Nat.le_trans this l2.out)
  obtain ⟨nn, s4, e4⟩ : ∃ a b, numP 2 s3 = (a, b) := ⟨_, _, rfl⟩
  have b4 := Aside0.mk (show Bys s4.bs by have := numP_bys (n := 2)  b3.out; rw [e4] at this; exact this)
  have l4 := Aside0.mk (show s4.bs.length ≤ 9000000000000000000 by have := numP_len 2 s3; rw [e4] at this; exact Nat.le_trans this l3.out)
  have hnn := numP_bound (n := 2) b3.out
  rw [e4, show (256 : Nat) ^ 2 = 65536 by decide] at hnn
  obtain ⟨m, rfl⟩ : ∃ m : Nat, nn = m := ⟨nn.toNat, by have : 0 ≤ nn := hnn.1; omega⟩
  have hm : m < 65536 := by have : (m : Int) < 65536 := hnn.2; omega
  obtain ⟨L, s5, e5⟩ : ∃ a b, changesL m s4 [] = (a, b) := ⟨_, _, rfl⟩
  have E := Aside0.mk (show commitP bs = (⟨tx, st, tm, L⟩, !s5.sh && decide (s5.bs.length = 0) && rightC ⟨tx, st, tm, L⟩) by simp only [commitP, e1, e2, e3, e4, Int.toNat_natCast, e5])
  have E5 := Aside0.mk e5
  obtain ⟨p, hp⟩ : ∃ p, p = w.heap.size + 1 := ⟨_, rfl⟩
  have C1 := Aside0.mk (fun (W : World) (hW : Src w W p ⟨bs, false⟩) => show Calls Try.prog _ _ W _ from integer_get w W p 4 ⟨bs, false⟩ hW hby (by decide))
  rw [e1] at C1
  have C2 := Aside0.mk (fun (W : World) (hW : Src w W p s1) => show Calls Try.prog _ _ W _ from number_get w W p 8 s1 hW b1.out (by decide))
  rw [e2] at C2
  have C3 := Aside0.mk (fun (W : World) (hW : Src w W p s2) => show Calls Try.prog _ _ W _ from number_get w W p 8 s2 hW b2.out (by decide))
  rw [e3] at C3
  have C4 := Aside0.mk (fun (W : World) (hW : Src w W p s3) => show Calls Try.prog _ _ W _ from integer_get w W p 2 s3 hW b3.out (by decide))
  rw [e4] at C4
  generalize commitP bs = cp0 at *
  have hW := below_alloc (Below.refl w.heap.size w) (.cells #[.int .i64 0, .int .u64 0, .int .u64 0, .slice none 0 0] 25)
  have hT := heap_alloc_new w (.cells #[.int .i64 0, .int .u64 0, .int .u64 0, .slice none 0 0] 25)
  have hW2 := below_alloc (Below.refl (w.alloc (.cells #[.int .i64 0, .int .u64 0, .int .u64 0, .slice none 0 0] 25)).heap.size (w.alloc (.cells #[.int .i64 0, .int .u64 0, .int .u64 0, .slice none 0 0] 25))) (.cells #[.slice A bs.length cp, .bool false] 69)
  have hP := heap_alloc_new (w.alloc (.cells #[.int .i64 0, .int .u64 0, .int .u64 0, .slice none 0 0] 25)) (.cells #[.slice A bs.length cp, .bool false] 69)
  have hz1 : (w.alloc (.cells #[.int .i64 0, .int .u64 0, .int .u64 0, .slice none 0 0] 25)).heap.size = w.heap.size + 1 := by simp
  rw [hz1, ← hp] at hP
  have hT2 := (hW2.block w.heap.size (by omega)).trans hT
  have hB := below_step hW hW2
  clear e1 e2 e3 e4 e5 b1 b2 hnn hW hT
  go_enter Try.func22, Try.ntmps22
  go_wp2_with fail
  obtain ⟨W1, hW1⟩ : ∃ x, x = (w.alloc (.cells #[.int .i64 0, .int .u64 0, .int .u64 0, .slice none 0 0] 25)).alloc (.cells #[.slice A bs.length cp, .bool false] 69) := ⟨_, rfl⟩
  rw [← hW1, ← hp]
  rw [← hW1] at hP hT2 hB
  have R1 := Aside0.mk (Rd.self (show Src w W1 p ⟨bs, false⟩ from ⟨⟨A, cp, hP, hc, hC⟩, hB, by omega⟩))
  have T1 := Aside0.mk hT2
  have HB1 := Aside0.mk hB
  have HP := Aside0.mk (show p < W1.heap.size from blk_lt hP)
  have HPW := Aside0.mk hp
  clear hP hT2 hB hW2 hW1 hz1 hC hc hp hby
  refine (C1.out W1 R1.out.s).mono ?_
  rintro e w2 ⟨rfl, hR⟩
  have R2 := Aside0.mk (R1.out.trans hR)
  have T2 := Aside0.mk (hR.keeps T1.out (by have := HPW.out; omega))
  clear hR C1 R1
  go_wp2_with fail
  have hW := below_alloc (Below.refl w2.heap.size w2) (.cells #[.int .i64 tx, .int .u64 0, .int .u64 0, .slice none 0 0] 25)
  have hH := heap_alloc_new w2 (.cells #[.int .i64 tx, .int .u64 0, .int .u64 0, .slice none 0 0] 25)
  obtain ⟨W3, hW3⟩ : ∃ x, x = w2.alloc (.cells #[.int .i64 tx, .int .u64 0, .int .u64 0, .slice none 0 0] 25) := ⟨_, rfl⟩
  rw [← hW3] at hW hH ⊢
  have hR3 := R2.out.below hW
  have HG := Aside0.mk (show W1.heap.size ≤ w2.heap.size from R2.out.ch.size)
  have hTT := hW.block w.heap.size (blk_lt T2.out)
  generalize w2.heap.size = g at *
  have R3 := Aside0.mk hR3
  have T3 := Aside0.mk (hTT.trans T2.out)
  have H3 := Aside0.mk hH
  clear hW hH hW3 R2 T2 hR3 hTT T1
  refine (C2.out W3 R3.out.s).mono ?_
  rintro e w4 ⟨rfl, hR⟩
  have R4 := Aside0.mk (R3.out.trans hR)
  have T4 := Aside0.mk (hR.keeps T3.out (by have := HPW.out; omega))
  have H4 := Aside0.mk (hR.keeps H3.out (by have := HP.out; have := HG.out; omega))
  clear hR C2 R3 T3 H3
  go_wp2_with fail
  refine (C3.out w4 R4.out.s).mono ?_
  rintro e w5 ⟨rfl, hR⟩
  have R5 := Aside0.mk (R4.out.trans hR)
  have T5 := Aside0.mk (hR.keeps T4.out (by have := HPW.out; omega))
  have H5 := Aside0.mk (hR.keeps H4.out (by have := HP.out; have := HG.out; omega))
  obtain ⟨q0, q1, q2, q3, q4⟩ := blk4 H5.out
  clear hR C3 R4 T4 H4
  go_wp2_with fail
  obtain ⟨W6, hW⟩ : ∃ x, x = (w5.setCell ⟨g, 1, none⟩ (.int .u64 st)).setCell ⟨g, 2, none⟩ (.int .u64 tm) := ⟨_, rfl⟩
  rw [← hW]
  have R6 := Aside0.mk (show Rd w W1 p s3 W6 from hW ▸ (R5.out.set (i := 1) HG.out HP.out (.int .u64 st)).set (i := 2) HG.out HP.out (.int .u64 tm))
  have T6 := Aside0.mk (show W6.heap[w.heap.size]? = _ from hW ▸ (Below.heap_setCell (w5.setCell ⟨g, 1, none⟩ (.int .u64 st)) ⟨g, 2, none⟩ (.int .u64 tm) w.heap.size (by show w.heap.size ≠ g; have := HG.out; have := HP.out; have := HPW.out; omega)).trans ((Below.heap_setCell w5 ⟨g, 1, none⟩ (.int .u64 st) w.heap.size (by show w.heap.size ≠ g; have := HG.out; have := HP.out; have := HPW.out; omega)).trans T5.out))
  have H6 := Aside0.mk (show W6.heap[g]? = some (.cells #[.int .i64 tx, .int .u64 st, .int .u64 tm, .slice none 0 0] 25 (0, 0)) from hW ▸ (blk_upd (cs' := #[.int .i64 tx, .int .u64 st, .int .u64 tm, .slice none 0 0]) 2 (.int .u64 tm) (blk_upd (cs' := #[.int .i64 tx, .int .u64 st, .int .u64 0, .slice none 0 0]) 1 (.int .u64 st) H5.out rfl) rfl))
  clear hW R5 T5 H5 q0 q1 q2 q3 q4
  refine (C4.out W6 R6.out.s).mono ?_
  rintro e w7 ⟨rfl, hR⟩
  have R7 := Aside0.mk (R6.out.trans hR)
  have T7 := Aside0.mk (hR.keeps T6.out (by have := HPW.out; omega))
  have H7 := Aside0.mk (hR.keeps H6.out (by have := HP.out; have := HG.out; omega))
  clear hR C4 R6 T6 H6
  have HGL := Aside0.mk (show g < w7.heap.size from blk_lt H7.out)
  have HP7 := Aside0.mk (show p < w7.heap.size from R7.out.s.p_lt)
  have hgp : g ≠ p := by have := HP.out; have := HG.out; omega
  have CL := Aside0.mk (show Cl w w7 p g tx st tm none 0 [] s4 w7 from ⟨R7.out.s, H7.out, Kd.R_nil _ _ _ _ _, Ch.refl _ _, by simp⟩)
  have HWG := Aside0.mk (show w.heap.size ≤ g by have := HP.out; have := HG.out; have := HPW.out; omega)
  go_wp2_with fail
  go_loopw [6] (fun v6 wr => ∃ (j : Nat) (Ac : Option Addr) (cc : Nat) (acc : List S46) (sx : St), v6 = .int .i64 j ∧ j + acc.length = m ∧ Aside0 (changesL j sx acc = (L, s5)) ∧ Aside0 (Bys sx.bs) ∧ Aside0 (sx.bs.length ≤ 9000000000000000000) ∧ Aside0 (Cl w w7 p g tx st tm Ac cc acc sx wr)) (fun v6 _ => (intOf v6).toNat)
  case atStart => exact ⟨m, none, 0, [], s4, rfl, by simp, E5, b4, l4, CL⟩
  case round =>
    clear CL E5 b4 l4
    obtain ⟨j, Ac, cc, acc, sx, rfl, hj, E5, HBY, HL, CL⟩ := hrel
    obtain ⟨sb, sh⟩ := sx
    obtain ⟨k1, k2⟩ := CL.out.src.cells
    simp only at k1
    by_cases hjp : 0 < j ∧ sh = false
    · obtain ⟨hj0, rfl⟩ := hjp
      obtain ⟨j, rfl⟩ : ∃ i, j = i + 1 := ⟨j - 1, by omega⟩
      have hj1 : (0 : Int) < ((j + 1 : Nat) : Int) := by omega
      have E6 := Aside0.mk (show changesL j (changeP ⟨sb, false⟩).2 (acc ++ [(changeP ⟨sb, false⟩).1]) = (L, s5) by rw [← E5.out]; rfl)
      have hsz := changeP_sized HBY.out HL.out
      have HB6 := Aside0.mk (changeP_bys HBY.out)
      have HS6 := Aside0.mk hsz.1
      have HL6 := Aside0.mk (show (changeP ⟨sb, false⟩).2.bs.length ≤ 9000000000000000000 from Nat.le_trans hsz.2 HL.out)
      have CJ := Aside0.mk (fun (W : World) (hW : Src w W p ⟨sb, false⟩) => change_get w W p ⟨sb, false⟩ hW HBY.out)
      have CLD := Aside0.mk (CL.out.read (Rd.below (Rd.self CL.out.src) (below_drew (Below.refl wr.heap.size wr))) HP7.out hgp)
      obtain ⟨q0, q1, q2, q3, q4⟩ := blk4 CL.out.blk
      have HLEN := Aside0.mk (show (acc.length + 1) * 112 ≤ 140737488355328 by omega)
      clear E5 hsz HBY HL CL hj0
      generalize changeP ⟨sb, false⟩ = cj at *
      go_upto_region 7 with (fail)
      go_region_law (first
        | (go_simp; go_at_call 36; (with_reducible refine (CJ.out _ CLD.out.src).mono ?_); rintro e w9 ⟨⟨cs, rfl, hfk⟩, hR⟩; obtain ⟨A5, c5, A6, c6, rfl⟩ := M46_open hfk; have HFK := Aside0.mk hfk; have CL9 := Aside0.mk (CLD.out.read hR HP7.out hgp); have hq9 := blk4 CL9.out.blk; have hka : ∀ o, (w9.alloc o).cell? ⟨g, 3, none⟩ = some (.slice Ac acc.length cc) := fun o => pw_cell_below (below_alloc (Below.refl _ _) o) hq9.2.2.2.1; have hkb := hq9.2.2.2.1; have HZ9 := Aside0.mk (Nat.le_trans CLD.out.ch.size hR.ch.size); have HZD := Aside0.mk (show w7.heap.size ≤ wr.drew.heap.size from CLD.out.ch.size); clear hfk hR hq9)
        | (refine app_step k46 (W := w9) w7.heap.size rfl (.tmp 33) (.tmp 36) 23 46 _ 112 rfl Try.underlying23 info46 ⟨rfl, by decide, by decide⟩ (.slice Ac acc.length cc) acc cj.1 _ (fun k => w7.heap.size ≤ k) (fun k => wr.drew.heap.size ≤ k) rfl rfl (k46.M_lower HZD.out HFK.out) (fun k hk => ⟨Nat.le_trans HZD.out hk, fun e => by have := Kd.R_lt CLD.out.row k e.symm; omega⟩) CL9.out.row HZ9.out HLEN.out ?_; intro A1 c1 w10 hr10 hch10 hat10; have hne : some g ≠ (Value.slice Ac acc.length cc).ownBlock := fun e => (by have := CL9.out.row.1 g e.symm; have := HGL.out; omega); obtain ⟨f0, f1, f2, f3, f4⟩ := blk4 (hch10.heap CL9.out.blk hne); have CL10 := Aside0.mk (CL9.out.add HP7.out HGL.out (Ne.symm hgp) HWG.out HS6.out (by simp) (Kd.R_mono hr10 (fun k hk => hk.elim id (fun h => Nat.le_trans HZ9.out h))) hch10); clear hr10 hch10 hat10 hne))
      all_goals
        go_wp2
        go_roundw
        case rel => exact ⟨j, A1, c1, acc ++ [cj.1], cj.2, by first | rfl | simp, by rw [List.length_append, List.length_singleton]; omega, E6, HB6, HL6, CL10⟩
        case measure => simp [intOf]; try omega
    · have EL : acc = L ∧ (⟨sb, sh⟩ : St) = s5 := by
        have := E5.out
        cases j with
        | zero => simpa [changesL] using this
        | succ j =>
          have hs : sh = true := by
            cases sh with
            | true => rfl
            | false => exact absurd ⟨by omega, rfl⟩ hjp
          simpa [changesL, hs] using this
      obtain ⟨rfl, rfl⟩ := EL
      obtain ⟨q0, q1, q2, q3, q4⟩ := blk4 CL.out.blk
      obtain ⟨⟨A', c', hpb, hl', hC'⟩, _, _⟩ := CL.out.src
      have p0 := blk_cell hpb 0
      have hTr := CL.out.ch.heap T7.out (by have := HPW.out; have := HWG.out; have := HG.out; have := HP.out; rintro (e | e) <;> omega)
      obtain ⟨t0, t1, t2, t3, t4⟩ := blk4 hTr
      have TR := Aside0.mk hTr
      have HW7 := Aside0.mk (show Below w.heap.size w w7 from HB1.out.trans (Ch.to_below R7.out.ch (fun k hk => by have := HPW.out; omega) HB1.out.size))
      have HLT := Aside0.mk (show w.heap.size < w7.heap.size by have := HP7.out; have := HPW.out; omega)
      have HPW2 := Aside0.mk (show w.heap.size ≤ p by have := HPW.out; omega)
      have CR := Aside0.mk (fun (W : World) (hW : Below wr.heap.size wr W) => rightc_calls W Ac cc ⟨tx, st, tm, acc⟩ (Kd.F_now (Kd.F_below (Kd.R_F CL.out.row) hW)) (Kd.R_reads' CL.out.row).2.1 CL.out.siz (by show acc.length ≤ _; omega))
      clear E5 HBY HL hpb hC' hTr hl'
      simp only at p0 E CR
      cases sh with
      | true =>
        have E9 := Aside0.mk (show cp0 = (⟨tx, st, tm, acc⟩, false) by rw [E.out]; simp)
        by_cases hj0 : 0 < j
        · have hj1 : (0 : Int) < (j : Int) := by omega
          go_upto_region 8 with (fail)
          go_region
          go_wp2
          change bodyPost Try.prog Try.f22 _ Exit.ret _ (set4 wr w.heap.size (.int .i64 tx) (.int .u64 st) (.int .u64 tm) (.slice Ac acc.length cc)).drew
          have hs : (set4 wr w.heap.size (.int .i64 tx) (.int .u64 st) (.int .u64 tm) (.slice Ac acc.length cc)).drew.heap[w.heap.size]? = some (.cells #[.int .i64 tx, .int .u64 st, .int .u64 tm, .slice Ac acc.length cc] 25 (0, 0)) := set4_q TR.out (.int .i64 tx) (.int .u64 st) (.int .u64 tm) (.slice Ac acc.length cc)
          have hres := CL.out.result (Below.refl wr.heap.size wr) HW7.out HLT.out HPW2.out HWG.out
          have hfk := Kd.M_below hres.1 (below_drew (Below.refl _ _))
          have hbl := below_step hres.2 (below_drew (Below.refl _ _))
          clear t0 t1 t2 t3 t4 q0 q1 q2 q3 q4 k1 k2 p0 hres
          generalize (set4 wr w.heap.size (.int .i64 tx) (.int .u64 st) (.int .u64 tm) (.slice Ac acc.length cc)).drew = W9 at *
          obtain ⟨d0, d1, d2, d3, d4⟩ := blk4 hs
          refine bodyPost_ret (v := .tuple #[.agg #[.int .i64 tx, .int .u64 st, .int .u64 tm, .slice Ac acc.length cc], .bool false]) (by simp [results, Try.results22, go_sem, d0, d1, d2, d3]) rfl ?_
          rw [E9.out]
          exact ⟨⟨[.int .i64 tx, .int .u64 st, .int .u64 tm, .slice Ac acc.length cc], rfl, hfk⟩, hbl⟩
        · have hj2 : j = 0 := by omega
          subst hj2
          go_upto_region 8 with (fail)
          go_region
          go_wp2
          change bodyPost Try.prog Try.f22 _ Exit.ret _ (set4 wr w.heap.size (.int .i64 tx) (.int .u64 st) (.int .u64 tm) (.slice Ac acc.length cc)).drew
          have hs : (set4 wr w.heap.size (.int .i64 tx) (.int .u64 st) (.int .u64 tm) (.slice Ac acc.length cc)).drew.heap[w.heap.size]? = some (.cells #[.int .i64 tx, .int .u64 st, .int .u64 tm, .slice Ac acc.length cc] 25 (0, 0)) := set4_q TR.out (.int .i64 tx) (.int .u64 st) (.int .u64 tm) (.slice Ac acc.length cc)
          have hres := CL.out.result (Below.refl wr.heap.size wr) HW7.out HLT.out HPW2.out HWG.out
          have hfk := Kd.M_below hres.1 (below_drew (Below.refl _ _))
          have hbl := below_step hres.2 (below_drew (Below.refl _ _))
          clear t0 t1 t2 t3 t4 q0 q1 q2 q3 q4 k1 k2 p0 hres
          generalize (set4 wr w.heap.size (.int .i64 tx) (.int .u64 st) (.int .u64 tm) (.slice Ac acc.length cc)).drew = W9 at *
          obtain ⟨d0, d1, d2, d3, d4⟩ := blk4 hs
          refine bodyPost_ret (v := .tuple #[.agg #[.int .i64 tx, .int .u64 st, .int .u64 tm, .slice Ac acc.length cc], .bool false]) (by simp [results, Try.results22, go_sem, d0, d1, d2, d3]) rfl ?_
          rw [E9.out]
          exact ⟨⟨[.int .i64 tx, .int .u64 st, .int .u64 tm, .slice Ac acc.length cc], rfl, hfk⟩, hbl⟩
      | false =>
        have hj0 : j = 0 := by
          rcases Nat.eq_zero_or_pos j with h | h
          · exact h
          · exact absurd ⟨h, rfl⟩ hjp
        subst hj0
        cases sb with
        | nil =>
          have E9 := Aside0.mk (show cp0 = (⟨tx, st, tm, acc⟩, rightC ⟨tx, st, tm, acc⟩) by rw [E.out]; simp)
          simp only [List.length_nil] at p0
          generalize rightC ⟨tx, st, tm, acc⟩ = rb at *
          go_upto_region 8 with (fail)
          have hgw : ¬ g = w.heap.size := by have := HWG.out; have := HG.out; have := HP.out; have := HPW.out; omega
          have hpw : ¬ p = w.heap.size := by have := HPW.out; omega
          go_region_held3 (fun w' => w'.cell? ⟨g, 0, none⟩ = some (.int .i64 tx) ∧ w'.cell? ⟨g, 1, none⟩ = some (.int .u64 st) ∧ w'.cell? ⟨g, 2, none⟩ = some (.int .u64 tm) ∧ w'.cell? ⟨g, 3, none⟩ = some (.slice Ac acc.length cc) ∧ w'.cell? ⟨p, 0, none⟩ = some (.slice A' 0 c') ∧ w'.cell? ⟨p, 1, none⟩ = some (.bool false)) (first | exact ⟨q0, q1, q2, q3, p0, k1⟩ | exact ⟨z0, z1, z2, z3, z5, z6⟩ | exact ⟨(set4_ch w9 w.heap.size (.int .i64 tx) (.int .u64 st) (.int .u64 tm) (.slice Ac acc.length cc)).cell z0 hgw, (set4_ch w9 w.heap.size (.int .i64 tx) (.int .u64 st) (.int .u64 tm) (.slice Ac acc.length cc)).cell z1 hgw, (set4_ch w9 w.heap.size (.int .i64 tx) (.int .u64 st) (.int .u64 tm) (.slice Ac acc.length cc)).cell z2 hgw, (set4_ch w9 w.heap.size (.int .i64 tx) (.int .u64 st) (.int .u64 tm) (.slice Ac acc.length cc)).cell z3 hgw, (set4_ch w9 w.heap.size (.int .i64 tx) (.int .u64 st) (.int .u64 tm) (.slice Ac acc.length cc)).cell z5 hpw, (set4_ch w9 w.heap.size (.int .i64 tx) (.int .u64 st) (.int .u64 tm) (.slice Ac acc.length cc)).cell z6 hpw⟩ | go_keep) (first | (go_at_call 9; (with_reducible refine (CR.out _ (below_drew (Below.refl _ _))).mono ?_); rintro e w9 ⟨rfl, hb9⟩; have HB9 := Aside0.mk hb9; have hT9 := (hb9.block w.heap.size (blk_lt (show wr.drew.heap[w.heap.size]? = _ from TR.out))).trans TR.out; obtain ⟨y0, y1, y2, y3, y4⟩ := blk4 hT9; have TR9 := Aside0.mk hT9; have hq9 := (hb9.block g (blk_lt (show wr.drew.heap[g]? = _ from CL.out.blk))).trans CL.out.blk; obtain ⟨z0, z1, z2, z3, z4⟩ := blk4 hq9; have z5 := pw_cell_below hb9 (show wr.drew.cell? ⟨p, 0, none⟩ = _ from p0); have z6 := pw_cell_below hb9 (show wr.drew.cell? ⟨p, 1, none⟩ = _ from k1); clear hb9 hT9 hq9))
          go_wp2
          change bodyPost Try.prog Try.f22 _ Exit.ret _ (set4 w9 w.heap.size (.int .i64 tx) (.int .u64 st) (.int .u64 tm) (.slice Ac acc.length cc))
          have hs : (set4 w9 w.heap.size (.int .i64 tx) (.int .u64 st) (.int .u64 tm) (.slice Ac acc.length cc)).heap[w.heap.size]? = some (.cells #[.int .i64 tx, .int .u64 st, .int .u64 tm, .slice Ac acc.length cc] 25 (0, 0)) := set4_q TR9.out (.int .i64 tx) (.int .u64 st) (.int .u64 tm) (.slice Ac acc.length cc)
          have hres := CL.out.result (below_step (below_drew (Below.refl wr.heap.size wr)) HB9.out) HW7.out HLT.out HPW2.out HWG.out
          have hfk := hres.1
          have hbl := hres.2
          clear t0 t1 t2 t3 t4 q0 q1 q2 q3 q4 k1 k2 p0 hres y0 y1 y2 y3 y4 z0 z1 z2 z3 z4 z5 z6
          generalize set4 w9 w.heap.size (.int .i64 tx) (.int .u64 st) (.int .u64 tm) (.slice Ac acc.length cc) = W9 at *
          obtain ⟨d0, d1, d2, d3, d4⟩ := blk4 hs
          refine bodyPost_ret (v := .tuple #[.agg #[.int .i64 tx, .int .u64 st, .int .u64 tm, .slice Ac acc.length cc], .bool rb]) (by simp [results, Try.results22, go_sem, d0, d1, d2, d3]) rfl ?_
          rw [E9.out]
          exact ⟨⟨[.int .i64 tx, .int .u64 st, .int .u64 tm, .slice Ac acc.length cc], rfl, hfk⟩, hbl⟩
        | cons sx sl =>
          have E9 := Aside0.mk (show cp0 = (⟨tx, st, tm, acc⟩, false) by rw [E.out]; simp)
          simp only [List.length_cons] at p0
          obtain ⟨n0, hn0⟩ : ∃ n0, n0 = sl.length + 1 := ⟨_, rfl⟩
          rw [← hn0] at p0
          have hb1 : ((n0 : Int) == 0) = false := by rw [hn0]; simp; omega
          have hb2 : ¬ n0 = 0 := by omega
          have hb3 : decide ((n0 : Int) = 0) = false := by simp; omega
          clear hn0
          go_upto_region 8 with (fail)
          go_region
          go_wp2
          change bodyPost Try.prog Try.f22 _ Exit.ret _ (set4 wr w.heap.size (.int .i64 tx) (.int .u64 st) (.int .u64 tm) (.slice Ac acc.length cc)).drew
          have hs : (set4 wr w.heap.size (.int .i64 tx) (.int .u64 st) (.int .u64 tm) (.slice Ac acc.length cc)).drew.heap[w.heap.size]? = some (.cells #[.int .i64 tx, .int .u64 st, .int .u64 tm, .slice Ac acc.length cc] 25 (0, 0)) := set4_q TR.out (.int .i64 tx) (.int .u64 st) (.int .u64 tm) (.slice Ac acc.length cc)
          have hres := CL.out.result (Below.refl wr.heap.size wr) HW7.out HLT.out HPW2.out HWG.out
          have hfk := Kd.M_below hres.1 (below_drew (Below.refl _ _))
          have hbl := below_step hres.2 (below_drew (Below.refl _ _))
          clear t0 t1 t2 t3 t4 q0 q1 q2 q3 q4 k1 k2 p0 hres
          generalize (set4 wr w.heap.size (.int .i64 tx) (.int .u64 st) (.int .u64 tm) (.slice Ac acc.length cc)).drew = W9 at *
          obtain ⟨d0, d1, d2, d3, d4⟩ := blk4 hs
          refine bodyPost_ret (v := .tuple #[.agg #[.int .i64 tx, .int .u64 st, .int .u64 tm, .slice Ac acc.length cc], .bool false]) (by simp [results, Try.results22, go_sem, d0, d1, d2, d3]) rfl ?_
          rw [E9.out]
          exact ⟨⟨[.int .i64 tx, .int .u64 st, .int .u64 tm, .slice Ac acc.length cc], rfl, hfk⟩, hbl⟩
end Go.Proofs.Ytgndmbkkggjklaa.Jo
namespace Go.Proofs.Ytgndmbkkggjklaa.Jo
set_option linter.unusedVariables false
set_option linter.unusedSimpArgs false
open Go.RowKit Go.Proofs.YtgndmbkkggjklaaW.PrintWords Go.Proofs.YtgndmbkkggjklaaW.PrintLast Go.Proofs.YtgndmbkkggjklaaW.PrintMore Go.Proofs.Ytgndmbkkggjklaa.Bs
theorem value_step (T : List Int) (hT : Bys T) (hl : T.length ≤ 4) : ∀ (d j k : Nat), j + d = T.length → d < k → breviaryref32_value.l0 k T (val (T.take j)) j = some (val T) := by
  intro d
  induction d with
  | zero =>
    intro j k hj hk
    obtain ⟨k, rfl⟩ : ∃ i, k = i + 1 := ⟨k - 1, by omega⟩
    rw [breviaryref32_value.l0, if_neg (by omega), show j = T.length by omega, List.take_length]
  | succ d ih =>
    intro j k hj hk
    obtain ⟨k, rfl⟩ : ∃ i, k = i + 1 := ⟨k - 1, by omega⟩
    have hjT : j < T.length := by omega
    rw [breviaryref32_value.l0, if_pos (by omega), if_pos (by omega)]
    have hyT : rd T j ∈ T := by
      rw [show rd T j = T[j] by simp [rd, List.getD, hjT]]
      exact List.getElem_mem _
    have hy := hT _ hyT
    have hv := val_le (T.take j) (fun x hx => hT x (List.mem_of_mem_take hx)) 3 (by rw [List.length_take]; omega)
    rw [show (256 : Nat) ^ 3 = 16777216 by decide] at hv
    have e : wrap64 (wrap64 (val (T.take j) * 256) + wrap64 (rd T j)) = val (T.take (j + 1)) := by
      rw [val_next T j hjT]
      unfold wrap64; omega
    rw [e, wrap_succ j (by omega)]
    exact ih (j + 1) k (by omega) (by omega)
theorem value_calls (w : World) (A : Option Addr) (c : Nat) (T : List Int) (hC : (Kd.int .u8).C w A T.length T) (hc : T.length ≤ c) (hT : Bys T) (hl : T.length ≤ 4) :
    Calls Try.prog 27 #[.slice A T.length c] w fun e w' => e = .returned (.int .i64 (val T)) ∧ Below w.heap.size w w' :=
  (breviaryref32_value.calls (T.length + 1) A c T (val T) w hC hc (value_step T hT hl T.length 0 (T.length + 1) (by omega) (by omega))).mono (fun e w' h => ⟨h.1, h.2.below⟩)
/-- What a cut gives: the piece, and what is left. -/
def Cut (w : World) (x y : List Int) (e : Ending) : Prop := ∃ A1 c1 A2 c2, e = .returned (.tuple #[.slice A1 x.length c1, .slice A2 y.length c2, .bool true]) ∧ x.length ≤ c1 ∧ y.length ≤ c2 ∧ (Kd.int .u8).C w A1 x.length x ∧ (Kd.int .u8).C w A2 y.length y
def NoCut (e : Ending) : Prop := e = .returned (.tuple #[.slice none 0 0, .slice none 0 0, .bool false])
theorem cut_mk {w : World} {A A' : Option Addr} {c d m n : Nat} {bs : List Int} (hC : (Kd.int .u8).C w A bs.length bs) (hc : bs.length ≤ c) (hn : n ≤ bs.length) (hA : A' = if c = n then A else A.map (·.add n)) (hd : d = c - n) (hm : m = bs.length - n) : Cut w (bs.take n) (bs.drop n) (.returned (.tuple #[.slice A n c, .slice A' m d, .bool true])) := by
  subst hd hm
  have hlt : (bs.take n).length = n := by rw [List.length_take]; omega
  have hld : (bs.drop n).length = bs.length - n := List.length_drop
  refine ⟨A, c, A', c - n, by rw [hlt, hld], by omega, by omega, Kd.C_take hC hn, ?_⟩
  have h2 := Kd.C_drop (m := n) (c := c) hC hn hc
  have e : (if c = n then A else A.map (·.add (n * (Kd.int .u8).sz))) = A' := by
    rw [hA]; split
    · rfl
    · rw [show n * (Kd.int .u8).sz = n from Nat.mul_one n]
  rw [← e]; exact h2
set_option maxRecDepth 100000 in
set_option maxHeartbeats 400000 in
theorem cut_short (w : World) (A : Option Addr) (c n : Nat) (bs : List Int) (hn : bs.length < n) :
    Calls Try.prog 38 #[.slice A bs.length c, .int .i64 n] w fun e w' => NoCut e ∧ Below w.heap.size w w' := by
  have hn' : (bs.length : Int) < n := by omega
  go_enter Try.func38, Try.ntmps38
  go_wp2_with fail
  go_ret3
  exact ⟨rfl, Below.refl _ _⟩
set_option maxRecDepth 100000 in
set_option maxHeartbeats 400000 in
theorem cut_ok (w0 w : World) (A : Option Addr) (c n : Nat) (bs : List Int) (hC : (Kd.int .u8).C w0 A bs.length bs) (hc : bs.length ≤ c) (hn : n ≤ bs.length) :
    Calls Try.prog 38 #[.slice A bs.length c, .int .i64 n] w fun e w' => Cut w0 (bs.take n) (bs.drop n) e ∧ Below w.heap.size w w' := by
  have hn1 : ¬ (bs.length : Int) < n := by omega
  have hn2 : n ≤ c := by omega
  have HC := Aside0.mk hC
  clear hC
  by_cases hcn : c = n
  · subst hcn
    go_enter Try.func38, Try.ntmps38
    go_upto_region 3 with (fail)
    go_quiet (fail)
    all_goals
      go_wp2
      go_ret3
      exact ⟨cut_mk HC.out hc hn (if_pos rfl).symm (Nat.sub_self _).symm (by omega), ((Drawn0.refl _).step _).below⟩
  · go_enter Try.func38, Try.ntmps38
    go_upto_region 3 with (fail)
    go_quiet (fail)
    all_goals
      go_wp2
      go_ret3
      exact ⟨cut_mk HC.out hc hn (if_neg hcn).symm rfl rfl, ((Drawn0.refl _).step _).below⟩
end Go.Proofs.Ytgndmbkkggjklaa.Jo
namespace Go.Proofs.Ytgndmbkkggjklaa.Jo
set_option linter.unusedVariables false
set_option linter.unusedSimpArgs false
open Go.RowKit Go.Proofs.YtgndmbkkggjklaaW.PrintWords Go.Proofs.YtgndmbkkggjklaaW.PrintLast Go.Proofs.YtgndmbkkggjklaaW.PrintMore Go.Proofs.Ytgndmbkkggjklaa.Bs
/-- A row's numbers, four bytes each. -/
def rowI : Nat → List Int → List Int
  | 0, _ => []
  | n + 1, l => val (l.take 4) :: rowI n (l.drop 4)
theorem bys_take {l : List Int} (h : Bys l) (n : Nat) : Bys (l.take n) := fun x hx => h x (List.mem_of_mem_take hx)
theorem bys_drop {l : List Int} (h : Bys l) (n : Nat) : Bys (l.drop n) := fun x hx => h x (List.mem_of_mem_drop hx)
theorem ints_step (T : List Int) (hT : Bys T) (m : Nat) (hm : T.length = 4 * m) (hb : m ≤ 65536) : ∀ (d i k : Nat) (acc : List Int), i + d = m → acc.length = i → d + 6 < k → breviaryref32_ints.l0 k T acc ((4 * i : Nat) : Int) = some (acc ++ rowI d (T.drop (4 * i))) := by
  intro d
  induction d with
  | zero =>
    intro i k acc hi ha hk
    obtain ⟨k, rfl⟩ : ∃ i, k = i + 1 := ⟨k - 1, by omega⟩
    rw [breviaryref32_ints.l0, if_neg (by omega)]; simp [rowI]
  | succ d ih =>
    intro i k acc hi ha hk
    obtain ⟨k, rfl⟩ : ∃ i, k = i + 1 := ⟨k - 1, by omega⟩
    have e : wrap64 (((4 * i : Nat) : Int) + 4) = ((4 * (i + 1) : Nat) : Int) := by unfold wrap64; omega
    rw [breviaryref32_ints.l0, if_pos (by omega), if_pos (by omega), e, if_pos (by omega), if_pos (by omega)]
    have e2 : (T.take (((4 * (i + 1) : Nat) : Int)).toNat).drop (((4 * i : Nat) : Int)).toNat = (T.drop (4 * i)).take 4 := by
      rw [Int.toNat_natCast, Int.toNat_natCast, List.drop_take]; congr 1; omega
    have hl : ((T.drop (4 * i)).take 4).length = 4 := by rw [List.length_take, List.length_drop]; omega
    rw [e2]
    have hv := value_step ((T.drop (4 * i)).take 4) (bys_take (bys_drop hT _) _) (by omega) 4 0 k (by omega) (by omega)
    have hv' : breviaryref32_value.f k ((T.drop (4 * i)).take 4) = some (val ((T.drop (4 * i)).take 4)) := hv
    rw [hv', Option.bind_some, if_pos (by omega), ih (i + 1) k _ (by omega) (by simp [ha]) (by omega)]
    rw [rowI, List.drop_drop, show 4 * i + 4 = 4 * (i + 1) by omega]; simp
theorem ints_calls (w : World) (A : Option Addr) (c : Nat) (T : List Int) (hC : (Kd.int .u8).C w A T.length T) (hc : T.length ≤ c) (hT : Bys T) (m : Nat) (hm : T.length = 4 * m) (hb : m ≤ 65536) :
    Calls Try.prog 47 #[.slice A T.length c] w fun e w' => ∃ v, e = .returned v ∧ (Kd.int .i64).R 3 w' w.heap.size (fun _ => True) v (rowI m T) ∧ Below w.heap.size w w' := by
  have h := ints_step T hT m hm hb m 0 (m + 7) [] (by omega) rfl (by omega)
  simp only [Nat.mul_zero, List.nil_append, List.drop_zero] at h
  exact breviaryref32_ints.calls (m + 7) A c T (rowI m T) w hC hc h
/-- The same, read by the reader. -/
theorem rowL_cut (l : List Int) : ∀ (n : Nat) (acc l : List Int), 4 * n ≤ l.length → rowL n ⟨l, false⟩ acc = (acc ++ rowI n (l.take (4 * n)), ⟨l.drop (4 * n), false⟩)
  | 0, acc, l, h => by simp [rowL, rowI]
  | n + 1, acc, l, h => by
    have e : numP 4 ⟨l, false⟩ = (val (l.take 4), ⟨l.drop 4, false⟩) := by
      unfold numP takeP
      rw [if_neg (by simp; omega)]
    rw [rowL, if_neg (by simp), e]
    simp only
    rw [rowL_cut l n _ (l.drop 4) (by rw [List.length_drop]; omega), rowI]
    have e1 : (l.take (4 * (n + 1))).take 4 = l.take 4 := by rw [List.take_take]; congr 1
    have e2 : (l.take (4 * (n + 1))).drop 4 = (l.drop 4).take (4 * n) := by rw [List.drop_take]; congr 1
    rw [e1, e2, List.drop_drop]
    simp [show 4 + 4 * n = 4 * (n + 1) by omega]
theorem takeP_sh {n : Nat} {s : St} (h : s.sh = true) : (takeP n s).2.sh = true := by unfold takeP; rw [if_pos (.inl h)]
theorem numP_sh {n : Nat} {s : St} (h : s.sh = true) : (numP n s).2.sh = true := takeP_sh h
theorem rowL_sh : ∀ (n : Nat) (s : St) (acc : List Int), s.sh = true → (rowL n s acc).2.sh = true
  | 0, s, acc, h => h
  | n + 1, s, acc, h => by rw [rowL, if_pos h]; exact h
theorem rowL_short : ∀ (n : Nat) (acc l : List Int), l.length < 4 * n → (rowL n ⟨l, false⟩ acc).2.sh = true
  | 0, acc, l, h => by omega
  | n + 1, acc, l, h => by
    rw [rowL, if_neg (by simp)]
    by_cases h4 : l.length < 4
    · refine rowL_sh _ _ _ ?_
      unfold numP takeP
      rw [if_pos (.inr h4)]
    · have e : numP 4 ⟨l, false⟩ = (val (l.take 4), ⟨l.drop 4, false⟩) := by
        unfold numP takeP
        rw [if_neg (by simp; omega)]
      rw [e]
      exact rowL_short n _ _ (by rw [List.length_drop]; omega)
theorem textP_sh {s : St} (h : s.sh = true) : (textP s).2.sh = true := takeP_sh (numP_sh h)
theorem rowP_sh {s : St} (h : s.sh = true) : (rowP s).2.sh = true := rowL_sh _ _ _ (numP_sh h)
def longP (each : Nat) (b : List Int) : Option (List Int × List Int) :=
  if b.length < 2 then none else if (b.drop 2).length < each * (val (b.take 2)).toNat then none
  else some ((b.drop 2).take (each * (val (b.take 2)).toNat), (b.drop 2).drop (each * (val (b.take 2)).toNat))
theorem num_ok {n : Nat} {l : List Int} (h : ¬ l.length < n) : numP n ⟨l, false⟩ = (val (l.take n), ⟨l.drop n, false⟩) := by
  unfold numP takeP
  rw [if_neg (by simp; omega)]
theorem num_no {n : Nat} {l : List Int} (h : l.length < n) : numP n ⟨l, false⟩ = (0, ⟨l, true⟩) := by
  unfold numP takeP
  rw [if_pos (.inr h)]; rfl
theorem long_text (b : List Int) : (longP 1 b = none → (textP ⟨b, false⟩).2.sh = true) ∧ ∀ x y, longP 1 b = some (x, y) → textP ⟨b, false⟩ = (strOfNums x, ⟨y, false⟩) := by
  unfold longP textP
  by_cases h2 : b.length < 2
  · rw [if_pos h2, num_no h2]; exact ⟨fun _ => takeP_sh rfl, fun x y h => by simp at h⟩
  · rw [if_neg h2, num_ok h2]
    simp only [Nat.one_mul]
    by_cases h3 : (b.drop 2).length < (val (b.take 2)).toNat
    · rw [if_pos h3]
      refine ⟨fun _ => ?_, fun x y h => by simp at h⟩
      unfold takeP
      rw [if_pos (.inr h3)]
    · rw [if_neg h3]
      refine ⟨fun h => by simp at h, fun x y h => ?_⟩
      simp only [Option.some.injEq, Prod.mk.injEq] at h
      unfold takeP
      rw [if_neg (by simp only [Bool.false_eq_true, false_or]; exact h3), ← h.1, ← h.2]
theorem long_row (b : List Int) : (longP 4 b = none → (rowP ⟨b, false⟩).2.sh = true) ∧ ∀ x y, longP 4 b = some (x, y) → rowP ⟨b, false⟩ = (rowI (val (b.take 2)).toNat x, ⟨y, false⟩) ∧ x.length = 4 * (val (b.take 2)).toNat := by
  unfold longP rowP
  by_cases h2 : b.length < 2
  · rw [if_pos h2, num_no h2]; exact ⟨fun _ => rowL_sh _ _ _ rfl, fun x y h => by simp at h⟩
  · rw [if_neg h2, num_ok h2]
    simp only
    by_cases h3 : (b.drop 2).length < 4 * (val (b.take 2)).toNat
    · rw [if_pos h3]
      exact ⟨fun _ => rowL_short _ _ _ h3, fun x y h => by simp at h⟩
    · rw [if_neg h3]
      refine ⟨fun h => by simp at h, fun x y h => ?_⟩
      simp only [Option.some.injEq, Prod.mk.injEq] at h
      rw [rowL_cut [] _ _ _ (by omega), ← h.1, ← h.2, List.nil_append]
      exact ⟨rfl, by rw [List.length_take]; omega⟩
/-- The change with which bytes begin, as the reference reads it. -/
def oneP (b : List Int) : Option (S46 × List Int) :=
  if b.length < 5 then none
  else if rd b 4 = 0 then some (⟨val (b.take 4), ⟨0, ByteArray.empty, ByteArray.empty, 0, [], [], true⟩⟩, b.drop 5)
  else if (b.drop 5).length < 4 then none
  else match longP 1 ((b.drop 5).drop 4) with
  | none => none
  | some (nm, r1) => match longP 1 r1 with
    | none => none
    | some (tx, r2) => match longP 4 r2 with
      | none => none
      | some (ks, r3) => match longP 4 r3 with
        | none => none
        | some (bs, r4) => some (⟨val (b.take 4), ⟨rd b 4, strOfNums nm, strOfNums tx, val ((b.drop 5).take 4), rowI (val (r2.take 2)).toNat ks, rowI (val (r3.take 2)).toNat bs, false⟩⟩, r4)
theorem one_change (b : List Int) : (oneP b = none → (changeP ⟨b, false⟩).2.sh = true) ∧ ∀ x y, oneP b = some (x, y) → changeP ⟨b, false⟩ = (x, ⟨y, false⟩) := by
  unfold oneP changeP
  by_cases h4 : b.length < 4
  · rw [if_pos (by omega), num_no h4]
    have h0 : (numP 1 ⟨b, true⟩).1 = 0 := by unfold numP takeP; rw [if_pos (.inl rfl)]; rfl
    simp only [h0, if_true]
    exact ⟨fun _ => numP_sh rfl, fun x y h => by simp at h⟩
  rw [num_ok h4]
  simp only
  by_cases h5 : b.length < 5
  · rw [if_pos h5, num_no (by rw [List.length_drop]; omega), if_pos rfl]
    exact ⟨fun _ => rfl, fun x y h => by simp at h⟩
  have e5 : numP 1 ⟨b.drop 4, false⟩ = (rd b 4, ⟨b.drop 5, false⟩) := by
    rw [num_ok (by rw [List.length_drop]; omega), List.drop_drop]
    have : (b.drop 4).take 1 = [rd b 4] := by
      have h : 4 < b.length := by omega
      have hr : rd b 4 = b[4] := by simp [rd, List.getD, h]
      rw [List.drop_eq_getElem_cons h, hr, List.take_succ_cons, List.take_zero]
    rw [this]
    simp [val]
  rw [if_neg h5, e5]
  simp only
  by_cases hk : rd b 4 = 0
  · rw [if_pos hk, if_pos hk]
    refine ⟨fun h => by simp at h, fun x y h => ?_⟩
    simp only [Option.some.injEq, Prod.mk.injEq] at h
    rw [← h.1, ← h.2]
  rw [if_neg hk, if_neg hk]
  by_cases h9 : (b.drop 5).length < 4
  · rw [if_pos h9, num_no h9]
    refine ⟨fun _ => ?_, fun x y h => by simp at h⟩
    exact rowP_sh (rowP_sh (textP_sh (textP_sh rfl)))
  rw [if_neg h9, num_ok h9]
  simp only
  generalize (b.drop 5).drop 4 = r0
  have t1 := long_text r0
  cases e1 : longP 1 r0 with
  | none => exact ⟨fun _ => rowP_sh (rowP_sh (textP_sh (t1.1 e1))), fun x y h => by simp at h⟩
  | some p1 =>
    obtain ⟨nm, r1⟩ := p1
    rw [t1.2 nm r1 e1]
    simp only
    have t2 := long_text r1
    cases e2 : longP 1 r1 with
    | none => exact ⟨fun _ => rowP_sh (rowP_sh (t2.1 e2)), fun x y h => by simp at h⟩
    | some p2 =>
      obtain ⟨tx, r2⟩ := p2
      rw [t2.2 tx r2 e2]
      simp only
      have t3 := long_row r2
      cases e3 : longP 4 r2 with
      | none => exact ⟨fun _ => rowP_sh (t3.1 e3), fun x y h => by simp at h⟩
      | some p3 =>
        obtain ⟨ks, r3⟩ := p3
        rw [(t3.2 ks r3 e3).1]
        simp only
        have t4 := long_row r3
        cases e4 : longP 4 r3 with
        | none => exact ⟨fun _ => t4.1 e4, fun x y h => by simp at h⟩
        | some p4 =>
          obtain ⟨bs, r4⟩ := p4
          rw [(t4.2 bs r4 e4).1]
          refine ⟨fun h => by simp at h, fun x y h => ?_⟩
          simp only [Option.some.injEq, Prod.mk.injEq] at h
          rw [← h.1, ← h.2]
end Go.Proofs.Ytgndmbkkggjklaa.Jo
namespace Go.Proofs.Ytgndmbkkggjklaa.Jo
set_option linter.unusedVariables false
set_option linter.unusedSimpArgs false
open Go.RowKit Go.Proofs.YtgndmbkkggjklaaW.PrintWords Go.Proofs.YtgndmbkkggjklaaW.PrintLast Go.Proofs.YtgndmbkkggjklaaW.PrintMore Go.Proofs.Ytgndmbkkggjklaa.Bs
theorem val_two {l : List Int} (h : Bys l) (hl : l.length ≤ 2) : 0 ≤ val l ∧ val l < 65536 := by
  have := val_le l h 2 hl
  rw [show (256 : Nat) ^ 2 = 65536 by decide] at this
  exact this
/-- What long gives. -/
def Long (w0 : World) (o : Option (List Int × List Int)) (e : Ending) : Prop := match o with
  | none => NoCut e
  | some (x, y) => Cut w0 x y e
set_option maxRecDepth 100000 in
set_option maxHeartbeats 400000 in
theorem long_calls (w0 w : World) (A : Option Addr) (c each : Nat) (b : List Int) (hC : (Kd.int .u8).C w0 A b.length b) (h0 : Below w0.heap.size w0 w) (hc : b.length ≤ c) (hby : Bys b) (he : each ≤ 4) :
    Calls Try.prog 46 #[.slice A b.length c, .int .i64 each] w fun e w' => Long w0 (longP each b) e ∧ Below w.heap.size w w' := by
  unfold longP
  by_cases h2 : b.length < 2
  · rw [if_pos h2]
    have C1 := cut_short w A c 2 b h2
    clear hC hc
    go_enter Try.func46, Try.ntmps46
    go_wp2_with fail
    refine C1.mono ?_
    rintro e w1 ⟨rfl, hb⟩
    have HB := Aside0.mk hb
    clear hb
    go_wp2
    go_ret3
    exact ⟨rfl, HB.out⟩
  rw [if_neg h2]
  have C1 := cut_ok w0 w A c 2 b hC hc (by omega)
  have hx2 : (b.take 2).length = 2 := by rw [List.length_take]; omega
  have hv := val_two (bys_take hby 2) (by omega)
  have HX := Aside0.mk (bys_take hby 2)
  have HH := Aside0.mk h0
  clear hC h2 h0
  generalize b.take 2 = x at *
  generalize b.drop 2 = y at *
  obtain ⟨n, hn⟩ : ∃ n : Nat, val x = n := ⟨(val x).toNat, by omega⟩
  have hw : wrap64 ((each : Int) * (n : Int)) = ((each * n : Nat) : Int) := by
    have h1 : each * n ≤ 4 * 65536 := Nat.mul_le_mul he (by omega)
    rw [Int.natCast_mul]
    have h2 : (each : Int) * (n : Int) ≤ 262144 := by rw [← Int.natCast_mul]; omega
    have h3 : 0 ≤ (each : Int) * (n : Int) := by rw [← Int.natCast_mul]; omega
    unfold wrap64; omega
  rw [hn, Int.toNat_natCast]
  rw [hn] at hv
  generalize each * n = q at *
  generalize hr : (if y.length < q then none else some (y.take q, y.drop q)) = r
  have HRR := Aside0.mk hr
  clear hr
  have KS := Aside0.mk (fun (W : World) (A : Option Addr) (c : Nat) (h : y.length < q) => cut_short W A c q y h)
  have KO := Aside0.mk (fun (W : World) (A : Option Addr) (c : Nat) (h1 : (Kd.int .u8).C w0 A y.length y) (h2 : y.length ≤ c) (h : ¬ y.length < q) => cut_ok w0 W A c q y h1 h2 (by omega))
  generalize y.take q = p1 at *
  generalize y.drop q = p2 at *
  go_enter Try.func46, Try.ntmps46
  go_wp2_with fail
  refine C1.mono ?_
  rintro e w1 ⟨⟨A1, c1, A2, c2, rfl, l1, l2, g1, g2⟩, hb⟩
  have HB1 := Aside0.mk hb
  have CV := value_calls w1 A1 c1 x (Kd.C_below (Kd.C_below g1 HH.out) hb) l1 HX.out (by omega)
  rw [hn] at CV
  have G2 := Aside0.mk g2
  clear hb g1 g2 C1 hv hx2
  go_wp2_with fail
  refine CV.mono ?_
  rintro e w2 ⟨rfl, hb⟩
  have HB2 := Aside0.mk (below_step HB1.out hb)
  clear hb CV
  by_cases h3 : y.length < q
  · have HE := Aside0.mk (show r = none by rw [← HRR.out, if_pos h3])
    have C2 := KS.out w2 A2 c2 h3
    clear KO KS
    go_wp2_with fail
    rw [hw]
    refine C2.mono ?_
    rintro e w3 ⟨rfl, hb⟩
    have HB3 := Aside0.mk (below_step HB2.out hb)
    clear hb
    go_wp2
    go_ret3
    exact ⟨by rw [HE.out]; rfl, HB3.out⟩
  · have HE := Aside0.mk (show r = some (p1, p2) by rw [← HRR.out, if_neg h3])
    have C2 := KO.out w2 A2 c2 G2.out l2 h3
    clear KO KS
    go_wp2_with fail
    rw [hw]
    refine C2.mono ?_
    rintro e w3 ⟨⟨A3, c3, A4, c4, rfl, l3, l4, g3, g4⟩, hb⟩
    have HB3 := Aside0.mk (below_step HB2.out hb)
    have G3 := Aside0.mk g3
    have G4 := Aside0.mk g4
    clear hb g3 g4
    go_wp2
    go_ret3
    exact ⟨by rw [HE.out]; exact ⟨A3, c3, A4, c4, rfl, l3, l4, G3.out, G4.out⟩, HB3.out⟩
end Go.Proofs.Ytgndmbkkggjklaa.Jo
