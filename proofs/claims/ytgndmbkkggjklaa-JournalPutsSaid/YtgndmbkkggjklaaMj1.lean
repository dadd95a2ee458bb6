import Derived.Test.YtgndmbkkggjklaaBt
import Derived.Test.YtgndmbkkggjklaaJoPa
import Derived.Test.YtgndmbkkggjklaaJoPb
namespace Go.Proofs.Ytgndmbkkggjklaa.Jo
set_option linter.unusedVariables false
set_option linter.unusedSimpArgs false
open Go.RowKit Go.Proofs.YtgndmbkkggjklaaW.PrintWords Go.Proofs.YtgndmbkkggjklaaW.PrintMore Go.Proofs.Ytgndmbkkggjklaa.Bs

/-- A number's bytes, the greatest first. -/
def be : Nat → Int → List Int
  | 0, _ => []
  | s + 1, n => n / 256 ^ s % 256 :: be s n
theorem be_length (s : Nat) (n : Int) : (be s n).length = s := by
  induction s with
  | zero => rfl
  | succ s ih => simp [be, ih]
theorem be_bytes (s : Nat) (n : Int) : ∀ c ∈ be s n, 0 ≤ c ∧ c ≤ 255 := by
  induction s with
  | zero => simp [be]
  | succ s ih =>
    intro c hc
    simp only [be, List.mem_cons] at hc
    rcases hc with rfl | hc
    · omega
    · exact ih c hc
theorem z5ok : (Value.int .u8 0).cells.size = (Kd.int .u8).sz ∧ 0 < (Kd.int .u8).sz ∧ 0 < 1 := ⟨rfl, by decide, by decide⟩
/-- A row of bytes that has grown: where it lies, what else has changed. -/
structure Grew (B : Nat) (w : World) (v v' : Value) (xs : List Int) (w' : World) : Prop where
  row : (Kd.int .u8).R 5 w' B (fun _ => True) v' xs
  at_ : ∀ k, some k = v'.ownBlock → some k = v.ownBlock ∨ w.heap.size ≤ k
  ch : Ch (fun k => some k = v.ownBlock) w w'
theorem Grew.refl {B : Nat} {w : World} {v : Value} {xs : List Int} (h : (Kd.int .u8).R 5 w B (fun _ => True) v xs) : Grew B w v v xs w := ⟨h, fun _ hk => .inl hk, Ch.refl _ _⟩
theorem Grew.trans {B : Nat} {w w1 w2 : World} {v v1 v2 : Value} {xs ys : List Int} (h : Grew B w v v1 xs w1) (k : Grew B w1 v1 v2 ys w2) : Grew B w v v2 ys w2 := by
  have hz := h.ch.size
  refine ⟨k.row, fun i hi => ?_, h.ch.trans (k.ch.mono (fun i hi _ => h.at_ i hi))⟩
  rcases k.at_ i hi with e | e
  · exact h.at_ i e
  · exact .inr (Nat.le_trans hz e)
theorem Grew.before {B : Nat} {w W w' : World} {v v' : Value} {xs : List Int} (hW : Below w.heap.size w W) (k : Grew B W v v' xs w') : Grew B w v v' xs w' :=
  ⟨k.row, fun i hi => (k.at_ i hi).elim .inl (fun h => .inr (Nat.le_trans hW.size h)), (Ch.below (Ch.refl _ w) hW).trans (k.ch.mono (fun i hi _ => .inl hi))⟩
theorem Grew.after {B : Nat} {w w1 w2 : World} {v v' : Value} {xs : List Int} (h : Grew B w v v' xs w1) (hW : Below w1.heap.size w1 w2) : Grew B w v v' xs w2 :=
  ⟨Kd.R_below h.row hW, h.at_, h.ch.below hW⟩
theorem Grew.xs {B : Nat} {w w' : World} {v v' : Value} {xs ys : List Int} (h : Grew B w v v' xs w') (e : xs = ys) : Grew B w v v' ys w' := e ▸ h
theorem R_own8 {w : World} {B : Nat} {ok : Nat → Prop} {v : Value} {xs : List Int} (h : (Kd.int .u8).R 5 w B ok v xs) : (Kd.int .u8).R 5 w B (fun k => some k = v.ownBlock) v xs :=
  Kd.R_of_own (Kd.own_of_R h) (fun k hk => hk.symm)
/-- A block that stood stays, but the row's own. -/
theorem Grew.heap {B : Nat} {w w' : World} {v v' : Value} {xs : List Int} (h : Grew B w v v' xs w') {k : Nat} {o : Obj} (ho : w.heap[k]? = some o) (hn : some k ≠ v.ownBlock) : w'.heap[k]? = some o := h.ch.heap ho hn
theorem base_world (w : World) (B : Nat) (hB : B ≤ w.heap.size) : ∃ w0 : World, w0.heap.size = B ∧ Below w0.heap.size w0 w := by
  refine ⟨{ w with heap := w.heap.extract 0 B }, by simp; omega, rfl, rfl, rfl, by simp; omega, ?_⟩
  intro k hk
  have hk' : k < B := by simpa [Nat.min_eq_left hB] using hk
  show w.heap[k]? = (w.heap.extract 0 B)[k]?
  rw [Array.getElem?_extract]
  simp [hk', Nat.min_eq_left hB]
theorem wrap_pred (j : Nat) (h : j ≤ 9223372036854775807) : wrap64 ((j : Int) - 1) = (j : Int) - 1 := by unfold wrap64; omega
theorem wrap_succ (j : Nat) (h : j < 9223372036854775807) : wrap64 ((j : Int) + 1) = ((j + 1 : Nat) : Int) := by unfold wrap64; omega
theorem meas_up (j n : Nat) (h : j < n) (hn : n ≤ 9223372036854775807) : n - (intOf (.int .i64 (wrap64 ((j : Int) + 1)))).toNat < n - (intOf (.int .i64 (j : Int))).toNat := by
  rw [wrap_succ j (by omega)]; simp only [intOf, Int.toNat_natCast]; omega
theorem meas_in (j n : Nat) (h : j < n) : n - (intOf (.int .i64 ((j : Int) + 1))).toNat < n - (intOf (.int .i64 (j : Int))).toNat := by
  rw [show ((j : Int) + 1) = ((j + 1 : Nat) : Int) by omega]; simp only [intOf, Int.toNat_natCast]; omega
theorem pow_bytes (n : Int) (j : Nat) (hj : 1 ≤ j) : n / 2 ^ (8 * ((j : Int) - 1)).toNat = n / 256 ^ (j - 1) := by
  rw [show (8 * ((j : Int) - 1)).toNat = 8 * (j - 1) by omega, Int.pow_mul]; rfl
theorem laid_in (size : Nat) (hs : size ≤ 8) (n : Int) (h0 : 0 ≤ n) (l : List Int) (L i : Int) : ∀ (j k : Nat) (xs : List Int), j ≤ size → xs.length + j ≤ 140737488355328 → journal_laid.l1 (j + 1 + k) xs size n ((j : Int) - 1) l L i = journal_laid.l0 k (xs ++ be j n) size l L (wrap64 (i + 1)) := by
  intro j
  induction j with
  | zero => intro k xs _ _; rw [show 0 + 1 + k = k + 1 by omega, journal_laid.l1, if_neg (by omega)]; simp [be]
  | succ j ih =>
    intro k xs hj hl
    have e : wrap64 (8 * (((j + 1 : Nat) : Int) - 1)) = 8 * (((j + 1 : Nat) : Int) - 1) := by unfold wrap64; omega
    have e2 : wrap64 (((j + 1 : Nat) : Int) - 1 - 1) = (j : Int) - 1 := by unfold wrap64; omega
    have e3 : shr .u64 n (8 * (((j + 1 : Nat) : Int) - 1)) % 256 = n / 256 ^ j % 256 := by
      have := pow_bytes n (j + 1) (by omega)
      simp only [Nat.add_sub_cancel] at this
      rw [← this, shr, Nat.min_eq_left (by show _ ≤ 64; omega)]
    rw [show j + 1 + 1 + k = (j + 1 + k) + 1 by omega, journal_laid.l1, if_pos (by omega), e, if_pos (by omega), if_pos (by omega), e2, e3, ih k _ (by omega) (by simp; omega), List.append_assoc]
    rfl
theorem laid_out (size : Nat) (hs : size ≤ 8) (l : List Int) (h0 : ∀ n ∈ l, 0 ≤ n) (hl : l.length ≤ 1000000) : ∀ (d i : Nat) (xs : List Int), i + d = l.length → xs.length + d * size ≤ 140737488355328 → journal_laid.l0 (d * (size + 2) + 1) xs size l l.length i = some (xs ++ (l.drop i).flatMap (be size)) := by
  intro d
  induction d with
  | zero => intro i xs hi _; rw [show i = l.length by omega, show 0 * (size + 2) + 1 = 0 + 1 by omega, journal_laid.l0, if_neg (by omega)]; simp
  | succ d ih =>
    intro i xs hi hx
    have hil : i < l.length := by omega
    have e1 : rd l (i : Int) = l[i] := by simp [rd, List.getD, hil]
    have e2 : l.drop i = l[i] :: l.drop (i + 1) := by rw [List.drop_eq_getElem_cons hil]
    have e3 : (d + 1) * (size + 2) = size + 1 + (d * (size + 2) + 1) := by rw [Nat.add_mul]; omega
    have e4 : (d + 1) * size = d * size + size := by rw [Nat.add_mul]; omega
    rw [journal_laid.l0, if_pos (by omega), if_pos (by omega), if_pos (by omega), e1, wrap_pred size (by omega), e3, laid_in size hs _ (h0 _ (List.getElem_mem hil)) l _ _ size _ _ (Nat.le_refl _) (by omega), wrap_succ i (by omega), ih (i + 1) _ (by omega) (by rw [List.length_append, be_length]; omega), e2, List.flatMap_cons, List.append_assoc]
theorem laid_calls (B : Nat) (w : World) (v : Value) (xs : List Int) (size : Nat) (A : Option Addr) (c : Nat) (l : List Int) (okF : Nat → Prop) (ho : (Kd.int .u8).R 5 w B (fun _ => True) v xs) (hB : B ≤ w.heap.size)
    (hF : Kd.F (Kd.int .u64) w okF A l.length l) (hd : ∀ k, okF k → some k ≠ v.ownBlock) (hc : l.length ≤ c) (h0 : ∀ n ∈ l, 0 ≤ n) (hs : size ≤ 8) (hl : l.length ≤ 1000000) (hx : xs.length + l.length * size ≤ 140737488355328) :
    Calls Try.prog 15 #[v, .int .i64 size, .slice A l.length c] w fun e w' => ∃ v', e = .returned v' ∧ Grew B w v v' (xs ++ l.flatMap (be size)) w' := by
  obtain ⟨w0, rfl, hw0⟩ := base_world w B hB
  refine (journal_laid.calls _ (fun k => some k = v.ownBlock) v xs size A c l _ w0 w hw0 (R_own8 ho) (fun W hW => Kd.F_now (Kd.F_kept hF hW (fun k hk => hd k hk))) hc (by unfold journal_laid.f; exact laid_out size hs l h0 hl l.length 0 xs (by omega) hx)).mono ?_
  rintro e w' ⟨v', rfl, hR, hb, hk⟩
  refine ⟨v', rfl, Kd.R_mono hR (fun _ _ => trivial), fun k hk => hR.1 k hk.symm, ?_⟩
  exact ⟨hb.os.trans hw0.os.symm, hb.tape.trans hw0.tape.symm, hb.output.trans hw0.output.symm, hk.1, fun k hk1 hk2 => hk.2 k hk1 hk2⟩
end Go.Proofs.Ytgndmbkkggjklaa.Jo
namespace Go.Proofs.Ytgndmbkkggjklaa.Jo
set_option linter.unusedVariables false
set_option linter.unusedSimpArgs false
open Go.RowKit Go.Proofs.YtgndmbkkggjklaaW.PrintWords Go.Proofs.YtgndmbkkggjklaaW.PrintMore Go.Proofs.Ytgndmbkkggjklaa.Bs

/-- A block of cells as a row of elements. -/
theorem F_block {α : Type} (d : Kd α) {w : World} {g t : Nat} {cs : Array Value} {xs : List α} {okx : Nat → Prop} (hg : w.heap[g]? = some (.cells cs t (0, 0))) (hr : Reps (fun x c => Kd.FK d w okx x c) d.sz xs cs.toList) (hm : xs.length ≤ 9223372036854775807) :
    Kd.F d w (fun k => okx k ∨ k = g) (some ⟨g, 0, none⟩) xs.length xs := by
  intro W' hW
  have hg' : W'.heap[g]? = some (.cells cs t (0, 0)) := (hW g (.inr rfl) (blk_lt hg)).trans hg
  refine ⟨rfl, hm, fun _ => ⟨⟨g, 0, none⟩, rfl, fun j p hj => ⟨(cs.toList.drop (j * d.sz)).take d.sz, d.K_len (Kd.FK_now (hr.2 j p hj)), hr.2 j p hj W' (fun k hk hlt => hW k (.inl hk) hlt), fun i u hu => ?_⟩⟩⟩
  rw [add_plain, blk_cell hg']
  rw [List.getElem?_take] at hu
  split at hu
  · rw [List.getElem?_drop] at hu
    simpa using hu
  · cases hu
theorem FK_int {w : World} {ok : Nat → Prop} (k : IntKind) (x : Int) : Kd.FK (Kd.int k) w ok x [.int k x] := fun _ _ => rfl
theorem FK_string {w : World} {ok : Nat → Prop} (x : ByteArray) : Kd.FK Kd.string w ok x [.string x] := fun _ _ => rfl
theorem reps1 {α : Type} {R : α → List Value → Prop} {x : α} {v : Value} (h : R x [v]) : Reps R 1 [x] [v] := by
  have := (Reps.none R 1).snoc h rfl
  simpa using this
theorem reps2 {α : Type} {R : α → List Value → Prop} {x y : α} {u v : Value} (h : R x [u]) (k : R y [v]) : Reps R 1 [x, y] [u, v] := by
  have := (reps1 h).snoc k rfl
  simpa using this
theorem own_eq {v v' : Value} (h : ∀ k, v'.ownBlock = some k → some k = v.ownBlock) (k : Nat) (hk : some k = v'.ownBlock) : some k = v.ownBlock := h k hk.symm
section
variable {P : Program} {ops : Array Oper} {rest : List Oper} {o : Oper} {a : Act} {Q : Exit → Act → World → Prop}
/-- append(v, ys...) on a row of bytes of the call's own. -/
theorem gcat {W : World} (base : Nat) (hgd : o.guard = none) (s x : Operand) (t : TypeId)
    (ho : o.op = .call { callee := .builtin .append, args := #[s, x], argTypes := #[t, t] })
    (ht : P.underlying t = some (.slice 5)) (hinfo : (P.info? 5).map (fun i => (i.zero, i.size, i.bytes)) = some (some (.int .u8 0), 1, 1))
    (v : Value) (xs ys : List Int) (A' : Option Addr) (c' : Nat) (hs : a.eval s = v) (hx : a.eval x = .slice A' ys.length c')
    (HO : (Kd.int .u8).R 5 W base (fun _ => True) v xs) (HC : (Kd.int .u8).C W A' ys.length ys) (hbase : base ≤ W.heap.size) (hl : xs.length + ys.length ≤ 140737488355328)
    (h : ∀ A c w1 zs, Aside0 (zs = xs ++ ys) → Grew base W v (.slice A zs.length c) zs w1 → wpList P ops Q rest (a.put o.dst (.slice A zs.length c)) w1) :
    wpList P ops Q (o :: rest) a W := by
  refine Kd.R_append_rows (Kd.int .u8) (w0 := W) base hgd s x t 5 (.int .u8 0) 1 ho ht hinfo rfl (by decide) (by omega) v xs ys A' ys.length c' (fun _ => True) (fun _ => False) hs hx HO HC (fun _ _ h => h) (fun _ h => h.elim) (fun _ _ => trivial) (Below.refl _ _) hbase (by omega) ?_
  intro v1 w1 hr hb hg hat
  obtain ⟨A, c, rfl⟩ := Kd.R_slice hr
  refine h A c w1 _ ⟨rfl⟩ ⟨hr, fun k hk => ?_, ⟨hg.os, hg.tape, hg.output, hg.size, fun k hk hn => hg.block k hk (fun e => hn e)⟩⟩
  rcases hat with hat | ⟨b, hb1, hb2⟩
  · exact .inl (hk.trans hat)
  · rw [hb1] at hk; injection hk with hk; exact .inr (by omega)
/-- append(v, s...) with a string. -/
theorem gstr {W : World} (base : Nat) (hgd : o.guard = none) (s x : Operand) (t u : TypeId)
    (ho : o.op = .call { callee := .builtin .append, args := #[s, x], argTypes := #[t, u] })
    (ht : P.underlying t = some (.slice 5)) (hu : P.underlying u = some .string) (hinfo : (P.info? 5).map (fun i => (i.zero, i.size, i.bytes)) = some (some (.int .u8 0), 1, 1))
    (v : Value) (xs : List Int) (y : ByteArray) (hs : a.eval s = v) (hx : a.eval x = .string y) (HO : (Kd.int .u8).R 5 W base (fun _ => True) v xs) (hbase : base ≤ W.heap.size) (hl : xs.length + y.size ≤ 140737488355328)
    (h : ∀ A c w1 zs, Aside0 (zs = xs ++ bytesOf y) → Grew base W v (.slice A zs.length c) zs w1 → wpList P ops Q rest (a.put o.dst (.slice A zs.length c)) w1) :
    wpList P ops Q (o :: rest) a W := by
  refine wpList_plain hgd fun K hK => ?_
  have hw : Region.wanted o (yielded ops a.tmps) = true := by simp [Region.wanted, hgd]
  have e : xs.length + y.size = (xs ++ bytesOf y).length := by rw [List.length_append, bytesOf_length]
  have := str_step (ops := ops) (Q := Q) (Kc := K) base hw s x t u 5 ho ht hu hinfo v xs y (fun _ => True) hs hx HO hbase hl (fun A c W1 h1 h2 h3 => hK _ _ (by rw [e] at h1 h3 ⊢; exact h A c W1 _ ⟨rfl⟩ ⟨h1, fun k hk => h3 k hk.symm, h2⟩))
  rwa [if_pos hw] at this
/-- append(v, x), one byte. -/
theorem gbyte {W : World} (base : Nat) (hgd : o.guard = none) (s x : Operand) (t : TypeId)
    (ho : o.op = .call { callee := .builtin .append, args := #[s, x], argTypes := #[t, t] })
    (ht : P.underlying t = some (.slice 5)) (hinfo : (P.info? 5).map (fun i => (i.zero, i.size, i.bytes)) = some (some (.int .u8 0), 1, 1))
    (v : Value) (xs : List Int) (p : Int) (hs : a.eval s = v) (hx : a.eval x = .slice (some ⟨W.heap.size, 0, none⟩) 1 1)
    (HO : (Kd.int .u8).R 5 W base (fun _ => True) v xs) (hbase : base ≤ W.heap.size) (hl : xs.length + 1 ≤ 140737488355328)
    (h : ∀ A c w1 zs, Aside0 (zs = xs ++ [p]) → Grew base W v (.slice A zs.length c) zs w1 → wpList P ops Q rest (a.put o.dst (.slice A zs.length c)) w1) :
    wpList P ops Q (o :: rest) a (W.alloc (.cells [Value.int .u8 p].toArray 5)) := by
  have e : xs.length + 1 = (xs ++ [p]).length := by simp
  refine app_list (Kd.int .u8) (W := W) base hgd s x t 5 (.int .u8 0) 1 ho ht hinfo ⟨rfl, by decide, by decide⟩ v xs p [.int .u8 p] (fun _ => True) (fun _ => False) hs hx rfl (fun _ h => h.elim) HO hbase (by omega) ?_
  intro A c w1 h1 h2 h3
  rw [e] at h1 h3 ⊢
  exact h A c w1 _ ⟨rfl⟩ ⟨Kd.R_mono h1 (fun _ _ => trivial), fun k hk => h3 k hk.symm, h2⟩
end
def textB (s : ByteArray) : List Int := be 2 s.size ++ bytesOf s
def rowB (l : List Int) : List Int := be 2 l.length ++ l.flatMap (be 4)
theorem textB_len (s : ByteArray) : (textB s).length = s.size + 2 := by simp [textB, be_length, bytesOf_length]; omega
theorem flat_len (s : Nat) (l : List Int) : (l.flatMap (be s)).length = l.length * s := by
  induction l with
  | nil => simp
  | cons a l ih => rw [List.flatMap_cons, List.length_append, be_length, ih, List.length_cons, Nat.add_mul]; omega
theorem rowB_len (l : List Int) : (rowB l).length = l.length * 4 + 2 := by rw [rowB, List.length_append, be_length, flat_len]; omega
end Go.Proofs.Ytgndmbkkggjklaa.Jo
namespace Go.Proofs.Ytgndmbkkggjklaa.Jo
set_option linter.unusedVariables false
set_option linter.unusedSimpArgs false
open Go.RowKit Go.Proofs.YtgndmbkkggjklaaW.PrintWords Go.Proofs.YtgndmbkkggjklaaW.PrintMore Go.Proofs.Ytgndmbkkggjklaa.Bs

theorem flat_take {α β : Type} (f : α → List β) (l : List α) (i : Nat) (h : i < l.length) : (l.take (i + 1)).flatMap f = (l.take i).flatMap f ++ f l[i] := by
  rw [List.take_succ_eq_append_getElem h, List.flatMap_append]; simp
theorem flat_le {α : Type} (f : α → List Int) (n : Nat) : ∀ (l : List α), (∀ x ∈ l, (f x).length ≤ n) → (l.flatMap f).length ≤ l.length * n
  | [], _ => by simp
  | a :: l, h => by
    rw [List.flatMap_cons, List.length_append, List.length_cons, Nat.add_mul]
    have := flat_le f n l (fun x hx => h x (List.mem_cons_of_mem _ hx))
    have := h a (List.mem_cons_self)
    omega
theorem laid_lit (B : Nat) (w : World) (v : Value) (xs : List Int) (size : Nat) (ns : List Int) (cs : Array Value) (hcs : cs.toList = ns.map (Value.int .u64)) (ho : (Kd.int .u8).R 5 w B (fun _ => True) v xs) (hB : B ≤ w.heap.size)
    (h0 : ∀ n ∈ ns, 0 ≤ n) (hs : size ≤ 8) (hl : ns.length ≤ 1000000) (hx : xs.length ≤ 100100000000) :
    Calls Try.prog 15 #[v, .int .i64 size, .slice (some ⟨w.heap.size, 0, none⟩) ns.length ns.length] (w.alloc (.cells cs 22)) fun e w' => ∃ v', e = .returned v' ∧ Grew B w v v' (xs ++ ns.flatMap (be size)) w' := by
  have hW := below_alloc (Below.refl w.heap.size w) (.cells cs 22)
  have hg := heap_alloc_new w (.cells cs 22)
  have hF : Kd.F (Kd.int .u64) (w.alloc (.cells cs 22)) (fun k => False ∨ k = w.heap.size) (some ⟨w.heap.size, 0, none⟩) ns.length ns := by
    refine F_block (Kd.int .u64) (t := 22) (cs := cs) hg ⟨by rw [hcs]; simp [Kd.int, Kd.scalar], fun j p hj => ?_⟩ (by omega)
    intro W' _
    show _ = [Value.int .u64 p]
    rw [hcs]
    have hj1 : j < ns.length := (List.getElem?_eq_some_iff.1 hj).1
    have hj2 : ns[j] = p := (List.getElem?_eq_some_iff.1 hj).2
    show List.take 1 (List.drop (j * 1) _) = _
    rw [Nat.mul_one, List.drop_eq_getElem_cons (by simpa using hj1)]
    simp [hj2]
  have hm : ns.length * size ≤ 1000000 * 8 := Nat.mul_le_mul hl hs
  refine (laid_calls B _ v xs size _ ns.length ns _ (Kd.R_below ho hW) (Nat.le_trans hB hW.size) hF ?_ (Nat.le_refl _) h0 hs hl (by omega)).mono ?_
  · rintro k (h | rfl) e
    · exact h
    · have := own_lt (Kd.own_of_R ho) _ e.symm; omega
  · rintro e w' ⟨v', rfl, hG⟩
    exact ⟨v', rfl, hG.before hW⟩
theorem laid1 (B : Nat) (w : World) (v : Value) (xs : List Int) (size : Nat) (n : Int) (ho : (Kd.int .u8).R 5 w B (fun _ => True) v xs) (hB : B ≤ w.heap.size) (h0 : 0 ≤ n) (hs : size ≤ 8) (hx : xs.length ≤ 100100000000) :
    Calls Try.prog 15 #[v, .int .i64 size, .slice (some ⟨w.heap.size, 0, none⟩) 1 1] (w.alloc (.cells #[.int .u64 n] 22)) fun e w' => ∃ v', e = .returned v' ∧ Grew B w v v' (xs ++ be size n) w' := by
  have := laid_lit B w v xs size [n] #[.int .u64 n] rfl ho hB (by simpa using h0) hs (by simp) hx
  simpa using this
set_option maxRecDepth 100000 in
set_option maxHeartbeats 400000 in
theorem texts_calls (B : Nat) (w : World) (v : Value) (xs : List Int) (A : Option Addr) (c : Nat) (l : List ByteArray) (okF : Nat → Prop) (ho : (Kd.int .u8).R 5 w B (fun _ => True) v xs) (hB : B ≤ w.heap.size)
    (hF : Kd.F Kd.string w okF A l.length l) (hd : ∀ k, okF k → some k ≠ v.ownBlock) (hc : l.length ≤ c) (hl : l.length ≤ 10) (hs : ∀ s ∈ l, s.size ≤ 70000) (hx : xs.length ≤ 100000000000) :
    Calls Try.prog 16 #[v, .slice A l.length c] w fun e w' => ∃ v', e = .returned v' ∧ Grew B w v v' (xs ++ l.flatMap textB) w' := by
  have H0 := Aside0.mk (Grew.refl ho)
  have HF := Aside0.mk hF
  have HD := Aside0.mk hd
  have HS := Aside0.mk hs
  have HBW := Aside0.mk hB
  clear ho hF hd hs hB
  go_enter Try.func16, Try.ntmps16
  go_wp2
  go_loopw [0, 9] (fun v0 v9 wr => ∃ i : Nat, v9 = .int .i64 i ∧ i ≤ l.length ∧ Aside0 (Grew B w v v0 (xs ++ (l.take i).flatMap textB) wr)) (fun _ v9 _ => (l.length - (intOf v9).toNat))
  case atStart => exact ⟨0, rfl, Nat.zero_le _, ⟨by simpa using H0.out⟩⟩
  case round =>
    clear H0
    obtain ⟨i, rfl, hi, HG⟩ := hrel
    by_cases hil : i < l.length
    · have hlen : (xs ++ (l.take i).flatMap textB).length ≤ 100001000000 := by
        have h1 := flat_le textB 70002 (l.take i) (fun s hs => by rw [textB_len]; have := HS.out s (List.mem_of_mem_take hs); omega)
        rw [List.length_take] at h1
        rw [List.length_append]
        have : min i l.length ≤ 10 := by omega
        have : min i l.length * 70002 ≤ 10 * 70002 := Nat.mul_le_mul_right _ this
        omega
      have hsz := HS.out _ (List.getElem_mem hil)
      have hnext := flat_take textB l i hil
      have hFr := Kd.F_step HF.out (fun k hk hlt => HG.out.ch.block k hlt (fun e => HD.out k hk e))
      obtain ⟨ad, e, hx0⟩ := Kd.at_string (Kd.F_now hFr) i (by omega) (by omega)
      cases e
      have hrd : rdOf ByteArray.empty l (i : Int) = l[i] := by simp [rdOf, List.getD, hil]
      rw [hrd, Int.toNat_natCast] at hx0
      generalize hy : l[i] = y at *
      generalize hys : xs ++ (l.take i).flatMap textB = ys at *
      have hu : IntKind.u64.wrap (y.size : Int) = y.size := by rw [IntKind.wrap_u64]; omega
      have HLEN := Aside0.mk hlen
      have HN := Aside0.mk hnext
      have HSZ := Aside0.mk hsz
      have HYS := Aside0.mk hys
      clear hlen hnext hsz hys hFr hrd hy
      have hi0 : (0 : Int) ≤ (i : Int) := by omega
      have hi1 : (i : Int) < (l.length : Int) := by omega
      go_wp2_with fail
      refine (laid1 B wr u0 ys 2 (y.size : Int) HG.out.row (Nat.le_trans HBW.out HG.out.ch.size) (by omega) (by decide) (by have := HLEN.out; omega)).mono ?_
      rintro e w1 ⟨v1, rfl, hG1⟩
      have hG2 := HG.out.trans hG1
      have hl2 : (ys ++ be 2 (y.size : Int)).length + y.size ≤ 140737488355328 := by rw [List.length_append, be_length]; have := HLEN.out; have := HSZ.out; omega
      obtain ⟨A1, c1, rfl⟩ := Kd.R_slice hG2.row
      generalize hzs : ys ++ be 2 (y.size : Int) = zs at *
      have HG2 := Aside0.mk hG2
      have HL2 := Aside0.mk hl2
      have HZS := Aside0.mk hzs
      clear hG1 hG2 hl2 hzs
      go_wp2_with (first | ((with_reducible refine gate_builtin (b := .append) (xs := #[.tmp 18, .tmp 19]) rfl ?_); at_builtin; go_loud (refine gstr B rfl (.tmp 18) (.tmp 19) 28 9 rfl Try.underlying28 Try.underlying9 info5 _ zs y rfl rfl HG2.out.row (Nat.le_trans HBW.out HG2.out.ch.size) HL2.out ?_); intro A3 c3 w3 z3 N3 hG3; have HG3 := Aside0.mk (HG2.out.trans hG3); clear hG3))
      go_roundw
      case rel => exact ⟨i + 1, by simp, by omega, ⟨HG3.out.xs (by rw [HN.out, N3.out, ← HZS.out, ← HYS.out]; simp [textB])⟩⟩
      case measure => simp [intOf]; omega
    · have : i = l.length := by omega
      subst this
      have HG2 := Aside0.mk (show Grew B w v u0 (xs ++ l.flatMap textB) wr by simpa using HG.out)
      go_wp2
      go_ret
      exact ⟨_, rfl, HG2.out⟩
end Go.Proofs.Ytgndmbkkggjklaa.Jo
namespace Go.Proofs.Ytgndmbkkggjklaa.Jo
set_option linter.unusedVariables false
set_option linter.unusedSimpArgs false
open Go.RowKit Go.Proofs.YtgndmbkkggjklaaW.PrintWords Go.Proofs.YtgndmbkkggjklaaW.PrintMore Go.Proofs.Ytgndmbkkggjklaa.Bs

/-- A row of rows, at a place. -/
theorem F_rowAt {W : World} {ok : Nat → Prop} {A : Option Addr} {l : List (List Int)} (h : Kd.F (Kd.slice 3 (Kd.int .i64)) W ok A l.length l) (i : Nat) (hi : i < l.length) :
    ∃ ad A0 c0, A = some ad ∧ W.cell? (ad.add i) = some (.slice A0 l[i].length c0) ∧ l[i].length ≤ c0 ∧ Kd.F (Kd.int .i64) W ok A0 l[i].length l[i] := by
  obtain ⟨ad, c, e, hl, hK, hc⟩ := Kd.F_get h ([] : List Int) (i : Int) (by omega) (by omega)
  have hrd : l.getD (i : Int).toNat [] = l[i] := by simp [List.getD, hi]
  rw [hrd] at hK
  obtain ⟨A0, c0, rfl, h1, h2⟩ := Kd.FK_slice_open hK
  have := hc.1 0 _ rfl
  simp only [Int.toNat_natCast, Nat.add_zero, Kd.slice, Nat.mul_one] at this
  exact ⟨ad, A0, c0, e, this, h1, h2⟩
set_option maxRecDepth 100000 in
set_option maxHeartbeats 400000 in
theorem rows_calls (B : Nat) (w : World) (v : Value) (xs : List Int) (A : Option Addr) (c : Nat) (l : List (List Int)) (okF : Nat → Prop) (ho : (Kd.int .u8).R 5 w B (fun _ => True) v xs) (hB : B ≤ w.heap.size)
    (hF : Kd.F (Kd.slice 3 (Kd.int .i64)) w okF A l.length l) (hd : ∀ k, okF k → some k ≠ v.ownBlock) (hc : l.length ≤ c) (hl : l.length ≤ 10) (hs : ∀ s ∈ l, s.length ≤ 10000 ∧ ∀ n ∈ s, 0 ≤ n ∧ n ≤ 9223372036854775807) (hx : xs.length ≤ 100000000000) :
    Calls Try.prog 17 #[v, .slice A l.length c] w fun e w' => ∃ v', e = .returned v' ∧ Grew B w v v' (xs ++ l.flatMap rowB) w' := by
  have H0 := Aside0.mk (Grew.refl ho)
  have HF := Aside0.mk (Kd.F_bound hF)
  have HD := Aside0.mk hd
  have HS := Aside0.mk hs
  have HBW := Aside0.mk hB
  clear ho hF hd hs hB
  go_enter Try.func17, Try.ntmps17
  go_wp2
  go_loopw [0, 11] (fun v0 v11 wr => ∃ i : Nat, v11 = .int .i64 i ∧ i ≤ l.length ∧ Aside0 (Grew B w v v0 (xs ++ (l.take i).flatMap rowB) wr)) (fun _ v11 _ => (l.length - (intOf v11).toNat))
  case atStart => exact ⟨0, rfl, Nat.zero_le _, ⟨by simpa using H0.out⟩⟩
  case round =>
    clear H0
    obtain ⟨i, rfl, hi, HG⟩ := hrel
    by_cases hil : i < l.length
    · have hlen : (xs ++ (l.take i).flatMap rowB).length ≤ 100000500000 := by
        have h1 := flat_le rowB 40002 (l.take i) (fun s hs => by rw [rowB_len]; have := (HS.out s (List.mem_of_mem_take hs)).1; omega)
        rw [List.length_take] at h1
        rw [List.length_append]
        have : min i l.length ≤ 10 := by omega
        have : min i l.length * 40002 ≤ 10 * 40002 := Nat.mul_le_mul_right _ this
        omega
      have hsz := HS.out _ (List.getElem_mem hil)
      have hnext := flat_take rowB l i hil
      have hFr := Kd.F_step HF.out (fun k hk hlt => HG.out.ch.block k hlt (fun e => HD.out k hk.1 e))
      obtain ⟨ad, A0, c0, e, hx0, hc0, hF0⟩ := F_rowAt hFr i hil
      cases e
      generalize hy : l[i] = y at *
      generalize hys : xs ++ (l.take i).flatMap rowB = ys at *
      have hu : IntKind.u64.wrap (y.length : Int) = y.length := by rw [IntKind.wrap_u64]; omega
      have HLEN := Aside0.mk hlen
      have HN := Aside0.mk hnext
      have HSZ := Aside0.mk hsz
      have HYS := Aside0.mk hys
      have HF0 := Aside0.mk hF0
      have HNE := Aside0.mk (show ∀ k, (okF k ∧ k < w.heap.size) → some k ≠ u0.ownBlock from fun k hk e => (HG.out.at_ k e).elim (fun e1 => HD.out k hk.1 e1) (fun e1 => by have := hk.2; omega))
      have HC0 := Aside0.mk hc0
      have HR0 := Aside0.mk (Grew.refl HG.out.row)
      clear hlen hnext hsz hys hFr hy hF0 hc0
      have hi0 : (0 : Int) ≤ (i : Int) := by omega
      have hi1 : (i : Int) < (l.length : Int) := by omega
      go_wp2_with fail
      refine (laid1 B wr u0 ys 2 (y.length : Int) HG.out.row (Nat.le_trans HBW.out HG.out.ch.size) (by omega) (by decide) (by have := HLEN.out; omega)).mono ?_
      rintro e w1 ⟨v1, rfl, hG1⟩
      have HR1 := Aside0.mk (HR0.out.trans hG1)
      clear hG1 HR0
      go_wp2
      go_loopw [0, 23] (fun v0 v23 wr2 => ∃ j : Nat, v23 = .int .i64 j ∧ j ≤ y.length ∧ Aside0 (Grew B wr u0 v0 (ys ++ be 2 (y.length : Int) ++ (y.take j).flatMap (be 4)) wr2)) (fun _ v23 _ => (y.length - (intOf v23).toNat))
      case atStart => exact ⟨0, rfl, Nat.zero_le _, ⟨by simpa using HR1.out⟩⟩
      case round =>
        clear HR1
        obtain ⟨j, rfl, hj, HI⟩ := hrel
        by_cases hjl : j < y.length
        · have hFj := Kd.F_step HF0.out (fun k hk hlt => HI.out.ch.block k hlt (fun e => HNE.out k hk e))
          obtain ⟨ad2, e2, hx2⟩ := Kd.at_int (Kd.F_now hFj) j (by omega) (by omega)
          cases e2
          have hrd : rd y (j : Int) = y[j] := by simp [rd, List.getD, hjl]
          rw [hrd, Int.toNat_natCast] at hx2
          have hn := HSZ.out.2 _ (List.getElem_mem hjl)
          have hnext := flat_take (be 4) y j hjl
          have hlen2 : (ys ++ be 2 (y.length : Int) ++ (y.take j).flatMap (be 4)).length ≤ 100000600000 := by
            rw [List.length_append, List.length_append, be_length, flat_len, List.length_take]; have := HLEN.out; have := HSZ.out.1; omega
          generalize hnn : y[j] = n at *
          generalize hzs : ys ++ be 2 (y.length : Int) ++ (y.take j).flatMap (be 4) = zs at *
          have hun : IntKind.u64.wrap n = n := by rw [IntKind.wrap_u64]; omega
          have hn0 := hn.1
          have HN2 := Aside0.mk hnext
          have HL2 := Aside0.mk hlen2
          have HZS := Aside0.mk hzs
          clear hFj hrd hn hnext hlen2 hnn hzs hx0
          have hj0 : (0 : Int) ≤ (j : Int) := by omega
          have hj1 : (j : Int) < (y.length : Int) := by omega
          go_wp2_with fail
          refine (laid1 B wr u0 zs 4 n HI.out.row (Nat.le_trans (Nat.le_trans HBW.out HG.out.ch.size) HI.out.ch.size) hn0 (by decide) (by have := HL2.out; omega)).mono ?_
          rintro e w3 ⟨v3, rfl, hG3⟩
          have HG3 := Aside0.mk (HI.out.trans hG3)
          have hwj : wrap64 ((j : Int) + 1) = ((j + 1 : Nat) : Int) := wrap_succ j (by have := HSZ.out.1; omega)
          clear hG3
          go_wp2
          go_roundw
          case rel => exact ⟨j + 1, by first | rfl | rw [hwj] | simp, by omega, ⟨HG3.out.xs (by rw [HN2.out, ← HZS.out]; simp)⟩⟩
          case measure => exact meas_up j _ hjl (Nat.le_trans HSZ.out.1 (by decide))
        · have hj2 : j = y.length := by omega
          subst hj2
          have HI2 := Aside0.mk (HG.out.trans HI.out)
          clear hx0
          go_wp2
          go_roundw
          case rel => exact ⟨i + 1, by simp, by omega, ⟨HI2.out.xs (by rw [HN.out, ← HYS.out]; simp [rowB])⟩⟩
          case measure => exact meas_in i _ hil
    · have : i = l.length := by omega
      subst this
      have HG2 := Aside0.mk (show Grew B w v u0 (xs ++ l.flatMap rowB) wr by simpa using HG.out)
      go_wp2
      go_ret
      exact ⟨_, rfl, HG2.out⟩
end Go.Proofs.Ytgndmbkkggjklaa.Jo
namespace Go.Proofs.Ytgndmbkkggjklaa.Jo
set_option linter.unusedVariables false
set_option linter.unusedSimpArgs false
open Go.RowKit Go.Proofs.YtgndmbkkggjklaaW.PrintWords Go.Proofs.YtgndmbkkggjklaaW.PrintMore Go.Proofs.Ytgndmbkkggjklaa.Bs
theorem Drawn0.two {a b c : World} (h : Drawn0 a b) (k : Drawn0 b c) : Drawn0 a c := by
  obtain ⟨m, rfl⟩ := h
  obtain ⟨n, rfl⟩ := k
  exact ⟨m + n, by simp [World.drewN, Nat.add_assoc]⟩
def isHi (n : Int) : Bool := decide (n > 20000)
def anyHi (ns : List Int) : Bool := ns.any isHi
set_option maxRecDepth 100000 in
theorem isHi_calls (w : World) (n : Int) : Calls Try.prog 42 #[.int .i64 n] w fun e w' => e = .returned (.bool (isHi n)) ∧ Drawn0 w w' := by
  go_enter Try.func42, Try.ntmps42
  go_wp2
  go_ret
  exact ⟨rfl, Drawn0.refl _⟩
set_option maxRecDepth 100000 in
set_option maxHeartbeats 400000 in
theorem indexHi (w : World) (A : Option Addr) (c : Nat) (ns : List Int) (hC : (Kd.int .i64).C w A ns.length ns) (hl : ns.length ≤ 9223372036854775807) :
    Calls Try.prog 49 #[.slice A ns.length c, .func (.func 42) #[] #[]] w fun e w' => (∃ r : Int, e = .returned (.int .i64 r) ∧ decide (0 ≤ r) = anyHi ns) ∧ Drawn0 w w' := by
  have HC := Aside0.mk hC
  clear hC
  go_enter Try.func49, Try.ntmps49
  go_wp2_with fail
  go_loopw [5, 8] (fun v5 v8 wr => ∃ j : Nat, v8 = .int .i64 j ∧ j ≤ ns.length ∧ Aside0 (anyHi ns = anyHi (ns.drop j)) ∧ Aside0 (Drawn0 w wr)) (fun v5 v8 _ => ns.length - (intOf v8).toNat)
  case atStart => exact ⟨0, rfl, Nat.zero_le _, ⟨rfl⟩, ⟨Drawn0.refl _⟩⟩
  case round =>
    obtain ⟨j, rfl, hj, HB, HD⟩ := hrel
    by_cases hjs : j < ns.length
    · have hjs' : (j : Int) < ns.length := by omega
      have hCw : (Kd.int .i64).C wr A ns.length ns := by obtain ⟨nd, e⟩ := HD.out; rw [e]; exact Kd.C_drewN HC.out nd
      obtain ⟨ad, e, hcell⟩ := Kd.at_int hCw j (by omega) (by omega)
      cases e
      rw [Int.toNat_natCast] at hcell
      have hdrop : ns.drop j = rd ns j :: ns.drop (j + 1) := by
        rw [List.drop_eq_getElem_cons hjs]; simp [rd, List.getD_eq_getElem?_getD, hjs]
      have hbad : anyHi ns = (isHi (rd ns j) || anyHi (ns.drop (j + 1))) := by
        rw [HB.out, hdrop]; simp [anyHi]
      have HBAD := Aside0.mk hbad
      have C1 := fun w => isHi_calls w (rd ns j)
      generalize isHi (rd ns j) = f at *
      clear hdrop hbad hCw
      cases f with
      | false =>
        go_wp2_with (first | (go_at_call 42; (with_reducible refine (C1 _).mono ?_); rintro e w' ⟨rfl, hd⟩; have HD2 := Aside0.mk hd; clear hd))
        go_roundw
        case rel => exact ⟨j + 1, by first | rfl | rw [wrap_succ j (by omega)] | simp, hjs, ⟨by rw [HBAD.out]; rfl⟩, ⟨Drawn0.two HD.out HD2.out⟩⟩
        case measure => first | exact meas_up j _ hjs hl | exact meas_in j _ hjs
      | true =>
        go_wp2_with (first | (go_at_call 42; (with_reducible refine (C1 _).mono ?_); rintro e w' ⟨rfl, hd⟩; have HD2 := Aside0.mk hd; clear hd))
        go_ret
        exact ⟨⟨j, rfl, by rw [HBAD.out]; simp⟩, Drawn0.two HD.out HD2.out⟩
    · have hjs' : ¬ (j : Int) < ns.length := by omega
      have hd0 : ns.drop j = [] := List.drop_eq_nil_of_le (by omega)
      have HE := Aside0.mk (show anyHi ns = false by rw [HB.out, hd0]; rfl)
      go_wp2
      go_ret
      exact ⟨⟨-1, rfl, by rw [HE.out]; rfl⟩, HD.out⟩
set_option maxRecDepth 100000 in
set_option maxHeartbeats 400000 in
theorem containsHi (w : World) (A : Option Addr) (c : Nat) (ns : List Int) (hC : (Kd.int .i64).C w A ns.length ns) (hl : ns.length ≤ 9223372036854775807) :
    Calls Try.prog 41 #[.slice A ns.length c, .func (.func 42) #[] #[]] w fun e w' => e = .returned (.bool (anyHi ns)) ∧ Drawn0 w w' := by
  have C1 := indexHi w A c ns hC hl
  clear hC
  go_enter Try.func41, Try.ntmps41
  go_wp2_with fail
  refine C1.mono ?_
  rintro e w2 ⟨⟨r, rfl, hr⟩, hd⟩
  have HR := Aside0.mk hr
  have HD := Aside0.mk hd
  clear hr hd C1
  go_wp2_with fail
  go_ret
  exact ⟨by rw [← HR.out]; rfl, HD.out⟩
def isLo (n : Int) : Bool := decide (n < 1)
def anyLo (ns : List Int) : Bool := ns.any isLo
set_option maxRecDepth 100000 in
theorem isLo_calls (w : World) (n : Int) : Calls Try.prog 48 #[.int .i64 n] w fun e w' => e = .returned (.bool (isLo n)) ∧ Drawn0 w w' := by
  go_enter Try.func48, Try.ntmps48
  go_wp2
  go_ret
  exact ⟨rfl, Drawn0.refl _⟩
set_option maxRecDepth 100000 in
set_option maxHeartbeats 400000 in
theorem indexLo (w : World) (A : Option Addr) (c : Nat) (ns : List Int) (hC : (Kd.int .i64).C w A ns.length ns) (hl : ns.length ≤ 9223372036854775807) :
    Calls Try.prog 49 #[.slice A ns.length c, .func (.func 48) #[] #[]] w fun e w' => (∃ r : Int, e = .returned (.int .i64 r) ∧ decide (0 ≤ r) = anyLo ns) ∧ Drawn0 w w' := by
  have HC := Aside0.mk hC
  clear hC
  go_enter Try.func49, Try.ntmps49
  go_wp2_with fail
  go_loopw [5, 8] (fun v5 v8 wr => ∃ j : Nat, v8 = .int .i64 j ∧ j ≤ ns.length ∧ Aside0 (anyLo ns = anyLo (ns.drop j)) ∧ Aside0 (Drawn0 w wr)) (fun v5 v8 _ => ns.length - (intOf v8).toNat)
  case atStart => exact ⟨0, rfl, Nat.zero_le _, ⟨rfl⟩, ⟨Drawn0.refl _⟩⟩
  case round =>
    obtain ⟨j, rfl, hj, HB, HD⟩ := hrel
    by_cases hjs : j < ns.length
    · have hjs' : (j : Int) < ns.length := by omega
      have hCw : (Kd.int .i64).C wr A ns.length ns := by obtain ⟨nd, e⟩ := HD.out; rw [e]; exact Kd.C_drewN HC.out nd
      obtain ⟨ad, e, hcell⟩ := Kd.at_int hCw j (by omega) (by omega)
      cases e
      rw [Int.toNat_natCast] at hcell
      have hdrop : ns.drop j = rd ns j :: ns.drop (j + 1) := by
        rw [List.drop_eq_getElem_cons hjs]; simp [rd, List.getD_eq_getElem?_getD, hjs]
      have hbad : anyLo ns = (isLo (rd ns j) || anyLo (ns.drop (j + 1))) := by
        rw [HB.out, hdrop]; simp [anyLo]
      have HBAD := Aside0.mk hbad
      have C1 := fun w => isLo_calls w (rd ns j)
      generalize isLo (rd ns j) = f at *
      clear hdrop hbad hCw
      cases f with
      | false =>
        go_wp2_with (first | (go_at_call 48; (with_reducible refine (C1 _).mono ?_); rintro e w' ⟨rfl, hd⟩; have HD2 := Aside0.mk hd; clear hd))
        go_roundw
        case rel => exact ⟨j + 1, by first | rfl | rw [wrap_succ j (by omega)] | simp, hjs, ⟨by rw [HBAD.out]; rfl⟩, ⟨Drawn0.two HD.out HD2.out⟩⟩
        case measure => first | exact meas_up j _ hjs hl | exact meas_in j _ hjs
      | true =>
        go_wp2_with (first | (go_at_call 48; (with_reducible refine (C1 _).mono ?_); rintro e w' ⟨rfl, hd⟩; have HD2 := Aside0.mk hd; clear hd))
        go_ret
        exact ⟨⟨j, rfl, by rw [HBAD.out]; simp⟩, Drawn0.two HD.out HD2.out⟩
    · have hjs' : ¬ (j : Int) < ns.length := by omega
      have hd0 : ns.drop j = [] := List.drop_eq_nil_of_le (by omega)
      have HE := Aside0.mk (show anyLo ns = false by rw [HB.out, hd0]; rfl)
      go_wp2
      go_ret
      exact ⟨⟨-1, rfl, by rw [HE.out]; rfl⟩, HD.out⟩
set_option maxRecDepth 100000 in
set_option maxHeartbeats 400000 in
theorem containsLo (w : World) (A : Option Addr) (c : Nat) (ns : List Int) (hC : (Kd.int .i64).C w A ns.length ns) (hl : ns.length ≤ 9223372036854775807) :
    Calls Try.prog 41 #[.slice A ns.length c, .func (.func 48) #[] #[]] w fun e w' => e = .returned (.bool (anyLo ns)) ∧ Drawn0 w w' := by
  have C1 := indexLo w A c ns hC hl
  clear hC
  go_enter Try.func41, Try.ntmps41
  go_wp2_with fail
  refine C1.mono ?_
  rintro e w2 ⟨⟨r, rfl, hr⟩, hd⟩
  have HR := Aside0.mk hr
  have HD := Aside0.mk hd
  clear hr hd C1
  go_wp2_with fail
  go_ret
  exact ⟨by rw [← HR.out]; rfl, HD.out⟩
def rowB' (ns : List Int) : Bool := decide (ns.length ≤ 1000) && !anyHi ns
set_option maxRecDepth 100000 in
set_option maxHeartbeats 400000 in
theorem row_calls (w : World) (A : Option Addr) (c : Nat) (ns : List Int) (hC : (Kd.int .i64).C w A ns.length ns) (hl : ns.length ≤ 9223372036854775807) :
    Calls Try.prog 30 #[.slice A ns.length c] w fun e w' => e = .returned (.bool (rowB' ns)) ∧ Drawn0 w w' := by
  have C1 := fun m => containsHi (w.drewN m) A c ns (Kd.C_drewN hC m) hl
  have C1' := containsHi w A c ns hC hl
  by_cases h : ns.length ≤ 1000
  · have h' : (ns.length : Int) ≤ 1000 := by omega
    have E := Aside0.mk (show rowB' ns = !anyHi ns by simp [rowB', h])
    clear hC
    generalize anyHi ns = b at *
    go_enter Try.func30, Try.ntmps30
    go_wp2_with (first | (go_at_call 41; (first | (with_reducible refine C1'.mono ?_) | (with_reducible refine (C1 _).mono ?_)); rintro e w' ⟨rfl, hd⟩; have HD2 := Aside0.mk hd; clear hd))
    go_ret
    exact ⟨by rw [E.out]; rfl, HD2.out⟩
  · have h' : ¬ (ns.length : Int) ≤ 1000 := by omega
    have E := Aside0.mk (show rowB' ns = false by simp [rowB', h])
    clear hC C1 C1'
    go_enter Try.func30, Try.ntmps30
    go_wp2
    go_ret
    exact ⟨by rw [E.out]; rfl, Drawn0.refl _⟩
set_option maxRecDepth 100000 in
set_option maxHeartbeats 400000 in
theorem numbers_calls (w : World) (A : Option Addr) (c : Nat) (ns : List Int) (hC : (Kd.int .i64).C w A ns.length ns) (hl : ns.length ≤ 9223372036854775807) :
    Calls Try.prog 40 #[.slice A ns.length c] w fun e w' => e = .returned (.bool (!anyLo ns)) ∧ Drawn0 w w' := by
  have C1' := containsLo w A c ns hC hl
  clear hC
  generalize anyLo ns = b at *
  go_enter Try.func40, Try.ntmps40
  go_wp2_with fail
  refine C1'.mono ?_
  rintro e w' ⟨rfl, hd⟩
  have HD2 := Aside0.mk hd
  clear hd C1'
  go_wp2
  go_ret
  exact ⟨rfl, HD2.out⟩
end Go.Proofs.Ytgndmbkkggjklaa.Jo
namespace Go.Proofs.Ytgndmbkkggjklaa.Jo
set_option linter.unusedVariables false
set_option linter.unusedSimpArgs false
open Go.RowKit Go.Proofs.YtgndmbkkggjklaaW.PrintWords Go.Proofs.YtgndmbkkggjklaaW.PrintMore Go.Proofs.Ytgndmbkkggjklaa.Bs
def goneR (r : S44) : Bool := decide (r.f0 = 0) && r.f1.toList.isEmpty && r.f2.toList.isEmpty && decide (r.f3 = 0) && decide (r.f4 = []) && decide (r.f5 = [])
def hereR (r : S44) : Bool := decide (1 ≤ r.f0) && decide (r.f0 ≤ 6) && decide (0 ≤ r.f3) && !anyLo r.f4 && !anyLo r.f5
def rightR (r : S44) : Bool := if r.f6 then goneR r else hereR r
theorem drawn_below {B : Nat} {w W W' : World} (h : Below B w W) (k : Drawn0 W W') : Below B w W' := by
  obtain ⟨n, rfl⟩ := k
  exact pw_below_drewN h n
set_option maxRecDepth 100000 in
set_option maxHeartbeats 400000 in
theorem right_gone (w : World) (A4 A5 : Option Addr) (c4 c5 : Nat) (k p : Int) (n t : ByteArray) (ks bs : List Int) :
    Calls Try.prog 29 #[.agg #[.int .i64 k, .string n, .string t, .int .i64 p, .slice A4 ks.length c4, .slice A5 bs.length c5, .bool true]] w fun e w' => e = .returned (.bool (goneR ⟨k, n, t, p, ks, bs, true⟩)) ∧ Below w.heap.size w w' := by
  go_enter Try.func29, Try.ntmps29
  go_wp2
  all_goals
    go_ret
    exact ⟨by first | (simp [goneR, *]; done) | (simp [goneR, *]; cases bs <;> simp; try omega), by repeat (first | exact Below.refl _ _ | apply below_alloc | apply pw_below_drewN | apply below_drew1)⟩
set_option maxRecDepth 100000 in
set_option maxHeartbeats 400000 in
theorem right_here (w : World) (A4 A5 : Option Addr) (c4 c5 : Nat) (k p : Int) (n t : ByteArray) (ks bs : List Int) (hk : (Kd.int .i64).C w A4 ks.length ks) (hb : (Kd.int .i64).C w A5 bs.length bs) (h4 : ks.length ≤ 9223372036854775807) (h5 : bs.length ≤ 9223372036854775807) :
    Calls Try.prog 29 #[.agg #[.int .i64 k, .string n, .string t, .int .i64 p, .slice A4 ks.length c4, .slice A5 bs.length c5, .bool false]] w fun e w' => e = .returned (.bool (hereR ⟨k, n, t, p, ks, bs, false⟩)) ∧ Below w.heap.size w w' := by
  have HK := Aside0.mk hk
  have HB := Aside0.mk hb
  have C4 := Aside0.mk (fun W hW => numbers_calls W A4 c4 ks (Kd.C_below hk hW) h4)
  have C5 := Aside0.mk (fun W hW => numbers_calls W A5 c5 bs (Kd.C_below hb hW) h5)
  have E := Aside0.mk (show hereR ⟨k, n, t, p, ks, bs, false⟩ = (decide (1 ≤ k) && decide (k ≤ 6) && decide (0 ≤ p) && !anyLo ks && !anyLo bs) from rfl)
  clear hk hb h4 h5
  generalize anyLo ks = x4 at *
  generalize anyLo bs = x5 at *
  go_enter Try.func29, Try.ntmps29
  cases x4
  all_goals
    go_wp2_with (first | (go_at_call 40; first | (with_reducible refine (C4.out _ (by repeat (first | exact Below.refl _ _ | apply below_alloc | apply pw_below_drewN | apply below_drew1))).mono ?_; rintro e w4 ⟨rfl, ⟨nd, rfl⟩⟩) | (with_reducible refine (C5.out _ (by repeat (first | exact Below.refl _ _ | apply below_alloc | apply pw_below_drewN | apply below_drew1))).mono ?_; rintro e w5 ⟨rfl, ⟨ne, rfl⟩⟩)))
  all_goals
    go_ret
    exact ⟨by rw [E.out]; first | (simp [*]; done) | (simp [*]; intros; omega), by repeat (first | exact Below.refl _ _ | apply below_alloc | apply pw_below_drewN | apply below_drew1)⟩
theorem right_calls (w : World) (A4 A5 : Option Addr) (c4 c5 : Nat) (r : S44) (hk : (Kd.int .i64).C w A4 r.f4.length r.f4) (hb : (Kd.int .i64).C w A5 r.f5.length r.f5) (h4 : r.f4.length ≤ 9223372036854775807) (h5 : r.f5.length ≤ 9223372036854775807) :
    Calls Try.prog 29 #[.agg #[.int .i64 r.f0, .string r.f1, .string r.f2, .int .i64 r.f3, .slice A4 r.f4.length c4, .slice A5 r.f5.length c5, .bool r.f6]] w fun e w' => e = .returned (.bool (rightR r)) ∧ Below w.heap.size w w' := by
  obtain ⟨k, n, t, p, ks, bs, g⟩ := r
  cases g with
  | true => exact right_gone w A4 A5 c4 c5 k p n t ks bs
  | false => exact right_here w A4 A5 c4 c5 k p n t ks bs hk hb h4 h5
end Go.Proofs.Ytgndmbkkggjklaa.Jo
namespace Go.Proofs.Ytgndmbkkggjklaa.Jo
set_option linter.unusedVariables false
set_option linter.unusedSimpArgs false
open Go.RowKit Go.Proofs.YtgndmbkkggjklaaW.PrintWords Go.Proofs.YtgndmbkkggjklaaW.PrintMore Go.Proofs.Ytgndmbkkggjklaa.Bs
def rightX (x : S46) (b : Int) : Bool := decide (b < x.f0) && decide (x.f0 ≤ 20000) && rightR x.f1 && decide (x.f1.f1.size ≤ 65535) && decide (x.f1.f2.size ≤ 65535) && rowB' x.f1.f4 && rowB' x.f1.f5 && decide (x.f1.f3 ≤ 20000)
set_option maxRecDepth 100000 in
set_option maxHeartbeats 4000000 in
theorem rightx_calls (w : World) (A4 A5 : Option Addr) (c4 c5 : Nat) (id b k p : Int) (n t : ByteArray) (ks bs : List Int) (g : Bool) (hk : (Kd.int .i64).C w A4 ks.length ks) (hb : (Kd.int .i64).C w A5 bs.length bs) (h4 : ks.length ≤ 9223372036854775807) (h5 : bs.length ≤ 9223372036854775807) (hn : n.size ≤ 9223372036854775807) (ht : t.size ≤ 9223372036854775807) :
    Calls Try.prog 18 #[.agg #[.int .i64 id, .int .i64 k, .string n, .string t, .int .i64 p, .slice A4 ks.length c4, .slice A5 bs.length c5, .bool g], .int .i64 b] w fun e w' => e = .returned (.bool (rightX ⟨id, ⟨k, n, t, p, ks, bs, g⟩⟩ b)) ∧ Below w.heap.size w w' := by
  have C1 := Aside0.mk (fun W (hW : Below w.heap.size w W) => right_calls W A4 A5 c4 c5 ⟨k, n, t, p, ks, bs, g⟩ (Kd.C_below hk hW) (Kd.C_below hb hW) h4 h5)
  have C4 := Aside0.mk (fun W (hW : Below w.heap.size w W) => row_calls W A4 c4 ks (Kd.C_below hk hW) h4)
  have C5 := Aside0.mk (fun W (hW : Below w.heap.size w W) => row_calls W A5 c5 bs (Kd.C_below hb hW) h5)
  have E := Aside0.mk (show rightX ⟨id, ⟨k, n, t, p, ks, bs, g⟩⟩ b = (decide (b < id) && decide (id ≤ 20000) && rightR ⟨k, n, t, p, ks, bs, g⟩ && decide (n.size ≤ 65535) && decide (t.size ≤ 65535) && rowB' ks && rowB' bs && decide (p ≤ 20000)) from rfl)
  clear hk hb h4 h5
  generalize rightR ⟨k, n, t, p, ks, bs, g⟩ = x1 at *
  generalize rowB' ks = x4 at *
  generalize rowB' bs = x5 at *
  go_enter Try.func18, Try.ntmps18
  obtain rfl | ⟨rfl, rfl⟩ | ⟨rfl, rfl, rfl⟩ | ⟨rfl, rfl, rfl⟩ : x1 = false ∨ (x1 = true ∧ x4 = false) ∨ (x1 = true ∧ x4 = true ∧ x5 = false) ∨ (x1 = true ∧ x4 = true ∧ x5 = true) := by cases x1 <;> cases x4 <;> cases x5 <;> simp
  all_goals
    go_wp2_with (first
      | (go_at_call 29; (with_reducible refine (C1.out _ (by repeat (first | exact Below.refl _ _ | apply below_alloc | apply pw_below_drewN | apply below_drew1))).mono ?_); rintro e w1 ⟨rfl, hb1⟩; have BB : Below w.heap.size w w1 := below_step (by repeat (first | exact Below.refl _ _ | apply below_alloc | apply pw_below_drewN | apply below_drew1)) hb1; have q := (hb1.block w.heap.size (by simp)).trans (heap_alloc_new w _); obtain ⟨q0, q1, q2, q3, q4, q5, q6, q7⟩ : w1.cell? ⟨w.heap.size, 0, none⟩ = some (.int .i64 id) ∧ w1.cell? ⟨w.heap.size, 1, none⟩ = some (.int .i64 k) ∧ w1.cell? ⟨w.heap.size, 2, none⟩ = some (.string n) ∧ w1.cell? ⟨w.heap.size, 3, none⟩ = some (.string t) ∧ w1.cell? ⟨w.heap.size, 4, none⟩ = some (.int .i64 p) ∧ w1.cell? ⟨w.heap.size, 5, none⟩ = some (.slice A4 ks.length c4) ∧ w1.cell? ⟨w.heap.size, 6, none⟩ = some (.slice A5 bs.length c5) ∧ w1.cell? ⟨w.heap.size, 7, none⟩ = some (.bool g) := ⟨blk_cell q 0, blk_cell q 1, blk_cell q 2, blk_cell q 3, blk_cell q 4, blk_cell q 5, blk_cell q 6, blk_cell q 7⟩; have HB1 := Aside0.mk BB; clear hb1 BB q)
      | (go_at_call 30; first
        | (with_reducible refine (C4.out _ (by repeat (first | exact HB1.out | apply below_alloc | apply pw_below_drewN | apply below_drew1))).mono ?_; rintro e w4 ⟨rfl, ⟨nd, rfl⟩⟩)
        | (with_reducible refine (C5.out _ (by repeat (first | exact HB1.out | apply below_alloc | apply pw_below_drewN | apply below_drew1))).mono ?_; rintro e w5 ⟨rfl, ⟨ne, rfl⟩⟩)))
  all_goals
    go_ret
    exact ⟨by rw [E.out]; first | (simp [*]; done) | (simp [*]; intros; omega), by repeat (first | exact Below.refl _ _ | exact HB1.out | apply below_alloc | apply pw_below_drewN | apply below_drew1)⟩
end Go.Proofs.Ytgndmbkkggjklaa.Jo
namespace Go.Proofs.Ytgndmbkkggjklaa.Jo
set_option linter.unusedVariables false
set_option linter.unusedSimpArgs false
open Go.RowKit Go.Proofs.YtgndmbkkggjklaaW.PrintWords Go.Proofs.YtgndmbkkggjklaaW.PrintMore Go.Proofs.Ytgndmbkkggjklaa.Bs
def rightL : Int → List S46 → Bool
  | _, [] => true
  | b, x :: l => rightX x b && rightL x.f0 l
def rightC (c : S25) : Bool := decide (1 ≤ c.f0) && decide (c.f0 ≤ 2147483647) && decide (c.f1 < c.f2) && decide (1 ≤ c.f3.length) && rightL 0 c.f3
/-- What the model's lengths are. -/
def sized (x : S46) : Prop := x.f1.f1.size ≤ 9223372036854775807 ∧ x.f1.f2.size ≤ 9223372036854775807 ∧ x.f1.f4.length ≤ 9223372036854775807 ∧ x.f1.f5.length ≤ 9223372036854775807
theorem blk4 {w : World} {g t : Nat} {a b c d : Value} (h : w.heap[g]? = some (.cells #[a, b, c, d] t (0, 0))) : w.cell? ⟨g, 0, none⟩ = some a ∧ w.cell? ⟨g, 1, none⟩ = some b ∧ w.cell? ⟨g, 2, none⟩ = some c ∧ w.cell? ⟨g, 3, none⟩ = some d ∧ ∀ i, w.frozen? ⟨g, i, none⟩ = false :=
  ⟨blk_cell h 0, blk_cell h 1, blk_cell h 2, blk_cell h 3, fun i => blk_frozen h i⟩
theorem at46 {w : World} {A : Option Addr} {l : List S46} (h : k46.C w A l.length l) (j : Nat) (hj : j < l.length) : ∃ ad A5 c5 A6 c6, A = some ad ∧ w.cell? (ad.add (j * 8)) = some (.int .i64 l[j].f0) ∧ w.cell? ⟨(ad.add (j * 8)).block, (ad.add (j * 8)).off + 1, none⟩ = some (.int .i64 l[j].f1.f0) ∧ w.cell? ⟨(ad.add (j * 8)).block, (ad.add (j * 8)).off + 2, none⟩ = some (.string l[j].f1.f1) ∧ w.cell? ⟨(ad.add (j * 8)).block, (ad.add (j * 8)).off + 3, none⟩ = some (.string l[j].f1.f2)
    ∧ w.cell? ⟨(ad.add (j * 8)).block, (ad.add (j * 8)).off + 4, none⟩ = some (.int .i64 l[j].f1.f3) ∧ w.cell? ⟨(ad.add (j * 8)).block, (ad.add (j * 8)).off + 5, none⟩ = some (.slice A5 l[j].f1.f4.length c5) ∧ w.cell? ⟨(ad.add (j * 8)).block, (ad.add (j * 8)).off + 6, none⟩ = some (.slice A6 l[j].f1.f5.length c6) ∧ w.cell? ⟨(ad.add (j * 8)).block, (ad.add (j * 8)).off + 7, none⟩ = some (.bool l[j].f1.f6)
    ∧ l[j].f1.f4.length ≤ c5 ∧ (Kd.int .i64).C w A5 l[j].f1.f4.length l[j].f1.f4 ∧ l[j].f1.f5.length ≤ c6 ∧ (Kd.int .i64).C w A6 l[j].f1.f5.length l[j].f1.f5 := by
  have := at_T46 h (j : Int) (by omega) (by omega)
  rw [show rd_T46 l (j : Int) = l[j] by simp [rd_T46, List.getD, hj], Int.toNat_natCast] at this
  exact this
set_option maxRecDepth 100000 in
set_option maxHeartbeats 4000000 in
theorem rightc_loop (w : World) (A : Option Addr) (c : Nat) (tx s t : Int) (l : List S46) (hC : k46.C w A l.length l) (hc : l.length ≤ c) (hs : ∀ x ∈ l, sized x) (hl : l.length ≤ 9223372036854775807) (h1 : 1 ≤ tx) (h2 : tx ≤ 2147483647) (h3 : s < t) (h4 : 1 ≤ l.length) :
    Calls Try.prog 9 #[.agg #[.int .i64 tx, .int .u64 s, .int .u64 t, .slice A l.length c]] w fun e w' => e = .returned (.bool (rightL 0 l)) ∧ Below w.heap.size w w' := by
  have HC := Aside0.mk hC
  have HS := Aside0.mk hs
  have h4' : (1 : Int) ≤ l.length := by omega
  clear hC hs
  go_enter Try.func9, Try.ntmps9
  go_wp2
  go_loopw [3, 30] (fun v3 v30 wr => ∃ (j : Nat) (b : Int), v3 = .int .i64 b ∧ v30 = .int .i64 j ∧ j ≤ l.length ∧ Aside0 (rightL 0 l = rightL b (l.drop j)) ∧ Aside0 (Below w.heap.size w wr)) (fun _ v30 _ => l.length - (intOf v30).toNat)
  case atStart => exact ⟨0, 0, rfl, rfl, Nat.zero_le _, ⟨rfl⟩, ⟨below_alloc (Below.refl _ _) _⟩⟩
  case round =>
    obtain ⟨j, b, rfl, rfl, hj, HE, HB⟩ := hrel
    by_cases hjl : j < l.length
    · obtain ⟨ad, A5, c5, A6, c6, e, k0, k1, k2, k3, k4, k5, k6, k7, l5, g5, l6, g6⟩ := at46 (Kd.C_below HC.out HB.out) j hjl
      cases e
      obtain ⟨s1, s2, s3, s4⟩ := HS.out _ (List.getElem_mem hjl)
      have hnext : rightL 0 l = (rightX l[j] b && rightL l[j].f0 (l.drop (j + 1))) := by
        rw [HE.out, List.drop_eq_getElem_cons hjl]; rfl
      have C1 := Aside0.mk (fun W (hW : Below wr.heap.size wr W) => rightx_calls W A5 A6 c5 c6 l[j].f0 b l[j].f1.f0 l[j].f1.f3 l[j].f1.f1 l[j].f1.f2 l[j].f1.f4 l[j].f1.f5 l[j].f1.f6 (Kd.C_below g5 hW) (Kd.C_below g6 hW) s3 s4 s1 s2)
      generalize hx : l[j] = x at *
      obtain ⟨i0, r⟩ := x
      obtain ⟨x0, x1, x2, x3, x4, x5, x6⟩ := r
      have HN := Aside0.mk hnext
      clear hnext hx g5 g6
      simp only at k0 k1 k2 k3 k4 k5 k6 k7 l5 l6 s1 s2 s3 s4 C1 HN
      generalize rightX ⟨i0, ⟨x0, x1, x2, x3, x4, x5, x6⟩⟩ b = y at *
      have hj0 : (0 : Int) ≤ (j : Int) := by omega
      have hj1 : (j : Int) < (l.length : Int) := by omega
      go_wp2_with fail
      have hW := below_alloc (Below.refl wr.heap.size wr) (.cells #[.int .i64 i0, .int .i64 x0, .string x1, .string x2, .int .i64 x3, .slice A5 x4.length c5, .slice A6 x5.length c6, .bool x6] 46)
      refine (C1.out _ hW).mono ?_
      rintro e w2 ⟨rfl, hb2⟩
      have q := (hb2.block wr.heap.size (by simp)).trans (heap_alloc_new wr _)
      have q0 : w2.cell? ⟨wr.heap.size, 0, none⟩ = some (.int .i64 i0) := blk_cell q 0
      have HB2 := Aside0.mk (below_step (below_step HB.out hW) hb2)
      clear q hb2 hW C1
      cases y with
      | true =>
        go_wp2
        go_roundw
        case rel => exact ⟨j + 1, i0, rfl, by first | rfl | rw [wrap_succ j (by omega)] | simp, by omega, ⟨by rw [HN.out]; rfl⟩, ⟨HB2.out⟩⟩
        case measure => first | exact meas_up j _ hjl hl | exact meas_in j _ hjl
      | false =>
        go_wp2
        go_ret
        exact ⟨by rw [HN.out]; rfl, HB2.out⟩
    · have : j = l.length := by omega
      subst this
      have HE2 := Aside0.mk (show rightL 0 l = true by rw [HE.out]; simp [rightL])
      go_wp2
      go_ret
      exact ⟨by rw [HE2.out]; rfl, HB.out⟩
set_option maxRecDepth 100000 in
set_option maxHeartbeats 4000000 in
theorem rightc_not (w : World) (A : Option Addr) (c : Nat) (tx s t : Int) (n : Nat) (hn : n ≤ 9223372036854775807) (h : (decide (1 ≤ tx) && decide (tx ≤ 2147483647) && decide (s < t) && decide (1 ≤ n)) = false) :
    Calls Try.prog 9 #[.agg #[.int .i64 tx, .int .u64 s, .int .u64 t, .slice A n c]] w fun e w' => e = .returned (.bool false) ∧ Below w.heap.size w w' := by
  by_cases h1 : 1 ≤ tx
  · by_cases h2 : tx ≤ 2147483647
    · by_cases h3 : s < t
      · have h4 : ¬ 1 ≤ (n : Int) := by simp [h1, h2, h3] at h; omega
        have h4' : (n : Int) < 1 := by omega
        clear h
        go_enter Try.func9, Try.ntmps9
        go_wp2
        go_ret
        exact ⟨rfl, below_alloc (Below.refl _ _) _⟩
      · have h3' : t ≤ s := by omega
        clear h
        go_enter Try.func9, Try.ntmps9
        go_wp2
        go_ret
        exact ⟨rfl, below_alloc (Below.refl _ _) _⟩
    · have h2' : 2147483647 < tx := by omega
      clear h
      go_enter Try.func9, Try.ntmps9
      go_wp2
      go_ret
      exact ⟨rfl, below_alloc (Below.refl _ _) _⟩
  · have h1' : tx < 1 := by omega
    clear h
    go_enter Try.func9, Try.ntmps9
    go_wp2
    go_ret
    exact ⟨rfl, below_alloc (Below.refl _ _) _⟩
theorem rightc_calls (w : World) (A : Option Addr) (cp : Nat) (c : S25) (hC : k46.C w A c.f3.length c.f3) (hc : c.f3.length ≤ cp) (hs : ∀ x ∈ c.f3, sized x) (hl : c.f3.length ≤ 9223372036854775807) :
    Calls Try.prog 9 #[.agg #[.int .i64 c.f0, .int .u64 c.f1, .int .u64 c.f2, .slice A c.f3.length cp]] w fun e w' => e = .returned (.bool (rightC c)) ∧ Below w.heap.size w w' := by
  obtain ⟨tx, s, t, l⟩ := c
  simp only at hC hc hs hl ⊢
  by_cases h : (decide (1 ≤ tx) && decide (tx ≤ 2147483647) && decide (s < t) && decide (1 ≤ l.length)) = true
  · have e : rightC ⟨tx, s, t, l⟩ = rightL 0 l := by show (_ && rightL 0 l) = _; rw [h]; rfl
    rw [e]
    simp only [Bool.and_eq_true, decide_eq_true_eq] at h
    exact rightc_loop w A cp tx s t l hC hc hs hl h.1.1.1 h.1.1.2 h.1.2 h.2
  · have h' := Bool.eq_false_iff.2 h
    have e : rightC ⟨tx, s, t, l⟩ = false := by show (_ && rightL 0 l) = _; rw [h']; rfl
    rw [e]
    exact rightc_not w A cp tx s t l.length hl h'
end Go.Proofs.Ytgndmbkkggjklaa.Jo
namespace Go.Proofs.Ytgndmbkkggjklaa.Jo
set_option linter.unusedVariables false
set_option linter.unusedSimpArgs false
open Go.RowKit Go.Proofs.YtgndmbkkggjklaaW.PrintWords Go.Proofs.YtgndmbkkggjklaaW.PrintMore Go.Proofs.Ytgndmbkkggjklaa.Bs
theorem texts_lit (B : Nat) (w : World) (v : Value) (xs : List Int) (s t : ByteArray) (ho : (Kd.int .u8).R 5 w B (fun _ => True) v xs) (hB : B ≤ w.heap.size) (hs : s.size ≤ 65535) (ht : t.size ≤ 65535) (hx : xs.length ≤ 100000000000) :
    Calls Try.prog 16 #[v, .slice (some ⟨w.heap.size, 0, none⟩) 2 2] (w.alloc (.cells #[.string s, .string t] 9)) fun e w' => ∃ v', e = .returned v' ∧ Grew B w v v' (xs ++ textB s ++ textB t) w' := by
  have hW := below_alloc (Below.refl w.heap.size w) (.cells #[.string s, .string t] 9)
  have hg := heap_alloc_new w (.cells #[.string s, .string t] 9)
  refine (texts_calls B _ v xs _ 2 [s, t] _ (Kd.R_below ho hW) (Nat.le_trans hB hW.size) (F_block Kd.string (okx := fun _ => False) hg (reps2 (FK_string s) (FK_string t)) (by simp)) ?_ (by simp) (by simp) (by intro x hx; simp at hx; rcases hx with rfl | rfl <;> omega) hx).mono ?_
  · rintro k (h | rfl) e
    · exact h
    · have := own_lt (Kd.own_of_R ho) _ e.symm; omega
  · rintro e w' ⟨v', rfl, hG⟩
    exact ⟨v', rfl, (hG.before hW).xs (by simp)⟩
theorem rows_lit (B : Nat) (w : World) (v : Value) (xs : List Int) (A4 A5 : Option Addr) (c4 c5 : Nat) (ks bs : List Int) (ok : Nat → Prop) (ho : (Kd.int .u8).R 5 w B (fun _ => True) v xs) (hB : B ≤ w.heap.size)
    (hk : Kd.F (Kd.int .i64) w ok A4 ks.length ks) (hb : Kd.F (Kd.int .i64) w ok A5 bs.length bs) (hok : ∀ k, ok k → some k ≠ v.ownBlock) (h4 : ks.length ≤ c4) (h5 : bs.length ≤ c5) (hkn : ks.length ≤ 10000 ∧ ∀ n ∈ ks, 0 ≤ n ∧ n ≤ 9223372036854775807) (hbn : bs.length ≤ 10000 ∧ ∀ n ∈ bs, 0 ≤ n ∧ n ≤ 9223372036854775807) (hx : xs.length ≤ 100000000000) :
    Calls Try.prog 17 #[v, .slice (some ⟨w.heap.size, 0, none⟩) 2 2] (w.alloc (.cells #[.slice A4 ks.length c4, .slice A5 bs.length c5] 41)) fun e w' => ∃ v', e = .returned v' ∧ Grew B w v v' (xs ++ rowB ks ++ rowB bs) w' := by
  have hW := below_alloc (Below.refl w.heap.size w) (.cells #[.slice A4 ks.length c4, .slice A5 bs.length c5] 41)
  have hg := heap_alloc_new w (.cells #[.slice A4 ks.length c4, .slice A5 bs.length c5] 41)
  refine (rows_calls B _ v xs _ 2 [ks, bs] _ (Kd.R_below ho hW) (Nat.le_trans hB hW.size) (F_block (Kd.slice 3 (Kd.int .i64)) (okx := ok) hg (reps2 (Kd.FK_slice_mk h4 (Kd.F_below hk hW)) (Kd.FK_slice_mk h5 (Kd.F_below hb hW))) (by simp)) ?_ (by simp) (by simp) (by intro x hx; simp at hx; rcases hx with rfl | rfl; exact hkn; exact hbn) hx).mono ?_
  · rintro k (h | rfl) e
    · exact hok k h e
    · have := own_lt (Kd.own_of_R ho) _ e.symm; omega
  · rintro e w' ⟨v', rfl, hG⟩
    exact ⟨v', rfl, (hG.before hW).xs (by simp)⟩
def putX (x : S46) : List Int := be 4 x.f0 ++ be 1 x.f1.f0 ++ (if x.f1.f6 then [] else be 4 x.f1.f3 ++ textB x.f1.f1 ++ textB x.f1.f2 ++ rowB x.f1.f4 ++ rowB x.f1.f5)
def bodyC (c : S25) : List Int := be 4 c.f0 ++ be 8 c.f1 ++ be 8 c.f2 ++ be 2 c.f3.length ++ c.f3.flatMap putX
def putC (c : S25) : List Int := be 4 (bodyC c).length ++ bodyC c
structure goodX (x : S46) : Prop where
  id : 1 ≤ x.f0 ∧ x.f0 ≤ 20000
  kind : 0 ≤ x.f1.f0 ∧ x.f1.f0 ≤ 6
  parent : 0 ≤ x.f1.f3 ∧ x.f1.f3 ≤ 20000
  name : x.f1.f1.size ≤ 65535
  text : x.f1.f2.size ≤ 65535
  kids : x.f1.f4.length ≤ 1000 ∧ ∀ n ∈ x.f1.f4, 1 ≤ n ∧ n ≤ 20000
  attrs : x.f1.f5.length ≤ 1000 ∧ ∀ n ∈ x.f1.f5, 1 ≤ n ∧ n ≤ 20000
theorem good_of_right (x : S46) (b : Int) (hb : 0 ≤ b) (h : rightX x b = true) : goodX x ∧ b < x.f0 := by
  obtain ⟨i, k, n, t, p, ks, bs, g⟩ := x
  simp only [rightX, rightR, rowB', anyHi, Bool.and_eq_true, decide_eq_true_eq, Bool.not_eq_true', List.any_eq_false, isHi, decide_eq_false_iff_not] at h
  obtain ⟨⟨⟨⟨⟨⟨⟨h1, h2⟩, h3⟩, h4⟩, h5⟩, h6, h7⟩, h8, h9⟩, h10⟩ := h
  cases g with
  | true =>
    simp only [if_pos, goneR, Bool.and_eq_true, decide_eq_true_eq] at h3
    obtain ⟨⟨⟨⟨⟨a1, a2⟩, a3⟩, a4⟩, a5⟩, a6⟩ := h3
    subst a1; subst a4; subst a5; subst a6
    exact ⟨⟨⟨by show 1 ≤ i; omega, h2⟩, by simp, by simp, h4, h5, by simp, by simp⟩, h1⟩
  | false =>
    simp only [Bool.false_eq_true, if_false, hereR, anyLo, isLo, Bool.and_eq_true, decide_eq_true_eq, Bool.not_eq_true', List.any_eq_false, decide_eq_false_iff_not] at h3
    obtain ⟨⟨⟨⟨a1, a2⟩, a3⟩, a4⟩, a5⟩ := h3
    exact ⟨⟨⟨by show 1 ≤ i; omega, h2⟩, ⟨by show 0 ≤ k; omega, a2⟩, ⟨a3, h10⟩, h4, h5, ⟨h6, fun m hm => ⟨by have := a4 m hm; omega, by have := h7 m hm; omega⟩⟩, ⟨h8, fun m hm => ⟨by have := a5 m hm; omega, by have := h9 m hm; omega⟩⟩⟩, h1⟩
theorem good_of_rightL : ∀ (l : List S46) (b : Int), 0 ≤ b → b ≤ 20000 → rightL b l = true → (∀ x ∈ l, goodX x) ∧ (l.length : Int) ≤ 20000 - b
  | [], b, h0, h1, _ => ⟨by simp, by simp; omega⟩
  | x :: l, b, h0, h1, h => by
    simp only [rightL, Bool.and_eq_true] at h
    obtain ⟨g, hb⟩ := good_of_right x b h0 h.1
    have hi := g.id
    obtain ⟨i1, i2⟩ := good_of_rightL l x.f0 (by omega) (by omega) h.2
    refine ⟨?_, by rw [List.length_cons]; omega⟩
    intro y hy
    rcases List.mem_cons.1 hy with rfl | hy
    · exact g
    · exact i1 y hy
structure goodC (c : S25) : Prop where
  txn : 1 ≤ c.f0 ∧ c.f0 ≤ 2147483647
  all : ∀ x ∈ c.f3, goodX x
  len : 1 ≤ c.f3.length ∧ c.f3.length ≤ 20000
theorem good_of_rightC (c : S25) (h : rightC c = true) : goodC c := by
  simp only [rightC, Bool.and_eq_true, decide_eq_true_eq] at h
  obtain ⟨⟨⟨⟨h1, h2⟩, h3⟩, h4⟩, h5⟩ := h
  obtain ⟨i1, i2⟩ := good_of_rightL c.f3 0 (by omega) (by omega) h5
  exact ⟨⟨h1, h2⟩, i1, h4, by omega⟩
theorem putX_len (x : S46) (g : goodX x) : (putX x).length ≤ 139087 := by
  obtain ⟨_, _, _, n, t, k, b⟩ := g
  have := k.1
  have := b.1
  unfold putX
  split <;> simp only [List.length_append, be_length, textB_len, rowB_len, List.length_nil] <;> omega
theorem flatX_len (l : List S46) (h : ∀ x ∈ l, goodX x) : (l.flatMap putX).length ≤ l.length * 139087 := flat_le putX 139087 l (fun x hx => putX_len x (h x hx))
end Go.Proofs.Ytgndmbkkggjklaa.Jo
namespace Go.Proofs.Ytgndmbkkggjklaa.Jo
set_option linter.unusedVariables false
set_option linter.unusedSimpArgs false
open Go.RowKit Go.Proofs.YtgndmbkkggjklaaW.PrintWords Go.Proofs.YtgndmbkkggjklaaW.PrintMore Go.Proofs.Ytgndmbkkggjklaa.Bs
theorem blk8 {w : World} {g t : Nat} {a b c d e f h i : Value} (q : w.heap[g]? = some (.cells #[a, b, c, d, e, f, h, i] t (0, 0))) : w.cell? ⟨g, 0, none⟩ = some a ∧ w.cell? ⟨g, 1, none⟩ = some b ∧ w.cell? ⟨g, 2, none⟩ = some c ∧ w.cell? ⟨g, 3, none⟩ = some d ∧ w.cell? ⟨g, 4, none⟩ = some e ∧ w.cell? ⟨g, 5, none⟩ = some f ∧ w.cell? ⟨g, 6, none⟩ = some h ∧ w.cell? ⟨g, 7, none⟩ = some i ∧ ∀ j, w.frozen? ⟨g, j, none⟩ = false :=
  ⟨blk_cell q 0, blk_cell q 1, blk_cell q 2, blk_cell q 3, blk_cell q 4, blk_cell q 5, blk_cell q 6, blk_cell q 7, fun j => blk_frozen q j⟩
theorem Grew.next {B : Nat} {w w1 w2 : World} {v v1 v2 : Value} {xs ys : List Int} (h : Grew B w v v1 xs w1) (k : Grew B w1 v1 v2 ys w2) : ∃ A c zs, v2 = .slice A zs.length c ∧ Aside0 (zs = ys) ∧ Aside0 (Grew B w v (.slice A zs.length c) zs w2) := by
  obtain ⟨A, c, rfl⟩ := Kd.R_slice k.row
  exact ⟨A, c, ys, rfl, ⟨rfl⟩, ⟨h.trans k⟩⟩
theorem below_three {w w1 w2 w3 : World} (h : Below w.heap.size w w1) (h2 : Below w1.heap.size w1 w2) (h3 : Below w.heap.size w2 w3) : Below w.heap.size w w3 :=
  (below_step h h2).trans h3
set_option maxRecDepth 100000 in
set_option maxHeartbeats 4000000 in
theorem put_not (w : World) (A : Option Addr) (cp : Nat) (c : S25) (hC : k46.C w A c.f3.length c.f3) (hc : c.f3.length ≤ cp) (hs : ∀ x ∈ c.f3, sized x) (hl : c.f3.length ≤ 9223372036854775807) (hr : rightC c = false) :
    Calls Try.prog 8 #[.agg #[.int .i64 c.f0, .int .u64 c.f1, .int .u64 c.f2, .slice A c.f3.length cp]] w fun e w' => e = .returned (.tuple #[.slice none 0 0, .int .i64 2]) ∧ Below w.heap.size w w' := by
  have C1 := Aside0.mk (fun W (hW : Below w.heap.size w W) => rightc_calls W A cp c (Kd.C_below hC hW) hc hs hl)
  rw [hr] at C1
  obtain ⟨tx, s, t, l⟩ := c
  simp only at C1 hc ⊢
  clear hC hs hr
  go_enter Try.func8, Try.ntmps8
  go_wp2_with fail
  refine (C1.out _ (below_alloc (Below.refl _ _) _)).mono ?_
  rintro e w1 ⟨rfl, hb⟩
  have HB := Aside0.mk (below_step (below_alloc (Below.refl w.heap.size w) _) hb)
  clear hb C1
  go_wp2
  go_ret2
  exact ⟨rfl, HB.out⟩
set_option maxRecDepth 100000 in
set_option maxHeartbeats 4000000 in
theorem put_calls (w : World) (A : Option Addr) (cp : Nat) (c : S25) (hC : k46.C w A c.f3.length c.f3) (hc : c.f3.length ≤ cp) (hs : ∀ x ∈ c.f3, sized x) (hl : c.f3.length ≤ 9223372036854775807) (hr : rightC c = true) (h1 : 0 ≤ c.f1 ∧ c.f1 < 18446744073709551616) (h2 : 0 ≤ c.f2 ∧ c.f2 < 18446744073709551616) :
    Calls Try.prog 8 #[.agg #[.int .i64 c.f0, .int .u64 c.f1, .int .u64 c.f2, .slice A c.f3.length cp]] w fun e w' => (∃ v, e = .returned (.tuple #[v, .int .i64 0]) ∧ (Kd.int .u8).R 5 w' w.heap.size (fun _ => True) v (putC c)) ∧ Below w.heap.size w w' := by
  have C1 := Aside0.mk (fun W (hW : Below w.heap.size w W) => rightc_calls W A cp c (Kd.C_below hC hW) hc hs hl)
  rw [hr] at C1
  have GC := Aside0.mk (good_of_rightC c hr)
  have EC := Aside0.mk (show bodyC c = be 4 c.f0 ++ be 8 c.f1 ++ be 8 c.f2 ++ be 2 c.f3.length ++ c.f3.flatMap putX from rfl)
  have EP := Aside0.mk (show putC c = be 4 (bodyC c).length ++ bodyC c from rfl)
  obtain ⟨tx, s, t, l⟩ := c
  simp only at C1 hc hC EC hl h1 h2 ⊢
  have HC := Aside0.mk hC
  have hl2 : l.length ≤ 20000 := GC.out.len.2
  have htx : 1 ≤ tx ∧ tx ≤ 2147483647 := GC.out.txn
  have GA := Aside0.mk (show ∀ x ∈ l, goodX x from GC.out.all)
  have u1 : IntKind.u64.wrap tx = tx := by rw [IntKind.wrap_u64]; omega
  have u2 : IntKind.u64.wrap (l.length : Int) = l.length := by rw [IntKind.wrap_u64]; omega
  generalize bodyC ⟨tx, s, t, l⟩ = bd at *
  generalize putC ⟨tx, s, t, l⟩ = pc at *
  clear hC hs hr GC hl
  go_enter Try.func8, Try.ntmps8
  go_wp2_with fail
  refine (C1.out _ (below_alloc (Below.refl _ _) _)).mono ?_
  rintro e w1 ⟨rfl, hb⟩
  have q := (hb.block w.heap.size (by simp)).trans (heap_alloc_new w _)
  have hlw := hb.size
  have hsz1 : w.heap.size + 1 ≤ w1.heap.size := by simpa using hlw
  have HB1 := Aside0.mk (below_step (below_alloc (Below.refl w.heap.size w) _) hb)
  obtain ⟨q0, q1, q2, q3, q4⟩ := blk4 q
  have Q := Aside0.mk q
  clear hb C1 q hlw
  have G0 := Aside0.mk (Grew.refl (B := w.heap.size) (Kd.R_nil (Kd.int .u8) 5 w1 w.heap.size (fun _ => True)))
  have HBW := Aside0.mk (show w.heap.size ≤ w1.heap.size from HB1.out.size)
  go_wp2_with fail
  refine (laid1 w.heap.size w1 _ [] 4 tx G0.out.row HBW.out (by omega) (by decide) (by simp)).mono ?_
  rintro e w2 ⟨v2, rfl, hG⟩
  obtain ⟨A2, c2, z2, rfl, N2, G2⟩ := G0.out.next hG
  clear hG q0 q1 q2 q3 q4
  obtain ⟨q0, q1, q2, q3, q4⟩ := blk4 (G2.out.ch.heap Q.out (by simp [Value.ownBlock]))
  have L2 := Aside0.mk (show z2.length = 4 by rw [N2.out]; simp [be_length])
  go_wp2_with fail
  refine (laid_lit w.heap.size w2 _ z2 8 [s, t] #[.int .u64 s, .int .u64 t] rfl G2.out.row (Nat.le_trans HBW.out G2.out.ch.size) (by intro n hn; simp at hn; rcases hn with rfl | rfl <;> omega) (by decide) (by simp) (by rw [L2.out]; decide)).mono ?_
  rintro e w3 ⟨v3, rfl, hG⟩
  obtain ⟨A3, c3, z3, rfl, N3, G3⟩ := G2.out.next hG
  clear hG q0 q1 q2 q3 q4
  obtain ⟨q0, q1, q2, q3, q4⟩ := blk4 (G3.out.ch.heap Q.out (by simp [Value.ownBlock]))
  have L3 := Aside0.mk (show z3.length = 20 by rw [N3.out]; simp [be_length, L2.out])
  go_wp2_with fail
  refine (laid1 w.heap.size w3 _ z3 2 (l.length : Int) G3.out.row (Nat.le_trans HBW.out G3.out.ch.size) (by omega) (by decide) (by rw [L3.out]; decide)).mono ?_
  rintro e w4 ⟨v4, rfl, hG⟩
  obtain ⟨A4, c4, z4, rfl, N4, G4⟩ := G3.out.next hG
  clear hG q0 q1 q2 q3 q4
  obtain ⟨q0, q1, q2, q3, q4⟩ := blk4 (G4.out.ch.heap Q.out (by simp [Value.ownBlock]))
  have L4 := Aside0.mk (show z4.length = 22 by rw [N4.out]; simp [be_length, L3.out])
  have M4 := Aside0.mk (show z4 = be 4 tx ++ be 8 s ++ be 8 t ++ be 2 (l.length : Int) by rw [N4.out, N3.out, N2.out]; simp)
  clear N2 N3 N4 G0 G2 G3 L2 L3
  go_wp2
  go_loopw [4, 32] (fun v4 v32 wr => ∃ (j : Nat) (Ab : Option Addr) (cb : Nat) (zs : List Int), v4 = .slice Ab zs.length cb ∧ v32 = .int .i64 j ∧ j ≤ l.length ∧ Aside0 (zs = z4 ++ (l.take j).flatMap putX) ∧ Aside0 (Grew w.heap.size w1 (.slice none 0 0) (.slice Ab zs.length cb) zs wr)) (fun _ v32 _ => l.length - (intOf v32).toNat)
  case atStart => exact ⟨0, _, _, z4, rfl, rfl, Nat.zero_le _, ⟨by simp⟩, G4⟩
  case round =>
    clear G4 q0 q1 q2 q3 q4
    obtain ⟨j, Ab, cb, zs, rfl, rfl, hj, NZ, G⟩ := hrel
    have LZ := Aside0.mk (show zs.length ≤ 22 + 20000 * 139087 by
      rw [NZ.out, List.length_append, L4.out]
      have h1 := flatX_len (l.take j) (fun x hx => GA.out x (List.mem_of_mem_take hx))
      rw [List.length_take] at h1
      have h2 : min j l.length * 139087 ≤ 20000 * 139087 := Nat.mul_le_mul_right _ (by omega)
      omega)
    have HBr := Aside0.mk (show w.heap.size ≤ wr.heap.size from Nat.le_trans HBW.out G.out.ch.size)
    have HWr := Aside0.mk (show Below w.heap.size w wr from below_step HB1.out (Ch.to_below G.out.ch (fun k hk => by simp [Value.ownBlock] at hk) (Nat.le_refl _)))
    obtain ⟨q0, q1, q2, q3, q4⟩ := blk4 (G.out.ch.heap Q.out (by simp [Value.ownBlock]))
    by_cases hjl : j < l.length
    · obtain ⟨ad, A5, c5, A6, c6, e, k0, k1, k2, k3, k4, k5, k6, k7, l5, g5, l6, g6⟩ := at46 HC.out j hjl
      cases e
      replace k0 := pw_cell_below HWr.out k0
      replace k1 := pw_cell_below HWr.out k1
      replace k2 := pw_cell_below HWr.out k2
      replace k3 := pw_cell_below HWr.out k3
      replace k4 := pw_cell_below HWr.out k4
      replace k5 := pw_cell_below HWr.out k5
      replace k6 := pw_cell_below HWr.out k6
      replace k7 := pw_cell_below HWr.out k7
      have F5 := Aside0.mk (Kd.C_F (Kd.heap_int .i64) g5)
      have F6 := Aside0.mk (Kd.C_F (Kd.heap_int .i64) g6)
      have hg := GA.out _ (List.getElem_mem hjl)
      have hnext := flat_take putX l j hjl
      generalize hx : l[j] = x at *
      obtain ⟨i0, ⟨x0, x1, x2, x3, x4, x5, x6⟩⟩ := x
      obtain ⟨b1, b2, b3, b4, b5, b6, b7⟩ := hg
      simp only at k0 k1 k2 k3 k4 k5 k6 k7 l5 l6 F5 F6 b1 b2 b3 b4 b5 b6 b7
      have B6 := Aside0.mk (show x4.length ≤ 10000 ∧ ∀ n ∈ x4, 0 ≤ n ∧ n ≤ 9223372036854775807 from ⟨by omega, fun n hn => by have := b6.2 n hn; omega⟩)
      have B7 := Aside0.mk (show x5.length ≤ 10000 ∧ ∀ n ∈ x5, 0 ≤ n ∧ n ≤ 9223372036854775807 from ⟨by omega, fun n hn => by have := b7.2 n hn; omega⟩)
      have B6' := b6.1
      have B7' := b7.1
      have HN := Aside0.mk hnext
      have hi0 : (0 : Int) ≤ (j : Int) := by omega
      have hi1 : (j : Int) < (l.length : Int) := by omega
      have v1' : IntKind.u64.wrap i0 = i0 := by rw [IntKind.wrap_u64]; omega
      have v2' : IntKind.u64.wrap x0 = x0 := by rw [IntKind.wrap_u64]; omega
      have v3' : IntKind.u64.wrap x3 = x3 := by rw [IntKind.wrap_u64]; omega
      have hW := below_alloc (Below.refl wr.heap.size wr) (.cells #[.int .i64 i0, .int .i64 x0, .string x1, .string x2, .int .i64 x3, .slice A5 x4.length c5, .slice A6 x5.length c6, .bool x6] 46)
      have hnew := heap_alloc_new wr (.cells #[.int .i64 i0, .int .i64 x0, .string x1, .string x2, .int .i64 x3, .slice A5 x4.length c5, .slice A6 x5.length c6, .bool x6] 46)
      have HNE := Aside0.mk (show some wr.heap.size ≠ (Value.slice Ab zs.length cb).ownBlock from fun e => by have := own_lt (Kd.own_of_R G.out.row) _ e.symm; omega)
      have H0 := Aside0.mk (Grew.refl (Kd.R_below G.out.row hW))
      have G1 := Aside0.mk (G.out.after hW)
      clear g5 g6 hx b6 b7 hnext hj G
      go_wp2_with fail
      have hws : (wr.alloc (.cells #[.int .i64 i0, .int .i64 x0, .string x1, .string x2, .int .i64 x3, .slice A5 x4.length c5, .slice A6 x5.length c6, .bool x6] 46)).heap.size = wr.heap.size + 1 := by simp
      generalize hWW : wr.alloc (.cells #[.int .i64 i0, .int .i64 x0, .string x1, .string x2, .int .i64 x3, .slice A5 x4.length c5, .slice A6 x5.length c6, .bool x6] 46) = W at *
      have HNEW := Aside0.mk hnew
      have HW := Aside0.mk hW
      rw [← hws]
      clear hW hnew hWW hws
      refine (laid1 w.heap.size W _ zs 4 i0 H0.out.row (Nat.le_trans HBr.out HW.out.size) (by omega) (by decide) (by have := LZ.out; omega)).mono ?_
      rintro e w11 ⟨v11, rfl, hG⟩
      obtain ⟨A11, c11, z11, rfl, N11, G11⟩ := H0.out.next hG
      have L11 := Aside0.mk (show z11.length = zs.length + 4 by rw [N11.out, List.length_append, be_length])
      clear hG k0 k1 k2 k3 k4 k5 k6 k7 q0 q1 q2 q3 q4
      obtain ⟨a0, a1, a2, a3, a4, a5, a6, a7, a8⟩ := blk8 (G11.out.heap HNEW.out HNE.out)
      go_wp2_with fail
      refine (laid1 w.heap.size w11 _ z11 1 x0 G11.out.row (Nat.le_trans (Nat.le_trans HBr.out HW.out.size) G11.out.ch.size) (by omega) (by decide) (by rw [L11.out]; have := LZ.out; omega)).mono ?_
      rintro e w12 ⟨v12, rfl, hG⟩
      obtain ⟨A12, c12, z12, rfl, N12, G12⟩ := G11.out.next hG
      clear hG a0 a1 a2 a3 a4 a5 a6 a7 a8
      obtain ⟨a0, a1, a2, a3, a4, a5, a6, a7, a8⟩ := blk8 (G12.out.heap HNEW.out HNE.out)
      have L12 := Aside0.mk (show z12.length = zs.length + 5 by rw [N12.out, List.length_append, be_length, L11.out])
      cases x6 with
      | true =>
        go_wp2
        go_roundw
        case rel => exact ⟨j + 1, A12, c12, z12, rfl, by first | rfl | rw [wrap_succ j (by omega)] | simp, by omega, ⟨by rw [HN.out, N12.out, N11.out, NZ.out]; simp [putX]⟩, ⟨G1.out.trans G12.out⟩⟩
        case measure => first | exact meas_in j _ hjl | exact meas_up j _ hjl (by omega)
      | false =>
        go_wp2_with fail
        refine (laid1 w.heap.size w12 _ z12 4 x3 G12.out.row (Nat.le_trans (Nat.le_trans HBr.out HW.out.size) G12.out.ch.size) (by omega) (by decide) (by rw [L12.out]; have := LZ.out; omega)).mono ?_
        rintro e w13 ⟨v13, rfl, hG⟩
        obtain ⟨A13, c13, z13, rfl, N13, G13⟩ := G12.out.next hG
        clear hG a0 a1 a2 a3 a4 a5 a6 a7 a8
        obtain ⟨a0, a1, a2, a3, a4, a5, a6, a7, a8⟩ := blk8 (G13.out.heap HNEW.out HNE.out)
        have L13 := Aside0.mk (show z13.length = zs.length + 9 by rw [N13.out, List.length_append, be_length, L12.out])
        go_wp2_with fail
        refine (texts_lit w.heap.size w13 _ z13 x1 x2 G13.out.row (Nat.le_trans (Nat.le_trans HBr.out HW.out.size) G13.out.ch.size) b4 b5 (by rw [L13.out]; have := LZ.out; omega)).mono ?_
        rintro e w14 ⟨v14, rfl, hG⟩
        obtain ⟨A14, c14, z14, rfl, N14, G14⟩ := G13.out.next hG
        clear hG a0 a1 a2 a3 a4 a5 a6 a7 a8
        obtain ⟨a0, a1, a2, a3, a4, a5, a6, a7, a8⟩ := blk8 (G14.out.heap HNEW.out HNE.out)
        have L14 := Aside0.mk (show z14.length ≤ zs.length + 200000 by rw [N14.out, List.length_append, List.length_append, textB_len, textB_len, L13.out]; omega)
        have FB := Aside0.mk (show Below w.heap.size w w14 from below_three HWr.out HW.out (Ch.to_below G14.out.ch (fun k hk => own_base (Kd.own_of_R H0.out.row) k hk.symm) (Nat.le_trans HBr.out HW.out.size)))
        go_wp2_with fail
        refine (rows_lit w.heap.size w14 _ z14 A5 A6 c5 c6 x4 x5 (fun k => k < w.heap.size) G14.out.row (Nat.le_trans (Nat.le_trans HBr.out HW.out.size) G14.out.ch.size) (Kd.F_below F5.out FB.out) (Kd.F_below F6.out FB.out) (fun k hk e => by have := own_base (Kd.own_of_R G14.out.row) k e.symm; omega) l5 l6 B6.out B7.out (by have := L14.out; have := LZ.out; omega)).mono ?_
        rintro e w15 ⟨v15, rfl, hG⟩
        obtain ⟨A15, c15, z15, rfl, N15, G15⟩ := G14.out.next hG
        clear hG a0 a1 a2 a3 a4 a5 a6 a7 a8
        go_wp2
        go_roundw
        case rel => exact ⟨j + 1, A15, c15, z15, rfl, by first | rfl | rw [wrap_succ j (by omega)] | simp, by omega, ⟨by rw [HN.out, N15.out, N14.out, N13.out, N12.out, N11.out, NZ.out]; simp [putX]⟩, ⟨G1.out.trans G15.out⟩⟩
        case measure => first | exact meas_in j _ hjl | exact meas_up j _ hjl (by omega)
    · have hjn : j = l.length := by omega
      subst hjn
      have EB := Aside0.mk (show zs = bd by rw [NZ.out, EC.out, M4.out]; simp)
      have u3 : IntKind.u64.wrap (zs.length : Int) = zs.length := by rw [IntKind.wrap_u64]; have := LZ.out; omega
      go_wp2_with fail
      refine (laid1 w.heap.size wr _ [] 4 (zs.length : Int) (Kd.R_nil (Kd.int .u8) 5 wr w.heap.size (fun _ => True)) HBr.out (by omega) (by decide) (by simp)).mono ?_
      rintro e w5 ⟨v5, rfl, hG⟩
      obtain ⟨A5, c5, z5, rfl, N5, G5⟩ := (Grew.refl (Kd.R_nil (Kd.int .u8) 5 wr w.heap.size (fun _ => True))).next hG
      have hRb := G5.out.ch.R G.out.row (fun k _ hk => by simp [Value.ownBlock] at hk)
      have HC5 := Aside0.mk (Kd.R_reads' hRb).2.2
      have L5 := Aside0.mk (show z5.length + zs.length ≤ 140737488355328 by rw [N5.out, List.length_append, be_length]; have := LZ.out; simp only [List.length_nil]; omega)
      clear hG hRb
      go_wp2_with (first | ((with_reducible refine gate_builtin (b := .append) (xs := #[.tmp 82, .tmp 83]) rfl ?_); at_builtin; go_loud (refine gcat w.heap.size rfl (.tmp 82) (.tmp 83) 28 rfl Try.underlying28 info5 _ z5 zs _ _ rfl rfl G5.out.row HC5.out (Nat.le_trans HBr.out G5.out.ch.size) L5.out ?_); intro A9 c9 w9 z9 N9 hG9; have G9 := Aside0.mk (G5.out.trans hG9); clear hG9))
      go_ret2
      exact ⟨⟨_, rfl, by rw [show pc = z9 by rw [EP.out, N9.out, N5.out, EB.out]; simp]; exact G9.out.row⟩, below_step HWr.out (Ch.to_below G9.out.ch (fun k hk => by simp [Value.ownBlock] at hk) (Nat.le_refl _))⟩
end Go.Proofs.Ytgndmbkkggjklaa.Jo
namespace Go.Proofs.Ytgndmbkkggjklaa.Jo
set_option linter.unusedVariables false
set_option linter.unusedSimpArgs false
open Go.RowKit Go.Proofs.YtgndmbkkggjklaaW.PrintWords Go.Proofs.YtgndmbkkggjklaaW.PrintMore Go.Proofs.Ytgndmbkkggjklaa.Bs
theorem set_last (j : Nat) (l : List Int) (v : Int) : (List.replicate (j + 1) 0 ++ l).set j v = List.replicate j 0 ++ v :: l := by
  rw [List.replicate_succ', List.append_assoc, List.set_append_right _ _ (by simp)]; simp
theorem num_len (j i : Nat) (n : Int) (h : i ≤ 8) (hj : j ≤ 8) : (List.replicate (j + 1) (0 : Int) ++ be i n).length = j + 1 + i := by
  rw [List.length_append, be_length, List.length_replicate]
theorem num_one (m n : Int) (k i j : Nat) (l : List Int) (h2 : 0 ≤ m) (h3 : m ≤ 18446744073709551615) (hj : j ≤ 8) (hl : l.length = j + 1 + i) : breviaryref32_number.l0 (k + 1) m l ((j + 1 : Nat) - 1 : Int) = breviaryref32_number.l0 k (m / 256) (l.set j (m % 256)) ((j : Int) - 1) := by
  have h6 : IntKind.u64.wrap (m.tdiv 256) = m / 256 := by
    rw [Int.tdiv_eq_ediv_of_nonneg h2, IntKind.wrap_u64]; omega
  have h7 : m.tmod 256 % 256 = m % 256 := by rw [Int.tmod_eq_emod_of_nonneg h2]; omega
  have h8 : wrap64 (((j + 1 : Nat) : Int) - 1 - 1) = (j : Int) - 1 := by unfold wrap64; omega
  have h9 : (((j + 1 : Nat) : Int) - 1).toNat = j := by omega
  rw [breviaryref32_number.l0, if_pos (by omega), if_pos (by omega), if_pos (by omega), h6, h7, h8, h9]
theorem num_step (n : Int) (size : Nat) (hn : 0 ≤ n) (h1 : n ≤ 18446744073709551615) (hs : size ≤ 8) : ∀ j i, i + j = size → breviaryref32_number.l0 (j + 1) (n / 256 ^ i) (List.replicate j 0 ++ be i n) ((j : Int) - 1) = some (be size n) := by
  intro j
  induction j with
  | zero => intro i hi; obtain rfl : i = size := by omega
            rw [breviaryref32_number.l0, if_neg (by simp)]; simp
  | succ j ih =>
    intro i hi
    have h2 : 0 ≤ n / 256 ^ i := Int.ediv_nonneg hn (Int.le_of_lt (Int.pow_pos (by decide)))
    have h3 : n / 256 ^ i / 256 = n / 256 ^ (i + 1) := by rw [Int.ediv_ediv_of_nonneg (Int.le_of_lt (Int.pow_pos (by decide))), Int.pow_succ]
    have h4 : n / 256 ^ i ≤ n := Int.ediv_le_self _ hn
    rw [num_one (n / 256 ^ i) n (j + 1) i j _ h2 (Int.le_trans h4 h1) (by omega) (num_len j i n (by omega) (by omega)), set_last, h3]
    exact ih (i + 1) (by omega)
theorem num_be (n : Int) (size : Nat) (hn : 0 ≤ n) (h1 : n ≤ 18446744073709551615) (hs : size ≤ 8) : breviaryref32_number.f (size + 1) n size = some (be size n) := by
  have h := num_step n size hn h1 hs size 0 (by omega)
  rw [breviaryref32_number.f, if_pos (by omega), if_pos (by simp; omega), wrap_pred size (by omega), Int.toNat_natCast]
  simpa [be] using h
/-- A new row of bytes is what a call returns. -/
def Gives (w : World) (l : List Int) (e : Ending) (w' : World) : Prop := ∃ v, e = .returned v ∧ (Kd.int .u8).R 5 w' w.heap.size (fun _ => True) v l ∧ Below w.heap.size w w'
theorem number_calls (w : World) (n : Int) (size : Nat) (hn : 0 ≤ n) (h1 : n ≤ 18446744073709551615) (hs : size ≤ 8) : Calls Try.prog 23 #[.int .u64 n, .int .i64 size] w (Gives w (be size n)) :=
  (breviaryref32_number.calls (size + 1) n size (be size n) w (num_be n size hn h1 hs)).mono (fun e w' h => h)
theorem refrow_step (ns : List Int) (hl : ns.length ≤ 10000) (h0 : ∀ n ∈ ns, 0 ≤ n ∧ n ≤ 9223372036854775807) : ∀ (d j : Nat) (xs : List Int), j + d = ns.length → xs.length + d * 4 ≤ 1000000 → breviaryref32_row.l0 (d + 5 + 1) ns xs j = some (xs ++ (ns.drop j).flatMap (be 4)) := by
  intro d
  induction d with
  | zero => intro j xs hj _; rw [breviaryref32_row.l0, if_neg (by omega), show j = ns.length by omega]; simp
  | succ d ih =>
    intro j xs hj hx
    have hjl : j < ns.length := by omega
    have e1 : rd ns (j : Int) = ns[j] := by simp [rd, List.getD, hjl]
    have hn := h0 _ (List.getElem_mem hjl)
    have e2 : IntKind.u64.wrap ns[j] = ns[j] := by rw [IntKind.wrap_u64]; omega
    have e3 : breviaryref32_number.f (d + 5 + 1) ns[j] 4 = some (be 4 ns[j]) := at_rounds (fun k => breviaryref32_number.mono _ _ k) (show 4 + 1 ≤ d + 5 + 1 by omega) (num_be ns[j] 4 hn.1 (by omega) (by decide))
    rw [show d + 1 + 5 + 1 = (d + 5 + 1) + 1 by omega, breviaryref32_row.l0, if_pos (by omega), if_pos (by omega), e1, e2, e3]
    simp only [Option.bind_some]
    rw [if_pos (by rw [be_length]; omega), wrap_succ j (by omega), ih (j + 1) _ (by omega) (by rw [List.length_append, be_length]; omega), List.drop_eq_getElem_cons hjl, List.flatMap_cons, List.append_assoc]
theorem refrow_calls (w : World) (A : Option Addr) (c : Nat) (ns : List Int) (hC : (Kd.int .i64).C w A ns.length ns) (hc : ns.length ≤ c) (hl : ns.length ≤ 10000) (h0 : ∀ n ∈ ns, 0 ≤ n ∧ n ≤ 9223372036854775807) : Calls Try.prog 25 #[.slice A ns.length c] w (Gives w (rowB ns)) := by
  refine (breviaryref32_row.calls (ns.length + 5 + 1) A c ns (rowB ns) w hC hc ?_).mono (fun e w' h => h)
  have e2 : IntKind.u64.wrap (ns.length : Int) = ns.length := by rw [IntKind.wrap_u64]; omega
  have e3 : breviaryref32_number.f (ns.length + 5 + 1) (ns.length : Int) 2 = some (be 2 ns.length) := at_rounds (fun k => breviaryref32_number.mono _ _ k) (show 2 + 1 ≤ ns.length + 5 + 1 by omega) (num_be ns.length 2 (by omega) (by omega) (by decide))
  unfold breviaryref32_row.f
  rw [e2, e3, Option.bind_some]
  have := refrow_step ns hl h0 ns.length 0 (be 2 ns.length) (by omega) (by rw [be_length]; omega)
  simpa [rowB] using this
theorem below_step2 {w w1 w2 : World} {v v' : Value} {xs : List Int} {ys : List Int} (h : Below w.heap.size w w1) (hz : w.heap.size ≤ w1.heap.size) (k : Grew w.heap.size w1 v v' xs w2) (hR : (Kd.int .u8).R 5 w1 w.heap.size (fun _ => True) v ys) : Below w.heap.size w w2 :=
  h.trans (Ch.to_below k.ch (fun i hi => own_base (Kd.own_of_R hR) i hi.symm) hz)
section
variable {P : Program} {ops : Array Oper} {rest : List Oper} {o : Oper} {a : Act} {Q : Exit → Act → World → Prop}
theorem gcat' {W : World} (base : Nat) (hgd : o.guard = none) (s x : Operand) (t : TypeId)
    (ho : o.op = .call { callee := .builtin .append, args := #[s, x], argTypes := #[t, t] })
    (ht : P.underlying t = some (.slice 5)) (hinfo : (P.info? 5).map (fun i => (i.zero, i.size, i.bytes)) = some (some (.int .u8 0), 1, 1))
    (v : Value) (xs ys : List Int) (m : Nat) (hm : ys.length = m) (A' : Option Addr) (c' : Nat) (hs : a.eval s = v) (hx : a.eval x = .slice A' m c')
    (HO : (Kd.int .u8).R 5 W base (fun _ => True) v xs) (HC : (Kd.int .u8).C W A' m ys) (hbase : base ≤ W.heap.size) (hl : xs.length + ys.length ≤ 140737488355328)
    (h : ∀ A c w1 zs, Aside0 (zs = xs ++ ys) → Grew base W v (.slice A zs.length c) zs w1 → wpList P ops Q rest (a.put o.dst (.slice A zs.length c)) w1) :
    wpList P ops Q (o :: rest) a W := by
  subst hm
  exact gcat base hgd s x t ho ht hinfo v xs ys A' c' hs hx HO HC hbase hl h
end
set_option maxRecDepth 100000 in
set_option maxHeartbeats 400000 in
theorem reftext_calls (w : World) (s : ByteArray) (hs : s.size ≤ 65535) : Calls Try.prog 24 #[.string s] w (Gives w (textB s)) := by
  have hu : IntKind.u64.wrap (s.size : Int) = s.size := by rw [IntKind.wrap_u64]; omega
  have C1 := number_calls w (s.size : Int) 2 (by omega) (by omega) (by decide)
  have kb := fun W => print_bytes (P := Try.prog) 9 28 5 Try.underlying9 Try.underlying28 Try.underlying5 s W
  go_enter Try.func24, Try.ntmps24
  go_wp2_with fail
  refine C1.mono ?_
  rintro e w1 ⟨v, rfl, hR, hB⟩
  obtain ⟨A, c, rfl⟩ := Kd.R_slice hR
  have hS := bytes_reads w1 5 s (by omega)
  have hz1 := hB.size
  have hW := bytes_below (Below.refl w1.heap.size w1) (Nat.le_refl _) 5 s
  have HR := Aside0.mk (Kd.R_below hR hW)
  have HC := Aside0.mk (Kd.C_of_reads (h1 := fun _ => rfl) (readsInt_of.1 hS))
  have HBW := Aside0.mk (below_step hB hW)
  have hl : (be 2 (s.size : Int)).length + (bytesOf s).length ≤ 140737488355328 := by rw [be_length, bytesOf_length]; omega
  have HL := Aside0.mk hl
  have HZ := Aside0.mk (Nat.le_trans hB.size hW.size)
  have HT := Aside0.mk (show textB s = be 2 (s.size : Int) ++ bytesOf s from rfl)
  clear C1 hR hS hB hW hz1 hl
  generalize be 2 (s.size : Int) = bl at *
  go_wp2_with (first | ((with_reducible refine gate_builtin (b := .append) (xs := #[.tmp 6, .tmp 8]) rfl ?_); at_builtin; go_loud (refine gcat' w.heap.size rfl (.tmp 6) (.tmp 8) 28 rfl Try.underlying28 info5 _ bl (bytesOf s) _ (bytesOf_length s) _ _ rfl rfl HR.out HC.out HZ.out HL.out ?_); intro A2 c2 w2 zs NZ G2; have GG := Aside0.mk G2; clear G2))
  go_ret
  exact ⟨_, rfl, by rw [HT.out, ← NZ.out]; exact GG.out.row, below_step2 HBW.out HZ.out GG.out HR.out⟩
end Go.Proofs.Ytgndmbkkggjklaa.Jo
