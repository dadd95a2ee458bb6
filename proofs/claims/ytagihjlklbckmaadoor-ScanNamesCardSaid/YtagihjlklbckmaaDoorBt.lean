import Derived.Test.YtagihjlklbckmaaDoorBs
import Derived.Lib.AppendStr
namespace Go.Proofs.YtagihjlklbckmaaDoor.Bs
set_option linter.unusedVariables false
set_option linter.unusedSimpArgs false
open Go.RowKit Go.Proofs.YtagihjlklbckmaaDoorW.PrintWords
/-- A row that is owned, its elements' cells known with their footprint: it is read, and what it leads to lies in ok or in its own block. -/
theorem F_of_ownsRow {α : Type} {d : Kd α} {e : Nat} {w : World} {base : Nat} {ok : Nat → Prop} {A : Option Addr} {n c : Nat} {xs : List α} {inner : List Value}
    (ho : w.ownsRow base e d.sz (.slice A n c) n inner) (hn : xs.length = n) (hr : Reps (fun x cs => Kd.FK d w ok x cs) d.sz xs inner) : Kd.F d w (fun k => ok k ∨ some k = (Value.slice A n c).ownBlock) A n xs := fun W' hW => by
  have h1 : W'.ownsRow base e d.sz (.slice A n c) n inner := own_move ho (fun k hk => hW k (.inr hk.symm) (own_lt ho k hk))
  have h2 : Reps (d.K W') d.sz xs inner := hr.imp_ (fun x cs hx => hx W' (fun k hk hlt => hW k (.inl hk) hlt))
  obtain ⟨A2, c2, e2, h3⟩ := own_reads_row h1 h2 hn
  injection e2 with e2
  subst e2
  exact h3
/-- append(v, ys...) where v has no room left: a new row, or v itself. -/
theorem run_cat {P : Program} {α : Type} (d : Kd α) (t ty e : TypeId) (z : Value) (bytes : Nat)
    (ht : P.underlying t = some (.slice e)) (hinfo : (P.info? e).map (fun i => (i.zero, i.size, i.bytes)) = some (some z, d.sz, bytes)) (hz : z.cells.size = d.sz ∧ 0 < d.sz ∧ 0 < bytes)
    {W : World} {okx oky : Nat → Prop} {A A' : Option Addr} {n m c : Nat} {xs ys : List α} (HX : Kd.F d W okx A n xs) (HY : Kd.F d W oky A' m ys) (hmc : m ≤ c) (hl : (n + m) * bytes ≤ 140737488355328) :
    ∃ A1 c1 W1, (Builtin.append_ #[t, t] ty #[.slice A n n, .slice A' m c]).run P W = .ok (.slice A1 (n + m) c1) W1 ∧ n + m ≤ c1 ∧ Kd.F d W1 (fun k => okx k ∨ oky k ∨ W.heap.size ≤ k) A1 (n + m) (xs ++ ys) ∧ Below W.heap.size W W1 := by
  obtain ⟨i0, hi, hzz⟩ := Option.map_eq_some_iff.1 hinfo
  simp only [Prod.mk.injEq] at hzz
  obtain ⟨hz0, hz1, hz2⟩ := hzz
  have hnx := Kd.F_len HX
  have hmy := Kd.F_len HY
  rcases Nat.eq_zero_or_pos m with h0 | hp
  · subst h0
    obtain rfl : ys = [] := List.eq_nil_of_length_eq_zero hmy
    refine ⟨A, n, W, ?_, Nat.le_refl _, by rw [List.append_nil]; exact Kd.F_mono HX (fun k hk => .inl hk), Below.refl _ _⟩
    cases A <;> cases A' <;> simp [Builtin.append_, run_underlying ht, sizeOf, typeInfo, hi, Builtin.lenOf, Builtin.firstCells, storeCells, loadCells, loadCellsFrom]
  · have hRY := Kd.F_rows HY
    obtain ⟨ad, rfl, _⟩ := hRY.2.2 hp
    obtain ⟨news, hnr, hnc⟩ := ReadsRow.inner_ hRY
    have hone : ∀ u ∈ news, u.oneCell' = true := by
      intro u hu
      obtain ⟨q, hq, rfl⟩ := List.mem_iff_getElem.1 hu
      have hql : q / d.sz < ys.length := by
        rw [Nat.div_lt_iff_lt_mul hz.2.1, ← hnr.1]; exact hq
      have hc := hnr.2 (q / d.sz) _ (List.getElem?_eq_getElem hql)
      refine d.K_one (Kd.FK_now hc) _ ?_
      rw [List.mem_iff_getElem?]
      refine ⟨q % d.sz, ?_⟩
      rw [List.getElem?_take, if_pos (Nat.mod_lt _ hz.2.1), List.getElem?_drop, Nat.mul_comm, Nat.div_add_mod, List.getElem?_eq_getElem hq]
    have hlen : n + m ≤ 140737488355328 := Nat.le_trans (Nat.le_mul_of_pos_right _ hz.2.2) hl
    have hml : n + m ≤ maxLen := by simp only [maxLen]; omega
    have fin : ∀ olds v1 W1, Reps (fun x cs => Kd.FK d W okx x cs) d.sz xs olds → W1.ownsRow W.heap.size e d.sz v1 (n + m) (olds ++ news) → Below W.heap.size W W1 → (Builtin.append_ #[t, t] ty #[.slice A n n, .slice (some ad) m c]).run P W = .ok v1 W1 →
        ∃ A1 c1 W1, (Builtin.append_ #[t, t] ty #[.slice A n n, .slice (some ad) m c]).run P W = .ok (.slice A1 (n + m) c1) W1 ∧ n + m ≤ c1 ∧ Kd.F d W1 (fun k => okx k ∨ oky k ∨ W.heap.size ≤ k) A1 (n + m) (xs ++ ys) ∧ Below W.heap.size W W1 := by
      intro olds v1 W1 hor ho hb hrun
      obtain ⟨A1, c1, rfl⟩ := own_slice ho
      refine ⟨A1, c1, W1, hrun, own_le ho, ?_, hb⟩
      have hre : Reps (fun x cs => Kd.FK d W1 (fun k => okx k ∨ oky k) x cs) d.sz (xs ++ ys) (olds ++ news) := Kd.reps_append (hor.imp_ (fun x cs h => Kd.FK_below (Kd.FK_mono h (fun k hk => .inl hk)) hb)) (hnr.imp_ (fun x cs h => Kd.FK_below (Kd.FK_mono h (fun k hk => .inr hk)) hb))
      refine Kd.F_mono (F_of_ownsRow ho (by rw [List.length_append, hnx, hmy]) hre) (fun k hk => ?_)
      rcases hk with (hk | hk) | hk
      · exact .inl hk
      · exact .inr (.inl hk)
      · exact .inr (.inr (own_base ho k hk.symm))
    rcases A with _ | b
    · have h0 : n = 0 := by
        rcases Nat.eq_zero_or_pos n with h0 | h0
        · exact h0
        · obtain ⟨_, h, _⟩ := (Kd.F_now HX).2.2 h0; cases h
      subst h0
      obtain rfl : xs = [] := List.eq_nil_of_length_eq_zero hnx
      obtain ⟨v1, W1, hrun, ho, hg, _⟩ := run_append_own (P := P) (w := W) W.heap.size t ty e i0 z d.sz bytes ht hi hz0 hz1 hz2 hz.1 hz.2.1 (.slice none 0 0) 0 [] (own_nil _ _ _ _) ad m c news (by rw [hnr.1, hmy]) hnc hone hml hl (Nat.le_refl _)
      exact fin [] v1 W1 (Reps.none _ _) ho ⟨hg.os, hg.tape, hg.output, hg.size, fun k hk => hg.block k hk (by simp [Value.ownBlock])⟩ hrun
    · have holds : ∃ olds, Reps (fun x cs => Kd.FK d W okx x cs) d.sz xs olds ∧ ∀ j u, olds[j]? = some u → W.cell? (b.add j) = some u := ReadsRow.inner_ (Kd.F_rows HX)
      obtain ⟨olds, hor, hoc⟩ := holds
      obtain ⟨v1, W1, hrun, ho, hg⟩ := run_append_arg_grows (P := P) (w := W) t ty e i0 z d.sz bytes ht hi hz0 hz1 hz2 hz.1 hz.2.1 b n n olds (by rw [hor.1, hnx]) hoc ad m c news (by rw [hnr.1, hmy]) hnc (by omega) hml hl
      exact fin olds v1 W1 hor ho ⟨hg.os, hg.tape, hg.output, hg.size, fun k hk => hg.block k hk (by simp)⟩ hrun
section
variable {P : Program} {ops : Array Oper} {rest : List Oper} {o : Oper} {a : Act} {Q : Exit → Act → World → Prop} {Kc : Act → World → Prop} {α : Type}
theorem cat_step (d : Kd α) {W : World} (hw : Region.wanted o (yielded ops a.tmps) = true) (s x : Operand) (t e : TypeId) (z : Value) (bytes : Nat)
    (ho : o.op = .call { callee := .builtin .append, args := #[s, x], argTypes := #[t, t] })
    (ht : P.underlying t = some (.slice e)) (hinfo : (P.info? e).map (fun i => (i.zero, i.size, i.bytes)) = some (some z, d.sz, bytes)) (hz : z.cells.size = d.sz ∧ 0 < d.sz ∧ 0 < bytes)
    (xs ys : List α) (A A' : Option Addr) (n m c : Nat) (okx oky : Nat → Prop) (hs : a.eval s = .slice A n n) (hx : a.eval x = .slice A' m c) (HX : Kd.F d W okx A n xs) (HY : Kd.F d W oky A' m ys) (hmc : m ≤ c) (hl : (n + m) * bytes ≤ 140737488355328)
    (h : ∀ A1 c1 W1, n + m ≤ c1 → Kd.F d W1 (fun k => okx k ∨ oky k ∨ W.heap.size ≤ k) A1 (n + m) (xs ++ ys) → Below W.heap.size W W1 → Kc (a.put o.dst (.slice A1 (n + m) c1)) W1) :
    if Region.wanted o (yielded ops a.tmps) = true then Oper.wp P o a W Kc Q else Kc (a.put o.dst undef) W := by
  obtain ⟨A1, c1, W1, hrun, h1, h2, h3⟩ := run_cat (P := P) d t o.type e z bytes ht hinfo hz HX HY hmc hl
  rw [if_pos hw]
  unfold Oper.wp execOp
  simp only [ho, resolve, invoke, builtin, Sem.run_bind, Sem.run_pure, Result.andThen_ok, List.map_toArray, List.map_cons, List.map_nil, hs, hx, hrun]
  exact h A1 c1 W1 h1 h2 h3
theorem cat_list (d : Kd α) {W : World} (hgd : o.guard = none) (s x : Operand) (t e : TypeId) (z : Value) (bytes : Nat)
    (ho : o.op = .call { callee := .builtin .append, args := #[s, x], argTypes := #[t, t] })
    (ht : P.underlying t = some (.slice e)) (hinfo : (P.info? e).map (fun i => (i.zero, i.size, i.bytes)) = some (some z, d.sz, bytes)) (hz : z.cells.size = d.sz ∧ 0 < d.sz ∧ 0 < bytes)
    (xs ys : List α) (A A' : Option Addr) (n m c : Nat) (okx oky : Nat → Prop) (hs : a.eval s = .slice A n n) (hx : a.eval x = .slice A' m c) (HX : Kd.F d W okx A n xs) (HY : Kd.F d W oky A' m ys) (hmc : m ≤ c) (hl : (n + m) * bytes ≤ 140737488355328)
    (h : ∀ A1 c1 W1, n + m ≤ c1 → Kd.F d W1 (fun k => okx k ∨ oky k ∨ W.heap.size ≤ k) A1 (n + m) (xs ++ ys) → Below W.heap.size W W1 → wpList P ops Q rest (a.put o.dst (.slice A1 (n + m) c1)) W1) :
    wpList P ops Q (o :: rest) a W := by
  refine wpList_plain hgd fun K hK => ?_
  have hw : Region.wanted o (yielded ops a.tmps) = true := by simp [Region.wanted, hgd]
  have := cat_step (ops := ops) (Q := Q) (Kc := K) d hw s x t e z bytes ho ht hinfo hz xs ys A A' n m c okx oky hs hx HX HY hmc hl (fun A1 c1 W1 h1 h2 h3 => hK _ _ (h A1 c1 W1 h1 h2 h3))
  rwa [if_pos hw] at this
end
/-- append(b, s...), s a string: only the row's own block changes; the row left is the same block or a new one. -/
theorem run_str_at {P : Program} {W : World} (base : Nat) (t u ty e : TypeId) (ht : P.underlying t = some (.slice e)) (hu : P.underlying u = some .string) (hinfo : (P.info? e).map (fun i => (i.zero, i.size, i.bytes)) = some (some (.int .u8 0), 1, 1))
    (v : Value) (xs : List Int) (y : ByteArray) (ok : Nat → Prop) (HO : (Kd.int .u8).R e W base ok v xs) (hbase : base ≤ W.heap.size) (hl : xs.length + y.size ≤ 140737488355328) :
    ∃ A c W1, (Builtin.append_ #[t, u] ty #[v, .string y]).run P W = .ok (.slice A (xs.length + y.size) c) W1 ∧ (Kd.int .u8).R e W1 base (fun _ => True) (.slice A (xs.length + y.size) c) (xs ++ bytesOf y) ∧ Ch (fun k => some k = v.ownBlock) W W1 ∧
      (∀ k, (Value.slice A (xs.length + y.size) c).ownBlock = some k → some k = v.ownBlock ∨ W.heap.size ≤ k) := by
  obtain ⟨i, hi, hzz⟩ := Option.map_eq_some_iff.1 hinfo
  simp only [Prod.mk.injEq] at hzz
  obtain ⟨hz0, hz1, hz2⟩ := hzz
  have hown := Kd.own_of_R HO
  have hxl : (encs (Value.int .u8) xs).length = xs.length := by simp [encs]
  obtain ⟨v1, W1, hrun, ho, hg, _⟩ := Lib.run_append_own_string (P := P) (w := W) base t u ty e i ht hu hi hz0 hz1 hz2 v xs.length (encs (Value.int .u8) xs) hown y (by simp only [maxLen]; omega) hl hbase
  obtain ⟨A, c, rfl⟩ := own_slice ho
  refine ⟨A, c, W1, hrun, ?_, ⟨hg.os, hg.tape, hg.output, hg.size, fun k hk hn => hg.block k hk (fun e => hn e)⟩, ?_⟩
  · have hl2 : (xs ++ bytesOf y).length = xs.length + y.size := by rw [List.length_append, bytesOf_length]
    have hc : encs (Value.int .u8) (xs ++ bytesOf y) = encs (Value.int .u8) xs ++ Lib.strCells y := by
      rw [encs_append]; congr 1; simp [encs, bytesOf, Lib.strCells]
    refine Kd.R_of_own ?_ (fun _ _ => trivial)
    rw [hl2, hc]; exact ho
  · intro k hk
    rcases hown.2 with ⟨rfl, hx⟩ | ⟨g, cap, cur, rfl, hbg, hgg, hnc, hcm, hcs, htake⟩
    · by_cases hm : y.size = 0
      · have hf := Lib.run_firstCells_string (P := P) (w := W) 1 y
        rw [hm] at hf
        have h2 : (Builtin.append_ #[t, u] ty #[.slice none 0 0, .string y]).run P W = .ok (.slice none 0 0) W := by
          simp [Builtin.append_, run_underlying ht, run_underlying hu, sizeOf, typeInfo, hi, hz1, Builtin.lenOf, hm, hf]
        rw [h2] at hrun
        injection hrun with h3 _
        rw [← h3] at hk
        simp [Value.ownBlock] at hk
      · have h2 := run_append_nil_string (P := P) W t u ty e i (.int .u8 0) ht hu hi hz0 y (by omega) (by omega) (by rw [hz2]; omega)
        rw [h2] at hrun
        injection hrun with h3 _
        rw [← h3] at hk
        simp [Value.ownBlock] at hk
        exact .inr (by omega)
    · by_cases hroom : xs.length + y.size ≤ cap
      · have hcs' : cur.size = cap := by simpa using hcs
        have h2 := Lib.run_append_room_string (P := P) (w := W) t u ty e i ht hu hi hz1 g xs.length cap cur hgg y hroom (by omega)
        rw [h2] at hrun
        injection hrun with h3 _
        rw [← h3] at hk
        exact .inl hk.symm
      · have holds : ∀ j u, (encs (Value.int .u8) xs)[j]? = some u → W.cell? ((⟨g, 0, none⟩ : Addr).add j) = some u := hown.cells (g := g) rfl
        have h2 := Lib.run_append_grow_string (P := P) (w := W) t u ty e i (.int .u8 0) ht hu hi hz0 ⟨g, 0, none⟩ xs.length cap (encs (Value.int .u8) xs) (by rw [hz1, hxl, Nat.mul_one]) holds y (by omega) (by omega) (by rw [hz2]; exact growslice_fits (by omega) (by omega))
        rw [h2] at hrun
        injection hrun with h3 _
        rw [← h3] at hk
        simp [Value.ownBlock] at hk
        exact .inr (by omega)
section
variable {P : Program} {ops : Array Oper} {rest : List Oper} {o : Oper} {a : Act} {Q : Exit → Act → World → Prop} {Kc : Act → World → Prop}
theorem str_step {W : World} (base : Nat) (hw : Region.wanted o (yielded ops a.tmps) = true) (s x : Operand) (t u e : TypeId)
    (ho : o.op = .call { callee := .builtin .append, args := #[s, x], argTypes := #[t, u] })
    (ht : P.underlying t = some (.slice e)) (hu : P.underlying u = some .string) (hinfo : (P.info? e).map (fun i => (i.zero, i.size, i.bytes)) = some (some (.int .u8 0), 1, 1))
    (v : Value) (xs : List Int) (y : ByteArray) (ok : Nat → Prop) (hs : a.eval s = v) (hx : a.eval x = .string y) (HO : (Kd.int .u8).R e W base ok v xs) (hbase : base ≤ W.heap.size) (hl : xs.length + y.size ≤ 140737488355328)
    (h : ∀ A c W1, (Kd.int .u8).R e W1 base (fun _ => True) (.slice A (xs.length + y.size) c) (xs ++ bytesOf y) → Ch (fun k => some k = v.ownBlock) W W1 → (∀ k, (Value.slice A (xs.length + y.size) c).ownBlock = some k → some k = v.ownBlock ∨ W.heap.size ≤ k) → Kc (a.put o.dst (.slice A (xs.length + y.size) c)) W1) :
    if Region.wanted o (yielded ops a.tmps) = true then Oper.wp P o a W Kc Q else Kc (a.put o.dst undef) W := by
  obtain ⟨A, c, W1, hrun, h1, h2, h3⟩ := run_str_at (P := P) base t u o.type e ht hu hinfo v xs y ok HO hbase hl
  rw [if_pos hw]
  unfold Oper.wp execOp
  simp only [ho, resolve, invoke, builtin, Sem.run_bind, Sem.run_pure, Result.andThen_ok, List.map_toArray, List.map_cons, List.map_nil, hs, hx, hrun]
  exact h A c W1 h1 h2 h3
end
/-- A store of what is there already changes nothing. -/
theorem Ch.same {S : Nat → Prop} {w w1 : World} (h : Ch S w w1) {a : Addr} {v : Value} (hc : w1.cell? a = some v) : Ch S w (w1.setCell a v) := by
  refine h.trans ⟨rfl, rfl, rfl, by simp [World.setCell], fun k _ _ => ?_⟩
  by_cases hk : k = a.block
  · subst hk
    simp only [World.setCell, Array.getElem?_modify, if_pos rfl]
    unfold World.cell? at hc
    split at hc
    · rename_i cs t fr heq
      rw [heq]
      split at hc
      · cases hc
      · rename_i hs
        have he : cs.setIfInBounds a.off v = cs := by
          apply Array.ext_getElem?
          intro i
          rw [Array.getElem?_setIfInBounds]
          split
          · rename_i hi; subst hi
            split
            · exact hc.symm
            · rename_i h2; rw [Array.getElem?_eq_none (by omega)] at hc; cases hc
          · rfl
        simp [hs, he]
    · cases hc
  · exact Below.heap_setCell _ _ _ _ hk
end Go.Proofs.YtagihjlklbckmaaDoor.Bs
