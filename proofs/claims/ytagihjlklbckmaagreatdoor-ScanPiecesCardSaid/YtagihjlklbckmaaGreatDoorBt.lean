import Derived.Test.YtagihjlklbckmaaGreatDoorBs
import Derived.Lib.AppendStr
namespace Go.Proofs.YtagihjlklbckmaaGreatDoor.Bs
set_option linter.unusedVariables false
set_option linter.unusedSimpArgs false
open Go.RowKit Go.Proofs.YtagihjlklbckmaaGreatDoorW.PrintWords
section
variable {P : Program} {ops : Array Oper} {rest : List Oper} {o : Oper} {a : Act} {Q : Exit → Act → World → Prop} {Kc : Act → World → Prop} {α : Type}
end
/-- append(b, s...), s a string: only the row's own block changes; the row left is the same block or a new one. -/
theorem run_str_at {P : Program} {W : World} (base : Nat) (t u ty e : TypeId) (ht : P.underlying t = some (.slice e)) (hu : P.underlying u = some .string) (hinfo : (P.info? e).map (fun i => (i.zero, i.size, i.bytes)) = some (some (.int .u8 0), 1, 1))
    (v : Value) (xs : List Int) (y : ByteArray) (ok : Nat → Prop) (HO : (Kd.int .u8).R e W base ok v xs) (hbase : base ≤ W.heap.size) (hl : xs.length + y.size ≤ 140737488355328) :
    ∃ A c W1, (Builtin.append_ #[t, u] ty #[v, .string y]).run P W = .ok (.slice A (xs.length + y.size) c) W1 ∧ (Kd.int .u8).R e W1 base (fun _ => True) (.slice A (xs.length + y.size) c) (xs ++ bytesOf y) ∧ Ch (fun k => some k = v.ownBlock) W W1 ∧
      (∀ k, (Value.slice A (xs.length + y.size) c).ownBlock = some k → some k = v.ownBlock ∨ W.heap.size ≤ k) := by
  obtain ⟨i, hi, hzz⟩ := Option.map_eq_some_iff.1 hinfo
  simp only [Prod.mk.injEq] at hzz
  obtain ⟨hz0, hz1, hz2⟩ := hzz
  have hown := Kd.own_of_R HO
  have hxl : (encs (Value.int .u8) xs).length = xs.length := by simp [encs]
  obtain ⟨v1, W1, hrun, ho, hg, _⟩ := Lib.run_append_own_string (P := P) (w := W) base t u ty e i ht hu hi hz0 hz1 hz2 v xs.length (encs (Value.int .u8) xs) hown y (by simp only [maxLen]; omega) hl hbase
  obtain ⟨A, c, rfl⟩ := own_slice ho
  refine ⟨A, c, W1, hrun, ?_, ⟨hg.os, hg.tape, hg.output, hg.size, fun k hk hn => hg.block k hk (fun e => hn e)⟩, ?_⟩
  · have hl2 : (xs ++ bytesOf y).length = xs.length + y.size := by rw [List.length_append, bytesOf_length]
    have hc : encs (Value.int .u8) (xs ++ bytesOf y) = encs (Value.int .u8) xs ++ Lib.strCells y := by
      rw [encs_append]; congr 1; simp [encs, bytesOf, Lib.strCells]
    refine Kd.R_of_own ?_ (fun _ _ => trivial)
    rw [hl2, hc]; exact ho
  · intro k hk
    rcases hown.2 with ⟨rfl, hx⟩ | ⟨g, cap, cur, rfl, hbg, hgg, hnc, hcm, hcs, htake⟩
    · by_cases hm : y.size = 0
      · have hf := Lib.run_firstCells_string (P := P) (w := W) 1 y
        rw [hm] at hf
        have h2 : (Builtin.append_ #[t, u] ty #[.slice none 0 0, .string y]).run P W = .ok (.slice none 0 0) W := by
          simp [Builtin.append_, run_underlying ht, run_underlying hu, sizeOf, typeInfo, hi, hz1, Builtin.lenOf, hm, hf]
        rw [h2] at hrun
        injection hrun with h3 _
        rw [← h3] at hk
        simp [Value.ownBlock] at hk
      · have h2 := run_append_nil_string (P := P) W t u ty e i (.int .u8 0) ht hu hi hz0 y (by omega) (by omega) (by rw [hz2]; omega)
        rw [h2] at hrun
        injection hrun with h3 _
        rw [← h3] at hk
        simp [Value.ownBlock] at hk
        exact .inr (by omega)
    · by_cases hroom : xs.length + y.size ≤ cap
      · have hcs' : cur.size = cap := by simpa using hcs
        have h2 := Lib.run_append_room_string (P := P) (w := W) t u ty e i ht hu hi hz1 g xs.length cap cur hgg y hroom (by omega)
        rw [h2] at hrun
        injection hrun with h3 _
        rw [← h3] at hk
        exact .inl hk.symm
      · have holds : ∀ j u, (encs (Value.int .u8) xs)[j]? = some u → W.cell? ((⟨g, 0, none⟩ : Addr).add j) = some u := hown.cells (g := g) rfl
        have h2 := Lib.run_append_grow_string (P := P) (w := W) t u ty e i (.int .u8 0) ht hu hi hz0 ⟨g, 0, none⟩ xs.length cap (encs (Value.int .u8) xs) (by rw [hz1, hxl, Nat.mul_one]) holds y (by omega) (by omega) (by rw [hz2]; exact growslice_fits (by omega) (by omega))
        rw [h2] at hrun
        injection hrun with h3 _
        rw [← h3] at hk
        simp [Value.ownBlock] at hk
        exact .inr (by omega)
section
variable {P : Program} {ops : Array Oper} {rest : List Oper} {o : Oper} {a : Act} {Q : Exit → Act → World → Prop} {Kc : Act → World → Prop}
theorem str_step {W : World} (base : Nat) (hw : Region.wanted o (yielded ops a.tmps) = true) (s x : Operand) (t u e : TypeId)
    (ho : o.op = .call { callee := .builtin .append, args := #[s, x], argTypes := #[t, u] })
    (ht : P.underlying t = some (.slice e)) (hu : P.underlying u = some .string) (hinfo : (P.info? e).map (fun i => (i.zero, i.size, i.bytes)) = some (some (.int .u8 0), 1, 1))
    (v : Value) (xs : List Int) (y : ByteArray) (ok : Nat → Prop) (hs : a.eval s = v) (hx : a.eval x = .string y) (HO : (Kd.int .u8).R e W base ok v xs) (hbase : base ≤ W.heap.size) (hl : xs.length + y.size ≤ 140737488355328)
    (h : ∀ A c W1, (Kd.int .u8).R e W1 base (fun _ => True) (.slice A (xs.length + y.size) c) (xs ++ bytesOf y) → Ch (fun k => some k = v.ownBlock) W W1 → (∀ k, (Value.slice A (xs.length + y.size) c).ownBlock = some k → some k = v.ownBlock ∨ W.heap.size ≤ k) → Kc (a.put o.dst (.slice A (xs.length + y.size) c)) W1) :
    if Region.wanted o (yielded ops a.tmps) = true then Oper.wp P o a W Kc Q else Kc (a.put o.dst undef) W := by
  obtain ⟨A, c, W1, hrun, h1, h2, h3⟩ := run_str_at (P := P) base t u o.type e ht hu hinfo v xs y ok HO hbase hl
  rw [if_pos hw]
  unfold Oper.wp execOp
  simp only [ho, resolve, invoke, builtin, Sem.run_bind, Sem.run_pure, Result.andThen_ok, List.map_toArray, List.map_cons, List.map_nil, hs, hx, hrun]
  exact h A c W1 h1 h2 h3
end
end Go.Proofs.YtagihjlklbckmaaGreatDoor.Bs
