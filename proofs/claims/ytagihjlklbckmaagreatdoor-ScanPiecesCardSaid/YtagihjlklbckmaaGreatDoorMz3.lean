import Derived.Test.YtagihjlklbckmaaGreatDoorMz2
import Derived.Defers
import Derived.Recover
import Derived.KernelRfl
import Derived.Lib.ValidLaws
import Derived.Test.YtagihjlklbckmaaGreatDoorScPf
namespace Go.Proofs.YtagihjlklbckmaaGreatDoor.Sc
set_option linter.unusedVariables false
set_option linter.unusedSimpArgs false
open Go.RowKit Go.Proofs.YtagihjlklbckmaaGreatDoorW.PrintWords Go.Proofs.YtagihjlklbckmaaGreatDoorW.PrintLast Go.Proofs.YtagihjlklbckmaaGreatDoorW.PrintMore Go.Proofs.YtagihjlklbckmaaGreatDoor.Bs
theorem tassert (w : World) (k : Int) : (Instr.typeAssert (.iface 35 (.agg #[.int .i64 k])) 20 35 true).run Tryz.prog w = .ok (.tuple #[.agg #[.int .i64 k], .bool true]) w := by
  simp [Instr.typeAssert, run_underlying Tryz.underlying35]
set_option maxRecDepth 100000 in
set_option maxHeartbeats 4000000 in
theorem catch_idle (lb eb : Nat) (w : World) :
    CallsD Tryz.prog 9 #[.pointer (some ⟨lb, 0, none⟩), .pointer (some ⟨eb, 0, none⟩)] .returning w fun e u' w' => e = .returned (.tuple #[]) ∧ u' = .returning ∧ w' = w := by
  have q0 : ∀ (w : World), (binOp .neq 20 .nilIface .nilIface).run Tryz.prog w = .ok (.bool false) w := fun w => by kernel_rfl
  refine callsD_of_wpS Tryz.func9 rfl fun c₀ cs hu => ?_
  apply wpS_seq
  apply wpS_region
  simp [wpOpsS, go_sem, recoverD, hu, Tryz.ntmps9, Exit.thenS]
  refine wpS_of_wp ?_
  go_wp2
  cases c₀
  simp_all [bodyPostS, results, Tryz.results9]
set_option maxRecDepth 100000 in
set_option maxHeartbeats 400000 in
theorem catch_lost (lb eb : Nat) (k : Int) (v0 v1 : Value) (w : World) (older : List PanicEntry) (hl : w.heap[lb]? = some (.cells #[v0] 23 (0, 0))) (he : w.heap[eb]? = some (.cells #[v1] 24 (0, 0))) (hne : ¬ lb = eb) :
    CallsD Tryz.prog 9 #[.pointer (some ⟨lb, 0, none⟩), .pointer (some ⟨eb, 0, none⟩)] (.panicking ({ v := .iface 35 (.agg #[.int .i64 k]), recovered := false } :: older)) w fun e u' w' =>
      e = .returned (.tuple #[]) ∧ u' = .panicking ({ v := .iface 35 (.agg #[.int .i64 k]), recovered := true } :: older) ∧ w'.heap[lb]? = some (.cells #[.slice none 0 0] 23 (0, 0)) ∧ w'.heap[eb]? = some (.cells #[.int .i64 k] 24 (0, 0)) ∧ Ch (fun j => j = lb ∨ j = eb) w w' := by
  have q0 : ∀ (w : World), (binOp .neq 20 (.iface 35 (.agg #[.int .i64 k])) .nilIface).run Tryz.prog w = .ok (.bool true) w := fun w => by kernel_rfl
  have hta := tassert
  have hlt := blk_lt hl
  have hlt2 := blk_lt he
  have HL := Aside0.mk hl
  have HE := Aside0.mk he
  clear hl he
  refine callsD_of_wpS Tryz.func9 rfl fun c₀ cs hu => ?_
  apply wpS_seq
  apply wpS_region
  simp [wpOpsS, go_sem, recoverD, hu, Tryz.ntmps9, Exit.thenS]
  refine wpS_of_wp ?_
  change Code.wp _ _ _ { tmps := #[.pointer (some ⟨lb, 0, none⟩), .pointer (some ⟨eb, 0, none⟩), .iface 35 (.agg #[.int .i64 k]), undef, undef, .iface 35 (.agg #[.int .i64 k]), undef, undef, undef, undef, undef, undef, undef, undef, undef, undef, undef, undef], defers := [] } _
  go_upto_region 5 with (fail)
  obtain ⟨W1, hW1⟩ : ∃ x, x = w.alloc (.cells #[.int .i64 k] 35) := ⟨_, rfl⟩
  obtain ⟨nb, hnb⟩ : ∃ x, x = w.heap.size := ⟨_, rfl⟩
  have hb1 : Below w.heap.size w W1 := hW1 ▸ below_alloc (Below.refl _ _) _
  have hq1 : W1.heap[nb]? = some (.cells #[.int .i64 k] 35 (0, 0)) := hnb ▸ hW1 ▸ heap_alloc_new w _
  have HL1 := Aside0.mk ((hb1.block _ hlt).trans HL.out)
  have HE1 := Aside0.mk ((hb1.block _ hlt2).trans HE.out)
  have HC1 := Aside0.mk (show Ch (fun j => j = lb ∨ j = eb) w W1 from (Ch.refl _ w).below hb1)
  obtain ⟨a0, a1⟩ := blk1 hq1
  obtain ⟨b0, b1⟩ := blk1 HL1.out
  obtain ⟨c0, c1⟩ := blk1 HE1.out
  have n1 : ¬ nb = lb := by omega
  have n2 : ¬ nb = eb := by omega
  have n3 : ¬ eb = lb := fun e => hne e.symm
  have n1' : ¬ lb = nb := by omega
  have n2' : ¬ eb = nb := by omega
  rw [← hW1, ← hnb]
  clear hW1 hb1 hq1 hnb
  go_region
  obtain ⟨W2, hW2⟩ : ∃ x, x = ((W1.setCell ⟨lb, 0, none⟩ (.slice none 0 0)).setCell ⟨eb, 0, none⟩ (.int .i64 k)).drew := ⟨_, rfl⟩
  have hA : Ch (fun j => j = lb ∨ j = eb) w W2 := hW2 ▸ ((HC1.out.setCell (p := ⟨lb, 0, none⟩) (.inl (.inl rfl)) _).setCell (p := ⟨eb, 0, none⟩) (.inl (.inr rfl)) _).drew
  have h1 : W2.heap[lb]? = some (.cells #[.slice none 0 0] 23 (0, 0)) := hW2 ▸ (Below.heap_setCell _ ⟨eb, 0, none⟩ _ lb hne).trans (blk_upd 0 _ HL1.out rfl)
  have h2 : W2.heap[eb]? = some (.cells #[.int .i64 k] 24 (0, 0)) := hW2 ▸ blk_upd 0 _ ((Below.heap_setCell W1 ⟨lb, 0, none⟩ (.slice none 0 0) eb n3).trans HE1.out) rfl
  rw [← hW2]
  clear hW2
  simp +zetaDelta [bodyPostS, results, Tryz.results9, h1, h2, hA]
end Go.Proofs.YtagihjlklbckmaaGreatDoor.Sc
namespace Go.Proofs.YtagihjlklbckmaaGreatDoor.Sc
set_option linter.unusedVariables false
set_option linter.unusedSimpArgs false
open Go.RowKit Go.Proofs.YtagihjlklbckmaaGreatDoorW.PrintWords Go.Proofs.YtagihjlklbckmaaGreatDoorW.PrintLast Go.Proofs.YtagihjlklbckmaaGreatDoorW.PrintMore Go.Proofs.YtagihjlklbckmaaGreatDoor.Bs
theorem mustD_rest {c : UInt8} {s r : LB} (h : mustM c s = .ok r) : r.length + 1 = s.length := by
  unfold mustM at h
  repeat' split at h
  all_goals first | (cases h; done) | (cases h; rw [List.length_cons])
theorem startF_rest : ∀ (n : Nat) (l : List (LB × LB)) (s q : LB) (r : List (LB × LB) × Bool), startF n l s = .ok (r, q) → q.length ≤ s.length
  | 0, l, s, q, r, h => by cases h
  | n + 1, l, s, q, r, h => by
    rw [startF_succ] at h
    have hd : (s.drop (spanN spaceR s)).length ≤ s.length := by rw [List.length_drop]; omega
    generalize s.drop (spanN spaceR s) = s6 at h hd
    generalize s.take (spanN spaceR s) = t at h
    unfold startS at h
    split at h
    · cases h
    · rename_i c r6
      rw [List.length_cons] at hd
      split at h
      · split at h
        · cases h
        · rename_i hm
          cases h
          have := mustD_rest hm
          omega
      · split at h
        · cases h; omega
        · split at h
          · cases h
          · split at h
            · cases h
            · rename_i ha
              have h1 := (attr_rest ha).1
              have h2 := startF_rest n _ _ _ _ h
              rw [List.length_cons] at h1
              omega
theorem startM_rest {s q : LB} {x : Tok} (h : startM s = .ok (x, q)) : q.length ≤ s.length := by
  unfold startM at h
  split at h
  · cases h
  · rename_i h1
    split at h
    · cases h
    · rename_i h2
      cases h
      have := name_rest h1
      have := startF_rest _ _ _ _ _ h2
      omega
theorem takeM_rest {i : Nat} {s q : LB} {x : Tok} (h : takeM i s = .ok (x, q)) : q.length ≤ s.length := by
  unfold takeM at h
  split at h
  · unfold commentM at h
    split at h
    · cases h
    · rename_i h1
      have := (rest_len h1).2
      split at h
      · cases h
      · split at h
        · cases h
          simp only [List.length_cons] at this
          omega
        · cases h
  · unfold cdataM at h
    split at h
    · cases h
    · rename_i h1
      cases h
      exact (rest_len h1).2
  · unfold instrM at h
    split at h
    · cases h
    · rename_i h1
      split at h
      · cases h
      · cases h
        exact (rest_len h1).2
  · unfold endM at h
    split at h
    · cases h
    · rename_i h1
      split at h
      · cases h
      · rename_i h2
        cases h
        have := name_rest h1
        have := mustD_rest h2
        rw [List.length_drop] at this
        omega
theorem preM_len (i : Nat) : 2 ≤ (preM i).length := by
  unfold preM
  split <;> decide
theorem sortM_rest (s : LB) (hs : 1 ≤ s.length) : ∀ (n i : Nat) (x : Tok) (q : LB), sortM s n i = .ok (x, q) → q.length + 1 ≤ s.length
  | 0, i, x, q, h => by
    unfold sortM at h
    split at h
    · cases h
    · have := startM_rest h
      rw [List.length_drop] at this
      omega
  | n + 1, i, x, q, h => by
    unfold sortM at h
    split at h
    · have h1 := takeM_rest h
      have h2 := preM_len i
      rw [List.length_drop] at h1
      omega
    · exact sortM_rest s hs n (i + 1) x q h
theorem index_first_ne {c : UInt8} {r : LB} (h : ¬ c = 60) : ¬ Lib.indexByte (c :: r) 60 = 0 := by
  have := index_range 60 r
  rw [Lib.indexByte]
  split
  · rename_i h1; exact absurd (by simpa using h1) h
  · split
    · omega
    · rename_i h2
      have : ¬ Lib.indexByte r 60 = -1 := by simpa using h2
      omega
theorem piece_rest {c : UInt8} {r q : LB} {x : Tok} (h : pieceM (c :: r) = .ok (x, q)) : q.length ≤ r.length := by
  unfold pieceM at h
  split at h
  · rename_i hnil; cases hnil
  · rename_i hc
    injection hc with h1 h2
    subst h1 h2
    split at h
    · have := sortM_rest _ (by rw [List.length_cons]; omega) _ _ _ _ h
      rw [List.length_cons] at this
      omega
    · rename_i hc6
      unfold textMk at h
      split at h
      · cases h
      · cases h
        have hi := index_range 60 (c :: r)
        have hn := index_first_ne (r := r) hc6
        rw [List.length_drop]
        unfold cutAt
        generalize Lib.indexByte (c :: r) 60 = ix at *
        simp only [List.length_cons] at *
        split <;> omega
/-- The pieces. -/
def scanF : Nat → List Tok → LB → Except Int (List Tok)
  | 0, toks, s => if s = [] then .ok toks else .error 0
  | n + 1, toks, s => if s = [] then .ok toks else match pieceM s with
    | .error k => .error k
    | .ok (x, q) => scanF n (toks ++ [x]) q
def scanM (s : LB) : Except Int (List Tok) := if 4000 < s.length then .error 3 else if textL s = false then .error 10 else scanF (linesL s).length [] (linesL s)
def ScanGave (w : World) (r : Except Int (List Tok)) (e : Ending) (w' : World) : Prop := match r with
  | .error k => e = .returned (.tuple #[.slice none 0 0, .int .i64 k]) ∧ Below w.heap.size w w'
  | .ok toks => (∃ v, e = .returned (.tuple #[v, .int .i64 0]) ∧ kTok.R 33 w' w.heap.size (fun _ => True) v toks) ∧ Below w.heap.size w w'
theorem scanF_nil (n : Nat) (toks : List Tok) : scanF n toks [] = .ok toks := by cases n <;> rfl
theorem scanF_cons (n : Nat) (toks : List Tok) (c : UInt8) (r : LB) : scanF (n + 1) toks (c :: r) = match pieceM (c :: r) with
    | .error k => .error k
    | .ok (x, q) => scanF n (toks ++ [x]) q := by rw [scanF, if_neg (by simp)]
set_option maxRecDepth 100000 in
set_option maxHeartbeats 4000000 in
theorem scan_calls (w : World) (l : LB) (E : Env w) :
    Calls Tryz.prog 5 #[.string (ofL l)] w (ScanGave w (scanM l)) := by
  have hsz : ((ofL l).size : Int) = (l.length : Int) := by rw [ofL_size]
  have hmf : ∀ (fn : Fn) (first cap : Array Value) (w : World), (Instr.makeFunc fn first cap).run Tryz.prog w = .ok (.func fn first cap) w := fun _ _ _ _ => rfl
  have HE := Aside0.mk E
  obtain ⟨R, hR⟩ : ∃ x, x = scanM l := ⟨_, rfl⟩
  rw [← hR]
  unfold scanM at hR
  have HR := Aside0.mk hR
  clear E hR
  by_cases h4 : 4000 < l.length
  · have h4' : (4000 : Int) < (l.length : Int) := by omega
    have HE2 := Aside0.mk (show R = .error 3 by rw [HR.out, if_pos h4])
    clear HR h4
    go_enter_defers Tryz.func5, Tryz.ntmps5
    go_wp2_with fail
    obtain ⟨W, hW⟩ : ∃ x, x = (w.alloc (.cells #[.slice none 0 0] 23)).alloc (.cells #[.int .i64 3] 24) := ⟨_, rfl⟩
    have hb : Below w.heap.size w W := hW ▸ below_alloc (below_alloc (Below.refl _ _) _) _
    have hl1 : W.heap[w.heap.size]? = some (.cells #[.slice none 0 0] 23 (0, 0)) := hW ▸ (Below.heap_alloc _ _ _ (by simp)).trans (heap_alloc_new w _)
    have he1 : W.heap[w.heap.size + 1]? = some (.cells #[.int .i64 3] 24 (0, 0)) := by
      have h := heap_alloc_new (w.alloc (.cells #[.slice none 0 0] 23)) (.cells #[.int .i64 3] 24)
      rw [show (w.alloc (.cells #[.slice none 0 0] 23)).heap.size = w.heap.size + 1 by simp, ← hW] at h
      exact h
    have b0 := blk_cell hl1 0
    have c0 := blk_cell he1 0
    rw [← hW]
    clear hW
    refine ⟨.tuple #[.slice none 0 0, .int .i64 3], by simp [results, Tryz.results5, go_sem, b0, c0], ?_⟩
    rw [HE2.out]
    exact ⟨rfl, hb⟩
  · have h4' : ¬ (4000 : Int) < (l.length : Int) := by omega
    have hl : l.length ≤ 1000000 := by omega
    have HR2 := Aside0.mk (show R = if textL l = false then .error 10 else scanF (linesL l).length [] (linesL l) by rw [HR.out, if_neg h4])
    clear HR
    obtain ⟨W, hW⟩ : ∃ x, x = (w.alloc (.cells #[.slice none 0 0] 23)).alloc (.cells #[.int .i64 0] 24) := ⟨_, rfl⟩
    have hb : Below w.heap.size w W := hW ▸ below_alloc (below_alloc (Below.refl _ _) _) _
    have hl1 : W.heap[w.heap.size]? = some (.cells #[.slice none 0 0] 23 (0, 0)) := hW ▸ (Below.heap_alloc _ _ _ (by simp)).trans (heap_alloc_new w _)
    have he1 : W.heap[w.heap.size + 1]? = some (.cells #[.int .i64 0] 24 (0, 0)) := by
      have h := heap_alloc_new (w.alloc (.cells #[.slice none 0 0] 23)) (.cells #[.int .i64 0] 24)
      rw [show (w.alloc (.cells #[.slice none 0 0] 23)).heap.size = w.heap.size + 1 by simp, ← hW] at h
      exact h
    have HBW := Aside0.mk hb
    have HL1 := Aside0.mk hl1
    have HE1 := Aside0.mk he1
    have HEW := Aside0.mk (HE.out.below hb)
    have HWS := Aside0.mk (blk_lt he1)
    have HW := Aside0.mk hW
    have CT := Aside0.mk (text_calls W (ofL l) (by rw [ofL_size]; omega) HEW.out)
    rw [ofL_list] at CT
    clear hb hl1 he1 hW
    obtain ⟨b, hb⟩ : ∃ x, x = textL l := ⟨_, rfl⟩
    rw [← hb] at CT HR2
    clear hb
    go_enter_defers Tryz.func5, Tryz.ntmps5
    go_wp2_with fail
    rw [← HW.out]
    (with_reducible refine CT.out.mono ?_)
    rintro e w2 ⟨rfl, hb⟩
    have HL2 := Aside0.mk ((hb.block _ (blk_lt HL1.out)).trans HL1.out)
    have HE2 := Aside0.mk ((hb.block _ (blk_lt HE1.out)).trans HE1.out)
    have HB2 := Aside0.mk (below_step HBW.out hb)
    have HEV := Aside0.mk (HEW.out.below hb)
    have HS2 := Aside0.mk (Nat.lt_of_lt_of_le HWS.out hb.size)
    clear hb CT
    obtain ⟨b0, b1⟩ := blk1 HL2.out
    obtain ⟨c0, c1⟩ := blk1 HE2.out
    cases b with
    | false =>
      have HR3 := Aside0.mk (show R = .error 10 by rw [HR2.out, if_pos rfl])
      go_wp2_with fail
      obtain ⟨W5, hW5⟩ : ∃ x, x = (w2.setCell ⟨w.heap.size, 0, none⟩ (.slice none 0 0)).setCell ⟨w.heap.size + 1, 0, none⟩ (.int .i64 10) := ⟨_, rfl⟩
      have hc : Ch (fun _ => False) w w2 := Ch.below (Ch.refl _ w) HB2.out
      have hb5 : Below w.heap.size w W5 := hW5 ▸ Ch.to_below (((hc.mono (S' := fun k => w.heap.size ≤ k) (fun _ h => h.elim)).setCell (p := ⟨w.heap.size, 0, none⟩) (.inr (Nat.le_refl _)) _).setCell (p := ⟨w.heap.size + 1, 0, none⟩) (.inr (Nat.le_succ _)) _) (fun k hk => hk) (Nat.le_refl _)
      have hl5 : W5.heap[w.heap.size]? = some (.cells #[.slice none 0 0] 23 (0, 0)) := hW5 ▸ (Below.heap_setCell _ ⟨w.heap.size + 1, 0, none⟩ _ w.heap.size (by show w.heap.size ≠ w.heap.size + 1; omega)).trans (blk_upd 0 _ HL2.out rfl)
      have he5 : W5.heap[w.heap.size + 1]? = some (.cells #[.int .i64 10] 24 (0, 0)) := hW5 ▸ blk_upd 0 _ ((Below.heap_setCell w2 ⟨w.heap.size, 0, none⟩ (.slice none 0 0) (w.heap.size + 1) (by show w.heap.size + 1 ≠ w.heap.size; omega)).trans HE2.out) rfl
      have r0 := blk_cell hl5 0
      have s0 := blk_cell he5 0
      rw [← hW5]
      clear hW5
      refine ⟨.tuple #[.slice none 0 0, .int .i64 10], by simp [results, Tryz.results5, go_sem, r0, s0], ?_⟩
      rw [HR3.out]
      exact ⟨rfl, hb5⟩
    | true =>
      have HR3 := Aside0.mk (show R = scanF (linesL l).length [] (linesL l) by rw [HR2.out, if_neg (by decide)])
      clear HR2
      have CL := Aside0.mk (lines_calls w2 l HEV.out hl)
      have HLL := Aside0.mk (lines_len l)
      generalize linesL l = s0 at CL HR3 HLL
      go_wp2_with fail
      (with_reducible refine CL.out.mono ?_)
      rintro e w3 ⟨rfl, hb⟩
      have HL3 := Aside0.mk ((hb.block _ (blk_lt HL2.out)).trans HL2.out)
      have HE3 := Aside0.mk ((hb.block _ (blk_lt HE2.out)).trans HE2.out)
      have HB3 := Aside0.mk (below_step HB2.out hb)
      have HEV3 := Aside0.mk (HEV.out.below hb)
      have HS3 := Aside0.mk (Nat.lt_of_lt_of_le HS2.out hb.size)
      clear hb CL b0 b1 c0 c1 HL2 HE2 HB2 HEV HS2
      go_wp2_with fail
      obtain ⟨W4, hW4⟩ : ∃ x, x = w3.alloc (.cells #[.string (ofL s0), .slice none 0 0] 40) := ⟨_, rfl⟩
      obtain ⟨g, hg⟩ : ∃ x, x = w3.heap.size := ⟨_, rfl⟩
      have hb4 : Below w3.heap.size w3 W4 := hW4 ▸ below_alloc (Below.refl _ _) _
      have HSn := Aside0.mk (show Sn (w.heap.size + 2) g W4 s0 (.slice none 0 0) [] from ⟨hg ▸ hW4 ▸ heap_alloc_new w3 _, Kd.R_nil _ _ _ _ _, by have := HS3.out; omega⟩)
      have HL4 := Aside0.mk ((hb4.block _ (blk_lt HL3.out)).trans HL3.out)
      have HE4 := Aside0.mk ((hb4.block _ (blk_lt HE3.out)).trans HE3.out)
      have HB4 := Aside0.mk (below_step HB3.out hb4)
      have HEV4 := Aside0.mk (HEV3.out.below hb4)
      have HS4 := Aside0.mk (Nat.lt_of_lt_of_le HS3.out hb4.size)
      have HB6 := Aside0.mk (show 6 ≤ w.heap.size + 2 by have := HE.out.big; omega)
      have HBR := Aside0.mk (Below.refl (w.heap.size + 2) W4)
      rw [← hW4, ← hg]
      clear hb4 hW4 hg HL3 HE3 HB3 HEV3 HS3
      go_loopg [] s0.length (fun gk wx => ∃ (toks : List Tok) (s : LB) (tv : Value), s.length ≤ gk ∧ toks.length + s.length ≤ s0.length ∧ Aside0 (Sn (w.heap.size + 2) g wx s tv toks) ∧ Aside0 (Below (w.heap.size + 2) W4 wx) ∧ Aside0 (R = scanF gk toks s))
      case atStart => exact ⟨[], s0, .slice none 0 0, Nat.le_refl _, by simp, HSn, HBR, HR3⟩
      case round =>
        clear HSn HBR HR3
        obtain ⟨toks, s, tv, hsg, htl, HSn, HBR, HR⟩ := hrel
        have HLr := Aside0.mk ((HBR.out.block w.heap.size (by omega)).trans HL4.out)
        have HEr := Aside0.mk ((HBR.out.block (w.heap.size + 1) (by omega)).trans HE4.out)
        have HBr := Aside0.mk (HB4.out.trans (HBR.out.mono (by omega)))
        have HEVr := Aside0.mk (HEV4.out.from HBR.out HB6.out)
        obtain ⟨b0, b1⟩ := blk1 HLr.out
        obtain ⟨c0, c1⟩ := blk1 HEr.out
        obtain ⟨A, cc, rfl⟩ := Kd.R_slice HSn.out.row
        obtain ⟨q0, q1, q2⟩ := blk2 HSn.out.blk
        cases s with
        | nil =>
          have HR2 := Aside0.mk (show R = .ok toks from HR.out.trans (scanF_nil _ _))
          have hn : (ofL ([] : LB)).toList = [] := ofL_toList []
          clear HR
          go_wp2_with fail
          obtain ⟨W5, hW5⟩ : ∃ x, x = (wr.setCell ⟨w.heap.size, 0, none⟩ (.slice A toks.length cc)).setCell ⟨w.heap.size + 1, 0, none⟩ (.int .i64 0) := ⟨_, rfl⟩
          have hset : Ch (fun k => k = w.heap.size ∨ k = w.heap.size + 1) wr W5 := hW5 ▸ (((Ch.refl _ wr).setCell (p := ⟨w.heap.size, 0, none⟩) (.inl (.inl rfl)) _).setCell (p := ⟨w.heap.size + 1, 0, none⟩) (.inl (.inr rfl)) _)
          have hb5 : Below w.heap.size w W5 := HBr.out.trans (Ch.to_below hset (fun k hk => by omega) HBr.out.size)
          have hl5 : W5.heap[w.heap.size]? = some (.cells #[.slice A toks.length cc] 23 (0, 0)) := hW5 ▸ (Below.heap_setCell _ ⟨w.heap.size + 1, 0, none⟩ _ w.heap.size (by show w.heap.size ≠ w.heap.size + 1; omega)).trans (blk_upd 0 _ HLr.out rfl)
          have he5 : W5.heap[w.heap.size + 1]? = some (.cells #[.int .i64 0] 24 (0, 0)) := hW5 ▸ blk_upd 0 _ ((Below.heap_setCell wr ⟨w.heap.size, 0, none⟩ (.slice A toks.length cc) (w.heap.size + 1) (by show w.heap.size + 1 ≠ w.heap.size; omega)).trans HEr.out) rfl
          have r0 := blk_cell hl5 0
          have s0 := blk_cell he5 0
          have hrow := Kd.R_mono (ok' := fun _ => True) (Kd.R_lower (Kd.R_step HSn.out.row (fun k hk hlt => hset.block k hlt (fun e => by omega))) (show w.heap.size ≤ w.heap.size + 2 by omega)) (fun _ _ => trivial)
          rw [← hW5]
          clear hW5
          refine leaves_cons (f := 9) (args := #[.pointer (some ⟨w.heap.size, 0, none⟩), .pointer (some ⟨w.heap.size + 1, 0, none⟩)]) (by simp) (by simp [go_sem]) ?_
          refine (catch_idle _ _ _).mono ?_
          rintro e u' w'' ⟨rfl, rfl, rfl⟩
          refine ⟨.tuple #[.slice A toks.length cc, .int .i64 0], by simp [results, Tryz.results5, go_sem, r0, s0], ?_⟩
          rw [HR2.out]
          exact ⟨⟨_, rfl, hrow⟩, hb5⟩
        | cons c r =>
          obtain ⟨gf, rfl⟩ : ∃ x, gk = x + 1 := ⟨gk - 1, by rw [List.length_cons] at hsg; omega⟩
          have HR2 := Aside0.mk (show R = _ from HR.out.trans (scanF_cons _ _ _ _))
          have hn2 : ¬ (ofL (c :: r)).toList = [] := by rw [ofL_toList]; simp
          have hn3 : (ofL (c :: r)).toList.isEmpty = false := by rw [ofL_toList]; rfl
          have CP := Aside0.mk (piece_calls (w.heap.size + 2) g wr c r (.slice A toks.length cc) toks HSn.out HEVr.out HB6.out (by have := HLL.out; omega) (by have := HLL.out; omega))
          have HPR := Aside0.mk (fun x q (h : pieceM (c :: r) = .ok (x, q)) => piece_rest h)
          clear HR
          generalize pieceM (c :: r) = u at CP HR2 HPR
          go_wp2_with fail
          (with_reducible refine CP.out.mono ?_)
          rintro e w6 hT
          cases u with
          | error k =>
            obtain ⟨rfl, hb⟩ := hT
            have hl6 := (hb.block w.heap.size (by omega)).trans HLr.out
            have he6 := (hb.block (w.heap.size + 1) (by omega)).trans HEr.out
            have HB6r := Aside0.mk (HBr.out.trans (hb.mono (show w.heap.size ≤ w.heap.size + 2 by omega)))
            have HR3 := Aside0.mk (show R = .error k from HR2.out)
            refine leaves_cons (f := 9) (args := #[.pointer (some ⟨w.heap.size, 0, none⟩), .pointer (some ⟨w.heap.size + 1, 0, none⟩)]) (by simp) (by simp [go_sem]) ?_
            refine (catch_lost w.heap.size (w.heap.size + 1) k _ _ w6 [] hl6 he6 (by omega)).mono ?_
            rintro e u' w7 ⟨rfl, rfl, h1, h2, hch⟩
            have r0 := blk_cell h1 0
            have s0 := blk_cell h2 0
            have hb7 := HB6r.out.trans (Ch.to_below hch (fun k hk => by omega) HB6r.out.size)
            refine ⟨.tuple #[.slice none 0 0, .int .i64 k], by simp [results, Tryz.results5, go_sem, r0, s0], (show ScanGave w R _ _ by rw [HR3.out]; exact ⟨rfl, hb7⟩)⟩
          | ok p =>
            obtain ⟨x, q⟩ := p
            obtain ⟨rfl, ⟨tv', hS⟩, hb⟩ := hT
            have HS6 := Aside0.mk hS
            have HB6' := Aside0.mk (HBR.out.trans hb)
            have HR3 := Aside0.mk (show R = scanF gf (toks ++ [x]) q from HR2.out)
            have HQ := Aside0.mk (HPR.out x q rfl)
            clear hS hb CP HPR HR2
            go_wp2_with fail
            go_roundg gf
            case measure => omega
            case rel => exact ⟨toks ++ [x], q, tv', by have := HQ.out; rw [List.length_cons] at hsg; omega, by have := HQ.out; rw [List.length_append, List.length_singleton]; rw [List.length_cons] at htl; omega, HS6, HB6', HR3⟩
end Go.Proofs.YtagihjlklbckmaaGreatDoor.Sc
namespace Go.Proofs.YtagihjlklbckmaaGreatDoor.Sc
set_option linter.unusedVariables false
set_option linter.unusedSimpArgs false
open Go.RowKit Go.Proofs.YtagihjlklbckmaaGreatDoorW.PrintWords Go.Proofs.YtagihjlklbckmaaGreatDoorW.PrintLast Go.Proofs.YtagihjlklbckmaaGreatDoorW.PrintMore Go.Proofs.YtagihjlklbckmaaGreatDoor.Bs
def workL : LB := [60, 97, 32, 120, 61, 39, 49, 39, 47, 62, 98]
def workT : List Tok := [⟨1, [97], [], [([120], [49])], true⟩, ⟨3, [], [98], [], false⟩]
set_option maxRecDepth 1000000 in
theorem work_scan : scanM workL = .ok workT := by kernel_rfl
theorem toks_at {w : World} {A : Option Addr} {l : List Tok} (h : kTok.C w A l.length l) (i : Nat) (hi : i < l.length) : ∃ ad Aa c, A = some ad ∧ w.cell? (ad.add (i * 5)) = some (.int .i64 l[i].kind) ∧ w.cell? ⟨(ad.add (i * 5)).block, (ad.add (i * 5)).off + 1, none⟩ = some (.string (ofL l[i].name)) ∧ w.cell? ⟨(ad.add (i * 5)).block, (ad.add (i * 5)).off + 2, none⟩ = some (.string (ofL l[i].text)) ∧ w.cell? ⟨(ad.add (i * 5)).block, (ad.add (i * 5)).off + 3, none⟩ = some (.slice Aa l[i].attrs.length c) ∧ w.cell? ⟨(ad.add (i * 5)).block, (ad.add (i * 5)).off + 4, none⟩ = some (.bool l[i].empty) ∧ l[i].attrs.length ≤ c ∧ kAttr.C w Aa l[i].attrs.length l[i].attrs := by
  obtain ⟨ad, c, e, _, hK, hc0⟩ := Kd.C_get h (⟨0, [], [], [], false⟩ : Tok) (i : Int) (by omega) (by omega)
  rw [show l.getD (i : Int).toNat ⟨0, [], [], [], false⟩ = l[i] by simp [List.getD, hi], Int.toNat_natCast] at *
  have hc : ∀ j u, c[j]? = some u → w.cell? (ad.add (i * 5 + j)) = some u := hc0
  obtain ⟨Aa, cc, rfl, hl, hC⟩ := kTok_open hK
  exact ⟨ad, Aa, cc, e, hc 0 _ rfl, by rw [← add_field _ _ 1 (by omega)]; exact hc 1 _ rfl, by rw [← add_field _ _ 2 (by omega)]; exact hc 2 _ rfl, by rw [← add_field _ _ 3 (by omega)]; exact hc 3 _ rfl, by rw [← add_field _ _ 4 (by omega)]; exact hc 4 _ rfl, hl, hC⟩
set_option maxRecDepth 100000 in
set_option maxHeartbeats 4000000 in
theorem works_calls (w : World) (E : Env w) :
    Calls Tryz.prog 4 #[] w fun e w' => e = .returned (.bool true) ∧ Below w.heap.size w w' := by
  have CS := Aside0.mk (show Calls Tryz.prog 5 #[.string ⟨#[60, 97, 32, 120, 61, 39, 49, 39, 47, 62, 98]⟩] w (ScanGave w (.ok workT)) from work_scan ▸ scan_calls w workL E)
  clear E
  go_enter Tryz.func4, Tryz.ntmps4
  go_wp2_with fail
  (with_reducible refine CS.out.mono ?_)
  rintro e w2 ⟨⟨v, rfl, hR⟩, hb⟩
  have HB := Aside0.mk hb
  obtain ⟨A, c, rfl⟩ := Kd.R_slice hR
  have hC := (Kd.R_reads' hR).2.2
  obtain ⟨ad, A0, c0, rfl, a0, a1, a2, a3, a4, _, _⟩ := toks_at hC 0 (by decide)
  obtain ⟨ad', A1, c1, he, b0, b1, b2, b3, b4, _, _⟩ := toks_at hC 1 (by decide)
  obtain rfl := Option.some.inj he
  obtain ⟨g, rfl⟩ := Kd.R_head hR
  clear hb hR hC CS he
  simp only [workT, List.getElem_cons_zero, List.getElem_cons_succ, List.length_cons, List.length_nil] at *
  simp [Addr.add] at a0 a1 a2 a3 a4 b0 b1 b2 b3 b4
  have htl : (ofL [98]).toList = [98] := ofL_toList [98]
  go_wp2_with fail
  go_ret
  exact ⟨rfl, HB.out⟩
end Go.Proofs.YtagihjlklbckmaaGreatDoor.Sc
namespace Go.Proofs.YtagihjlklbckmaaGreatDoor.Sc
set_option linter.unusedVariables false
set_option linter.unusedSimpArgs false
open Go.RowKit Go.Proofs.YtagihjlklbckmaaGreatDoorW.PrintWords Go.Proofs.YtagihjlklbckmaaGreatDoorW.PrintLast Go.Proofs.YtagihjlklbckmaaGreatDoorW.PrintMore Go.Proofs.YtagihjlklbckmaaGreatDoor.Bs
theorem ofL_app (a b : LB) : ofL a ++ ofL b = ofL (a ++ b) := by
  apply ByteArray.ext
  rw [ByteArray.data_append]
  show a.toArray ++ b.toArray = (a ++ b).toArray
  simp
theorem ofL_one (l : LB) (i : Nat) (h : i < l.length) : (ofL l).extract i (i + 1) = ofL [l[i]] := by
  rw [ofL_extract, List.take_succ_eq_append_getElem h, List.drop_append_of_le_length (by rw [List.length_take]; omega)]
  congr 1
  simp [List.drop_take]
theorem lines_nil : linesL [] = [] := rfl
theorem crlf_plain (c : UInt8) (r : LB) (h : ¬ c = 13) : crlf (c :: r) = c :: crlf r := by
  cases r with
  | nil => rfl
  | cons d r => rw [crlf, if_neg (fun e => h e.1)]
theorem lines_plain (c : UInt8) (r : LB) (h : ¬ c = 13) : linesL (c :: r) = c :: linesL r := by
  unfold linesL
  rw [crlf_plain c r h, List.map_cons, nlB, if_neg h]
theorem lines_two (r : LB) : linesL (13 :: 10 :: r) = 10 :: linesL r := by
  unfold linesL
  rw [crlf, if_pos ⟨rfl, rfl⟩, List.map_cons]; rfl
theorem lines_cr (r : LB) (h : ∀ d q, r = d :: q → ¬ d = 10) : linesL (13 :: r) = 10 :: linesL r := by
  cases r with
  | nil => rfl
  | cons d q =>
    unfold linesL
    rw [crlf, if_neg (fun e => h d q rfl e.2), List.map_cons]; rfl
theorem ref_lines (l : LB) (hl : l.length ≤ 1000000) : ∀ (k i : Nat) (o : LB), i ≤ l.length → l.length < i + k → o.length ≤ i → breviaryref06_Lines.l0 k (ofL l) (ofL o) (i : Int) = some (ofL (o ++ linesL (l.drop i)))
  | 0, i, o, hi, hk, ho => by omega
  | k + 1, i, o, hi, hk, ho => by
    rw [breviaryref06_Lines.l0]
    have hz := ofL_size l
    have hoz := ofL_size o
    by_cases hlt : i < l.length
    · have w1 : wrap64 ((i : Int) + 1) = ((i + 1 : Nat) : Int) := by rw [IntWalk.wrap64_in _ ⟨by omega, by omega⟩]; rfl
      have w2 : wrap64 (((i + 1 : Nat) : Int) + 1) = ((i + 2 : Nat) : Int) := by rw [IntWalk.wrap64_in _ ⟨by omega, by omega⟩]; rfl
      have e10 : (⟨#[10]⟩ : ByteArray) = ofL [10] := rfl
      have hd : l.drop i = l[i] :: l.drop (i + 1) := List.drop_eq_getElem_cons hlt
      rw [if_pos (by rw [hz]; omega), if_pos (by omega), bt_ofL l i hlt, w1, w2, e10, ofL_app]
      by_cases h13 : l[i] = 13
      · have hc : ((l[i].toNat : Nat) : Int) = 13 := by rw [h13]; rfl
        rw [if_pos hc, if_pos (by rw [hoz]; omega)]
        by_cases hn : i + 1 < l.length
        · have hd2 : l.drop (i + 1) = l[i + 1] :: l.drop (i + 2) := List.drop_eq_getElem_cons hn
          rw [if_pos (by rw [hz]; omega), if_pos (by omega), bt_ofL l (i + 1) hn]
          by_cases h10 : l[i + 1] = 10
          · rw [if_pos (by rw [h10]; rfl), ref_lines l hl k (i + 2) _ (by omega) (by omega) (by rw [List.length_append, List.length_singleton]; omega), hd, hd2, h13, h10, lines_two, List.append_assoc]; rfl
          · rw [if_neg (fun e => h10 (UInt8.toNat_inj.1 (by have : (10 : UInt8).toNat = 10 := rfl; omega))), ref_lines l hl k (i + 1) _ (by omega) (by omega) (by rw [List.length_append, List.length_singleton]; omega), hd, h13, lines_cr _ (fun d q e => by rw [hd2] at e; injection e with e1 _; rw [← e1]; exact h10), List.append_assoc]; rfl
        · rw [if_neg (by rw [hz]; omega), ref_lines l hl k (i + 1) _ (by omega) (by omega) (by rw [List.length_append, List.length_singleton]; omega), hd, h13, lines_cr _ (fun d q e => by rw [List.drop_eq_nil_of_le (by omega)] at e; cases e), List.append_assoc]; rfl
      · rw [if_neg (fun e => h13 (UInt8.toNat_inj.1 (by have : (13 : UInt8).toNat = 13 := rfl; omega))), if_pos (by omega), if_pos (by rw [hz]; omega), Int.toNat_natCast, Int.toNat_natCast, ofL_one l i hlt, if_pos (by rw [hoz, ofL_size, List.length_singleton]; omega), ofL_app, ref_lines l hl k (i + 1) _ (by omega) (by omega) (by rw [List.length_append, List.length_singleton]; omega), hd, lines_plain _ _ h13, List.append_assoc]; rfl
    · rw [if_neg (by rw [hz]; omega), List.drop_eq_nil_of_le (by omega), lines_nil, List.append_nil]
end Go.Proofs.YtagihjlklbckmaaGreatDoor.Sc
namespace Go.Proofs.YtagihjlklbckmaaGreatDoor.Sc
set_option linter.unusedVariables false
set_option linter.unusedSimpArgs false
open Go.RowKit Go.Proofs.YtagihjlklbckmaaGreatDoorW.PrintWords Go.Proofs.YtagihjlklbckmaaGreatDoorW.PrintLast Go.Proofs.YtagihjlklbckmaaGreatDoorW.PrintMore Go.Proofs.YtagihjlklbckmaaGreatDoor.Bs
theorem w64 (x : Int) (h : -1000000000 ≤ x ∧ x ≤ 1000000000) : wrap64 x = x := IntWalk.wrap64_in _ ⟨by omega, by omega⟩
/-- The document's character. -/
def oneN (n b0 b1 b2 b3 : Nat) : Int × Int := if (Lib.decodeN n b0 b1 b2 b3).2 = 1 ∧ 128 ≤ b0 then (0, 0) else (((Lib.decodeN n b0 b1 b2 b3).1 : Int), ((Lib.decodeN n b0 b1 b2 b3).2 : Int))
def endV (x6 x7 x5 : Int) : Int × Int := if x6 < x7 then (0, 0) else if x6 > 1114111 then (0, 0) else if x6 ≥ 55296 then (if x6 ≤ 57343 then (0, 0) else (x6, x5)) else (x6, x5)
theorem l0_end (k : Nat) (x0 : ByteArray) (x5 x6 x7 x8 : Int) (h : ¬ x8 < x5) : breviaryref01_One.l0 (k + 1) x0 x5 x6 x7 x8 = some (endV x6 x7 x5) := by
  rw [breviaryref01_One.l0, if_neg h]
  unfold endV
  repeat' split
  all_goals rfl
theorem l0_step (k : Nat) (x0 : ByteArray) (x5 x6 x7 : Int) (x8 : Nat) (b : Nat) (h : (x8 : Int) < x5) (h1 : x8 < x0.size) (hb : bt x0 (x8 : Int) = (b : Int)) (hb2 : b < 256) (h6 : 0 ≤ x6 ∧ x6 ≤ 1000000) (h8 : x8 ≤ 5) :
    breviaryref01_One.l0 (k + 1) x0 x5 x6 x7 (x8 : Int) = if b < 128 ∨ 191 < b then some (0, 0) else breviaryref01_One.l0 k x0 x5 (x6 * 64 + b - 128) x7 ((x8 + 1 : Nat) : Int) := by
  rw [breviaryref01_One.l0, if_pos h, if_pos (by omega), if_pos (by omega), hb, w64 (b : Int) (by omega), w64 (x6 * 64) (by omega), w64 (x6 * 64 + b) (by omega), w64 (x6 * 64 + b - 128) (by omega), w64 ((x8 : Int) + 1) (by omega)]
  by_cases c1 : b < 128
  · rw [if_pos (by omega), if_pos (.inl c1)]
  · by_cases c2 : 191 < b
    · rw [if_neg (by omega), if_pos (by omega), if_pos (.inr c2)]
    · rw [if_neg (by omega), if_neg (by omega), if_neg (by omega)]; rfl
theorem j_down (k : Nat) (x0 : ByteArray) (x : Nat) (h : 128 ≤ x ∧ x < 256) : ∀ b, b = decide (192 ≤ x ∧ x < 224) → breviaryref01_One.j0 (k + 8) x0 (x : Int) 0 0 0 b =
    if x < 192 then some (0, 0) else if x < 224 then (if (x0.size : Int) < 2 then some (0, 0) else breviaryref01_One.l0 (k + 1) x0 2 ((x - 192 : Nat) : Int) 128 ((1 : Nat) : Int))
    else if x < 240 then (if (x0.size : Int) < 3 then some (0, 0) else breviaryref01_One.l0 (k + 1) x0 3 ((x - 224 : Nat) : Int) 2048 ((1 : Nat) : Int))
    else if x < 248 then (if (x0.size : Int) < 4 then some (0, 0) else breviaryref01_One.l0 (k + 1) x0 4 ((x - 240 : Nat) : Int) 65536 ((1 : Nat) : Int)) else some (0, 0) := by
  rintro b rfl
  have e1 : wrap64 ((x : Int) - 192) = (x : Int) - 192 := w64 _ (by omega)
  have e2 : wrap64 ((x : Int) - 224) = (x : Int) - 224 := w64 _ (by omega)
  have e3 : wrap64 ((x : Int) - 240) = (x : Int) - 240 := w64 _ (by omega)
  rw [breviaryref01_One.j0, e1]
  by_cases c1 : x < 192
  · rw [if_pos c1, if_neg (by simp; omega), breviaryref01_One.j1, if_neg (by omega), breviaryref01_One.j2, if_neg (by decide), breviaryref01_One.j3, if_neg (by omega), breviaryref01_One.j4, if_neg (by decide), breviaryref01_One.j5, if_pos rfl, breviaryref01_One.j6, if_pos rfl]
  · rw [if_neg c1]
    by_cases c2 : x < 224
    · rw [if_pos c2, if_pos (by simp; omega), breviaryref01_One.j1, if_neg (by omega), breviaryref01_One.j2, if_neg (by decide), breviaryref01_One.j3, if_neg (by omega), breviaryref01_One.j4, if_neg (by decide), breviaryref01_One.j5, if_neg (by decide), breviaryref01_One.j6]
      by_cases hs : (x0.size : Int) < 2
      · rw [if_pos (by simpa using hs), if_pos hs]
      · rw [if_neg (by simpa using hs), if_neg hs, show ((x - 192 : Nat) : Int) = (x : Int) - 192 by omega]; rfl
    · rw [if_neg c2, if_neg (by simp; omega), breviaryref01_One.j1, if_pos (by omega), breviaryref01_One.j2, e2]
      by_cases c3 : x < 240
      · rw [if_pos c3, if_pos (by simp; omega), breviaryref01_One.j3, if_neg (by omega), breviaryref01_One.j4, if_neg (by decide), breviaryref01_One.j5, if_neg (by decide), breviaryref01_One.j6]
        by_cases hs : (x0.size : Int) < 3
        · rw [if_pos (by simpa using hs), if_pos hs]
        · rw [if_neg (by simpa using hs), if_neg hs, show ((x - 224 : Nat) : Int) = (x : Int) - 224 by omega]; rfl
      · rw [if_neg c3, if_neg (by simp; omega), breviaryref01_One.j3, if_pos (by omega), breviaryref01_One.j4, e3]
        by_cases c4 : x < 248
        · rw [if_pos c4, if_pos (by simp; omega), breviaryref01_One.j5, if_neg (by decide), breviaryref01_One.j6]
          by_cases hs : (x0.size : Int) < 4
          · rw [if_pos (by simpa using hs), if_pos hs]
          · rw [if_neg (by simpa using hs), if_neg hs, show ((x - 240 : Nat) : Int) = (x : Int) - 240 by omega]; rfl
        · rw [if_neg c4, if_neg (by simp; omega), breviaryref01_One.j5, if_pos rfl, breviaryref01_One.j6, if_pos rfl]
end Go.Proofs.YtagihjlklbckmaaGreatDoor.Sc
namespace Go.Proofs.YtagihjlklbckmaaGreatDoor.Sc
set_option linter.unusedVariables false
set_option linter.unusedSimpArgs false
open Go.RowKit Go.Proofs.YtagihjlklbckmaaGreatDoorW.PrintWords Go.Proofs.YtagihjlklbckmaaGreatDoorW.PrintLast Go.Proofs.YtagihjlklbckmaaGreatDoorW.PrintMore Go.Proofs.YtagihjlklbckmaaGreatDoor.Bs
theorem dec2 (n b0 b1 b2 b3 : Nat) (h0 : 192 ≤ b0 ∧ b0 < 224) (h1 : b1 < 256) : Lib.decodeN n b0 b1 b2 b3 = if 2 ≤ n ∧ 128 ≤ b1 ∧ b1 ≤ 191 ∧ 128 ≤ (b0 - 192) * 64 + (b1 - 128) then ((b0 - 192) * 64 + (b1 - 128), 2) else (65533, 1) := by
  unfold Lib.decodeN
  rw [if_neg (by omega)]
  by_cases hc : b0 / 32 = 6 ∧ (1 < n ∧ b1 / 64 = 2)
  · rw [if_pos hc, show b0 % 32 * 64 + b1 % 64 = (b0 - 192) * 64 + (b1 - 128) by omega]
    by_cases hv : 128 ≤ (b0 - 192) * 64 + (b1 - 128)
    · rw [if_pos hv, if_pos (by omega)]
    · rw [if_neg hv, if_neg (by omega)]
  · rw [if_neg hc, if_neg (by omega), if_neg (by omega), if_neg (by omega)]
theorem dec3 (n b0 b1 b2 b3 : Nat) (h0 : 224 ≤ b0 ∧ b0 < 240) (h1 : b1 < 256) (h2 : b2 < 256) : Lib.decodeN n b0 b1 b2 b3 = if 3 ≤ n ∧ 128 ≤ b1 ∧ b1 ≤ 191 ∧ 128 ≤ b2 ∧ b2 ≤ 191 ∧ 2048 ≤ (b0 - 224) * 4096 + (b1 - 128) * 64 + (b2 - 128) ∧ ((b0 - 224) * 4096 + (b1 - 128) * 64 + (b2 - 128) < 55296 ∨ 57344 ≤ (b0 - 224) * 4096 + (b1 - 128) * 64 + (b2 - 128)) then ((b0 - 224) * 4096 + (b1 - 128) * 64 + (b2 - 128), 3) else (65533, 1) := by
  unfold Lib.decodeN
  rw [if_neg (by omega), if_neg (by omega)]
  by_cases hc : b0 / 16 = 14 ∧ (1 < n ∧ b1 / 64 = 2) ∧ (2 < n ∧ b2 / 64 = 2)
  · rw [if_pos hc, show b0 % 16 * 4096 + b1 % 64 * 64 + b2 % 64 = (b0 - 224) * 4096 + (b1 - 128) * 64 + (b2 - 128) by omega]
    generalize hv : (b0 - 224) * 4096 + (b1 - 128) * 64 + (b2 - 128) = v
    by_cases hw : v ≥ 2048 ∧ (v < 55296 ∨ (57344 ≤ v ∧ v ≤ 1114111))
    · rw [if_pos hw, if_pos (by omega)]
    · rw [if_neg hw, if_neg (by omega)]
  · rw [if_neg hc, if_neg (by omega), if_neg (by omega)]
theorem dec4 (n b0 b1 b2 b3 : Nat) (h0 : 240 ≤ b0 ∧ b0 < 248) (h1 : b1 < 256) (h2 : b2 < 256) (h3 : b3 < 256) : Lib.decodeN n b0 b1 b2 b3 = if 4 ≤ n ∧ 128 ≤ b1 ∧ b1 ≤ 191 ∧ 128 ≤ b2 ∧ b2 ≤ 191 ∧ 128 ≤ b3 ∧ b3 ≤ 191 ∧ 65536 ≤ (b0 - 240) * 262144 + (b1 - 128) * 4096 + (b2 - 128) * 64 + (b3 - 128) ∧ (b0 - 240) * 262144 + (b1 - 128) * 4096 + (b2 - 128) * 64 + (b3 - 128) ≤ 1114111 then ((b0 - 240) * 262144 + (b1 - 128) * 4096 + (b2 - 128) * 64 + (b3 - 128), 4) else (65533, 1) := by
  unfold Lib.decodeN
  rw [if_neg (by omega), if_neg (by omega), if_neg (by omega)]
  by_cases hc : b0 / 8 = 30 ∧ (1 < n ∧ b1 / 64 = 2) ∧ (2 < n ∧ b2 / 64 = 2) ∧ (3 < n ∧ b3 / 64 = 2)
  · rw [if_pos hc, show b0 % 8 * 262144 + b1 % 64 * 4096 + b2 % 64 * 64 + b3 % 64 = (b0 - 240) * 262144 + (b1 - 128) * 4096 + (b2 - 128) * 64 + (b3 - 128) by omega]
    generalize hv : (b0 - 240) * 262144 + (b1 - 128) * 4096 + (b2 - 128) * 64 + (b3 - 128) = v
    by_cases hw : v ≥ 65536 ∧ (v < 55296 ∨ (57344 ≤ v ∧ v ≤ 1114111))
    · rw [if_pos hw, if_pos (by omega)]
    · rw [if_neg hw, if_neg (by omega)]
  · rw [if_neg hc, if_neg (by omega)]
theorem dec0 (n b0 b1 b2 b3 : Nat) (h0 : (128 ≤ b0 ∧ b0 < 192) ∨ (248 ≤ b0 ∧ b0 < 256)) : Lib.decodeN n b0 b1 b2 b3 = (65533, 1) := by
  unfold Lib.decodeN
  rw [if_neg (by omega), if_neg (by omega), if_neg (by omega), if_neg (by omega)]
theorem one_bad {n b0 b1 b2 b3 : Nat} (h : Lib.decodeN n b0 b1 b2 b3 = (65533, 1)) (h0 : 128 ≤ b0) : oneN n b0 b1 b2 b3 = (0, 0) := by
  unfold oneN
  rw [h, if_pos ⟨rfl, h0⟩]
theorem one_good {n b0 b1 b2 b3 v m : Nat} (h : Lib.decodeN n b0 b1 b2 b3 = (v, m)) (hm : 2 ≤ m) : oneN n b0 b1 b2 b3 = ((v : Int), (m : Int)) := by
  unfold oneN
  rw [h, if_neg (by simp only; omega)]
theorem bt_getD (l : LB) (i : Nat) (h : i < l.length) : bt (ofL l) (i : Int) = ((l.getD i 0).toNat : Int) := by
  rw [bt_ofL l i h]
  simp [List.getD, h]
/-- THE DOCUMENT's CHARACTER is the model's. -/
theorem one_ref (k : Nat) (l : LB) (hl : 0 < l.length) : breviaryref01_One.f (k + 11) (ofL l) = some (oneN l.length (l.getD 0 0).toNat (l.getD 1 0).toNat (l.getD 2 0).toNat (l.getD 3 0).toNat) := by
  have g0 : bt (ofL l) 0 = ((l.getD 0 0).toNat : Int) := bt_getD l 0 hl
  have g1 := fun h => bt_getD l 1 h
  have g2 := fun h => bt_getD l 2 h
  have g3 := fun h => bt_getD l 3 h
  have l0 := (l.getD 0 0).toNat_lt
  have l1 := (l.getD 1 0).toNat_lt
  have l2 := (l.getD 2 0).toNat_lt
  have l3 := (l.getD 3 0).toNat_lt
  have hz := ofL_size l
  generalize ofL l = s at *
  generalize (l.getD 0 0).toNat = b0 at *
  generalize (l.getD 1 0).toNat = b1 at *
  generalize (l.getD 2 0).toNat = b2 at *
  generalize (l.getD 3 0).toNat = b3 at *
  generalize l.length = n at *
  rw [breviaryref01_One.f, if_neg (by omega), if_pos (by omega), g0, w64 (b0 : Int) (by omega)]
  by_cases c0 : b0 < 128
  · rw [if_pos (by omega)]
    unfold oneN Lib.decodeN
    rw [if_pos c0, if_neg (by simp only; omega)]; rfl
  · rw [if_neg (by omega)]
    have key : ∀ X, (∀ b, b = decide (192 ≤ b0 ∧ b0 < 224) → breviaryref01_One.j0 (k + 3 + 8) s (b0 : Int) 0 0 0 b = X) → (if (b0 : Int) ≥ 192 then breviaryref01_One.j0 (k + 11) s (b0 : Int) 0 0 0 (decide ((b0 : Int) < 224)) else breviaryref01_One.j0 (k + 11) s (b0 : Int) 0 0 0 false) = X := by
      intro X h
      by_cases c1 : 192 ≤ b0
      · rw [if_pos (by omega)]
        exact h _ (by rw [decide_eq_decide]; omega)
      · rw [if_neg (by omega)]
        exact h _ (by rw [eq_comm, decide_eq_false_iff_not]; omega)
    rw [key _ (j_down (k + 3) s b0 ⟨by omega, by omega⟩)]
    clear key
    by_cases c1 : b0 < 192
    · rw [if_pos c1, one_bad (dec0 n b0 b1 b2 b3 (.inl ⟨by omega, c1⟩)) (by omega)]
    rw [if_neg c1]
    by_cases c2 : b0 < 224
    · rw [if_pos c2]
      have hd := dec2 n b0 b1 b2 b3 ⟨by omega, c2⟩ l1
      by_cases hn : n < 2
      · rw [if_pos (by omega), one_bad (hd.trans (if_neg (by omega))) (by omega)]
      · rw [if_neg (by omega), l0_step _ s _ _ _ 1 b1 (by omega) (by omega) (g1 (by omega)) l1 (by omega) (by omega)]
        by_cases e1 : b1 < 128 ∨ 191 < b1
        · rw [if_pos e1, one_bad (hd.trans (if_neg (by omega))) (by omega)]
        · rw [if_neg e1, l0_end _ _ _ _ _ _ (by omega)]
          have hv : ((b0 - 192 : Nat) : Int) * 64 + b1 - 128 = (((b0 - 192) * 64 + (b1 - 128) : Nat) : Int) := by omega
          rw [hv]
          generalize hvv : (b0 - 192) * 64 + (b1 - 128) = v at *
          unfold endV
          by_cases ev : v < 128
          · rw [if_pos (by omega), one_bad (hd.trans (if_neg (by omega))) (by omega)]
          · rw [if_neg (by omega), if_neg (by omega), if_neg (by omega), one_good (hd.trans (if_pos (by omega))) (by omega)]; rfl
    rw [if_neg c2]
    by_cases c3 : b0 < 240
    · rw [if_pos c3]
      have hd := dec3 n b0 b1 b2 b3 ⟨by omega, c3⟩ l1 l2
      by_cases hn : n < 3
      · rw [if_pos (by omega), one_bad (hd.trans (if_neg (by omega))) (by omega)]
      · rw [if_neg (by omega), l0_step _ s _ _ _ 1 b1 (by omega) (by omega) (g1 (by omega)) l1 (by omega) (by omega)]
        by_cases e1 : b1 < 128 ∨ 191 < b1
        · rw [if_pos e1, one_bad (hd.trans (if_neg (by omega))) (by omega)]
        · rw [if_neg e1, l0_step _ s _ _ _ 2 b2 (by omega) (by omega) (g2 (by omega)) l2 (by omega) (by omega)]
          by_cases e2 : b2 < 128 ∨ 191 < b2
          · rw [if_pos e2, one_bad (hd.trans (if_neg (by omega))) (by omega)]
          · rw [if_neg e2, l0_end _ _ _ _ _ _ (by omega)]
            have hv : (((b0 - 224 : Nat) : Int) * 64 + b1 - 128) * 64 + b2 - 128 = (((b0 - 224) * 4096 + (b1 - 128) * 64 + (b2 - 128) : Nat) : Int) := by omega
            rw [hv]
            generalize hvv : (b0 - 224) * 4096 + (b1 - 128) * 64 + (b2 - 128) = v at *
            unfold endV
            by_cases ev : v < 2048
            · rw [if_pos (by omega), one_bad (hd.trans (if_neg (by omega))) (by omega)]
            · rw [if_neg (by omega), if_neg (by omega)]
              by_cases ew : v < 55296
              · rw [if_neg (by omega), one_good (hd.trans (if_pos (by omega))) (by omega)]; rfl
              · rw [if_pos (by omega)]
                by_cases ex : v ≤ 57343
                · rw [if_pos (by omega), one_bad (hd.trans (if_neg (by omega))) (by omega)]
                · rw [if_neg (by omega), one_good (hd.trans (if_pos (by omega))) (by omega)]; rfl
    rw [if_neg c3]
    by_cases c4 : b0 < 248
    · rw [if_pos c4]
      have hd := dec4 n b0 b1 b2 b3 ⟨by omega, c4⟩ l1 l2 l3
      by_cases hn : n < 4
      · rw [if_pos (by omega), one_bad (hd.trans (if_neg (by omega))) (by omega)]
      · rw [if_neg (by omega), l0_step _ s _ _ _ 1 b1 (by omega) (by omega) (g1 (by omega)) l1 (by omega) (by omega)]
        by_cases e1 : b1 < 128 ∨ 191 < b1
        · rw [if_pos e1, one_bad (hd.trans (if_neg (by omega))) (by omega)]
        · rw [if_neg e1, l0_step _ s _ _ _ 2 b2 (by omega) (by omega) (g2 (by omega)) l2 (by omega) (by omega)]
          by_cases e2 : b2 < 128 ∨ 191 < b2
          · rw [if_pos e2, one_bad (hd.trans (if_neg (by omega))) (by omega)]
          · rw [if_neg e2, l0_step _ s _ _ _ 3 b3 (by omega) (by omega) (g3 (by omega)) l3 (by omega) (by omega)]
            by_cases e3 : b3 < 128 ∨ 191 < b3
            · rw [if_pos e3, one_bad (hd.trans (if_neg (by omega))) (by omega)]
            · rw [if_neg e3, l0_end _ _ _ _ _ _ (by omega)]
              have hv : ((((b0 - 240 : Nat) : Int) * 64 + b1 - 128) * 64 + b2 - 128) * 64 + b3 - 128 = (((b0 - 240) * 262144 + (b1 - 128) * 4096 + (b2 - 128) * 64 + (b3 - 128) : Nat) : Int) := by omega
              rw [hv]
              generalize hvv : (b0 - 240) * 262144 + (b1 - 128) * 4096 + (b2 - 128) * 64 + (b3 - 128) = v at *
              unfold endV
              by_cases ev : v < 65536
              · rw [if_pos (by omega), one_bad (hd.trans (if_neg (by omega))) (by omega)]
              · rw [if_neg (by omega)]
                by_cases ex : v ≤ 1114111
                · rw [if_neg (by omega), if_pos (by omega), if_neg (by omega), one_good (hd.trans (if_pos (by omega))) (by omega)]; rfl
                · rw [if_pos (by omega), one_bad (hd.trans (if_neg (by omega))) (by omega)]
    · rw [if_neg c4, one_bad (dec0 n b0 b1 b2 b3 (.inr ⟨by omega, l0⟩)) (by omega)]
end Go.Proofs.YtagihjlklbckmaaGreatDoor.Sc
namespace Go.Proofs.YtagihjlklbckmaaGreatDoor.Sc
set_option linter.unusedVariables false
set_option linter.unusedSimpArgs false
open Go.RowKit Go.Proofs.YtagihjlklbckmaaGreatDoorW.PrintWords Go.Proofs.YtagihjlklbckmaaGreatDoorW.PrintLast Go.Proofs.YtagihjlklbckmaaGreatDoorW.PrintMore Go.Proofs.YtagihjlklbckmaaGreatDoor.Bs
theorem dec_hi (n b0 b1 b2 b3 : Nat) (h0 : 128 ≤ b0 ∧ b0 < 256) (h1 : b1 < 256) (h2 : b2 < 256) (h3 : b3 < 256) : Lib.decodeN n b0 b1 b2 b3 = (65533, 1) ∨ 2 ≤ (Lib.decodeN n b0 b1 b2 b3).2 := by
  by_cases c1 : b0 < 192
  · exact .inl (dec0 n b0 b1 b2 b3 (.inl ⟨h0.1, c1⟩))
  by_cases c2 : b0 < 224
  · rw [dec2 n b0 b1 b2 b3 ⟨by omega, c2⟩ h1]
    split
    · exact .inr (Nat.le_refl _)
    · exact .inl rfl
  by_cases c3 : b0 < 240
  · rw [dec3 n b0 b1 b2 b3 ⟨by omega, c3⟩ h1 h2]
    split
    · exact .inr (by simp only; omega)
    · exact .inl rfl
  by_cases c4 : b0 < 248
  · rw [dec4 n b0 b1 b2 b3 ⟨by omega, c4⟩ h1 h2 h3]
    split
    · exact .inr (by simp only; omega)
    · exact .inl rfl
  · exact .inl (dec0 n b0 b1 b2 b3 (.inr ⟨by omega, h0.2⟩))
/-- Does a text begin with no character? -/
abbrev badL (l : LB) : Prop := (Lib.decodeL l).1 = 65533 ∧ (Lib.decodeL l).2 = 1
theorem one_char (k : Nat) (l : LB) (hl : 0 < l.length) : breviaryref01_One.f (k + 11) (ofL l) = some (if badL l then (0, 0) else (((Lib.decodeL l).1 : Int), ((Lib.decodeL l).2 : Int))) := by
  rw [one_ref k l hl]
  have hD := Lib.decodeL_N l
  have l0 := (l.getD 0 0).toNat_lt
  unfold oneN
  by_cases c0 : 128 ≤ (l.getD 0 0).toNat
  · rcases dec_hi l.length (l.getD 0 0).toNat (l.getD 1 0).toNat (l.getD 2 0).toNat (l.getD 3 0).toNat ⟨c0, l0⟩ (l.getD 1 0).toNat_lt (l.getD 2 0).toNat_lt (l.getD 3 0).toNat_lt with h | h
    · rw [← hD] at h ⊢
      have hb : badL l := ⟨by rw [h], by rw [h]⟩
      rw [if_pos hb, if_pos ⟨hb.2, c0⟩]
    · rw [← hD] at h ⊢
      have hb : ¬ badL l := fun e => by have := e.2; omega
      rw [if_neg hb, if_neg (by omega)]
  · have hd : Lib.decodeN l.length (l.getD 0 0).toNat (l.getD 1 0).toNat (l.getD 2 0).toNat (l.getD 3 0).toNat = ((l.getD 0 0).toNat, 1) := by
      unfold Lib.decodeN
      rw [if_pos (by omega)]
    rw [hd] at hD ⊢
    have hb : ¬ badL l := fun e => by
      have h1 := e.1
      rw [hD] at h1
      simp only at h1
      omega
    rw [if_neg hb, hD, if_neg (by omega)]
def runesF : Nat → LB → List Int
  | 0, _ => []
  | n + 1, l => if l = [] then [] else ((Lib.decodeL l).1 : Int) :: runesF n (l.drop (Lib.decodeL l).2)
def runesL (l : LB) : List Int := runesF l.length l
theorem runesF_fuel : ∀ (n m : Nat) (l : LB), l.length ≤ n → l.length ≤ m → runesF n l = runesF m l
  | 0, 0, l, _, _ => rfl
  | 0, m + 1, l, h, _ => by
    have : l = [] := List.length_eq_zero_iff.1 (by omega)
    subst this; rfl
  | n + 1, 0, l, _, h => by
    have : l = [] := List.length_eq_zero_iff.1 (by omega)
    subst this; rfl
  | n + 1, m + 1, l, h1, h2 => by
    rw [runesF, runesF]
    by_cases h : l = []
    · rw [if_pos h, if_pos h]
    · have hw := width_one l
      have hp : 0 < l.length := List.length_pos_iff.2 h
      rw [if_neg h, if_neg h, runesF_fuel n m _ (by rw [List.length_drop]; omega) (by rw [List.length_drop]; omega)]
theorem runesL_step (l : LB) (h : l ≠ []) : runesL l = ((Lib.decodeL l).1 : Int) :: runesL (l.drop (Lib.decodeL l).2) := by
  have hp : 0 < l.length := List.length_pos_iff.2 h
  have hw := width_one l
  unfold runesL
  conv => lhs; rw [show l.length = (l.length - 1) + 1 by omega]
  rw [runesF, if_neg h, runesF_fuel (l.length - 1) _ _ (by rw [List.length_drop]; omega) (Nat.le_refl _)]
theorem runes_all (p : Int → Bool) : ∀ (n : Nat) (l : LB), l.length ≤ n → allR p l = (runesL l).all p
  | n, [], _ => rfl
  | 0, c :: r, h => by simp at h
  | n + 1, c :: r, h => by
    have hw := width_one (c :: r)
    rw [allR_step p _ (by simp), runesL_step _ (by simp), List.all_cons, runes_all p n _ (by rw [List.length_drop]; simp only [List.length_cons] at *; omega)]
theorem runes_len : ∀ (n : Nat) (l : LB), l.length ≤ n → (runesL l).length ≤ l.length
  | n, [], _ => Nat.le_refl _
  | 0, c :: r, h => by simp at h
  | n + 1, c :: r, h => by
    have hw := width_one (c :: r)
    have ih := runes_len n ((c :: r).drop (Lib.decodeL (c :: r)).2) (by rw [List.length_drop]; simp only [List.length_cons] at *; omega)
    rw [runesL_step _ (by simp), List.length_cons]
    rw [List.length_drop] at ih
    simp only [List.length_cons] at *
    omega
theorem validD_bad (l : LB) (h : l ≠ []) : Lib.validD l = if badL l then false else Lib.validD (l.drop (Lib.decodeL l).2) := Lib.validD_step l h
theorem chars_ref (l : LB) (hl : l.length ≤ 1000000) : ∀ (m k pos : Nat) (acc : List Int), pos ≤ l.length → l.length ≤ pos + m → acc.length ≤ pos → m + 12 ≤ k →
    breviaryref01_Chars.l0 k (ofL l) acc (pos : Int) = some (if Lib.validD (l.drop pos) = true then (acc ++ runesL (l.drop pos), true) else ([], false))
  | m, 0, pos, acc, hp, hm, ha, hk => by omega
  | m, k + 1, pos, acc, hp, hm, ha, hk => by
    rw [breviaryref01_Chars.l0]
    have hz := ofL_size l
    by_cases hlt : pos < l.length
    · obtain ⟨m, rfl⟩ : ∃ x, m = x + 1 := ⟨m - 1, by omega⟩
      obtain ⟨k, rfl⟩ : ∃ x, k = x + 11 := ⟨k - 11, by omega⟩
      have hne := drop_ne' hlt
      have hle := Lib.decodeL_le _ hne
      have hw := width_one (l.drop pos)
      rw [if_pos (by rw [hz]; omega), if_pos (by omega), if_pos (by rw [hz]; omega), Int.toNat_natCast, ofL_cut, one_char k _ (by rw [List.length_drop]; omega), Option.bind_some, validD_bad _ hne]
      by_cases hb : badL (l.drop pos)
      · rw [if_pos hb, if_pos hb, if_pos rfl, if_neg (by decide)]
      · rw [if_neg hb, if_neg hb, if_neg (by simp only; omega), if_pos (by omega)]
        rw [List.length_drop] at hle
        simp only
        have hwr : wrap64 ((pos : Int) + ((Lib.decodeL (l.drop pos)).2 : Int)) = ((pos + (Lib.decodeL (l.drop pos)).2 : Nat) : Int) := by rw [w64 _ (by omega)]; rfl
        rw [hwr, chars_ref l hl m (k + 11) _ _ (by omega) (by omega) (by rw [List.length_append, List.length_singleton]; omega) (by omega), runesL_step _ hne, List.drop_drop, List.append_assoc]; rfl
    · rw [if_neg (by rw [hz]; omega), List.drop_eq_nil_of_le (by omega)]
      rw [if_pos Lib.validD_nil, show runesL [] = [] from rfl, List.append_nil]
def flatI : List (Int × Int) → List Int
  | [] => []
  | (a, b) :: r => a :: b :: flatI r
theorem flatI_len : ∀ ps : List (Int × Int), (flatI ps).length = 2 * ps.length
  | [] => rfl
  | (a, b) :: r => by rw [flatI, List.length_cons, List.length_cons, flatI_len r, List.length_cons]; omega
theorem flatI_get : ∀ (ps : List (Int × Int)) (i : Nat) (h : i < ps.length), (flatI ps)[2 * i]? = some ps[i].1 ∧ (flatI ps)[2 * i + 1]? = some ps[i].2
  | (a, b) :: r, 0, h => ⟨rfl, rfl⟩
  | (a, b) :: r, i + 1, h => by
    have := flatI_get r i (by rw [List.length_cons] at h; omega)
    rw [show 2 * (i + 1) = 2 * i + 2 by omega, flatI]
    exact this
theorem in_ref (x : Int) (ps : List (Int × Int)) (hl : ps.length ≤ 100) : ∀ (m k i : Nat), i ≤ ps.length → ps.length ≤ i + m → m < k → breviaryref01_in.l0 k x (flatI ps) ((2 * i : Nat) : Int) = some (inR (ps.drop i) x)
  | m, 0, i, hi, hm, hk => by omega
  | m, k + 1, i, hi, hm, hk => by
    have hfl := flatI_len ps
    rw [breviaryref01_in.l0]
    have e1 : wrap64 (((2 * i : Nat) : Int) + 1) = ((2 * i + 1 : Nat) : Int) := by rw [w64 _ (by omega)]; rfl
    have e2 : wrap64 (((2 * i : Nat) : Int) + 2) = ((2 * (i + 1) : Nat) : Int) := by rw [w64 _ (by omega)]; rfl
    rw [e1, e2]
    by_cases hlt : i < ps.length
    · obtain ⟨m, rfl⟩ : ∃ x, m = x + 1 := ⟨m - 1, by omega⟩
      obtain ⟨g0, g1⟩ := flatI_get ps i hlt
      have r0 : rd (flatI ps) ((2 * i : Nat) : Int) = ps[i].1 := by unfold rd; rw [Int.toNat_natCast, List.getD, g0]; rfl
      have r1 : rd (flatI ps) ((2 * i + 1 : Nat) : Int) = ps[i].2 := by unfold rd; rw [Int.toNat_natCast, List.getD, g1]; rfl
      have hd : ps.drop i = ps[i] :: ps.drop (i + 1) := List.drop_eq_getElem_cons hlt
      have hin : inR (ps.drop i) x = ((decide (ps[i].1 ≤ x) && decide (x ≤ ps[i].2)) || inR (ps.drop (i + 1)) x) := by rw [hd]; rfl
      rw [if_pos (by rw [hfl]; omega), if_pos (by omega), if_pos (by rw [hfl]; omega), r0, r1, hin, in_ref x ps hl m k (i + 1) (by omega) (by omega) (by omega)]
      by_cases c1 : ps[i].1 ≤ x
      · rw [if_pos c1, if_pos (by omega)]
        by_cases c2 : x ≤ ps[i].2
        · rw [if_pos c2]; simp [c1, c2]
        · rw [if_neg c2]; simp [c2]
      · rw [if_neg c1]; simp [c1]
    · rw [if_neg (by rw [hfl]; omega), List.drop_eq_nil_of_le (by omega)]; rfl
theorem in_whole (k : Nat) (x : Int) (ps : List (Int × Int)) (hl : ps.length ≤ 100) (hk : ps.length < k) : breviaryref01_in.f k x (flatI ps) = some (inR ps x) := by
  have := in_ref x ps hl ps.length k 0 (Nat.zero_le _) (by omega) hk
  rwa [List.drop_zero] at this
theorem bool_iff {a b : Bool} (h : a = true ↔ b = true) : a = b := by cases a <;> cases b <;> simp_all
theorem is_ref (k : Nat) (x : Int) (hk : 7 ≤ k) : breviaryref01_Is.f k x = some (isR x) := by
  have h := in_whole k x [(9, 9), (10, 10), (13, 13), (32, 55295), (57344, 65533), (65536, 1114111)] (by decide) (by simp only [List.length_cons, List.length_nil]; omega)
  unfold breviaryref01_Is.f
  rw [show ([9, 9, 10, 10, 13, 13, 32, 55295, 57344, 65533, 65536, 1114111] : List Int) = flatI [(9, 9), (10, 10), (13, 13), (32, 55295), (57344, 65533), (65536, 1114111)] from rfl, h, Option.bind_some]
  congr 1
  refine bool_iff ?_
  simp [isR, isL, inR]
  omega
theorem start_ref (k : Nat) (x : Int) (hk : 16 ≤ k) : breviaryref01_Start.f k x = some (startR x) := by
  have h := in_whole k x [(65, 90), (95, 95), (97, 122), (192, 214), (216, 246), (248, 767), (880, 893), (895, 8191), (8204, 8205), (8304, 8591), (11264, 12271), (12289, 55295), (63744, 64975), (65008, 65533), (65536, 983039)] (by decide) (by simp only [List.length_cons, List.length_nil]; omega)
  unfold breviaryref01_Start.f
  rw [show ([65, 90, 95, 95, 97, 122, 192, 214, 216, 246, 248, 767, 880, 893, 895, 8191, 8204, 8205, 8304, 8591, 11264, 12271, 12289, 55295, 63744, 64975, 65008, 65533, 65536, 983039] : List Int) = flatI [(65, 90), (95, 95), (97, 122), (192, 214), (216, 246), (248, 767), (880, 893), (895, 8191), (8204, 8205), (8304, 8591), (11264, 12271), (12289, 55295), (63744, 64975), (65008, 65533), (65536, 983039)] from rfl, h, Option.bind_some]
  congr 1
  refine bool_iff ?_
  unfold startR
  by_cases hx : x < 128
  · rw [if_pos hx]
    simp [inR]
    omega
  · rw [if_neg hx]
    simp [inR, startL]
    omega
theorem part_ref (k : Nat) (x : Int) (hk : 16 ≤ k) : breviaryref01_Part.f k x = some (partR x) := by
  have h := in_whole k x partL (by decide) (by unfold partL; simp only [List.length_cons, List.length_nil]; omega)
  unfold breviaryref01_Part.f
  rw [start_ref k x hk, Option.bind_some, show ([45, 46, 48, 57, 183, 183, 768, 879, 8255, 8256] : List Int) = flatI partL from rfl, h, Option.bind_some]
  unfold partR
  cases startR x <;> rfl
theorem part_is (x : Int) (h : partR x = true) : isR x = true := by
  unfold partR startR at h
  by_cases hx : x < 128
  · rw [if_pos hx] at h
    simp [inR, partL, isR, isL] at *
    omega
  · rw [if_neg hx] at h
    simp [inR, partL, startL, isR, isL] at *
    omega
end Go.Proofs.YtagihjlklbckmaaGreatDoor.Sc
namespace Go.Proofs.YtagihjlklbckmaaGreatDoor.Sc
set_option linter.unusedVariables false
set_option linter.unusedSimpArgs false
open Go.RowKit Go.Proofs.YtagihjlklbckmaaGreatDoorW.PrintWords Go.Proofs.YtagihjlklbckmaaGreatDoorW.PrintLast Go.Proofs.YtagihjlklbckmaaGreatDoorW.PrintMore Go.Proofs.YtagihjlklbckmaaGreatDoor.Bs
theorem chars_whole (l : LB) (hl : l.length ≤ 1000000) (k : Nat) (hk : l.length + 12 ≤ k) : breviaryref01_Chars.f k (ofL l) = some (if Lib.validD l = true then (runesL l, true) else ([], false)) := by
  have := chars_ref l hl l.length k 0 [] (Nat.zero_le _) (by omega) (Nat.le_refl _) hk
  rwa [List.drop_zero, List.nil_append] at this
theorem rd_get (xs : List Int) (i : Nat) (h : i < xs.length) : rd xs (i : Int) = xs[i] := by
  unfold rd
  rw [Int.toNat_natCast]
  simp [List.getD, h]
theorem text_loop (xs : List Int) (hx : xs.length ≤ 1000000) : ∀ (m k i : Nat) (b : Bool), i ≤ xs.length → xs.length ≤ i + m → m + 8 ≤ k → breviaryref01_Text.l0 k xs b (i : Int) = some (b && (xs.drop i).all isR)
  | m, 0, i, b, hi, hm, hk => by omega
  | m, k + 1, i, b, hi, hm, hk => by
    rw [breviaryref01_Text.l0]
    by_cases hlt : i < xs.length
    · obtain ⟨m, rfl⟩ : ∃ x, m = x + 1 := ⟨m - 1, by omega⟩
      have e1 : wrap64 ((i : Int) + 1) = ((i + 1 : Nat) : Int) := by rw [w64 _ (by omega)]; rfl
      have hd : xs.drop i = xs[i] :: xs.drop (i + 1) := List.drop_eq_getElem_cons hlt
      rw [if_pos (by omega), e1, hd, List.all_cons]
      cases b with
      | true => rw [if_pos rfl, if_pos (by omega), rd_get xs i hlt, is_ref k _ (by omega), Option.bind_some, text_loop xs hx m k (i + 1) _ (by omega) (by omega) (by omega), Bool.true_and]
      | false => rw [if_neg (by decide), text_loop xs hx m k (i + 1) _ (by omega) (by omega) (by omega)]; rfl
    · rw [if_neg (by omega), List.drop_eq_nil_of_le (by omega), List.all_nil, Bool.and_true]
theorem name_loop (xs : List Int) (hx : xs.length ≤ 1000000) : ∀ (m k i : Nat), i ≤ xs.length → xs.length ≤ i + m → m + 17 ≤ k → breviaryref01_Name.l0 k xs (i : Int) = some ((xs.drop i).all partR)
  | m, 0, i, hi, hm, hk => by omega
  | m, k + 1, i, hi, hm, hk => by
    rw [breviaryref01_Name.l0]
    by_cases hlt : i < xs.length
    · obtain ⟨m, rfl⟩ : ∃ x, m = x + 1 := ⟨m - 1, by omega⟩
      have e1 : wrap64 ((i : Int) + 1) = ((i + 1 : Nat) : Int) := by rw [w64 _ (by omega)]; rfl
      have hd : xs.drop i = xs[i] :: xs.drop (i + 1) := List.drop_eq_getElem_cons hlt
      rw [if_pos (by omega), if_pos (by omega), rd_get xs i hlt, part_ref k _ (by omega), Option.bind_some, e1, hd, List.all_cons, name_loop xs hx m k (i + 1) (by omega) (by omega) (by omega)]
      cases partR xs[i] <;> rfl
    · rw [if_neg (by omega), List.drop_eq_nil_of_le (by omega), List.all_nil]
theorem text_ref (l : LB) (hl : l.length ≤ 1000000) : breviaryref01_Text.f (l.length + 20) (ofL l) = some (textL l) := by
  unfold breviaryref01_Text.f textL
  rw [chars_whole l hl _ (by omega), Option.bind_some]
  have hrl := runes_len _ l (Nat.le_refl _)
  by_cases hv : Lib.validD l = true
  · rw [if_pos hv, hv, runes_all isR _ l (Nat.le_refl _)]
    have := text_loop (runesL l) (by omega) l.length (l.length + 20) 0 true (Nat.zero_le _) (by omega) (by omega)
    rw [List.drop_zero] at this
    exact this
  · rw [if_neg hv, Bool.eq_false_iff.2 hv]
    have := text_loop [] (by decide) 0 (l.length + 20) 0 false (Nat.le_refl _) (Nat.le_refl _) (by omega)
    exact this
theorem all_part {l : LB} (h : allR partR l = true) : allR isR l = true := by
  rw [runes_all _ _ l (Nat.le_refl _)] at h ⊢
  exact List.all_eq_true.2 fun x hx => part_is x (List.all_eq_true.1 h x hx)
theorem name_ref (l : LB) (hl : l.length ≤ 1000000) : breviaryref01_Name.f (l.length + 40) (ofL l) = some (nameL l) := by
  unfold breviaryref01_Name.f nameL textL
  rw [chars_whole l hl _ (by omega), Option.bind_some]
  have hrl := runes_len _ l (Nat.le_refl _)
  have hz := ofL_size l
  by_cases hv : Lib.validD l = true
  · rw [if_pos hv, hv, if_pos rfl]
    by_cases h1 : 1 ≤ l.length
    · have hne : l ≠ [] := fun e => by rw [e] at h1; simp at h1
      have hst := runesL_step l hne
      rw [if_neg (by rw [hz]; omega), decide_eq_true h1]
      by_cases h32 : l.length ≤ 32
      · rw [if_neg (by rw [hz]; omega), decide_eq_true h32, if_pos (by rw [hst, List.length_cons]; omega)]
        have hr0 : rd (runesL l) 0 = ((Lib.decodeL l).1 : Int) := by rw [hst]; rfl
        rw [hr0, start_ref _ _ (by omega), Option.bind_some]
        cases hs : startR ((Lib.decodeL l).1 : Int) with
        | false =>
          rw [breviaryref01_Name.j0, if_pos (by decide)]; simp
        | true =>
          rw [breviaryref01_Name.j0, if_neg (by decide)]
          have := name_loop (runesL l) (by omega) l.length (l.length + 39) 0 (Nat.zero_le _) (by omega) (by omega)
          rw [List.drop_zero, ← runes_all partR _ l (Nat.le_refl _)] at this
          rw [show breviaryref01_Name.l0 (l.length + 39) (runesL l) 0 = _ from this]
          cases hp : allR partR l with
          | false => simp
          | true => rw [all_part hp]; rfl
      · rw [if_pos (by rw [hz]; omega), decide_eq_false h32, breviaryref01_Name.j0, if_pos rfl]; simp
    · rw [if_pos (by rw [hz]; omega), decide_eq_false h1, breviaryref01_Name.j0, if_pos rfl]; simp
  · rw [if_neg hv, if_neg (by decide), breviaryref01_Name.j0, if_pos rfl, Bool.eq_false_iff.2 hv]; simp
/-! ### the ends of lines leave a text a text -/
theorem textL_step (l : LB) (h : l ≠ []) : textL l = (!decide (badL l) && isR ((Lib.decodeL l).1 : Int) && textL (l.drop (Lib.decodeL l).2)) := by
  unfold textL
  rw [validD_bad l h, allR_step isR l h]
  by_cases hb : badL l
  · rw [if_pos hb, decide_eq_true hb]; simp
  · rw [if_neg hb, decide_eq_false hb]
    cases isR ((Lib.decodeL l).1 : Int) <;> simp
theorem textL_low (c : UInt8) (r : LB) (h : c.toNat < 128) : textL (c :: r) = (isR (c.toNat : Int) && textL r) := by
  have hb : ¬ badL (c :: r) := fun e => by
    have h1 := e.1
    rw [Lib.decodeL_ascii c r h] at h1
    simp only at h1
    omega
  rw [textL_step _ (by simp), decide_eq_false hb, Lib.decodeL_ascii c r h]; rfl
theorem dec_same (n n' b0 b1 b2 b3 c1 c2 c3 : Nat) (h0 : 128 ≤ b0 ∧ b0 < 256) (h1 : b1 < 256) (h2 : b2 < 256) (h3 : b3 < 256) (k1 : c1 < 256) (k2 : c2 < 256) (k3 : c3 < 256) (hg : 2 ≤ (Lib.decodeN n b0 b1 b2 b3).2) (hn : (Lib.decodeN n b0 b1 b2 b3).2 ≤ n') (hc1 : c1 = b1) (hc2 : 3 ≤ (Lib.decodeN n b0 b1 b2 b3).2 → c2 = b2) (hc3 : 4 ≤ (Lib.decodeN n b0 b1 b2 b3).2 → c3 = b3) :
    Lib.decodeN n' b0 c1 c2 c3 = Lib.decodeN n b0 b1 b2 b3 ∧ 128 ≤ b1 ∧ (3 ≤ (Lib.decodeN n b0 b1 b2 b3).2 → 128 ≤ b2) ∧ (4 ≤ (Lib.decodeN n b0 b1 b2 b3).2 → 128 ≤ b3) ∧ (Lib.decodeN n b0 b1 b2 b3).2 ≤ 4 := by
  subst hc1
  by_cases e1 : b0 < 192
  · rw [dec0 n b0 c1 b2 b3 (.inl ⟨h0.1, e1⟩)] at hg; simp at hg
  by_cases e2 : b0 < 224
  · have hd := dec2 n b0 c1 b2 b3 ⟨by omega, e2⟩ h1
    have hd' := dec2 n' b0 c1 c2 c3 ⟨by omega, e2⟩ h1
    split at hd
    · rename_i hc
      rw [hd] at hn ⊢
      simp only at hn
      rw [hd', if_pos (by omega)]
      exact ⟨rfl, by omega, fun h => by simp at h, fun h => by simp at h, by simp⟩
    · rw [hd] at hg; simp at hg
  by_cases e3 : b0 < 240
  · have hd := dec3 n b0 c1 b2 b3 ⟨by omega, e3⟩ h1 h2
    have hd' := dec3 n' b0 c1 c2 c3 ⟨by omega, e3⟩ h1 k2
    split at hd
    · rename_i hc
      rw [hd] at hn hc2 ⊢
      simp only at hn
      obtain rfl := hc2 (Nat.le_refl _)
      rw [hd', if_pos (by omega)]
      exact ⟨rfl, by omega, fun h => by omega, fun h => by simp at h, by simp⟩
    · rw [hd] at hg; simp at hg
  by_cases e4 : b0 < 248
  · have hd := dec4 n b0 c1 b2 b3 ⟨by omega, e4⟩ h1 h2 h3
    have hd' := dec4 n' b0 c1 c2 c3 ⟨by omega, e4⟩ h1 k2 k3
    split at hd
    · rename_i hc
      rw [hd] at hn hc2 hc3 ⊢
      simp only at hn
      obtain rfl := hc2 (by simp)
      obtain rfl := hc3 (Nat.le_refl _)
      rw [hd', if_pos (by omega)]
      exact ⟨rfl, by omega, fun h => by omega, fun h => by omega, by simp⟩
    · rw [hd] at hg; simp at hg
  · rw [dec0 n b0 c1 b2 b3 (.inr ⟨by omega, h0.2⟩)] at hg; simp at hg
end Go.Proofs.YtagihjlklbckmaaGreatDoor.Sc
namespace Go.Proofs.YtagihjlklbckmaaGreatDoor.Sc
set_option linter.unusedVariables false
set_option linter.unusedSimpArgs false
open Go.RowKit Go.Proofs.YtagihjlklbckmaaGreatDoorW.PrintWords Go.Proofs.YtagihjlklbckmaaGreatDoorW.PrintLast Go.Proofs.YtagihjlklbckmaaGreatDoorW.PrintMore Go.Proofs.YtagihjlklbckmaaGreatDoor.Bs
theorem lines_app : ∀ (p q : LB), (∀ c ∈ p, ¬ c = 13) → linesL (p ++ q) = p ++ linesL q
  | [], q, _ => rfl
  | c :: p, q, h => by
    rw [List.cons_append, lines_plain c _ (h c (List.mem_cons_self ..)), lines_app p q (fun d hd => h d (List.mem_cons_of_mem _ hd)), List.cons_append]
theorem getD_take (l z : LB) (m i : Nat) (hi : i < m) (hm : m ≤ l.length) : (l.take m ++ z).getD i 0 = l.getD i 0 := by
  simp only [List.getD]
  rw [List.getElem?_append_left (by rw [List.length_take]; omega), List.getElem?_take_of_lt hi]
/-- A character above ASCII stands whatever stands behind it. -/
theorem decode_keep (l z : LB) (hl : l ≠ []) (hb : ¬ badL l) (h0 : 128 ≤ (l.getD 0 0).toNat) : Lib.decodeL (l.take (Lib.decodeL l).2 ++ z) = Lib.decodeL l ∧ ∀ c ∈ l.take (Lib.decodeL l).2, 128 ≤ c.toNat := by
  have hle := Lib.decodeL_le l hl
  have hD := Lib.decodeL_N l
  have b0 := (l.getD 0 0).toNat_lt
  have b1 := (l.getD 1 0).toNat_lt
  have b2 := (l.getD 2 0).toNat_lt
  have b3 := (l.getD 3 0).toNat_lt
  have hg : 2 ≤ (Lib.decodeL l).2 := by
    rcases dec_hi l.length (l.getD 0 0).toNat (l.getD 1 0).toNat (l.getD 2 0).toNat (l.getD 3 0).toNat ⟨h0, b0⟩ b1 b2 b3 with h | h
    · rw [← hD] at h; exact absurd ⟨by rw [h], by rw [h]⟩ hb
    · rwa [← hD] at h
  obtain ⟨m, hm⟩ : ∃ x, x = (Lib.decodeL l).2 := ⟨_, rfl⟩
  rw [← hm] at hg hle ⊢
  have hN := Lib.decodeL_N (l.take m ++ z)
  have hlen : m ≤ (l.take m ++ z).length := by rw [List.length_append, List.length_take]; omega
  have hDm : (Lib.decodeN l.length (l.getD 0 0).toNat (l.getD 1 0).toNat (l.getD 2 0).toNat (l.getD 3 0).toNat).2 = m := by rw [← hD, hm]
  rw [getD_take l z m 0 (by omega) hle] at hN
  obtain ⟨s1, s2, s3, s4, s5⟩ := dec_same l.length (l.take m ++ z).length (l.getD 0 0).toNat (l.getD 1 0).toNat (l.getD 2 0).toNat (l.getD 3 0).toNat ((l.take m ++ z).getD 1 0).toNat ((l.take m ++ z).getD 2 0).toNat ((l.take m ++ z).getD 3 0).toNat ⟨h0, b0⟩ b1 b2 b3
    ((l.take m ++ z).getD 1 0).toNat_lt ((l.take m ++ z).getD 2 0).toNat_lt ((l.take m ++ z).getD 3 0).toNat_lt (by rw [hDm]; exact hg) (by rw [hDm]; exact hlen)
    (by rw [getD_take l z m 1 (by omega) hle]) (fun h => by rw [hDm] at h; rw [getD_take l z m 2 (by omega) hle]) (fun h => by rw [hDm] at h; rw [getD_take l z m 3 (by omega) hle])
  refine ⟨by rw [hN, s1, ← hD], fun c hc => ?_⟩
  obtain ⟨i, hi, rfl⟩ := List.getElem_of_mem hc
  rw [List.length_take] at hi
  rw [List.getElem_take]
  have hgi : l.getD i 0 = l[i] := by simp [List.getD, show i < l.length by omega]
  rw [← hgi]
  rw [hDm] at s3 s4 s5
  match i, hi with
  | 0, _ => exact h0
  | 1, _ => exact s2
  | 2, hi => exact s3 (by omega)
  | 3, hi => exact s4 (by omega)
  | i + 4, hi => omega
theorem text_lines : ∀ (n : Nat) (l : LB), l.length ≤ n → textL l = true → textL (linesL l) = true
  | n, [], _, h => h
  | 0, c :: r, hn, _ => by simp at hn
  | n + 1, c :: r, hn, h => by
    rw [List.length_cons] at hn
    by_cases hc : c.toNat < 128
    · rw [textL_low c r hc, Bool.and_eq_true] at h
      by_cases h13 : c = 13
      · subst h13
        cases r with
        | nil =>
          rw [lines_cr [] (fun d q e => by cases e), textL_low 10 _ (by decide), lines_nil, h.2, Bool.and_true]; decide
        | cons d q =>
          rw [List.length_cons] at hn
          by_cases h10 : d = 10
          · subst h10
            rw [lines_two, textL_low 10 _ (by decide)]
            have h2 := h.2
            rw [textL_low 10 q (by decide), Bool.and_eq_true] at h2
            rw [text_lines n q (by omega) h2.2, Bool.and_true]; decide
          · rw [lines_cr _ (fun e t he => by injection he with h1 _; rw [← h1]; exact h10), textL_low 10 _ (by decide), text_lines n (d :: q) (by rw [List.length_cons]; omega) h.2, Bool.and_true]; decide
      · rw [lines_plain c r h13, textL_low c _ hc, h.1, text_lines n r (by omega) h.2]; rfl
    · have hne : c :: r ≠ [] := by simp
      have h0 : 128 ≤ ((c :: r).getD 0 0).toNat := by show 128 ≤ c.toNat; omega
      have hs := h
      rw [textL_step _ hne, Bool.and_eq_true, Bool.and_eq_true] at hs
      have hb : ¬ badL (c :: r) := by
        have h1 := hs.1.1
        rw [Bool.not_eq_true', decide_eq_false_iff_not] at h1
        exact h1
      have hle := Lib.decodeL_le _ hne
      have hw := width_one (c :: r)
      have hk := fun z => decode_keep (c :: r) z hne hb h0
      obtain ⟨m, hm⟩ : ∃ x, x = (Lib.decodeL (c :: r)).2 := ⟨_, rfl⟩
      have hlines : linesL (c :: r) = (c :: r).take m ++ linesL ((c :: r).drop m) := by
        conv => lhs; rw [← List.take_append_drop m (c :: r)]
        exact lines_app _ _ (fun d hd e => by
          have := (hk []).2 d (hm ▸ hd)
          rw [e] at this
          have h13 : (13 : UInt8).toNat = 13 := rfl
          omega)
      rw [hlines]
      have hz := (hk (linesL ((c :: r).drop m))).1
      rw [← hm] at hz hle hw
      have hne2 : (c :: r).take m ++ linesL ((c :: r).drop m) ≠ [] := by
        intro e
        have := congrArg List.length e
        rw [List.length_append, List.length_take, List.length_nil] at this
        omega
      have hb2 : ¬ badL ((c :: r).take m ++ linesL ((c :: r).drop m)) := by
        unfold badL
        rw [hz]
        exact hb
      have hdrop : ((c :: r).take m ++ linesL ((c :: r).drop m)).drop m = linesL ((c :: r).drop m) := by
        rw [List.drop_append_of_le_length (by rw [List.length_take]; omega), List.drop_eq_nil_of_le (by rw [List.length_take]; omega), List.nil_append]
      rw [textL_step _ hne2, decide_eq_false hb2, hz, ← hm, hdrop, hs.1.2, text_lines n ((c :: r).drop m) (by rw [List.length_drop]; simp only [List.length_cons] at *; omega) (by rw [hm]; exact hs.2)]
      rfl
end Go.Proofs.YtagihjlklbckmaaGreatDoor.Sc
namespace Go.Proofs.YtagihjlklbckmaaGreatDoor.Sc
set_option linter.unusedVariables false
set_option linter.unusedSimpArgs false
open Go.RowKit Go.Proofs.YtagihjlklbckmaaGreatDoorW.PrintWords Go.Proofs.YtagihjlklbckmaaGreatDoorW.PrintLast Go.Proofs.YtagihjlklbckmaaGreatDoorW.PrintMore Go.Proofs.YtagihjlklbckmaaGreatDoor.Bs
theorem pre_take {d t : LB} (e : d.take t.length = t) : t.isPrefixOf d = true :=
  List.isPrefixOf_iff_prefix.2 ⟨d.drop t.length, by have h := List.take_append_drop t.length d; rwa [e] at h⟩
theorem run_ref (l : LB) (hl : l.length ≤ 1000000) : ∀ (m k pos : Nat), pos ≤ l.length → l.length ≤ pos + m → m + 20 ≤ k → textL (l.drop pos) = true → breviaryref06_Run.l0 k (ofL l) (pos : Int) = some ((pos + spanN partR (l.drop pos) : Nat) : Int)
  | m, 0, pos, hp, hm, hk, ht => by omega
  | m, k + 1, pos, hp, hm, hk, ht => by
    rw [breviaryref06_Run.l0]
    have hz := ofL_size l
    by_cases hlt : pos < l.length
    · obtain ⟨m, rfl⟩ : ∃ x, m = x + 1 := ⟨m - 1, by omega⟩
      obtain ⟨k, rfl⟩ : ∃ x, k = x + 11 := ⟨k - 11, by omega⟩
      have hne := drop_ne' hlt
      have hle := Lib.decodeL_le _ hne
      have hw := width_one (l.drop pos)
      have ht2 := ht
      rw [textL_step _ hne, Bool.and_eq_true, Bool.and_eq_true, Bool.not_eq_true', decide_eq_false_iff_not] at ht2
      rw [List.length_drop] at hle
      rw [if_pos (by rw [hz]; omega), if_pos (by omega), if_pos (by rw [hz]; omega), Int.toNat_natCast, ofL_cut, one_char k _ (by rw [List.length_drop]; omega), Option.bind_some, if_neg ht2.1.1, if_neg (by simp only; omega), part_ref _ _ (by omega), Option.bind_some, spanN_step partR _ hne]
      simp only
      cases hp2 : partR ((Lib.decodeL (l.drop pos)).1 : Int) with
      | true =>
        have hwr : wrap64 ((pos : Int) + ((Lib.decodeL (l.drop pos)).2 : Int)) = ((pos + (Lib.decodeL (l.drop pos)).2 : Nat) : Int) := by rw [w64 _ (by omega)]; rfl
        rw [if_pos rfl, if_pos rfl, hwr, run_ref l hl m (k + 11) _ (by omega) (by omega) (by omega) (by rw [← List.drop_drop]; exact ht2.2), List.drop_drop, Nat.add_assoc]
      | false => rw [if_neg (by decide), if_neg (by decide), Nat.add_zero]
    · rw [if_neg (by rw [hz]; omega), List.drop_eq_nil_of_le (by omega), spanN_nil, Nat.add_zero]
theorem find_ref (l t : LB) (hl : l.length ≤ 1000000) (ht : t ≠ []) (htl : t.length ≤ 1000) : ∀ (m k pos : Nat), pos ≤ l.length → l.length ≤ pos + m → m < k → breviaryref06_Find.l0 k (ofL l) (ofL t) (pos : Int) = some (if Lib.index (l.drop pos) t = -1 then -1 else (pos : Int) + Lib.index (l.drop pos) t)
  | m, 0, pos, hp, hm, hk => by omega
  | m, k + 1, pos, hp, hm, hk => by
    rw [breviaryref06_Find.l0]
    have hz := ofL_size l
    have hzt := ofL_size t
    have htp : 1 ≤ t.length := List.length_pos_iff.2 ht
    have e1 : wrap64 ((pos : Int) + ((ofL t).size : Int)) = ((pos + t.length : Nat) : Int) := by rw [hzt, w64 _ (by omega)]; rfl
    have e2 : wrap64 ((pos : Int) + 1) = ((pos + 1 : Nat) : Int) := by rw [w64 _ (by omega)]; rfl
    rw [e1, e2]
    by_cases hroom : pos + t.length ≤ l.length
    · obtain ⟨m, rfl⟩ : ∃ x, m = x + 1 := ⟨m - 1, by omega⟩
      have hd : l.drop pos = l[pos] :: l.drop (pos + 1) := List.drop_eq_getElem_cons (by omega)
      have hge := Lib.index_ge (l.drop (pos + 1)) t
      rw [if_pos (by rw [hz]; omega), if_pos (by omega), if_pos (by omega), Int.toNat_natCast, Int.toNat_natCast, ofL_extract, ofL_toList, ofL_toList, List.drop_take, show pos + t.length - pos = t.length by omega]
      by_cases hpre : t.isPrefixOf (l.drop pos) = true
      · obtain ⟨r, hr⟩ := List.isPrefixOf_iff_prefix.1 hpre
        have hi : Lib.index (l.drop pos) t = 0 := by rw [hd] at hpre ⊢; rw [Lib.index, if_pos hpre]
        rw [if_pos (by rw [← hr, List.take_left]), hi, if_neg (by decide), Int.add_zero]
      · have hi : Lib.index (l.drop pos) t = if Lib.index (l.drop (pos + 1)) t == -1 then -1 else Lib.index (l.drop (pos + 1)) t + 1 := by
          rw [hd] at hpre ⊢
          rw [Lib.index, if_neg hpre]
        rw [if_neg (fun e => hpre (pre_take e)), find_ref l t hl ht htl m k (pos + 1) (by omega) (by omega) (by omega)]
        by_cases hm1 : Lib.index (l.drop (pos + 1)) t = -1
        · have hi2 : Lib.index (l.drop pos) t = -1 := by rw [hi, if_pos (by rw [hm1]; rfl)]
          rw [if_pos hm1, if_pos hi2]
        · have hi2 : Lib.index (l.drop pos) t = Lib.index (l.drop (pos + 1)) t + 1 := by rw [hi, if_neg (by rw [beq_iff_eq]; exact hm1)]
          rw [if_neg hm1, if_neg (by omega), hi2]
          congr 1; omega
    · rw [if_neg (by rw [hz]; omega)]
      have hi : Lib.index (l.drop pos) t = -1 := by
        have hge := Lib.index_ge (l.drop pos) t
        refine Decidable.byContradiction fun h => ?_
        have := Lib.index_room (l.drop pos) t (by omega)
        rw [List.length_drop] at this
        omega
      rw [hi, if_pos rfl]
theorem begins_ref (l t : LB) (hl : l.length ≤ 1000000) (htl : t.length ≤ 1000) (pos : Nat) (hp : pos ≤ l.length) : breviaryref06_begins.f (ofL l) (pos : Int) (ofL t) = some (Lib.hasPrefix (l.drop pos) t) := by
  have hz := ofL_size l
  have hzt := ofL_size t
  have e1 : wrap64 ((pos : Int) + ((ofL t).size : Int)) = ((pos + t.length : Nat) : Int) := by rw [hzt, w64 _ (by omega)]; rfl
  unfold breviaryref06_begins.f Lib.hasPrefix
  rw [e1]
  by_cases hroom : pos + t.length ≤ l.length
  · rw [if_pos (by rw [hz]; omega), if_pos (by omega), if_pos (by omega), Int.toNat_natCast, Int.toNat_natCast, ofL_extract, ofL_toList, ofL_toList, List.drop_take, show pos + t.length - pos = t.length by omega]
    congr 1
    refine bool_iff ?_
    rw [beq_iff_eq, List.isPrefixOf_iff_prefix]
    constructor
    · intro e; exact List.isPrefixOf_iff_prefix.1 (pre_take e)
    · rintro ⟨r, hr⟩; rw [← hr, List.take_left]
  · rw [if_neg (by rw [hz]; omega)]
    congr 1
    rw [eq_comm, Bool.eq_false_iff, ne_eq, List.isPrefixOf_iff_prefix]
    rintro ⟨r, hr⟩
    have := congrArg List.length hr
    rw [List.length_append, List.length_drop] at this
    omega
end Go.Proofs.YtagihjlklbckmaaGreatDoor.Sc
namespace Go.Proofs.YtagihjlklbckmaaGreatDoor.Sc
set_option linter.unusedVariables false
set_option linter.unusedSimpArgs false
open Go.RowKit Go.Proofs.YtagihjlklbckmaaGreatDoorW.PrintWords Go.Proofs.YtagihjlklbckmaaGreatDoorW.PrintLast Go.Proofs.YtagihjlklbckmaaGreatDoorW.PrintMore Go.Proofs.YtagihjlklbckmaaGreatDoor.Bs
theorem space_ref (x : Int) : breviaryref01_Space.f x = some (spaceR x) := by
  unfold breviaryref01_Space.f spaceR
  by_cases h9 : x = 9
  · rw [if_pos h9, h9]; rfl
  rw [if_neg h9]
  by_cases h10 : x = 10
  · rw [if_pos h10, h10]; rfl
  rw [if_neg h10]
  by_cases h13 : x = 13
  · rw [if_pos h13, h13]; rfl
  rw [if_neg h13, show (x == 9) = false by rw [beq_eq_false_iff_ne]; exact h9, show (x == 10) = false by rw [beq_eq_false_iff_ne]; exact h10, show (x == 13) = false by rw [beq_eq_false_iff_ne]; exact h13, Bool.or_false, Bool.or_false, Bool.or_false]
theorem space_high (l : LB) (h : 128 ≤ (l.getD 0 0).toNat) : spaceR ((Lib.decodeL l).1 : Int) = false := by
  have hr : 128 ≤ (Lib.decodeL l).1 := by
    rw [Lib.decodeL_N]
    have b0 := (l.getD 0 0).toNat_lt
    have b1 := (l.getD 1 0).toNat_lt
    have b2 := (l.getD 2 0).toNat_lt
    have b3 := (l.getD 3 0).toNat_lt
    generalize (l.getD 0 0).toNat = x0 at *
    generalize (l.getD 1 0).toNat = x1 at *
    generalize (l.getD 2 0).toNat = x2 at *
    generalize (l.getD 3 0).toNat = x3 at *
    by_cases c1 : x0 < 192
    · rw [dec0 _ _ _ _ _ (.inl ⟨h, c1⟩)]; decide
    by_cases c2 : x0 < 224
    · rw [dec2 _ _ _ _ _ ⟨by omega, c2⟩ b1]
      split
      · simp only; omega
      · decide
    by_cases c3 : x0 < 240
    · rw [dec3 _ _ _ _ _ ⟨by omega, c3⟩ b1 b2]
      split
      · simp only; omega
      · decide
    by_cases c4 : x0 < 248
    · rw [dec4 _ _ _ _ _ ⟨by omega, c4⟩ b1 b2 b3]
      split
      · simp only; omega
      · decide
    · rw [dec0 _ _ _ _ _ (.inr ⟨by omega, b0⟩)]; decide
  unfold spaceR
  simp only [Bool.or_eq_false_iff, beq_eq_false_iff_ne, ne_eq]
  omega
theorem spaces_ref (l : LB) (hl : l.length ≤ 1000000) : ∀ (m k pos : Nat), pos ≤ l.length → l.length ≤ pos + m → m < k → breviaryref06_Spaces.l0 k (ofL l) (pos : Int) = some ((pos + spanN spaceR (l.drop pos) : Nat) : Int)
  | m, 0, pos, hp, hm, hk => by omega
  | m, k + 1, pos, hp, hm, hk => by
    rw [breviaryref06_Spaces.l0]
    have hz := ofL_size l
    by_cases hlt : pos < l.length
    · obtain ⟨m, rfl⟩ : ∃ x, m = x + 1 := ⟨m - 1, by omega⟩
      have hne := drop_ne' hlt
      have hd : l.drop pos = l[pos] :: l.drop (pos + 1) := List.drop_eq_getElem_cons hlt
      have hx := l[pos].toNat_lt
      have e2 : wrap64 ((pos : Int) + 1) = ((pos + 1 : Nat) : Int) := by rw [w64 _ (by omega)]; rfl
      rw [if_pos (by rw [hz]; omega), if_pos (by omega), bt_ofL l pos hlt, w64 _ (by omega), space_ref, Option.bind_some, e2, spanN_step spaceR _ hne]
      by_cases hc : l[pos].toNat < 128
      · have hdc : Lib.decodeL (l.drop pos) = (l[pos].toNat, 1) := by rw [hd]; exact Lib.decodeL_ascii _ _ hc
        rw [hdc]
        simp only
        cases hs : spaceR (l[pos].toNat : Int) with
        | true => rw [if_pos rfl, if_pos rfl, spaces_ref l hl m k (pos + 1) (by omega) (by omega) (by omega), List.drop_drop, Nat.add_assoc]
        | false => rw [if_neg (by decide), if_neg (by decide), Nat.add_zero]
      · have h0 : 128 ≤ ((l.drop pos).getD 0 0).toNat := by rw [hd]; show 128 ≤ l[pos].toNat; omega
        have hs : spaceR (l[pos].toNat : Int) = false := by
          unfold spaceR
          simp only [Bool.or_eq_false_iff, beq_eq_false_iff_ne, ne_eq]
          omega
        rw [hs, space_high _ h0, if_neg (by decide), if_neg (by decide), Nat.add_zero]
    · rw [if_neg (by rw [hz]; omega), List.drop_eq_nil_of_le (by omega), spanN_nil, Nat.add_zero]
theorem must_place (l : LB) (pos : Nat) (hp : pos ≤ l.length) (c : UInt8) : breviaryref06_must.f (ofL l) (pos : Int) (c.toNat : Int) = some (match mustM c (l.drop pos) with | .error k => k | .ok _ => 0) := by
  have hz := ofL_size l
  unfold breviaryref06_must.f
  by_cases hlt : pos < l.length
  · have hd : l.drop pos = l[pos] :: l.drop (pos + 1) := List.drop_eq_getElem_cons hlt
    rw [if_neg (by rw [hz]; omega), if_pos (by omega), if_pos (by rw [hz]; omega), bt_ofL l pos hlt, hd]
    unfold mustM
    by_cases hc : l[pos] = c
    · rw [if_pos (by rw [hc])]; simp only [if_pos hc]
    · rw [if_neg (fun e => hc (UInt8.toNat_inj.1 (by omega)))]; simp only [if_neg hc]
  · rw [if_pos (by rw [hz]; omega), List.drop_eq_nil_of_le (by omega)]; rfl
theorem name_at (l : LB) (hl : l.length ≤ 1000000) : ∀ (d : Nat), breviaryref01_Name.f (l.length + 40 + d) (ofL l) = some (nameL l)
  | 0 => name_ref l hl
  | d + 1 => breviaryref01_Name.mono (ofL l) (l.length + 40 + d) _ (name_at l hl d)
/-- THE DOCUMENT's NAME at a place. -/
theorem name_place (l : LB) (hl : l.length ≤ 1000000) (pos k : Nat) (hp : pos ≤ l.length) (hk : l.length + 50 ≤ k) (ht : textL (l.drop pos) = true) :
    breviaryref06_name.f k (ofL l) (pos : Int) = some (match nameM (l.drop pos) with | .error e => (0, e) | .ok (n, r) => (((pos + spanN partR (l.drop pos) : Nat) : Int), 0)) := by
  have hz := ofL_size l
  have hr := run_ref l hl l.length k pos hp (by omega) (by omega) ht
  have hsp := spanN_le partR (l.drop pos)
  rw [List.length_drop] at hsp
  unfold breviaryref06_name.f breviaryref06_Run.f
  rw [hr, Option.bind_some, if_pos (by omega), if_pos (by omega), if_pos (by rw [hz]; omega), Int.toNat_natCast, Int.toNat_natCast, ofL_extract, List.drop_take, show pos + spanN partR (l.drop pos) - pos = spanN partR (l.drop pos) by omega]
  have hlen : ((l.drop pos).take (spanN partR (l.drop pos))).length = spanN partR (l.drop pos) := by rw [List.length_take, List.length_drop]; omega
  have hn := name_at ((l.drop pos).take (spanN partR (l.drop pos))) (by omega) (k - (((l.drop pos).take (spanN partR (l.drop pos))).length + 40))
  rw [show ((l.drop pos).take (spanN partR (l.drop pos))).length + 40 + (k - (((l.drop pos).take (spanN partR (l.drop pos))).length + 40)) = k by omega] at hn
  rw [hn, Option.bind_some]
  unfold nameM
  by_cases hnm : nameL ((l.drop pos).take (spanN partR (l.drop pos))) = true
  · have hne : ¬ ((l.drop pos).take (spanN partR (l.drop pos)) = [] ∧ (l.drop pos).drop (spanN partR (l.drop pos)) = []) := fun e => by
      rw [e.1] at hnm; exact absurd hnm (by decide)
    rw [if_pos hnm, if_neg hne, if_pos hnm]
  · rw [if_neg hnm]
    by_cases h0 : spanN partR (l.drop pos) = 0
    · rw [if_pos (by omega), h0, List.take_zero, List.drop_zero]
      by_cases hend : pos = l.length
      · rw [if_pos (by rw [hz]; omega), if_pos ⟨rfl, List.drop_eq_nil_of_le (by omega)⟩]
      · rw [if_neg (by rw [hz]; omega), if_neg (fun e => drop_ne' (show pos < l.length by omega) e.2), if_neg (by decide)]
    · rw [if_neg (by omega), if_neg (fun e => by have := congrArg List.length e.1; rw [hlen] at this; exact h0 this), if_neg hnm]
end Go.Proofs.YtagihjlklbckmaaGreatDoor.Sc
namespace Go.Proofs.YtagihjlklbckmaaGreatDoor.Sc
set_option linter.unusedVariables false
set_option linter.unusedSimpArgs false
open Go.RowKit Go.Proofs.YtagihjlklbckmaaGreatDoorW.PrintWords Go.Proofs.YtagihjlklbckmaaGreatDoorW.PrintLast Go.Proofs.YtagihjlklbckmaaGreatDoorW.PrintMore Go.Proofs.YtagihjlklbckmaaGreatDoor.Bs
def lowB (c : UInt8) : UInt8 := if 65 ≤ c.toNat ∧ c.toNat ≤ 90 then UInt8.ofNat (c.toNat + 32) else c
theorem nums_one (v : Nat) (c : UInt8) (h : c.toNat = v) : strOfNums [(v : Int)] = ofL [c] := by
  subst h
  have e : UInt8.ofNat c.toNat = c := by simp
  show (⟨#[UInt8.ofNat ((c.toNat : Int).toNat)]⟩ : ByteArray) = ofL [c]
  rw [Int.toNat_natCast, e]; rfl
theorem low_nat (c : UInt8) (h : 65 ≤ c.toNat ∧ c.toNat ≤ 90) : (lowB c).toNat = c.toNat + 32 := by
  unfold lowB
  rw [if_pos h, UInt8.toNat_ofNat']
  omega
theorem small_ref (l : LB) (hl : l.length ≤ 1000000) : ∀ (m k pos : Nat) (o : LB), pos ≤ l.length → l.length ≤ pos + m → m < k → o.length ≤ pos → breviaryref06_small.l0 k (ofL l) (ofL o) (pos : Int) = some (ofL (o ++ (l.drop pos).map lowB))
  | m, 0, pos, o, hp, hm, hk, ho => by omega
  | m, k + 1, pos, o, hp, hm, hk, ho => by
    rw [breviaryref06_small.l0]
    have hz := ofL_size l
    by_cases hlt : pos < l.length
    · obtain ⟨m, rfl⟩ : ∃ x, m = x + 1 := ⟨m - 1, by omega⟩
      have hd : l.drop pos = l[pos] :: l.drop (pos + 1) := List.drop_eq_getElem_cons hlt
      have hx := l[pos].toNat_lt
      have e2 : wrap64 ((pos : Int) + 1) = ((pos + 1 : Nat) : Int) := by rw [w64 _ (by omega)]; rfl
      have hih := fun c => small_ref l hl m k (pos + 1) (o ++ [c]) (by omega) (by omega) (by omega) (by rw [List.length_append, List.length_singleton]; omega)
      have hsz : ∀ c : UInt8, (ofL o).size + (ofL [c]).size ≤ 9223372036854775807 := fun c => by rw [ofL_size, ofL_size, List.length_singleton]; omega
      rw [if_pos (by rw [hz]; omega), if_pos (by omega), bt_ofL l pos hlt, e2, hd, List.map_cons]
      by_cases c1 : 65 ≤ l[pos].toNat ∧ l[pos].toNat ≤ 90
      · have hv : ((l[pos].toNat : Int) + 32) % 256 = ((l[pos].toNat + 32 : Nat) : Int) := by omega
        rw [if_pos (by omega), if_pos (by omega), Option.bind_some, hv, nums_one _ (lowB l[pos]) (low_nat _ c1), if_pos (hsz _), ofL_app, hih, List.append_assoc]; rfl
      · have hlow : lowB l[pos] = l[pos] := if_neg c1
        rw [hlow]
        by_cases c2 : 65 ≤ l[pos].toNat
        · rw [if_pos (by omega), if_neg (by omega), Option.bind_some, nums_one _ l[pos] rfl, if_pos (hsz _), ofL_app, hih, List.append_assoc]; rfl
        · rw [if_neg (by omega), Option.bind_some, nums_one _ l[pos] rfl, if_pos (hsz _), ofL_app, hih, List.append_assoc]; rfl
    · rw [if_neg (by rw [hz]; omega), List.drop_eq_nil_of_le (by omega), List.map_nil, List.append_nil]
theorem fold_low (x y : UInt8) (hy : 97 ≤ y.toNat ∧ y.toNat ≤ 122) : Lib.foldEq x y = decide (lowB x = y) := by
  unfold Lib.foldEq
  refine bool_iff ?_
  rw [decide_eq_true_iff, decide_eq_true_iff]
  by_cases h : 65 ≤ x.toNat ∧ x.toNat ≤ 90
  · have hl := low_nat x h
    constructor
    · intro e; exact UInt8.toNat_inj.1 (by omega)
    · intro e; rw [← e]; omega
  · have hl : lowB x = x := if_neg h
    rw [hl]
    constructor
    · intro e; exact UInt8.toNat_inj.1 (by omega)
    · intro e; left; rw [e]
theorem fold_small : ∀ (l ys : LB), (∀ y ∈ ys, 97 ≤ y.toNat ∧ y.toNat ≤ 122) → Lib.equalFold l ys = decide (l.map lowB = ys)
  | [], [], _ => rfl
  | [], y :: ys, _ => by simp [Lib.equalFold]
  | x :: l, [], _ => by simp [Lib.equalFold]
  | x :: l, y :: ys, h => by
    rw [Lib.equalFold, fold_low x y (h y (List.mem_cons_self ..)), fold_small l ys (fun z hz => h z (List.mem_cons_of_mem _ hz)), List.map_cons]
    refine bool_iff ?_
    simp
end Go.Proofs.YtagihjlklbckmaaGreatDoor.Sc
namespace Go.Proofs.YtagihjlklbckmaaGreatDoor.Sc
set_option linter.unusedVariables false
set_option linter.unusedSimpArgs false
open Go.RowKit Go.Proofs.YtagihjlklbckmaaGreatDoorW.PrintWords Go.Proofs.YtagihjlklbckmaaGreatDoorW.PrintLast Go.Proofs.YtagihjlklbckmaaGreatDoorW.PrintMore Go.Proofs.YtagihjlklbckmaaGreatDoor.Bs
theorem small_whole (l : LB) (hl : l.length ≤ 1000000) (k : Nat) (hk : l.length < k) : breviaryref06_small.f k (ofL l) = some (ofL (l.map lowB)) := by
  have h := small_ref l hl l.length k 0 [] (Nat.zero_le _) (by omega) hk (Nat.le_refl _)
  rw [List.drop_zero, List.nil_append] at h
  exact h
/-- THE DOCUMENT's INSTRUCTION. -/
theorem pi_place (a : LB) (hl : a.length ≤ 100000) (k : Nat) (hk : a.length + 60 ≤ k) (ht : textL a = true) :
    breviaryref06_pi.f (k + 1) (ofL a) = some (match piM a with
      | .error e => (0, ⟨#[]⟩, ⟨#[]⟩, [], false, e)
      | .ok (t, rest) => (5, ofL t, ofL rest, [], false, 0)) := by
  have hz := ofL_size a
  have hr := run_ref a (by omega) a.length (k + 1) 0 (Nat.zero_le _) (by omega) (by omega) (by rw [List.drop_zero]; exact ht)
  rw [List.drop_zero, Nat.zero_add] at hr
  have hsp := spanN_le partR a
  unfold breviaryref06_pi.f breviaryref06_Run.f
  rw [show ((0 : Nat) : Int) = 0 from rfl] at hr
  rw [hr, Option.bind_some, if_pos (by omega), if_pos (by rw [hz]; omega), Int.toNat_natCast, ofL_head]
  unfold piM
  generalize hn : spanN partR a = n at *
  have hlen : (a.take n).length = n := by rw [List.length_take]; omega
  have hnm := name_at (a.take n) (by omega) (k + 1 - (n + 40))
  rw [hlen, show n + 40 + (k + 1 - (n + 40)) = k + 1 by omega] at hnm
  rw [hnm, Option.bind_some]
  have hbad : ∀ (x5 : ByteArray), breviaryref06_pi.j0 (k + 1) (ofL a) (n : Int) x5 true = some (0, ⟨#[]⟩, ⟨#[]⟩, [], false, 11) := fun x5 => by rw [breviaryref06_pi.j0, if_pos rfl]
  by_cases h1 : nameL (a.take n) = true
  · rw [if_pos h1, small_whole _ (by omega) _ (by omega), Option.bind_some, ofL_toList, fold_small (a.take n) xmlL (by decide)]
    by_cases h2 : (a.take n).map lowB = xmlL
    · rw [show ((a.take n).map lowB == ([120, 109, 108] : List UInt8)) = true from beq_iff_eq.2 h2, hbad, if_neg (by rw [decide_eq_true h2]; simp)]
    · rw [show ((a.take n).map lowB == ([120, 109, 108] : List UInt8)) = false from beq_eq_false_iff_ne.2 h2, if_pos ⟨h1, decide_eq_false h2⟩, breviaryref06_pi.j0, if_neg (by decide)]
      have hs := spaces_ref a (by omega) a.length k n (by omega) (by omega) (by omega)
      have hsl := spanN_le spaceR (a.drop n)
      rw [List.length_drop] at hsl
      unfold breviaryref06_Spaces.f
      rw [hs, Option.bind_some]
      by_cases hend : n < a.length
      · have hq : ¬ a.drop n = [] := drop_ne' hend
        rw [if_pos (by rw [hz]; omega)]
        by_cases h0 : spanN spaceR (a.drop n) = 0
        · rw [if_pos (by omega), h0, List.drop_zero, if_neg (by simp [hq])]
        · have hne : ¬ (a.drop n).drop (spanN spaceR (a.drop n)) = a.drop n := fun e => by
            have := congrArg List.length e
            simp only [List.length_drop] at this
            omega
          rw [if_neg (by omega), if_pos (by omega), if_pos (by rw [hz]; omega), Int.toNat_natCast, ofL_cut, if_pos (.inr hne), ← List.drop_drop]
      · have hq : a.drop n = [] := List.drop_eq_nil_of_le (by omega)
        rw [if_neg (by rw [hz]; omega), if_pos (by omega), if_pos (by rw [hz]; omega), Int.toNat_natCast, ofL_cut, if_pos (.inl hq), ← List.drop_drop]
  · rw [if_neg h1, hbad, if_neg (fun e => h1 e.1)]
end Go.Proofs.YtagihjlklbckmaaGreatDoor.Sc
namespace Go.Proofs.YtagihjlklbckmaaGreatDoor.Sc
set_option linter.unusedVariables false
set_option linter.unusedSimpArgs false
open Go.RowKit Go.Proofs.YtagihjlklbckmaaGreatDoorW.PrintWords Go.Proofs.YtagihjlklbckmaaGreatDoorW.PrintLast Go.Proofs.YtagihjlklbckmaaGreatDoorW.PrintMore Go.Proofs.YtagihjlklbckmaaGreatDoor.Bs
theorem value_ref (k b : Nat) (hb : b < 256) : breviaryref05_value.f (k + 2) (b : Int) = some (if digV (b : Int) < 0 then 99 else digV (b : Int)) := by
  have e0 : wrap64 (b : Int) = b := w64 _ (by omega)
  have e1 : wrap64 ((b : Int) - 48) = (b : Int) - 48 := w64 _ (by omega)
  have e2 : wrap64 ((b : Int) - 97) = (b : Int) - 97 := w64 _ (by omega)
  have e3 : wrap64 ((b : Int) - 97 + 10) = (b : Int) - 97 + 10 := w64 _ (by omega)
  have e4 : wrap64 ((b : Int) - 65) = (b : Int) - 65 := w64 _ (by omega)
  have e5 : wrap64 ((b : Int) - 65 + 10) = (b : Int) - 65 + 10 := w64 _ (by omega)
  have f1 : ¬ (decide ((b : Int) ≤ 57) = true) ↔ 57 < b := by rw [decide_eq_true_iff]; omega
  have f2 : ¬ (decide ((b : Int) ≤ 102) = true) ↔ 102 < b := by rw [decide_eq_true_iff]; omega
  unfold breviaryref05_value.f
  by_cases h1 : 48 ≤ b ∧ b ≤ 57
  · rw [show (if digV (b : Int) < 0 then 99 else digV (b : Int)) = (b : Int) - 48 by rw [dig_a (b := (b : Int)) (by omega) (by omega), if_neg (by omega)], if_pos (by omega), breviaryref05_value.j0, if_pos (by rw [decide_eq_true_iff]; omega), e0, e1]
  by_cases h2 : 97 ≤ b ∧ b ≤ 102
  · rw [show (if digV (b : Int) < 0 then 99 else digV (b : Int)) = (b : Int) - 87 by rw [dig_b (b := (b : Int)) (by omega) (by omega), if_neg (by omega)], if_pos (by omega), breviaryref05_value.j0, if_neg (f1.2 (by omega)), if_pos (by omega), breviaryref05_value.j1, if_pos (by rw [decide_eq_true_iff]; omega), e0, e2, e3]
    congr 1; omega
  by_cases h3 : 65 ≤ b ∧ b ≤ 70
  · rw [show (if digV (b : Int) < 0 then 99 else digV (b : Int)) = (b : Int) - 55 by rw [dig_c (b := (b : Int)) (by omega) (by omega), if_neg (by omega)], if_pos (by omega), breviaryref05_value.j0, if_neg (f1.2 (by omega)), if_neg (by omega), breviaryref05_value.j1, if_neg (by decide), if_pos (by omega), if_pos (by omega), e0, e4, e5]
    congr 1; omega
  · rw [show (if digV (b : Int) < 0 then 99 else digV (b : Int)) = 99 by rw [dig_d (b := (b : Int)) (by omega) (by omega) (by omega), if_pos (by decide)]]
    have hj1 : ∀ c, c = false → breviaryref05_value.j1 (k + 1) (b : Int) c = some 99 := by
      rintro c rfl
      rw [breviaryref05_value.j1, if_neg (by decide)]
      by_cases h65 : 65 ≤ b
      · rw [if_pos (by omega), if_neg (by omega)]
      · rw [if_neg (by omega)]
    have hj0 : ∀ c, c = false → breviaryref05_value.j0 (k + 2) (b : Int) c = some 99 := by
      rintro c rfl
      rw [breviaryref05_value.j0, if_neg (by decide)]
      by_cases h97 : 97 ≤ b
      · rw [if_pos (by omega)]; exact hj1 _ (by rw [decide_eq_false_iff_not]; omega)
      · rw [if_neg (by omega)]; exact hj1 _ rfl
    by_cases h48 : 48 ≤ b
    · rw [if_pos (by omega)]; exact hj0 _ (by rw [decide_eq_false_iff_not]; omega)
    · rw [if_neg (by omega)]; exact hj0 _ rfl
/-- A reference's number, digit by digit. -/
theorem digits_ref (l : LB) (hl : l.length ≤ 1000000) (base : Int) (hb : 10 ≤ base) (hb2 : base ≤ 16) : ∀ (m k pos : Nat) (n : Int), pos ≤ l.length → l.length ≤ pos + m → m + 20 ≤ k → 0 ≤ n → n ≤ 1114112 →
    breviaryref05_Char.l1 k (ofL l) base n (pos : Int) = if numF (l.drop pos) base n < 0 then some ⟨#[]⟩ else (if isR (numF (l.drop pos) base n) = true then breviaryref05_UTF8.f (numF (l.drop pos) base n) else some ⟨#[]⟩)
  | m, 0, pos, n, hp, hm, hk, h0, h1 => by omega
  | m, k + 1, pos, n, hp, hm, hk, h0, h1 => by
    rw [breviaryref05_Char.l1]
    have hz := ofL_size l
    by_cases hlt : pos < l.length
    · obtain ⟨m, rfl⟩ : ∃ x, m = x + 1 := ⟨m - 1, by omega⟩
      obtain ⟨k, rfl⟩ : ∃ x, k = x + 2 := ⟨k - 2, by omega⟩
      have hd : l.drop pos = l[pos] :: l.drop (pos + 1) := List.drop_eq_getElem_cons hlt
      have hx := l[pos].toNat_lt
      have e2 : wrap64 ((pos : Int) + 1) = ((pos + 1 : Nat) : Int) := by rw [w64 _ (by omega)]; rfl
      have hm1 : 0 ≤ n * base ∧ n * base ≤ 1114112 * 16 := ⟨Int.mul_nonneg h0 (by omega), Int.mul_le_mul h1 hb2 (by omega) (by omega)⟩
      rw [if_pos (by rw [hz]; omega), if_pos (by omega), bt_ofL l pos hlt, value_ref k _ (by omega), Option.bind_some, e2, hd, numF]
      unfold valM
      generalize hdv : digV (l[pos].toNat : Int) = d
      have hdr : -1 ≤ d ∧ d ≤ 15 := by
        rw [← hdv]; unfold digV
        repeat' split
        all_goals omega
      by_cases hneg : d < 0
      · rw [if_pos hneg, if_pos (by omega), if_neg (show ¬ d ≥ base by omega), if_pos hneg, if_pos (by omega)]
      · rw [if_neg hneg]
        by_cases hge : d ≥ base
        · rw [if_pos hge, if_pos hge, if_pos (show (-1 : Int) < 0 by omega), if_pos (by omega)]
        · rw [if_neg hge, if_neg hge, if_neg hneg, w64 (n * base) (by omega), w64 (n * base + d) (by omega)]
          by_cases hbig : n * base + d > 1114111
          · rw [if_pos hbig, digits_ref l hl base hb hb2 m (k + 2) (pos + 1) 1114112 (by omega) (by omega) (by omega) (by omega) (by omega), show min (n * base + d) 1114112 = 1114112 by omega]
          · rw [if_neg hbig, digits_ref l hl base hb hb2 m (k + 2) (pos + 1) (n * base + d) (by omega) (by omega) (by omega) (by omega) (by omega), show min (n * base + d) 1114112 = n * base + d by omega]
    · rw [if_neg (by rw [hz]; omega), List.drop_eq_nil_of_le (by omega), numF, if_neg (by omega), is_ref k _ (by omega), Option.bind_some]
      cases isR n
      · rfl
      · rw [if_pos rfl, if_pos rfl]
        cases breviaryref05_UTF8.f n <;> rfl
end Go.Proofs.YtagihjlklbckmaaGreatDoor.Sc
namespace Go.Proofs.YtagihjlklbckmaaGreatDoor.Sc
set_option linter.unusedVariables false
set_option linter.unusedSimpArgs false
open Go.RowKit Go.Proofs.YtagihjlklbckmaaGreatDoorW.PrintWords Go.Proofs.YtagihjlklbckmaaGreatDoorW.PrintLast Go.Proofs.YtagihjlklbckmaaGreatDoorW.PrintMore Go.Proofs.YtagihjlklbckmaaGreatDoor.Bs
theorem rune_app (a z : LB) (ha : a ≠ []) (hb : ¬ badL a) : Lib.decodeL (a ++ z) = Lib.decodeL a := by
  by_cases h0 : 128 ≤ (a.getD 0 0).toNat
  · have h := (decode_keep a (a.drop (Lib.decodeL a).2 ++ z) ha hb h0).1
    rwa [← List.append_assoc, List.take_append_drop] at h
  · cases a with
    | nil => exact absurd rfl ha
    | cons c r =>
      have hc : c.toNat < 128 := by have : ((c :: r).getD 0 0) = c := rfl; rw [this] at h0; omega
      rw [List.cons_append, Lib.decodeL_ascii c _ hc, Lib.decodeL_ascii c _ hc]
theorem text_parts {l : LB} (h : textL l = true) (hne : l ≠ []) : ¬ badL l ∧ isR ((Lib.decodeL l).1 : Int) = true ∧ textL (l.drop (Lib.decodeL l).2) = true := by
  rw [textL_step l hne, Bool.and_eq_true, Bool.and_eq_true, Bool.not_eq_true', decide_eq_false_iff_not] at h
  exact ⟨h.1.1, h.1.2, h.2⟩
theorem text_mk {l : LB} (hne : l ≠ []) (h1 : ¬ badL l) (h2 : isR ((Lib.decodeL l).1 : Int) = true) (h3 : textL (l.drop (Lib.decodeL l).2) = true) : textL l = true := by
  rw [textL_step l hne, decide_eq_false h1, h2, h3]; rfl
theorem textL_app : ∀ (n : Nat) (a b : LB), a.length ≤ n → textL a = true → textL b = true → textL (a ++ b) = true
  | n, [], b, _, _, h => h
  | 0, c :: r, b, hn, _, _ => by simp at hn
  | n + 1, c :: r, b, hn, ha, hb => by
    have hne : c :: r ≠ [] := by simp
    obtain ⟨p1, p2, p3⟩ := text_parts ha hne
    have hle := Lib.decodeL_le _ hne
    have hw := width_one (c :: r)
    have hd := rune_app (c :: r) b hne p1
    have ih := textL_app n _ b (by rw [List.length_drop]; simp only [List.length_cons] at *; omega) p3 hb
    refine text_mk (by simp) (fun e => p1 ?_) ?_ ?_
    · unfold badL at e ⊢
      rw [hd] at e; exact e
    · rw [hd]; exact p2
    · rw [hd, List.drop_append_of_le_length hle]; exact ih
theorem textL_split (c : UInt8) (hc : c.toNat < 128) (b : LB) : ∀ (n : Nat) (a : LB), a.length ≤ n → textL (a ++ c :: b) = true → textL a = true ∧ textL (c :: b) = true
  | n, [], _, h => ⟨rfl, h⟩
  | 0, x :: r, hn, _ => by simp at hn
  | n + 1, x :: r, hn, h => by
    have hne : x :: r ++ c :: b ≠ [] := by simp
    obtain ⟨p1, p2, p3⟩ := text_parts h hne
    by_cases hx : x.toNat < 128
    · rw [List.cons_append, textL_low x _ hx, Bool.and_eq_true] at h
      have ih := textL_split c hc b n r (by rw [List.length_cons] at hn; omega) h.2
      exact ⟨by rw [textL_low x _ hx, h.1, ih.1]; rfl, ih.2⟩
    · have h0 : 128 ≤ ((x :: r ++ c :: b).getD 0 0).toNat := by show 128 ≤ x.toNat; omega
      have hk := fun z => decode_keep _ z hne p1 h0
      have hw := width_one (x :: r ++ c :: b)
      have hle := Lib.decodeL_le _ hne
      obtain ⟨m, hm⟩ : ∃ y, y = (Lib.decodeL (x :: r ++ c :: b)).2 := ⟨_, rfl⟩
      rw [← hm] at hk hw hle p3
      have hma : m ≤ (x :: r).length := by
        refine Decidable.byContradiction fun hgt => ?_
        have hmem : c ∈ (x :: r ++ c :: b).take m := by
          rw [List.take_append]
          refine List.mem_append_right _ ?_
          obtain ⟨j, hj⟩ : ∃ j, m - (x :: r).length = j + 1 := ⟨m - (x :: r).length - 1, by omega⟩
          rw [hj, List.take_succ_cons]
          exact List.mem_cons_self ..
        have := (hk []).2 c hmem
        omega
      have htk : (x :: r ++ c :: b).take m = (x :: r).take m := List.take_append_of_le_length hma
      have hda : Lib.decodeL (x :: r) = Lib.decodeL (x :: r ++ c :: b) := by
        have := (hk ((x :: r).drop m)).1
        rwa [htk, List.take_append_drop] at this
      rw [List.drop_append_of_le_length hma] at p3
      have ih := textL_split c hc b n _ (by rw [List.length_drop]; simp only [List.length_cons] at *; omega) p3
      refine ⟨text_mk (by simp) (fun e => p1 ?_) (by rw [hda]; exact p2) (by rw [hda, ← hm]; exact ih.1), ih.2⟩
      unfold badL at e ⊢
      rwa [hda] at e
theorem text_tail {c : UInt8} {r : LB} (hc : c.toNat < 128) (h : textL (c :: r) = true) : textL r = true := by
  rw [textL_low c r hc, Bool.and_eq_true] at h
  exact h.2
theorem text_cut {a b : LB} {c : UInt8} (hc : c.toNat < 128) (h : textL (a ++ c :: b) = true) : textL a = true ∧ textL b = true :=
  have h2 := textL_split c hc b _ a (Nat.le_refl _) h
  ⟨h2.1, text_tail hc h2.2⟩
theorem text_drop : ∀ (p b : LB), (∀ c ∈ p, c.toNat < 128) → textL (p ++ b) = true → textL b = true
  | [], b, _, h => h
  | c :: p, b, hp, h => text_drop p b (fun d hd => hp d (List.mem_cons_of_mem _ hd)) (text_tail (hp c (List.mem_cons_self ..)) h)
theorem cut_split {l sep : LB} (h : (Lib.cut l sep).2.2 = true) : l = (Lib.cut l sep).1 ++ (sep ++ (Lib.cut l sep).2.1) := by
  unfold Lib.cut at h ⊢
  by_cases hi : 0 ≤ Lib.index l sep
  · rw [if_pos hi]
    simp only
    rcases Lib.index_spec l sep with ⟨h1, _⟩ | ⟨i, h1, h2, h3, _⟩
    · omega
    · rw [h1, Int.toNat_natCast]
      unfold Lib.occAt at h3
      obtain ⟨t, ht⟩ := List.isPrefixOf_iff_prefix.1 h3
      have hd : l.drop (i + sep.length) = t := by
        rw [← List.drop_drop, ← ht, List.drop_left]
      rw [hd, ht, List.take_append_drop]
  · rw [if_neg hi] at h
    cases h
theorem text_span (p : Int → Bool) : ∀ (n : Nat) (l : LB), l.length ≤ n → textL l = true → textL (l.drop (spanN p l)) = true
  | n, [], _, h => by rw [List.drop_nil]; exact h
  | 0, c :: r, hn, _ => by simp at hn
  | n + 1, c :: r, hn, h => by
    have hne : c :: r ≠ [] := by simp
    obtain ⟨p1, p2, p3⟩ := text_parts h hne
    have hw := width_one (c :: r)
    rw [spanN_step p _ hne]
    split
    · rw [← List.drop_drop]
      exact text_span p n _ (by rw [List.length_drop]; simp only [List.length_cons] at *; omega) p3
    · exact h
end Go.Proofs.YtagihjlklbckmaaGreatDoor.Sc
namespace Go.Proofs.YtagihjlklbckmaaGreatDoor.Sc
set_option linter.unusedVariables false
set_option linter.unusedSimpArgs false
open Go.RowKit Go.Proofs.YtagihjlklbckmaaGreatDoorW.PrintWords Go.Proofs.YtagihjlklbckmaaGreatDoorW.PrintLast Go.Proofs.YtagihjlklbckmaaGreatDoorW.PrintMore Go.Proofs.YtagihjlklbckmaaGreatDoor.Bs
theorem of_nat {n : Nat} (h : n < 256) : (UInt8.ofNat n).toNat = n := by
  rw [UInt8.toNat_ofNat']; exact Nat.mod_eq_of_lt h
theorem one_rune {l : LB} {v : Nat} (hne : l ≠ []) (h : Lib.decodeL l = (v, l.length)) (hb : 2 ≤ l.length) (hr : isR (v : Int) = true) : textL l = true := by
  refine text_mk hne (fun e => ?_) (by rw [h]; exact hr) (by rw [h, List.drop_length]; rfl)
  have h2 := e.2
  rw [h] at h2
  simp only at h2
  omega
theorem isR_range {n : Int} (h : isR n = true) : 9 ≤ n ∧ n ≤ 1114111 ∧ (n < 55296 ∨ 57344 ≤ n) := by
  simp [isR, inR, isL] at h
  omega
theorem text_two (c : Nat) (h1 : 128 ≤ c) (h2 : c < 2048) (h : isR (c : Int) = true) (x y : UInt8) (hx : x.toNat = 192 + c / 64) (hy : y.toNat = 128 + c % 64) : textL [x, y] = true := by
  refine one_rune (l := [x, y]) (v := c) (by simp) ?_ (Nat.le_refl _) h
  rw [Lib.decodeL_N]
  show Lib.decodeN 2 x.toNat y.toNat (0 : UInt8).toNat (0 : UInt8).toNat = (c, 2)
  rw [dec2 _ _ _ _ _ ⟨by omega, by omega⟩ (by omega), if_pos (by omega), show (x.toNat - 192) * 64 + (y.toNat - 128) = c by omega]
theorem text_three (c : Nat) (h1 : 2048 ≤ c) (h2 : c < 65536) (h3 : c < 55296 ∨ 57344 ≤ c) (h : isR (c : Int) = true) (x y z : UInt8) (hx : x.toNat = 224 + c / 4096) (hy : y.toNat = 128 + c / 64 % 64) (hz : z.toNat = 128 + c % 64) : textL [x, y, z] = true := by
  refine one_rune (l := [x, y, z]) (v := c) (by simp) ?_ (by show 2 ≤ 3; omega) h
  rw [Lib.decodeL_N]
  show Lib.decodeN 3 x.toNat y.toNat z.toNat (0 : UInt8).toNat = (c, 3)
  have hv : (x.toNat - 224) * 4096 + (y.toNat - 128) * 64 + (z.toNat - 128) = c := by omega
  rw [dec3 _ _ _ _ _ ⟨by omega, by omega⟩ (by omega) (by omega), hv, if_pos (by omega)]
theorem text_four (c : Nat) (h1 : 65536 ≤ c) (h2 : c ≤ 1114111) (h : isR (c : Int) = true) (x y z u : UInt8) (hx : x.toNat = 240 + c / 262144) (hy : y.toNat = 128 + c / 4096 % 64) (hz : z.toNat = 128 + c / 64 % 64) (hu : u.toNat = 128 + c % 64) : textL [x, y, z, u] = true := by
  refine one_rune (l := [x, y, z, u]) (v := c) (by simp) ?_ (by show 2 ≤ 4; omega) h
  rw [Lib.decodeL_N]
  show Lib.decodeN 4 x.toNat y.toNat z.toNat u.toNat = (c, 4)
  have hv : (x.toNat - 240) * 262144 + (y.toNat - 128) * 4096 + (z.toNat - 128) * 64 + (u.toNat - 128) = c := by omega
  rw [dec4 _ _ _ _ _ ⟨by omega, by omega⟩ (by omega) (by omega) (by omega), hv, if_pos (by omega)]
set_option maxRecDepth 1000000 in
theorem text_enc (n : Int) (h : isR n = true) : textL (encL n) = true := by
  have hr := isR_range h
  obtain ⟨c, rfl⟩ : ∃ c : Nat, n = c := ⟨n.toNat, by omega⟩
  have hv : Utf8.valid (c : Int) = true := by
    unfold Utf8.valid
    simp only [Bool.and_eq_true, Bool.or_eq_true, decide_eq_true_eq]
    omega
  unfold encL Utf8.encode
  rw [if_pos hv, Int.toNat_natCast]
  dsimp only
  by_cases c1 : c < 128
  · rw [if_pos c1]
    have e : ∀ a : UInt8, ((⟨#[a]⟩ : ByteArray).data.toList) = [a] := fun _ => rfl
    rw [e, textL_low _ _ (by rw [of_nat (by omega)]; exact c1), of_nat (by omega), h]; rfl
  rw [if_neg c1]
  by_cases c2 : c < 2048
  · rw [if_pos c2]
    have e : ∀ a b : UInt8, ((⟨#[a, b]⟩ : ByteArray).data.toList) = [a, b] := fun _ _ => rfl
    rw [e]
    exact text_two c (by omega) c2 h _ _ (of_nat (by omega)) (of_nat (by omega))
  rw [if_neg c2]
  by_cases c3 : c < 65536
  · rw [if_pos c3]
    have e : ∀ a b c : UInt8, ((⟨#[a, b, c]⟩ : ByteArray).data.toList) = [a, b, c] := fun _ _ _ => rfl
    rw [e]
    exact text_three c (by omega) c3 (by omega) h _ _ _ (of_nat (by omega)) (of_nat (by omega)) (of_nat (by omega))
  · rw [if_neg c3]
    have e : ∀ a b c d : UInt8, ((⟨#[a, b, c, d]⟩ : ByteArray).data.toList) = [a, b, c, d] := fun _ _ _ _ => rfl
    rw [e]
    exact text_four c (by omega) (by omega) h _ _ _ _ (of_nat (by omega)) (of_nat (by omega)) (of_nat (by omega)) (of_nat (by omega))
theorem text_char {l t : LB} (h : charM l = some t) : textL t = true := by
  unfold charM at h
  repeat' split at h
  all_goals first | (cases h; done) | (cases h; decide) | skip
  rename_i hr
  cases h
  exact text_enc _ hr
theorem text_ref2 {r t rest : LB} (h : refM r = some (t, rest)) (hr : textL r = true) : textL t = true ∧ textL rest = true := by
  unfold refM at h
  split at h
  · rename_i hc
    have hs := cut_split hc
    rw [hs] at hr
    have h2 := (text_cut (c := 59) (by decide) hr).2
    cases hm : charM (Lib.cut r [59]).1 with
    | none => rw [hm] at h; cases h
    | some t' => rw [hm] at h; cases h; exact ⟨text_char hm, h2⟩
  · cases h
theorem esc_text : ∀ (n : Nat) (l out t : LB), l.length ≤ n → textL (out ++ l) = true → escF id n l out = .ok t → textL t = true ∧ t.length ≤ out.length + 4 * l.length
  | 0, l, out, t, hn, ht, h => by
    have : l = [] := List.length_eq_zero_iff.1 (by omega)
    subst this
    rw [List.append_nil] at ht
    cases h
    exact ⟨ht, by omega⟩
  | n + 1, [], out, t, hn, ht, h => by
    rw [List.append_nil] at ht
    cases h
    exact ⟨ht, by omega⟩
  | n + 1, c :: r, out, t, hn, ht, h => by
    rw [List.length_cons] at hn
    simp only [escF] at h
    split at h
    · cases h
    · split at h
      · rename_i h38
        subst h38
        have h2 := text_cut (c := 38) (by decide) ht
        cases hr : refM r with
        | none => rw [hr] at h; cases h
        | some p =>
          obtain ⟨t', rest⟩ := p
          rw [hr] at h
          obtain ⟨x1, x2⟩ := text_ref2 hr h2.2
          obtain ⟨y1, y2⟩ := refM_len hr
          have ih := esc_text n rest (out ++ t') t (by omega) (textL_app _ _ _ (Nat.le_refl _) (textL_app _ _ _ (Nat.le_refl _) h2.1 x1) x2) h
          exact ⟨ih.1, by have := ih.2; rw [List.length_append] at this; rw [List.length_cons]; omega⟩
      · split at h
        · rename_i h13
          subst h13
          have h2 := text_cut (c := 13) (by decide) ht
          have h3 : textL (Lib.trimPrefix r [10]) = true := by
            unfold Lib.trimPrefix
            split
            · rename_i hp
              cases r with
              | nil => rfl
              | cons d q =>
                rw [pre_cons] at hp
                have := of_decide_eq_true hp
                subst this
                exact text_tail (by decide) h2.2
            · exact h2.2
          have hl := trim_len r [10]
          have ih := esc_text n (Lib.trimPrefix r [10]) (out ++ [10]) t (by omega) (textL_app _ _ _ (Nat.le_refl _) (textL_app _ _ _ (Nat.le_refl _) h2.1 (by decide)) h3) h
          exact ⟨ih.1, by have := ih.2; rw [List.length_append, List.length_singleton] at this; rw [List.length_cons]; omega⟩
        · have ih := esc_text n r (out ++ [c]) t (by omega) (by rw [List.append_assoc]; exact ht) h
          exact ⟨ih.1, by have := ih.2; rw [List.length_append, List.length_singleton] at this; rw [List.length_cons]; omega⟩
/-- What the law asks of a piece. -/
structure GoodT (x : Tok) : Prop where
  name : ¬ x.kind = 3 → ¬ x.kind = 4 → nameL x.name = true
  text : textL x.text = true
  len : x.text.length ≤ 1000000
  attrs : ∀ a ∈ x.attrs, nameL a.1 = true
  twice : ∀ (i j : Nat) (hj : j < x.attrs.length) (hij : i < j), ¬ (x.attrs[i]).1 = (x.attrs[j]).1
  wide : x.attrs.length ≤ 1000
theorem name_ok {s t r : LB} (h : nameM s = .ok (t, r)) (hs : textL s = true) : nameL t = true ∧ textL r = true := by
  unfold nameM at h
  split at h
  · cases h
  · split at h
    · rename_i hn
      cases h
      exact ⟨hn, text_span partR _ s (Nat.le_refl _) hs⟩
    · cases h
theorem must_ok {c : UInt8} {s r : LB} (hc : c.toNat < 128) (h : mustM c s = .ok r) (hs : textL s = true) : textL r = true := by
  unfold mustM at h
  split at h
  · cases h
  · split at h
    · rename_i d q he
      subst he
      cases h
      exact text_tail hc hs
    · cases h
theorem upTo_ok {c : UInt8} {sep s a b : LB} (hc : c.toNat < 128) (hsep : ∀ d ∈ sep, d.toNat < 128) (h : upToM (c :: sep) s = .ok (a, b)) (hs : textL s = true) : textL a = true ∧ textL b = true := by
  unfold upToM at h
  split at h
  · rename_i hk
    rw [cut_split hk] at hs
    have h2 := text_cut (c := c) hc hs
    cases h
    exact ⟨h2.1, text_drop sep _ hsep h2.2⟩
  · cases h
end Go.Proofs.YtagihjlklbckmaaGreatDoor.Sc
namespace Go.Proofs.YtagihjlklbckmaaGreatDoor.Sc
set_option linter.unusedVariables false
set_option linter.unusedSimpArgs false
open Go.RowKit Go.Proofs.YtagihjlklbckmaaGreatDoorW.PrintWords Go.Proofs.YtagihjlklbckmaaGreatDoorW.PrintLast Go.Proofs.YtagihjlklbckmaaGreatDoorW.PrintMore Go.Proofs.YtagihjlklbckmaaGreatDoor.Bs
theorem nums_two (a b : Nat) : strOfNums [(a : Int), (b : Int)] = ofL [UInt8.ofNat a, UInt8.ofNat b] := by
  show (⟨#[UInt8.ofNat ((a : Int).toNat), UInt8.ofNat ((b : Int).toNat)]⟩ : ByteArray) = _
  rw [Int.toNat_natCast, Int.toNat_natCast]; rfl
theorem nums_three (a b c : Nat) : strOfNums [(a : Int), (b : Int), (c : Int)] = ofL [UInt8.ofNat a, UInt8.ofNat b, UInt8.ofNat c] := by
  show (⟨#[UInt8.ofNat ((a : Int).toNat), UInt8.ofNat ((b : Int).toNat), UInt8.ofNat ((c : Int).toNat)]⟩ : ByteArray) = _
  rw [Int.toNat_natCast, Int.toNat_natCast, Int.toNat_natCast]; rfl
theorem nums_four (a b c d : Nat) : strOfNums [(a : Int), (b : Int), (c : Int), (d : Int)] = ofL [UInt8.ofNat a, UInt8.ofNat b, UInt8.ofNat c, UInt8.ofNat d] := by
  show (⟨#[UInt8.ofNat ((a : Int).toNat), UInt8.ofNat ((b : Int).toNat), UInt8.ofNat ((c : Int).toNat), UInt8.ofNat ((d : Int).toNat)]⟩ : ByteArray) = _
  rw [Int.toNat_natCast, Int.toNat_natCast, Int.toNat_natCast, Int.toNat_natCast]; rfl
theorem tdiv_nat (c k : Nat) : Int.tdiv (c : Int) (k : Int) = ((c / k : Nat) : Int) := by
  rw [Int.tdiv_eq_ediv_of_nonneg (by omega)]; rfl
theorem tmod_nat (c k : Nat) : Int.tmod (c : Int) (k : Int) = ((c % k : Nat) : Int) := by
  rw [Int.tmod_eq_emod_of_nonneg (by omega)]; rfl
set_option maxRecDepth 1000000 in
theorem encL_cases (c : Nat) (hv : Utf8.valid (c : Int) = true) : encL (c : Int) = if c < 128 then [UInt8.ofNat c] else if c < 2048 then [UInt8.ofNat (192 + c / 64), UInt8.ofNat (128 + c % 64)] else if c < 65536 then [UInt8.ofNat (224 + c / 4096), UInt8.ofNat (128 + c / 64 % 64), UInt8.ofNat (128 + c % 64)] else [UInt8.ofNat (240 + c / 262144), UInt8.ofNat (128 + c / 4096 % 64), UInt8.ofNat (128 + c / 64 % 64), UInt8.ofNat (128 + c % 64)] := by
  unfold encL Utf8.encode
  rw [if_pos hv, Int.toNat_natCast]
  dsimp only
  by_cases c1 : c < 128
  · rw [if_pos c1, if_pos c1]
  rw [if_neg c1, if_neg c1]
  by_cases c2 : c < 2048
  · rw [if_pos c2, if_pos c2]
  rw [if_neg c2, if_neg c2]
  by_cases c3 : c < 65536
  · rw [if_pos c3, if_pos c3]
  · rw [if_neg c3, if_neg c3]
theorem byte_sum (a b : Nat) (h : a + b < 256) : (wrap64 ((a : Int) + (b : Int))) % 256 = ((a + b : Nat) : Int) := by
  rw [w64 _ (by omega)]; omega
theorem w64_nat (a : Nat) (h : a ≤ 1000000000) : wrap64 (a : Int) = (a : Int) := w64 _ (by omega)
/-- THE DOCUMENT's bytes of a character. -/
theorem utf8_ref (n : Int) (h : isR n = true) : breviaryref05_UTF8.f n = some (ofL (encL n)) := by
  have hr := isR_range h
  obtain ⟨c, rfl⟩ : ∃ c : Nat, n = c := ⟨n.toNat, by omega⟩
  have hv : Utf8.valid (c : Int) = true := by
    unfold Utf8.valid
    simp only [Bool.and_eq_true, Bool.or_eq_true, decide_eq_true_eq]
    omega
  rw [encL_cases c hv]
  have d1 : Int.tdiv (c : Int) 64 = ((c / 64 : Nat) : Int) := tdiv_nat c 64
  have d2 : Int.tdiv (c : Int) 4096 = ((c / 4096 : Nat) : Int) := tdiv_nat c 4096
  have d3 : Int.tdiv (c : Int) 262144 = ((c / 262144 : Nat) : Int) := tdiv_nat c 262144
  have m1 : Int.tmod (c : Int) 64 = ((c % 64 : Nat) : Int) := tmod_nat c 64
  have m2 : Int.tmod ((c / 64 : Nat) : Int) 64 = ((c / 64 % 64 : Nat) : Int) := tmod_nat (c / 64) 64
  have m3 : Int.tmod ((c / 4096 : Nat) : Int) 64 = ((c / 4096 % 64 : Nat) : Int) := tmod_nat (c / 4096) 64
  have b1 : c / 64 ≤ 17408 := by omega
  have b2 : c / 4096 ≤ 272 := by omega
  have b3 : c / 262144 ≤ 4 := by omega
  have hc1 : c < 2048 → c / 64 < 32 := by omega
  have hc2 : c < 65536 → c / 4096 < 16 := by omega
  have k1 : c % 64 < 64 := by omega
  have k2 : c / 64 % 64 < 64 := by omega
  have k3 : c / 4096 % 64 < 64 := by omega
  unfold breviaryref05_UTF8.f
  rw [d1, d2, d3, m1]
  generalize c / 64 = q1 at *
  generalize c / 4096 = q2 at *
  generalize c / 262144 = q3 at *
  generalize c % 64 = r1 at *
  rw [w64_nat q1 (by omega), w64_nat q2 (by omega), w64_nat q3 (by omega), m2, m3]
  generalize q1 % 64 = r2 at *
  generalize q2 % 64 = r3 at *
  by_cases c1 : c < 128
  · have e1 : ((c : Int)) % 256 = ((c : Nat) : Int) := by omega
    rw [if_pos c1, if_pos (by omega), e1, nums_one c (UInt8.ofNat c) (of_nat (by omega))]
  rw [if_neg c1, if_neg (by omega)]
  by_cases c2 : c < 2048
  · have e1 := byte_sum 192 q1 (by have := hc1 c2; omega)
    have e2 := byte_sum 128 r1 (by omega)
    have e3 := nums_two (192 + q1) (128 + r1)
    rw [← e1, ← e2] at e3
    rw [if_pos c2, if_pos (by omega)]
    exact congrArg some e3
  rw [if_neg c2, if_neg (by omega)]
  by_cases c3 : c < 65536
  · have e1 := byte_sum 224 q2 (by have := hc2 c3; omega)
    have e2 := byte_sum 128 r2 (by omega)
    have e3 := byte_sum 128 r1 (by omega)
    have e4 := nums_three (224 + q2) (128 + r2) (128 + r1)
    rw [← e1, ← e2, ← e3] at e4
    rw [if_pos c3, if_pos (by omega)]
    exact congrArg some e4
  · have e0 := byte_sum 240 q3 (by omega)
    have e1 := byte_sum 128 r3 (by omega)
    have e2 := byte_sum 128 r2 (by omega)
    have e3 := byte_sum 128 r1 (by omega)
    have e4 := nums_four (240 + q3) (128 + r3) (128 + r2) (128 + r1)
    rw [← e0, ← e1, ← e2, ← e3] at e4
    rw [if_neg c3, if_neg (by omega)]
    exact congrArg some e4
end Go.Proofs.YtagihjlklbckmaaGreatDoor.Sc
