import Derived.Test.YtagihjlklbckmaaDoorMz2
import Derived.Defers
import Derived.Recover
import Derived.KernelRfl
namespace Go.Proofs.YtagihjlklbckmaaDoor.Sc
set_option linter.unusedVariables false
set_option linter.unusedSimpArgs false
open Go.RowKit Go.Proofs.YtagihjlklbckmaaDoorW.PrintWords Go.Proofs.YtagihjlklbckmaaDoorW.PrintLast Go.Proofs.YtagihjlklbckmaaDoorW.PrintMore Go.Proofs.YtagihjlklbckmaaDoor.Bs
theorem tassert (w : World) (k : Int) : (Instr.typeAssert (.iface 36 (.agg #[.int .i64 k])) 20 36 true).run Tryd.prog w = .ok (.tuple #[.agg #[.int .i64 k], .bool true]) w := by
  simp [Instr.typeAssert, run_underlying Tryd.underlying36]
set_option maxRecDepth 100000 in
set_option maxHeartbeats 4000000 in
theorem catch_idle (lb eb : Nat) (w : World) :
    CallsD Tryd.prog 14 #[.pointer (some ⟨lb, 0, none⟩), .pointer (some ⟨eb, 0, none⟩)] .returning w fun e u' w' => e = .returned (.tuple #[]) ∧ u' = .returning ∧ w' = w := by
  have q0 : ∀ (w : World), (binOp .neq 20 .nilIface .nilIface).run Tryd.prog w = .ok (.bool false) w := fun w => by kernel_rfl
  refine callsD_of_wpS Tryd.func14 rfl fun c₀ cs hu => ?_
  apply wpS_seq
  apply wpS_region
  simp [wpOpsS, go_sem, recoverD, hu, Tryd.ntmps14, Exit.thenS]
  refine wpS_of_wp ?_
  go_wp2
  cases c₀
  simp_all [bodyPostS, results, Tryd.results14]
set_option maxRecDepth 100000 in
set_option maxHeartbeats 400000 in
theorem catch_lost (lb eb : Nat) (k : Int) (v0 v1 : Value) (w : World) (older : List PanicEntry) (hl : w.heap[lb]? = some (.cells #[v0] 25 (0, 0))) (he : w.heap[eb]? = some (.cells #[v1] 26 (0, 0))) (hne : ¬ lb = eb) :
    CallsD Tryd.prog 14 #[.pointer (some ⟨lb, 0, none⟩), .pointer (some ⟨eb, 0, none⟩)] (.panicking ({ v := .iface 36 (.agg #[.int .i64 k]), recovered := false } :: older)) w fun e u' w' =>
      e = .returned (.tuple #[]) ∧ u' = .panicking ({ v := .iface 36 (.agg #[.int .i64 k]), recovered := true } :: older) ∧ w'.heap[lb]? = some (.cells #[.slice none 0 0] 25 (0, 0)) ∧ w'.heap[eb]? = some (.cells #[.int .i64 k] 26 (0, 0)) ∧ Ch (fun j => j = lb ∨ j = eb) w w' := by
  have q0 : ∀ (w : World), (binOp .neq 20 (.iface 36 (.agg #[.int .i64 k])) .nilIface).run Tryd.prog w = .ok (.bool true) w := fun w => by kernel_rfl
  have hta := tassert
  have hlt := blk_lt hl
  have hlt2 := blk_lt he
  have HL := Aside0.mk hl
  have HE := Aside0.mk he
  clear hl he
  refine callsD_of_wpS Tryd.func14 rfl fun c₀ cs hu => ?_
  apply wpS_seq
  apply wpS_region
  simp [wpOpsS, go_sem, recoverD, hu, Tryd.ntmps14, Exit.thenS]
  refine wpS_of_wp ?_
  change Code.wp _ _ _ { tmps := #[.pointer (some ⟨lb, 0, none⟩), .pointer (some ⟨eb, 0, none⟩), .iface 36 (.agg #[.int .i64 k]), undef, undef, .iface 36 (.agg #[.int .i64 k]), undef, undef, undef, undef, undef, undef, undef, undef, undef, undef, undef, undef], defers := [] } _
  go_upto_region 5 with (fail)
  obtain ⟨W1, hW1⟩ : ∃ x, x = w.alloc (.cells #[.int .i64 k] 36) := ⟨_, rfl⟩
  obtain ⟨nb, hnb⟩ : ∃ x, x = w.heap.size := ⟨_, rfl⟩
  have hb1 : Below w.heap.size w W1 := hW1 ▸ below_alloc (Below.refl _ _) _
  have hq1 : W1.heap[nb]? = some (.cells #[.int .i64 k] 36 (0, 0)) := hnb ▸ hW1 ▸ heap_alloc_new w _
  have HL1 := Aside0.mk ((hb1.block _ hlt).trans HL.out)
  have HE1 := Aside0.mk ((hb1.block _ hlt2).trans HE.out)
  have HC1 := Aside0.mk (show Ch (fun j => j = lb ∨ j = eb) w W1 from (Ch.refl _ w).below hb1)
  obtain ⟨a0, a1⟩ := blk1 hq1
  obtain ⟨b0, b1⟩ := blk1 HL1.out
  obtain ⟨c0, c1⟩ := blk1 HE1.out
  have n1 : ¬ nb = lb := by omega
  have n2 : ¬ nb = eb := by omega
  have n3 : ¬ eb = lb := fun e => hne e.symm
  have n1' : ¬ lb = nb := by omega
  have n2' : ¬ eb = nb := by omega
  rw [← hW1, ← hnb]
  clear hW1 hb1 hq1 hnb
  go_region
  obtain ⟨W2, hW2⟩ : ∃ x, x = ((W1.setCell ⟨lb, 0, none⟩ (.slice none 0 0)).setCell ⟨eb, 0, none⟩ (.int .i64 k)).drew := ⟨_, rfl⟩
  have hA : Ch (fun j => j = lb ∨ j = eb) w W2 := hW2 ▸ ((HC1.out.setCell (p := ⟨lb, 0, none⟩) (.inl (.inl rfl)) _).setCell (p := ⟨eb, 0, none⟩) (.inl (.inr rfl)) _).drew
  have h1 : W2.heap[lb]? = some (.cells #[.slice none 0 0] 25 (0, 0)) := hW2 ▸ (Below.heap_setCell _ ⟨eb, 0, none⟩ _ lb hne).trans (blk_upd 0 _ HL1.out rfl)
  have h2 : W2.heap[eb]? = some (.cells #[.int .i64 k] 26 (0, 0)) := hW2 ▸ blk_upd 0 _ ((Below.heap_setCell W1 ⟨lb, 0, none⟩ (.slice none 0 0) eb n3).trans HE1.out) rfl
  rw [← hW2]
  clear hW2
  simp +zetaDelta [bodyPostS, results, Tryd.results14, h1, h2, hA]
end Go.Proofs.YtagihjlklbckmaaDoor.Sc
namespace Go.Proofs.YtagihjlklbckmaaDoor.Sc
set_option linter.unusedVariables false
set_option linter.unusedSimpArgs false
open Go.RowKit Go.Proofs.YtagihjlklbckmaaDoorW.PrintWords Go.Proofs.YtagihjlklbckmaaDoorW.PrintLast Go.Proofs.YtagihjlklbckmaaDoorW.PrintMore Go.Proofs.YtagihjlklbckmaaDoor.Bs
theorem mustD_rest {c : UInt8} {s r : LB} (h : mustM c s = .ok r) : r.length + 1 = s.length := by
  unfold mustM at h
  repeat' split at h
  all_goals first | (cases h; done) | (cases h; rw [List.length_cons])
theorem startF_rest : ∀ (n : Nat) (l : List (LB × LB)) (s q : LB) (r : List (LB × LB) × Bool), startF n l s = .ok (r, q) → q.length ≤ s.length
  | 0, l, s, q, r, h => by cases h
  | n + 1, l, s, q, r, h => by
    rw [startF_succ] at h
    have hd : (s.drop (spanN spaceR s)).length ≤ s.length := by rw [List.length_drop]; omega
    generalize s.drop (spanN spaceR s) = s6 at h hd
    generalize s.take (spanN spaceR s) = t at h
    unfold startS at h
    split at h
    · cases h
    · rename_i c r6
      rw [List.length_cons] at hd
      split at h
      · split at h
        · cases h
        · rename_i hm
          cases h
          have := mustD_rest hm
          omega
      · split at h
        · cases h; omega
        · split at h
          · cases h
          · split at h
            · cases h
            · rename_i ha
              have h1 := (attr_rest ha).1
              have h2 := startF_rest n _ _ _ _ h
              rw [List.length_cons] at h1
              omega
theorem startM_rest {s q : LB} {x : Tok} (h : startM s = .ok (x, q)) : q.length ≤ s.length := by
  unfold startM at h
  split at h
  · cases h
  · rename_i h1
    split at h
    · cases h
    · rename_i h2
      cases h
      have := name_rest h1
      have := startF_rest _ _ _ _ _ h2
      omega
theorem takeM_rest {i : Nat} {s q : LB} {x : Tok} (h : takeM i s = .ok (x, q)) : q.length ≤ s.length := by
  unfold takeM at h
  split at h
  · unfold commentM at h
    split at h
    · cases h
    · rename_i h1
      have := (rest_len h1).2
      split at h
      · cases h
      · split at h
        · cases h
          simp only [List.length_cons] at this
          omega
        · cases h
  · unfold cdataM at h
    split at h
    · cases h
    · rename_i h1
      cases h
      exact (rest_len h1).2
  · unfold instrM at h
    split at h
    · cases h
    · rename_i h1
      split at h
      · cases h
      · cases h
        exact (rest_len h1).2
  · unfold endM at h
    split at h
    · cases h
    · rename_i h1
      split at h
      · cases h
      · rename_i h2
        cases h
        have := name_rest h1
        have := mustD_rest h2
        rw [List.length_drop] at this
        omega
theorem preM_len (i : Nat) : 2 ≤ (preM i).length := by
  unfold preM
  split <;> decide
theorem sortM_rest (s : LB) (hs : 1 ≤ s.length) : ∀ (n i : Nat) (x : Tok) (q : LB), sortM s n i = .ok (x, q) → q.length + 1 ≤ s.length
  | 0, i, x, q, h => by
    unfold sortM at h
    split at h
    · cases h
    · have := startM_rest h
      rw [List.length_drop] at this
      omega
  | n + 1, i, x, q, h => by
    unfold sortM at h
    split at h
    · have h1 := takeM_rest h
      have h2 := preM_len i
      rw [List.length_drop] at h1
      omega
    · exact sortM_rest s hs n (i + 1) x q h
theorem index_first_ne {c : UInt8} {r : LB} (h : ¬ c = 60) : ¬ Lib.indexByte (c :: r) 60 = 0 := by
  have := index_range 60 r
  rw [Lib.indexByte]
  split
  · rename_i h1; exact absurd (by simpa using h1) h
  · split
    · omega
    · rename_i h2
      have : ¬ Lib.indexByte r 60 = -1 := by simpa using h2
      omega
theorem piece_rest {c : UInt8} {r q : LB} {x : Tok} (h : pieceM (c :: r) = .ok (x, q)) : q.length ≤ r.length := by
  unfold pieceM at h
  split at h
  · rename_i hnil; cases hnil
  · rename_i hc
    injection hc with h1 h2
    subst h1 h2
    split at h
    · have := sortM_rest _ (by rw [List.length_cons]; omega) _ _ _ _ h
      rw [List.length_cons] at this
      omega
    · rename_i hc6
      unfold textMk at h
      split at h
      · cases h
      · cases h
        have hi := index_range 60 (c :: r)
        have hn := index_first_ne (r := r) hc6
        rw [List.length_drop]
        unfold cutAt
        generalize Lib.indexByte (c :: r) 60 = ix at *
        simp only [List.length_cons] at *
        split <;> omega
/-- The pieces. -/
def scanF : Nat → List Tok → LB → Except Int (List Tok)
  | 0, toks, s => if s = [] then .ok toks else .error 0
  | n + 1, toks, s => if s = [] then .ok toks else match pieceM s with
    | .error k => .error k
    | .ok (x, q) => scanF n (toks ++ [x]) q
def scanM (s : LB) : Except Int (List Tok) := if 4000 < s.length then .error 3 else if textL s = false then .error 10 else scanF (linesL s).length [] (linesL s)
def ScanGave (w : World) (r : Except Int (List Tok)) (e : Ending) (w' : World) : Prop := match r with
  | .error k => e = .returned (.tuple #[.slice none 0 0, .int .i64 k]) ∧ Below w.heap.size w w'
  | .ok toks => (∃ v, e = .returned (.tuple #[v, .int .i64 0]) ∧ kTok.R 31 w' w.heap.size (fun _ => True) v toks) ∧ Below w.heap.size w w'
theorem scanF_nil (n : Nat) (toks : List Tok) : scanF n toks [] = .ok toks := by cases n <;> rfl
theorem scanF_cons (n : Nat) (toks : List Tok) (c : UInt8) (r : LB) : scanF (n + 1) toks (c :: r) = match pieceM (c :: r) with
    | .error k => .error k
    | .ok (x, q) => scanF n (toks ++ [x]) q := by rw [scanF, if_neg (by simp)]
set_option maxRecDepth 100000 in
set_option maxHeartbeats 4000000 in
theorem scan_calls (w : World) (l : LB) (E : Env w) :
    Calls Tryd.prog 9 #[.string (ofL l)] w (ScanGave w (scanM l)) := by
  have hsz : ((ofL l).size : Int) = (l.length : Int) := by rw [ofL_size]
  have hmf : ∀ (fn : Fn) (first cap : Array Value) (w : World), (Instr.makeFunc fn first cap).run Tryd.prog w = .ok (.func fn first cap) w := fun _ _ _ _ => rfl
  have HE := Aside0.mk E
  obtain ⟨R, hR⟩ : ∃ x, x = scanM l := ⟨_, rfl⟩
  rw [← hR]
  unfold scanM at hR
  have HR := Aside0.mk hR
  clear E hR
  by_cases h4 : 4000 < l.length
  · have h4' : (4000 : Int) < (l.length : Int) := by omega
    have HE2 := Aside0.mk (show R = .error 3 by rw [HR.out, if_pos h4])
    clear HR h4
    go_enter_defers Tryd.func9, Tryd.ntmps9
    go_wp2_with fail
    obtain ⟨W, hW⟩ : ∃ x, x = (w.alloc (.cells #[.slice none 0 0] 25)).alloc (.cells #[.int .i64 3] 26) := ⟨_, rfl⟩
    have hb : Below w.heap.size w W := hW ▸ below_alloc (below_alloc (Below.refl _ _) _) _
    have hl1 : W.heap[w.heap.size]? = some (.cells #[.slice none 0 0] 25 (0, 0)) := hW ▸ (Below.heap_alloc _ _ _ (by simp)).trans (heap_alloc_new w _)
    have he1 : W.heap[w.heap.size + 1]? = some (.cells #[.int .i64 3] 26 (0, 0)) := by
      have h := heap_alloc_new (w.alloc (.cells #[.slice none 0 0] 25)) (.cells #[.int .i64 3] 26)
      rw [show (w.alloc (.cells #[.slice none 0 0] 25)).heap.size = w.heap.size + 1 by simp, ← hW] at h
      exact h
    have b0 := blk_cell hl1 0
    have c0 := blk_cell he1 0
    rw [← hW]
    clear hW
    refine ⟨.tuple #[.slice none 0 0, .int .i64 3], by simp [results, Tryd.results9, go_sem, b0, c0], ?_⟩
    rw [HE2.out]
    exact ⟨rfl, hb⟩
  · have h4' : ¬ (4000 : Int) < (l.length : Int) := by omega
    have hl : l.length ≤ 1000000 := by omega
    have HR2 := Aside0.mk (show R = if textL l = false then .error 10 else scanF (linesL l).length [] (linesL l) by rw [HR.out, if_neg h4])
    clear HR
    obtain ⟨W, hW⟩ : ∃ x, x = (w.alloc (.cells #[.slice none 0 0] 25)).alloc (.cells #[.int .i64 0] 26) := ⟨_, rfl⟩
    have hb : Below w.heap.size w W := hW ▸ below_alloc (below_alloc (Below.refl _ _) _) _
    have hl1 : W.heap[w.heap.size]? = some (.cells #[.slice none 0 0] 25 (0, 0)) := hW ▸ (Below.heap_alloc _ _ _ (by simp)).trans (heap_alloc_new w _)
    have he1 : W.heap[w.heap.size + 1]? = some (.cells #[.int .i64 0] 26 (0, 0)) := by
      have h := heap_alloc_new (w.alloc (.cells #[.slice none 0 0] 25)) (.cells #[.int .i64 0] 26)
      rw [show (w.alloc (.cells #[.slice none 0 0] 25)).heap.size = w.heap.size + 1 by simp, ← hW] at h
      exact h
    have HBW := Aside0.mk hb
    have HL1 := Aside0.mk hl1
    have HE1 := Aside0.mk he1
    have HEW := Aside0.mk (HE.out.below hb)
    have HWS := Aside0.mk (blk_lt he1)
    have HW := Aside0.mk hW
    have CT := Aside0.mk (text_calls W (ofL l) (by rw [ofL_size]; omega) HEW.out)
    rw [ofL_list] at CT
    clear hb hl1 he1 hW
    obtain ⟨b, hb⟩ : ∃ x, x = textL l := ⟨_, rfl⟩
    rw [← hb] at CT HR2
    clear hb
    go_enter_defers Tryd.func9, Tryd.ntmps9
    go_wp2_with fail
    rw [← HW.out]
    (with_reducible refine CT.out.mono ?_)
    rintro e w2 ⟨rfl, hb⟩
    have HL2 := Aside0.mk ((hb.block _ (blk_lt HL1.out)).trans HL1.out)
    have HE2 := Aside0.mk ((hb.block _ (blk_lt HE1.out)).trans HE1.out)
    have HB2 := Aside0.mk (below_step HBW.out hb)
    have HEV := Aside0.mk (HEW.out.below hb)
    have HS2 := Aside0.mk (Nat.lt_of_lt_of_le HWS.out hb.size)
    clear hb CT
    obtain ⟨b0, b1⟩ := blk1 HL2.out
    obtain ⟨c0, c1⟩ := blk1 HE2.out
    cases b with
    | false =>
      have HR3 := Aside0.mk (show R = .error 10 by rw [HR2.out, if_pos rfl])
      go_wp2_with fail
      obtain ⟨W5, hW5⟩ : ∃ x, x = (w2.setCell ⟨w.heap.size, 0, none⟩ (.slice none 0 0)).setCell ⟨w.heap.size + 1, 0, none⟩ (.int .i64 10) := ⟨_, rfl⟩
      have hc : Ch (fun _ => False) w w2 := Ch.below (Ch.refl _ w) HB2.out
      have hb5 : Below w.heap.size w W5 := hW5 ▸ Ch.to_below (((hc.mono (S' := fun k => w.heap.size ≤ k) (fun _ h => h.elim)).setCell (p := ⟨w.heap.size, 0, none⟩) (.inr (Nat.le_refl _)) _).setCell (p := ⟨w.heap.size + 1, 0, none⟩) (.inr (Nat.le_succ _)) _) (fun k hk => hk) (Nat.le_refl _)
      have hl5 : W5.heap[w.heap.size]? = some (.cells #[.slice none 0 0] 25 (0, 0)) := hW5 ▸ (Below.heap_setCell _ ⟨w.heap.size + 1, 0, none⟩ _ w.heap.size (by show w.heap.size ≠ w.heap.size + 1; omega)).trans (blk_upd 0 _ HL2.out rfl)
      have he5 : W5.heap[w.heap.size + 1]? = some (.cells #[.int .i64 10] 26 (0, 0)) := hW5 ▸ blk_upd 0 _ ((Below.heap_setCell w2 ⟨w.heap.size, 0, none⟩ (.slice none 0 0) (w.heap.size + 1) (by show w.heap.size + 1 ≠ w.heap.size; omega)).trans HE2.out) rfl
      have r0 := blk_cell hl5 0
      have s0 := blk_cell he5 0
      rw [← hW5]
      clear hW5
      refine ⟨.tuple #[.slice none 0 0, .int .i64 10], by simp [results, Tryd.results9, go_sem, r0, s0], ?_⟩
      rw [HR3.out]
      exact ⟨rfl, hb5⟩
    | true =>
      have HR3 := Aside0.mk (show R = scanF (linesL l).length [] (linesL l) by rw [HR2.out, if_neg (by decide)])
      clear HR2
      have CL := Aside0.mk (lines_calls w2 l HEV.out hl)
      have HLL := Aside0.mk (lines_len l)
      generalize linesL l = s0 at CL HR3 HLL
      go_wp2_with fail
      (with_reducible refine CL.out.mono ?_)
      rintro e w3 ⟨rfl, hb⟩
      have HL3 := Aside0.mk ((hb.block _ (blk_lt HL2.out)).trans HL2.out)
      have HE3 := Aside0.mk ((hb.block _ (blk_lt HE2.out)).trans HE2.out)
      have HB3 := Aside0.mk (below_step HB2.out hb)
      have HEV3 := Aside0.mk (HEV.out.below hb)
      have HS3 := Aside0.mk (Nat.lt_of_lt_of_le HS2.out hb.size)
      clear hb CL b0 b1 c0 c1 HL2 HE2 HB2 HEV HS2
      go_wp2_with fail
      obtain ⟨W4, hW4⟩ : ∃ x, x = w3.alloc (.cells #[.string (ofL s0), .slice none 0 0] 40) := ⟨_, rfl⟩
      obtain ⟨g, hg⟩ : ∃ x, x = w3.heap.size := ⟨_, rfl⟩
      have hb4 : Below w3.heap.size w3 W4 := hW4 ▸ below_alloc (Below.refl _ _) _
      have HSn := Aside0.mk (show Sn (w.heap.size + 2) g W4 s0 (.slice none 0 0) [] from ⟨hg ▸ hW4 ▸ heap_alloc_new w3 _, Kd.R_nil _ _ _ _ _, by have := HS3.out; omega⟩)
      have HL4 := Aside0.mk ((hb4.block _ (blk_lt HL3.out)).trans HL3.out)
      have HE4 := Aside0.mk ((hb4.block _ (blk_lt HE3.out)).trans HE3.out)
      have HB4 := Aside0.mk (below_step HB3.out hb4)
      have HEV4 := Aside0.mk (HEV3.out.below hb4)
      have HS4 := Aside0.mk (Nat.lt_of_lt_of_le HS3.out hb4.size)
      have HB6 := Aside0.mk (show 6 ≤ w.heap.size + 2 by have := HE.out.big; omega)
      have HBR := Aside0.mk (Below.refl (w.heap.size + 2) W4)
      rw [← hW4, ← hg]
      clear hb4 hW4 hg HL3 HE3 HB3 HEV3 HS3
      go_loopg [] s0.length (fun gk wx => ∃ (toks : List Tok) (s : LB) (tv : Value), s.length ≤ gk ∧ toks.length + s.length ≤ s0.length ∧ Aside0 (Sn (w.heap.size + 2) g wx s tv toks) ∧ Aside0 (Below (w.heap.size + 2) W4 wx) ∧ Aside0 (R = scanF gk toks s))
      case atStart => exact ⟨[], s0, .slice none 0 0, Nat.le_refl _, by simp, HSn, HBR, HR3⟩
      case round =>
        clear HSn HBR HR3
        obtain ⟨toks, s, tv, hsg, htl, HSn, HBR, HR⟩ := hrel
        have HLr := Aside0.mk ((HBR.out.block w.heap.size (by omega)).trans HL4.out)
        have HEr := Aside0.mk ((HBR.out.block (w.heap.size + 1) (by omega)).trans HE4.out)
        have HBr := Aside0.mk (HB4.out.trans (HBR.out.mono (by omega)))
        have HEVr := Aside0.mk (HEV4.out.from HBR.out HB6.out)
        obtain ⟨b0, b1⟩ := blk1 HLr.out
        obtain ⟨c0, c1⟩ := blk1 HEr.out
        obtain ⟨A, cc, rfl⟩ := Kd.R_slice HSn.out.row
        obtain ⟨q0, q1, q2⟩ := blk2 HSn.out.blk
        cases s with
        | nil =>
          have HR2 := Aside0.mk (show R = .ok toks from HR.out.trans (scanF_nil _ _))
          have hn : (ofL ([] : LB)).toList = [] := ofL_toList []
          clear HR
          go_wp2_with fail
          obtain ⟨W5, hW5⟩ : ∃ x, x = (wr.setCell ⟨w.heap.size, 0, none⟩ (.slice A toks.length cc)).setCell ⟨w.heap.size + 1, 0, none⟩ (.int .i64 0) := ⟨_, rfl⟩
          have hset : Ch (fun k => k = w.heap.size ∨ k = w.heap.size + 1) wr W5 := hW5 ▸ (((Ch.refl _ wr).setCell (p := ⟨w.heap.size, 0, none⟩) (.inl (.inl rfl)) _).setCell (p := ⟨w.heap.size + 1, 0, none⟩) (.inl (.inr rfl)) _)
          have hb5 : Below w.heap.size w W5 := HBr.out.trans (Ch.to_below hset (fun k hk => by omega) HBr.out.size)
          have hl5 : W5.heap[w.heap.size]? = some (.cells #[.slice A toks.length cc] 25 (0, 0)) := hW5 ▸ (Below.heap_setCell _ ⟨w.heap.size + 1, 0, none⟩ _ w.heap.size (by show w.heap.size ≠ w.heap.size + 1; omega)).trans (blk_upd 0 _ HLr.out rfl)
          have he5 : W5.heap[w.heap.size + 1]? = some (.cells #[.int .i64 0] 26 (0, 0)) := hW5 ▸ blk_upd 0 _ ((Below.heap_setCell wr ⟨w.heap.size, 0, none⟩ (.slice A toks.length cc) (w.heap.size + 1) (by show w.heap.size + 1 ≠ w.heap.size; omega)).trans HEr.out) rfl
          have r0 := blk_cell hl5 0
          have s0 := blk_cell he5 0
          have hrow := Kd.R_mono (ok' := fun _ => True) (Kd.R_lower (Kd.R_step HSn.out.row (fun k hk hlt => hset.block k hlt (fun e => by omega))) (show w.heap.size ≤ w.heap.size + 2 by omega)) (fun _ _ => trivial)
          rw [← hW5]
          clear hW5
          refine leaves_cons (f := 14) (args := #[.pointer (some ⟨w.heap.size, 0, none⟩), .pointer (some ⟨w.heap.size + 1, 0, none⟩)]) (by simp) (by simp [go_sem]) ?_
          refine (catch_idle _ _ _).mono ?_
          rintro e u' w'' ⟨rfl, rfl, rfl⟩
          refine ⟨.tuple #[.slice A toks.length cc, .int .i64 0], by simp [results, Tryd.results9, go_sem, r0, s0], ?_⟩
          rw [HR2.out]
          exact ⟨⟨_, rfl, hrow⟩, hb5⟩
        | cons c r =>
          obtain ⟨gf, rfl⟩ : ∃ x, gk = x + 1 := ⟨gk - 1, by rw [List.length_cons] at hsg; omega⟩
          have HR2 := Aside0.mk (show R = _ from HR.out.trans (scanF_cons _ _ _ _))
          have hn2 : ¬ (ofL (c :: r)).toList = [] := by rw [ofL_toList]; simp
          have hn3 : (ofL (c :: r)).toList.isEmpty = false := by rw [ofL_toList]; rfl
          have CP := Aside0.mk (piece_calls (w.heap.size + 2) g wr c r (.slice A toks.length cc) toks HSn.out HEVr.out HB6.out (by have := HLL.out; omega) (by have := HLL.out; omega))
          have HPR := Aside0.mk (fun x q (h : pieceM (c :: r) = .ok (x, q)) => piece_rest h)
          clear HR
          generalize pieceM (c :: r) = u at CP HR2 HPR
          go_wp2_with fail
          (with_reducible refine CP.out.mono ?_)
          rintro e w6 hT
          cases u with
          | error k =>
            obtain ⟨rfl, hb⟩ := hT
            have hl6 := (hb.block w.heap.size (by omega)).trans HLr.out
            have he6 := (hb.block (w.heap.size + 1) (by omega)).trans HEr.out
            have HB6r := Aside0.mk (HBr.out.trans (hb.mono (show w.heap.size ≤ w.heap.size + 2 by omega)))
            have HR3 := Aside0.mk (show R = .error k from HR2.out)
            refine leaves_cons (f := 14) (args := #[.pointer (some ⟨w.heap.size, 0, none⟩), .pointer (some ⟨w.heap.size + 1, 0, none⟩)]) (by simp) (by simp [go_sem]) ?_
            refine (catch_lost w.heap.size (w.heap.size + 1) k _ _ w6 [] hl6 he6 (by omega)).mono ?_
            rintro e u' w7 ⟨rfl, rfl, h1, h2, hch⟩
            have r0 := blk_cell h1 0
            have s0 := blk_cell h2 0
            have hb7 := HB6r.out.trans (Ch.to_below hch (fun k hk => by omega) HB6r.out.size)
            refine ⟨.tuple #[.slice none 0 0, .int .i64 k], by simp [results, Tryd.results9, go_sem, r0, s0], (show ScanGave w R _ _ by rw [HR3.out]; exact ⟨rfl, hb7⟩)⟩
          | ok p =>
            obtain ⟨x, q⟩ := p
            obtain ⟨rfl, ⟨tv', hS⟩, hb⟩ := hT
            have HS6 := Aside0.mk hS
            have HB6' := Aside0.mk (HBR.out.trans hb)
            have HR3 := Aside0.mk (show R = scanF gf (toks ++ [x]) q from HR2.out)
            have HQ := Aside0.mk (HPR.out x q rfl)
            clear hS hb CP HPR HR2
            go_wp2_with fail
            go_roundg gf
            case measure => omega
            case rel => exact ⟨toks ++ [x], q, tv', by have := HQ.out; rw [List.length_cons] at hsg; omega, by have := HQ.out; rw [List.length_append, List.length_singleton]; rw [List.length_cons] at htl; omega, HS6, HB6', HR3⟩
end Go.Proofs.YtagihjlklbckmaaDoor.Sc
namespace Go.Proofs.YtagihjlklbckmaaDoor.Sc
set_option linter.unusedVariables false
set_option linter.unusedSimpArgs false
open Go.RowKit Go.Proofs.YtagihjlklbckmaaDoorW.PrintWords Go.Proofs.YtagihjlklbckmaaDoorW.PrintLast Go.Proofs.YtagihjlklbckmaaDoorW.PrintMore Go.Proofs.YtagihjlklbckmaaDoor.Bs
def workL : LB := [60, 97, 32, 120, 61, 39, 49, 39, 47, 62, 98]
def workT : List Tok := [⟨1, [97], [], [([120], [49])], true⟩, ⟨3, [], [98], [], false⟩]
set_option maxRecDepth 1000000 in
theorem work_scan : scanM workL = .ok workT := by kernel_rfl
theorem toks_at {w : World} {A : Option Addr} {l : List Tok} (h : kTok.C w A l.length l) (i : Nat) (hi : i < l.length) : ∃ ad Aa c, A = some ad ∧ w.cell? (ad.add (i * 5)) = some (.int .i64 l[i].kind) ∧ w.cell? ⟨(ad.add (i * 5)).block, (ad.add (i * 5)).off + 1, none⟩ = some (.string (ofL l[i].name)) ∧ w.cell? ⟨(ad.add (i * 5)).block, (ad.add (i * 5)).off + 2, none⟩ = some (.string (ofL l[i].text)) ∧ w.cell? ⟨(ad.add (i * 5)).block, (ad.add (i * 5)).off + 3, none⟩ = some (.slice Aa l[i].attrs.length c) ∧ w.cell? ⟨(ad.add (i * 5)).block, (ad.add (i * 5)).off + 4, none⟩ = some (.bool l[i].empty) ∧ l[i].attrs.length ≤ c ∧ kAttr.C w Aa l[i].attrs.length l[i].attrs := by
  obtain ⟨ad, c, e, _, hK, hc0⟩ := Kd.C_get h (⟨0, [], [], [], false⟩ : Tok) (i : Int) (by omega) (by omega)
  rw [show l.getD (i : Int).toNat ⟨0, [], [], [], false⟩ = l[i] by simp [List.getD, hi], Int.toNat_natCast] at *
  have hc : ∀ j u, c[j]? = some u → w.cell? (ad.add (i * 5 + j)) = some u := hc0
  obtain ⟨Aa, cc, rfl, hl, hC⟩ := kTok_open hK
  exact ⟨ad, Aa, cc, e, hc 0 _ rfl, by rw [← add_field _ _ 1 (by omega)]; exact hc 1 _ rfl, by rw [← add_field _ _ 2 (by omega)]; exact hc 2 _ rfl, by rw [← add_field _ _ 3 (by omega)]; exact hc 3 _ rfl, by rw [← add_field _ _ 4 (by omega)]; exact hc 4 _ rfl, hl, hC⟩
set_option maxRecDepth 100000 in
set_option maxHeartbeats 4000000 in
theorem works_calls (w : World) (E : Env w) :
    Calls Tryd.prog 6 #[] w fun e w' => e = .returned (.bool true) ∧ Below w.heap.size w w' := by
  have CS := Aside0.mk (show Calls Tryd.prog 9 #[.string ⟨#[60, 97, 32, 120, 61, 39, 49, 39, 47, 62, 98]⟩] w (ScanGave w (.ok workT)) from work_scan ▸ scan_calls w workL E)
  clear E
  go_enter Tryd.func6, Tryd.ntmps6
  go_wp2_with fail
  (with_reducible refine CS.out.mono ?_)
  rintro e w2 ⟨⟨v, rfl, hR⟩, hb⟩
  have HB := Aside0.mk hb
  obtain ⟨A, c, rfl⟩ := Kd.R_slice hR
  have hC := (Kd.R_reads' hR).2.2
  obtain ⟨ad, A0, c0, rfl, a0, a1, a2, a3, a4, _, _⟩ := toks_at hC 0 (by decide)
  obtain ⟨ad', A1, c1, he, b0, b1, b2, b3, b4, _, _⟩ := toks_at hC 1 (by decide)
  obtain rfl := Option.some.inj he
  obtain ⟨g, rfl⟩ := Kd.R_head hR
  clear hb hR hC CS he
  simp only [workT, List.getElem_cons_zero, List.getElem_cons_succ, List.length_cons, List.length_nil] at *
  simp [Addr.add] at a0 a1 a2 a3 a4 b0 b1 b2 b3 b4
  have htl : (ofL [98]).toList = [98] := ofL_toList [98]
  go_wp2_with fail
  go_ret
  exact ⟨rfl, HB.out⟩
end Go.Proofs.YtagihjlklbckmaaDoor.Sc
