import Derived.Test.YtgndmbkkggjklaaMj3
import Derived.Deep.RegionHeld3
import Derived.Deep.RegionLaw
import Derived.BigRegion
import Derived.BigQuiet
import Derived.Test.YtgndmbkkggjklaaBo
import Derived.WideShapes
namespace Go.Proofs.Ytgndmbkkggjklaa.Jo
set_option linter.unusedVariables false
set_option linter.unusedSimpArgs false
open Go.RowKit Go.Proofs.YtgndmbkkggjklaaW.PrintWords Go.Proofs.YtgndmbkkggjklaaW.PrintLast Go.Proofs.YtgndmbkkggjklaaW.PrintMore Go.Proofs.Ytgndmbkkggjklaa.Bs
/-- The box of the parameter, there still. -/
structure At (w : World) (cs : Array Value) (t : Nat) (w1 : World) : Prop where
  q : w1.heap[w.heap.size]? = some (.cells cs t (0, 0))
  b : Below w.heap.size w w1
theorem At.start (w : World) (cs : Array Value) (t : Nat) : At w cs t (w.alloc (.cells cs t)) := ⟨heap_alloc_new w _, below_alloc (Below.refl _ _) _⟩
theorem At.next {w w1 w2 : World} {cs : Array Value} {t : Nat} (h : At w cs t w1) (hb : Below w1.heap.size w1 w2) : At w cs t w2 := ⟨(hb.block _ (blk_lt h.q)).trans h.q, below_step h.b hb⟩
theorem At.drew {w w1 : World} {cs : Array Value} {t : Nat} (h : At w cs t w1) : At w cs t w1.drew := ⟨h.q, below_drew h.b⟩
def True_ (w : World) (e : Ending) (w' : World) : Prop := e = .returned (.bool true) ∧ Below w.heap.size w w'
theorem wpAnyH_weaken {P : Program} {ops : Array Oper} {Q : Exit → Act → World → Prop} {md : Region.Mode} {S S' : World → Prop} (hSS : ∀ w, S' w → S w) : ∀ (fuel : Nat) (listed : Array Bool) (a : Act) (w : World), wpAnyH P md ops Q S' fuel listed a w → wpAnyH P md ops Q S fuel listed a w
  | 0, _, _, _, h => h
  | fuel + 1, _, _, _, h => ⟨h.1, fun i hi => wpOp_mono (fun a' w' h' => ⟨hSS _ h'.1, wpAnyH_weaken hSS fuel _ a' w' h'.2⟩) (h.2 i hi)⟩
theorem one25 {w : World} {g : Nat} {x : S25} {A : Option Addr} {cp : Nat} (hq : w.heap[g]? = some (.cells #[.int .i64 x.f0, .int .u64 x.f1, .int .u64 x.f2, .slice A x.f3.length cp] 25 (0, 0))) (hc : x.f3.length ≤ cp) (hC : k46.C w A x.f3.length x.f3) : k25.C w (some ⟨g, 0, none⟩) 1 [x] := by
  obtain ⟨q0, q1, q2, q3, _⟩ := blk4 hq
  refine ⟨rfl, by omega, fun _ => ⟨_, rfl, fun j p hj => ?_⟩⟩
  match j, hj with
  | 0, hj =>
    cases hj
    refine ⟨_, rfl, k25_mk w _ hc hC, fun i u hu => ?_⟩
    match i, hu with
    | 0, hu => cases hu; exact q0
    | 1, hu => cases hu; exact q1
    | 2, hu => cases hu; exact q2
    | 3, hu => cases hu; exact q3
theorem putC_len (c : S25) (hr : rightC c = true) : (putC c).length ≤ 10000000000 := by
  have := bodyC_len c hr
  rw [putC, List.length_append, be_length]
  omega
set_option maxRecDepth 100000 in
set_option maxHeartbeats 2000000 in
theorem puts_small (w : World) (A : Option Addr) (cp : Nat) (t s u : Int) (l : List S46) (hC : k46.C w A l.length l) (hc : l.length ≤ cp) (hs : ∀ x ∈ l, sized x) (hl : l.length ≤ 9223372036854775807) (CS : Aside0 (Calls Try.prog 6 #[.agg #[.int .i64 t, .int .u64 s, .int .u64 u, .slice A l.length cp]] (w.alloc (.cells #[.int .i64 t, .int .u64 s, .int .u64 u, .slice A l.length cp] 25)) fun e w' => e = .returned (.bool false) ∧ Below (w.alloc (.cells #[.int .i64 t, .int .u64 s, .int .u64 u, .slice A l.length cp] 25)).heap.size (w.alloc (.cells #[.int .i64 t, .int .u64 s, .int .u64 u, .slice A l.length cp] 25)) w')): Calls Try.prog 3 #[.agg #[.int .i64 t, .int .u64 s, .int .u64 u, .slice A l.length cp]] w (True_ w) := by
  have HC := Aside0.mk hC
  have a0 := At.start w #[.int .i64 t, .int .u64 s, .int .u64 u, .slice A l.length cp] 25
  obtain ⟨c0, c1, c2, c3, c4⟩ := blk4 a0.q
  have AT0 := Aside0.mk a0
  clear hC a0
  go_enter Try.func3, Try.ntmps3
  go_wp2_with fail
  refine CS.out.mono ?_
  rintro e w1 ⟨rfl, hb⟩
  have at1 := AT0.out.next hb
  clear c0 c1 c2 c3 c4
  obtain ⟨c0, c1, c2, c3, c4⟩ := blk4 at1.q
  have AT1 := Aside0.mk at1
  clear hb at1
  go_wp2_with fail
  refine (works_calls _).mono ?_
  rintro e v0 ⟨rfl, hbv⟩
  have HV := Aside0.mk (below_step AT1.out.b hbv)
  clear hbv
  go_wp2_with fail
  go_ret
  exact ⟨rfl, HV.out⟩
set_option maxRecDepth 100000 in
set_option maxHeartbeats 2000000 in
theorem puts_not (w : World) (A : Option Addr) (cp : Nat) (t s u : Int) (l : List S46) (hC : k46.C w A l.length l) (hc : l.length ≤ cp) (hs : ∀ x ∈ l, sized x) (hl : l.length ≤ 9223372036854775807) (hr : rightC ⟨t, s, u, l⟩ = false) (CS : Aside0 (Calls Try.prog 6 #[.agg #[.int .i64 t, .int .u64 s, .int .u64 u, .slice A l.length cp]] (w.alloc (.cells #[.int .i64 t, .int .u64 s, .int .u64 u, .slice A l.length cp] 25)) fun e w' => e = .returned (.bool true) ∧ Below (w.alloc (.cells #[.int .i64 t, .int .u64 s, .int .u64 u, .slice A l.length cp] 25)).heap.size (w.alloc (.cells #[.int .i64 t, .int .u64 s, .int .u64 u, .slice A l.length cp] 25)) w')): Calls Try.prog 3 #[.agg #[.int .i64 t, .int .u64 s, .int .u64 u, .slice A l.length cp]] w (True_ w) := by
  have HC := Aside0.mk hC
  have a0 := At.start w #[.int .i64 t, .int .u64 s, .int .u64 u, .slice A l.length cp] 25
  obtain ⟨c0, c1, c2, c3, c4⟩ := blk4 a0.q
  have AT0 := Aside0.mk a0
  clear hC a0
  have C9 := Aside0.mk (fun W (hW : Below w.heap.size w W) => rightc_calls W A cp ⟨t, s, u, l⟩ (Kd.C_below HC.out hW) hc hs hl)
  have C10 := Aside0.mk (fun W (hW : Below w.heap.size w W) => refright_calls W A cp ⟨t, s, u, l⟩ (Kd.C_below HC.out hW) hc hs hl)
  rw [hr] at C9 C10
  simp only at C9 C10
  have C8 := Aside0.mk (fun W (hW : Below w.heap.size w W) => put_not W A cp ⟨t, s, u, l⟩ (Kd.C_below HC.out hW) hc hs hl hr)
  simp only at C8
  clear hr hs hl hc
  go_enter Try.func3, Try.ntmps3
  go_wp2_with fail
  refine CS.out.mono ?_
  rintro e w1 ⟨rfl, hb⟩
  have at1 := AT0.out.next hb
  clear c0 c1 c2 c3 c4
  obtain ⟨c0, c1, c2, c3, c4⟩ := blk4 at1.q
  have AT1 := Aside0.mk at1
  clear hb at1
  go_wp2_with fail
  refine (C8.out _ AT1.out.b).mono ?_
  rintro e w2 ⟨rfl, hb⟩
  have at2 := AT1.out.next hb
  clear c0 c1 c2 c3 c4
  obtain ⟨c0, c1, c2, c3, c4⟩ := blk4 at2.q
  have AT2 := Aside0.mk at2
  clear hb at2
  go_wp2_with fail
  have AT2d := Aside0.mk AT2.out.drew
  go_upto_region 4 with (fail)
  go_region_held3 (fun w' => w'.cell? ⟨w.heap.size, 0, none⟩ = some (.int .i64 t) ∧ w'.cell? ⟨w.heap.size, 1, none⟩ = some (.int .u64 s) ∧ w'.cell? ⟨w.heap.size, 2, none⟩ = some (.int .u64 u) ∧ w'.cell? ⟨w.heap.size, 3, none⟩ = some (.slice A l.length cp)) (first | exact ⟨c0, c1, c2, c3⟩ | exact hk9 | go_keep) (first | (go_at_call 9; (with_reducible refine (C9.out _ AT2d.out.b).mono ?_); rintro e w3 ⟨rfl, hb⟩; have at9 := AT2d.out.next hb; have hk9 := And.intro (blk4 at9.q).1 (And.intro (blk4 at9.q).2.1 (And.intro (blk4 at9.q).2.2.1 (blk4 at9.q).2.2.2.1)); have AT3 := Aside0.mk at9; clear hb at9) | (go_at_call 10; (with_reducible refine (C10.out _ AT3.out.b).mono ?_); rintro e w4 ⟨rfl, hb⟩; have at9 := AT3.out.next hb; have hk9 := And.intro (blk4 at9.q).1 (And.intro (blk4 at9.q).2.1 (And.intro (blk4 at9.q).2.2.1 (blk4 at9.q).2.2.2.1)); have AT4 := Aside0.mk at9; clear hb at9))
  clear AT2d AT3
  clear c0 c1 c2 c3 c4
  obtain ⟨c0, c1, c2, c3, c4⟩ := blk4 AT4.out.q
  go_wp2_with fail
  refine (C10.out _ AT4.out.b).mono ?_
  rintro e w5 ⟨rfl, hb⟩
  have at5 := AT4.out.next hb
  clear c0 c1 c2 c3 c4
  obtain ⟨c0, c1, c2, c3, c4⟩ := blk4 at5.q
  have AT5 := Aside0.mk at5
  clear hb at5
  go_wp2_with fail
  refine (works_calls _).mono ?_
  rintro e v0 ⟨rfl, hbv⟩
  have HV := Aside0.mk (below_step AT5.out.b hbv)
  clear hbv
  go_wp2_with fail
  go_ret
  exact ⟨rfl, HV.out⟩
set_option maxRecDepth 100000 in
set_option maxHeartbeats 2000000 in
theorem puts_right (w : World) (A : Option Addr) (cp : Nat) (t s u : Int) (l : List S46) (hC : k46.C w A l.length l) (hc : l.length ≤ cp) (hs : ∀ x ∈ l, sized x) (hl : l.length ≤ 9223372036854775807) (hr : rightC ⟨t, s, u, l⟩ = true) (h1 : 0 ≤ s ∧ s < 18446744073709551616) (h2 : 0 ≤ u ∧ u < 18446744073709551616) (CS : Aside0 (Calls Try.prog 6 #[.agg #[.int .i64 t, .int .u64 s, .int .u64 u, .slice A l.length cp]] (w.alloc (.cells #[.int .i64 t, .int .u64 s, .int .u64 u, .slice A l.length cp] 25)) fun e w' => e = .returned (.bool true) ∧ Below (w.alloc (.cells #[.int .i64 t, .int .u64 s, .int .u64 u, .slice A l.length cp] 25)).heap.size (w.alloc (.cells #[.int .i64 t, .int .u64 s, .int .u64 u, .slice A l.length cp] 25)) w')): Calls Try.prog 3 #[.agg #[.int .i64 t, .int .u64 s, .int .u64 u, .slice A l.length cp]] w (True_ w) := by
  have HC := Aside0.mk hC
  have a0 := At.start w #[.int .i64 t, .int .u64 s, .int .u64 u, .slice A l.length cp] 25
  obtain ⟨c0, c1, c2, c3, c4⟩ := blk4 a0.q
  have AT0 := Aside0.mk a0
  clear hC a0
  have C9 := Aside0.mk (fun W (hW : Below w.heap.size w W) => rightc_calls W A cp ⟨t, s, u, l⟩ (Kd.C_below HC.out hW) hc hs hl)
  have C10 := Aside0.mk (fun W (hW : Below w.heap.size w W) => refright_calls W A cp ⟨t, s, u, l⟩ (Kd.C_below HC.out hW) hc hs hl)
  rw [hr] at C9 C10
  simp only at C9 C10
  have C8 := Aside0.mk (fun W (hW : Below w.heap.size w W) => put_calls W A cp ⟨t, s, u, l⟩ (Kd.C_below HC.out hW) hc hs hl hr h1 h2)
  have C12 := Aside0.mk (fun W (hW : Below w.heap.size w W) => refput_calls W A cp ⟨t, s, u, l⟩ (Kd.C_below HC.out hW) hc hr h1 h2)
  have HP := readP_b ⟨t, s, u, l⟩ hr h1 h2 [] (by simp)
  have HL := Aside0.mk (putC_len ⟨t, s, u, l⟩ hr)
  have HBY := Aside0.mk (putC_bys ⟨t, s, u, l⟩)
  have HSZ := Aside0.mk (show ∀ x ∈ [(⟨t, s, u, l⟩ : S25)], sizedC x by intro x hx; rw [List.mem_singleton] at hx; subst hx; exact ⟨hl, hs⟩)
  have CS13 : Aside0 (∀ (W : World) (A B : Option Addr) (c d : Nat), k25.C W A 1 [⟨t, s, u, l⟩] → k25.C W B 1 [⟨t, s, u, l⟩] → Calls Try.prog 13 #[.slice A 1 c, .slice B 1 d] W fun e w' => e = .returned (.bool true) ∧ Below W.heap.size W w') := ⟨fun W A B c d hA hB => commits_same W A B c d [⟨t, s, u, l⟩] hA hB (by simp) HSZ.out⟩
  rw [List.append_nil] at HP
  simp only at C8 C12
  generalize hpc : putC ⟨t, s, u, l⟩ = pc at *
  clear hpc hr hs hl h1 h2 HSZ
  go_enter Try.func3, Try.ntmps3
  go_wp2_with fail
  refine CS.out.mono ?_
  rintro e w1 ⟨rfl, hb⟩
  have at1 := AT0.out.next hb
  clear c0 c1 c2 c3 c4
  obtain ⟨c0, c1, c2, c3, c4⟩ := blk4 at1.q
  have AT1 := Aside0.mk at1
  clear hb at1
  go_wp2_with fail
  refine (C8.out _ AT1.out.b).mono ?_
  rintro e w2 ⟨⟨v2, rfl, hR2⟩, hb⟩
  obtain ⟨A2, d2, rfl⟩ := Kd.R_slice hR2
  have at2 := AT1.out.next hb
  clear c0 c1 c2 c3 c4
  obtain ⟨c0, c1, c2, c3, c4⟩ := blk4 at2.q
  have AT2 := Aside0.mk at2
  have HR2 := Aside0.mk hR2
  clear hb at2 hR2
  go_wp2_with fail
  have HR2d := Aside0.mk (Kd.R_below HR2.out (below_drew (Below.refl _ _)))
  have AT2d := Aside0.mk AT2.out.drew
  go_upto_region 4 with (fail)
  go_region_held3 (fun w' => w'.cell? ⟨w.heap.size, 0, none⟩ = some (.int .i64 t) ∧ w'.cell? ⟨w.heap.size, 1, none⟩ = some (.int .u64 s) ∧ w'.cell? ⟨w.heap.size, 2, none⟩ = some (.int .u64 u) ∧ w'.cell? ⟨w.heap.size, 3, none⟩ = some (.slice A l.length cp)) (first | exact ⟨c0, c1, c2, c3⟩ | exact hk9 | go_keep) (first | (go_at_call 9; (with_reducible refine (C9.out _ AT2d.out.b).mono ?_); rintro e w3 ⟨rfl, hb⟩; have at9 := AT2d.out.next hb; have hk9 := And.intro (blk4 at9.q).1 (And.intro (blk4 at9.q).2.1 (And.intro (blk4 at9.q).2.2.1 (blk4 at9.q).2.2.2.1)); have AT3 := Aside0.mk at9; have HR3 := Aside0.mk (Kd.R_below HR2d.out hb); clear hb at9) | (go_at_call 10; (with_reducible refine (C10.out _ AT3.out.b).mono ?_); rintro e w4 ⟨rfl, hb⟩; have at9 := AT3.out.next hb; have hk9 := And.intro (blk4 at9.q).1 (And.intro (blk4 at9.q).2.1 (And.intro (blk4 at9.q).2.2.1 (blk4 at9.q).2.2.2.1)); have AT4 := Aside0.mk at9; have HR4 := Aside0.mk (Kd.R_below HR3.out hb); clear hb at9))
  clear AT2d AT3
  clear c0 c1 c2 c3 c4
  obtain ⟨c0, c1, c2, c3, c4⟩ := blk4 AT4.out.q
  go_wp2_with fail
  refine (C10.out _ AT4.out.b).mono ?_
  rintro e w5 ⟨rfl, hb⟩
  have at5 := AT4.out.next hb
  clear c0 c1 c2 c3 c4
  obtain ⟨c0, c1, c2, c3, c4⟩ := blk4 at5.q
  have AT5 := Aside0.mk at5
  have HR5 := Aside0.mk (Kd.R_below HR4.out hb)
  clear hb at5
  go_wp2_with fail
  have CR := read_calls w5 A2 d2 pc (Kd.R_reads' HR5.out).2.2 (Kd.R_reads' HR5.out).2.1 HBY.out (Nat.le_trans HL.out (by decide))
  rw [HP] at CR
  simp only at CR
  refine CR.mono ?_
  rintro e w6 ⟨⟨v6, rfl, hR6⟩, hb⟩
  obtain ⟨A6, d6, rfl⟩ := Kd.R_slice hR6
  have HR6 := Aside0.mk (Kd.R_below HR5.out hb)
  have HK6 := Aside0.mk (Kd.R_reads' hR6).2.2
  clear CR hR6 HP
  have at6 := AT5.out.next hb
  clear c0 c1 c2 c3 c4
  obtain ⟨c0, c1, c2, c3, c4⟩ := blk4 at6.q
  have AT6 := Aside0.mk at6
  clear hb at6
  have AT6d := Aside0.mk AT6.out.drew
  have HR6d := Aside0.mk (Kd.R_below HR6.out (below_drew (Below.refl _ _)))
  have HK6d := Aside0.mk (Kd.C_below HK6.out (below_drew (Below.refl _ _)))
  have hcv : (convert 28 9 (.slice A2 pc.length d2)).run Try.prog w6.drew = .ok (.string (strOfNums pc)) w6.drew := Kd.C_string Try.underlying28 Try.underlying5 Try.underlying9 (Kd.R_reads' HR6d.out).2.2
  go_upto_region 9 with (fail)
  obtain ⟨c0, c1, c2, c3, c4⟩ := blk4 AT6d.out.q
  clear CS AT0 C9 C10 C8 AT1 AT2 HR2 HR2d HR4 AT4 AT5 HR5 AT6 HK6 HR6 HL HBY
  refine wp_region_held_drew (S := fun w' => w'.cell? ⟨w.heap.size, 0, none⟩ = some (.int .i64 t) ∧ w'.cell? ⟨w.heap.size, 1, none⟩ = some (.int .u64 s) ∧ w'.cell? ⟨w.heap.size, 2, none⟩ = some (.int .u64 u) ∧ w'.cell? ⟨w.heap.size, 3, none⟩ = some (.slice A l.length cp) ∧ (convert 28 9 (.slice A2 pc.length d2)).run Try.prog w' = .ok (.string (strOfNums pc)) w') (by kernel_rfl) ⟨c0, c1, c2, c3, hcv⟩ (fun hHeld => ?_)
  refine wpAnyH_take (i := 0) (v := ?_) rfl (by kernel_rfl) (by kernel_rfl) (by kernel_rfl) (fun _ _ _ h => h) (Or.inl ⟨by rfl, by (intro w hSw; (try dsimp only at hSw); go_simp; try with_reducible rfl)⟩) (by assumption) ?_
  try simp only [List.getElem_toArray, List.getElem_cons_succ, List.getElem_cons_zero, Act.put, List.setIfInBounds_toArray, List.set_cons_zero, List.set_cons_succ]
  refine wpAnyH_take (i := 1) (v := ?_) rfl (by kernel_rfl) (by kernel_rfl) (by kernel_rfl) (fun _ _ _ h => h) (Or.inl ⟨by rfl, by (intro w hSw; (try dsimp only at hSw); go_simp; try with_reducible rfl)⟩) (by assumption) ?_
  try simp only [List.getElem_toArray, List.getElem_cons_succ, List.getElem_cons_zero, Act.put, List.setIfInBounds_toArray, List.set_cons_zero, List.set_cons_succ]
  refine wpAnyH_take (i := 2) (v := ?_) rfl (by kernel_rfl) (by kernel_rfl) (by kernel_rfl) (fun _ _ _ h => h) (Or.inl ⟨by rfl, by (intro w hSw; (try dsimp only at hSw); go_simp; try with_reducible rfl)⟩) (by assumption) ?_
  try simp only [List.getElem_toArray, List.getElem_cons_succ, List.getElem_cons_zero, Act.put, List.setIfInBounds_toArray, List.set_cons_zero, List.set_cons_succ]
  refine wpAnyH_take (i := 3) (v := ?_) rfl (by kernel_rfl) (by kernel_rfl) (by kernel_rfl) (fun _ _ _ h => h) (Or.inl ⟨by rfl, by (intro w hSw; (try dsimp only at hSw); go_simp; try with_reducible rfl)⟩) (by assumption) ?_
  try simp only [List.getElem_toArray, List.getElem_cons_succ, List.getElem_cons_zero, Act.put, List.setIfInBounds_toArray, List.set_cons_zero, List.set_cons_succ]
  refine wpAnyH_take (i := 4) (v := ?_) rfl (by kernel_rfl) (by kernel_rfl) (by kernel_rfl) (fun _ _ _ h => h) (Or.inl ⟨by rfl, by (intro w hSw; (try dsimp only at hSw); go_simp; try with_reducible rfl)⟩) (by assumption) ?_
  try simp only [List.getElem_toArray, List.getElem_cons_succ, List.getElem_cons_zero, Act.put, List.setIfInBounds_toArray, List.set_cons_zero, List.set_cons_succ]
  refine wpAnyH_take (i := 5) (v := ?_) rfl (by kernel_rfl) (by kernel_rfl) (by kernel_rfl) (fun _ _ _ h => h) (Or.inl ⟨by rfl, by (intro w hSw; (try dsimp only at hSw); go_simp; try with_reducible rfl)⟩) (by assumption) ?_
  try simp only [List.getElem_toArray, List.getElem_cons_succ, List.getElem_cons_zero, Act.put, List.setIfInBounds_toArray, List.set_cons_zero, List.set_cons_succ]
  refine wpAnyH_ready (rs := [6]) (by kernel_rfl) (by simp) ?_
  refine AllReadyH.cons rfl (fun K hK => ?_) AllReadyH.nil
  go_simp
  go_at_call 12
  refine (C12.out _ AT6d.out.b).mono ?_
  rintro e w7 ⟨v7, rfl, hR7, hb⟩
  obtain ⟨A7, d7, rfl⟩ := Kd.R_slice hR7
  have at9 := AT6d.out.next hb
  clear c0 c1 c2 c3 c4 hcv
  obtain ⟨c0, c1, c2, c3, c4⟩ := blk4 at9.q
  have hR6 := Kd.R_below HR6d.out hb
  have hcv7 : ∀ W, Below w7.heap.size w7 W → (convert 28 9 (.slice A7 pc.length d7)).run Try.prog W = .ok (.string (strOfNums pc)) W := fun W hW => Kd.C_string Try.underlying28 Try.underlying5 Try.underlying9 (Kd.R_reads' (Kd.R_below hR7 hW)).2.2
  have hcv : ∀ W, Below w7.heap.size w7 W → (convert 28 9 (.slice A2 pc.length d2)).run Try.prog W = .ok (.string (strOfNums pc)) W := fun W hW => Kd.C_string Try.underlying28 Try.underlying5 Try.underlying9 (Kd.R_reads' (Kd.R_below hR6 hW)).2.2
  have AT7 := Aside0.mk at9
  have HK7 := Aside0.mk (Kd.C_below HK6d.out hb)
  clear hb at9 hR7 hR6 HR6d HK6d AT6d C12
  go_wp2_with fail
  refine hK.out _ _ ⟨c0, c1, c2, c3, hcv w7 (Below.refl _ _)⟩ (fun hHeld => ?_)
  clear hK K
  have hS2 : w7.cell? ⟨w.heap.size, 0, none⟩ = some (.int .i64 t) ∧ w7.cell? ⟨w.heap.size, 1, none⟩ = some (.int .u64 s) ∧ w7.cell? ⟨w.heap.size, 2, none⟩ = some (.int .u64 u) ∧ w7.cell? ⟨w.heap.size, 3, none⟩ = some (.slice A l.length cp) ∧ (convert 28 9 (.slice A2 pc.length d2)).run Try.prog w7 = .ok (.string (strOfNums pc)) w7 ∧ (convert 28 9 (.slice A7 pc.length d7)).run Try.prog w7 = .ok (.string (strOfNums pc)) w7 := ⟨c0, c1, c2, c3, hcv w7 (Below.refl _ _), hcv7 w7 (Below.refl _ _)⟩
  refine wpAnyH_weaken (S' := fun w' => w'.cell? ⟨w.heap.size, 0, none⟩ = some (.int .i64 t) ∧ w'.cell? ⟨w.heap.size, 1, none⟩ = some (.int .u64 s) ∧ w'.cell? ⟨w.heap.size, 2, none⟩ = some (.int .u64 u) ∧ w'.cell? ⟨w.heap.size, 3, none⟩ = some (.slice A l.length cp) ∧ (convert 28 9 (.slice A2 pc.length d2)).run Try.prog w' = .ok (.string (strOfNums pc)) w' ∧ (convert 28 9 (.slice A7 pc.length d7)).run Try.prog w' = .ok (.string (strOfNums pc)) w') (fun _ h => ⟨h.1, h.2.1, h.2.2.1, h.2.2.2.1, h.2.2.2.2.1⟩) _ _ _ _ ?_
  clear hHeld
  try simp only [List.getElem_toArray, List.getElem_cons_succ, List.getElem_cons_zero, Act.put, List.setIfInBounds_toArray, List.set_cons_zero, List.set_cons_succ]
  refine wpAnyH_take (i := 7) (v := ?_) rfl (by kernel_rfl) (by kernel_rfl) (by kernel_rfl) (fun _ _ _ h => h) (Or.inl ⟨by rfl, by (intro w hSw; (try dsimp only at hSw); go_simp; try with_reducible rfl)⟩) (by assumption) ?_
  try simp only [List.getElem_toArray, List.getElem_cons_succ, List.getElem_cons_zero, Act.put, List.setIfInBounds_toArray, List.set_cons_zero, List.set_cons_succ]
  refine wpAnyH_take (i := 8) (v := ?_) rfl (by kernel_rfl) (by kernel_rfl) (by kernel_rfl) (fun _ _ _ h => h) (Or.inl ⟨by rfl, by (intro w hSw; (try dsimp only at hSw); go_simp; try with_reducible rfl)⟩) (by assumption) ?_
  try simp only [List.getElem_toArray, List.getElem_cons_succ, List.getElem_cons_zero, Act.put, List.setIfInBounds_toArray, List.set_cons_zero, List.set_cons_succ]
  refine wpAnyH_take (i := 9) (v := ?_) rfl (by kernel_rfl) (by kernel_rfl) (by kernel_rfl) (fun _ _ _ h => h) (Or.inl ⟨by rfl, by (intro w hSw; (try dsimp only at hSw); go_simp; try with_reducible rfl)⟩) (by assumption) ?_
  try simp only [List.getElem_toArray, List.getElem_cons_succ, List.getElem_cons_zero, Act.put, List.setIfInBounds_toArray, List.set_cons_zero, List.set_cons_succ]
  refine wpAnyH_take (i := 10) (v := ?_) rfl (by kernel_rfl) (by kernel_rfl) (by kernel_rfl) (fun _ _ _ h => h) (Or.inl ⟨by rfl, by (intro w hSw; (try dsimp only at hSw); go_simp; try with_reducible rfl)⟩) (by assumption) ?_
  try simp only [List.getElem_toArray, List.getElem_cons_succ, List.getElem_cons_zero, Act.put, List.setIfInBounds_toArray, List.set_cons_zero, List.set_cons_succ]
  refine wpAnyH_take (i := 11) (v := ?_) rfl (by kernel_rfl) (by kernel_rfl) (by kernel_rfl) (fun _ _ _ h => h) (Or.inl ⟨by rfl, by (intro w hSw; (try dsimp only at hSw); go_simp; try with_reducible rfl)⟩) (by assumption) ?_
  try simp only [List.getElem_toArray, List.getElem_cons_succ, List.getElem_cons_zero, Act.put, List.setIfInBounds_toArray, List.set_cons_zero, List.set_cons_succ]
  refine wpAnyH_take (i := 12) (v := ?_) rfl (by kernel_rfl) (by kernel_rfl) (by kernel_rfl) (fun _ _ _ h => h) (Or.inl ⟨by rfl, by (intro w hSw; (try dsimp only at hSw); go_simp; try with_reducible rfl)⟩) (by assumption) ?_
  try simp only [List.getElem_toArray, List.getElem_cons_succ, List.getElem_cons_zero, Act.put, List.setIfInBounds_toArray, List.set_cons_zero, List.set_cons_succ]
  refine wpAnyH_take (i := 13) (v := ?_) rfl (by kernel_rfl) (by kernel_rfl) (by kernel_rfl) (fun _ _ _ h => h) (Or.inl ⟨by rfl, by (intro w hSw; (try dsimp only at hSw); go_simp; try with_reducible rfl)⟩) (by assumption) ?_
  try simp only [List.getElem_toArray, List.getElem_cons_succ, List.getElem_cons_zero, Act.put, List.setIfInBounds_toArray, List.set_cons_zero, List.set_cons_succ]
  refine wpAnyH_take (i := 14) (v := ?_) rfl (by kernel_rfl) (by kernel_rfl) (by kernel_rfl) (fun _ _ _ h => h) (Or.inl ⟨by rfl, by (intro w hSw; (try dsimp only at hSw); go_simp; try with_reducible rfl)⟩) (by assumption) ?_
  try simp only [List.getElem_toArray, List.getElem_cons_succ, List.getElem_cons_zero, Act.put, List.setIfInBounds_toArray, List.set_cons_zero, List.set_cons_succ]
  refine wpAnyH_take (i := 15) (v := ?_) rfl (by kernel_rfl) (by kernel_rfl) (by kernel_rfl) (fun _ _ _ h => h) (Or.inl ⟨by rfl, by (intro w hSw; (try dsimp only at hSw); go_simp; try with_reducible rfl)⟩) (by assumption) ?_
  try simp only [List.getElem_toArray, List.getElem_cons_succ, List.getElem_cons_zero, Act.put, List.setIfInBounds_toArray, List.set_cons_zero, List.set_cons_succ]
  refine wpAnyH_take (i := 16) (v := ?_) rfl (by kernel_rfl) (by kernel_rfl) (by kernel_rfl) (fun _ _ _ h => h) (Or.inl ⟨by rfl, by (intro w hSw; (try dsimp only at hSw); go_simp; try with_reducible rfl)⟩) (by assumption) ?_
  try simp only [List.getElem_toArray, List.getElem_cons_succ, List.getElem_cons_zero, Act.put, List.setIfInBounds_toArray, List.set_cons_zero, List.set_cons_succ]
  refine wpAnyH_take (i := 17) (v := ?_) rfl (by kernel_rfl) (by kernel_rfl) (by kernel_rfl) (fun _ _ _ h => h) (Or.inl ⟨by rfl, by (intro w hSw; (try dsimp only at hSw); go_simp; try with_reducible rfl)⟩) (by assumption) ?_
  try simp only [List.getElem_toArray, List.getElem_cons_succ, List.getElem_cons_zero, Act.put, List.setIfInBounds_toArray, List.set_cons_zero, List.set_cons_succ]
  refine wpAnyH_take (i := 18) (v := ?_) rfl (by kernel_rfl) (by kernel_rfl) (by kernel_rfl) (fun _ _ _ h => h) (Or.inl ⟨by rfl, by (intro w hSw; (try dsimp only at hSw); go_simp; try with_reducible rfl)⟩) (by assumption) ?_
  try simp only [List.getElem_toArray, List.getElem_cons_succ, List.getElem_cons_zero, Act.put, List.setIfInBounds_toArray, List.set_cons_zero, List.set_cons_succ]
  refine wpAnyH_take (i := 19) (v := ?_) rfl (by kernel_rfl) (by kernel_rfl) (by kernel_rfl) (fun _ _ _ h => h) (Or.inl ⟨by rfl, by (intro w hSw; (try dsimp only at hSw); go_simp; try with_reducible rfl)⟩) (by assumption) ?_
  try simp only [List.getElem_toArray, List.getElem_cons_succ, List.getElem_cons_zero, Act.put, List.setIfInBounds_toArray, List.set_cons_zero, List.set_cons_succ]
  refine wpAnyH_take (i := 20) (v := ?_) rfl (by kernel_rfl) (by kernel_rfl) (by kernel_rfl) (fun _ _ _ h => h) (Or.inl ⟨by rfl, by (intro w hSw; (try dsimp only at hSw); go_simp; try with_reducible rfl)⟩) (by assumption) ?_
  try simp only [List.getElem_toArray, List.getElem_cons_succ, List.getElem_cons_zero, Act.put, List.setIfInBounds_toArray, List.set_cons_zero, List.set_cons_succ]
  refine wpAnyH_take (i := 21) (v := ?_) rfl (by kernel_rfl) (by kernel_rfl) (by kernel_rfl) (fun _ _ _ h => h) (Or.inl ⟨by rfl, by (intro w hSw; (try dsimp only at hSw); go_simp; try with_reducible rfl)⟩) (by assumption) ?_
  try simp only [List.getElem_toArray, List.getElem_cons_succ, List.getElem_cons_zero, Act.put, List.setIfInBounds_toArray, List.set_cons_zero, List.set_cons_succ]
  refine wpAnyH_take (i := 22) (v := ?_) rfl (by kernel_rfl) (by kernel_rfl) (by kernel_rfl) (fun _ _ _ h => h) (Or.inl ⟨by rfl, by (intro w hSw; (try dsimp only at hSw); go_simp; try with_reducible rfl)⟩) (by assumption) ?_
  try simp only [List.getElem_toArray, List.getElem_cons_succ, List.getElem_cons_zero, Act.put, List.setIfInBounds_toArray, List.set_cons_zero, List.set_cons_succ]
  refine wpAnyH_ready (rs := [23]) (by kernel_rfl) (by simp) ?_
  refine AllReadyH.cons rfl (fun K hK => ?_) AllReadyH.nil
  go_simp
  have hW8 := below_alloc (Below.refl w7.heap.size w7) (.cells #[.int .i64 t, .int .u64 s, .int .u64 u, .slice A l.length cp] 25)
  have AT8 := Aside0.mk (AT7.out.next hW8)
  have hcC := Kd.C_below HC.out AT8.out.b
  have hq8 := heap_alloc_new w7 (.cells #[.int .i64 t, .int .u64 s, .int .u64 u, .slice A l.length cp] 25)
  have hB := one25 (x := ⟨t, s, u, l⟩) hq8 hc hcC
  have hA := Kd.C_below HK7.out hW8
  obtain ⟨W8, hW8e⟩ : ∃ x, x = w7.alloc (.cells #[.int .i64 t, .int .u64 s, .int .u64 u, .slice A l.length cp] 25) := ⟨_, rfl⟩
  rw [← hW8e] at hW8 AT8 hA hB ⊢
  obtain ⟨g0, g1, g2, g3, g4⟩ := blk4 AT8.out.q
  refine hK.out _ _ ⟨g0, g1, g2, g3, hcv W8 hW8, hcv7 W8 hW8⟩ (fun hHeld => ?_)
  clear hK K hS2 c0 c1 c2 c3 c4 hW8e AT7 HK7 hcC hq8
  try simp only [List.getElem_toArray, List.getElem_cons_succ, List.getElem_cons_zero, Act.put, List.setIfInBounds_toArray, List.set_cons_zero, List.set_cons_succ]
  refine wpAnyH_ready (rs := [24]) (by kernel_rfl) (by simp) ?_
  refine AllReadyH.cons rfl (fun K hK => ?_) AllReadyH.nil
  go_simp
  go_at_call 13
  refine (CS13.out W8 A6 (some ⟨w7.heap.size, 0, none⟩) d6 1 hA hB).mono ?_
  rintro e w9 ⟨rfl, hb⟩
  have at9 := AT8.out.next hb
  have hW9 := below_step hW8 hb
  clear g0 g1 g2 g3 g4
  obtain ⟨c0, c1, c2, c3, c4⟩ := blk4 at9.q
  have AT9 := Aside0.mk at9
  clear hb at9 hA hB CS13
  go_wp2_with fail
  refine hK.out _ _ ⟨c0, c1, c2, c3, hcv w9 hW9, hcv7 w9 hW9⟩ (fun hHeld => ?_)
  clear hK K
  try simp only [List.getElem_toArray, List.getElem_cons_succ, List.getElem_cons_zero, Act.put, List.setIfInBounds_toArray, List.set_cons_zero, List.set_cons_succ]
  refine wpAnyH_take (i := 25) (v := ?_) rfl (by kernel_rfl) (by kernel_rfl) (by kernel_rfl) (fun _ _ _ h => h) (Or.inl ⟨by rfl, by (intro w hSw; (try dsimp only at hSw); go_simp; try with_reducible rfl)⟩) (by assumption) ?_
  try simp only [List.getElem_toArray, List.getElem_cons_succ, List.getElem_cons_zero, Act.put, List.setIfInBounds_toArray, List.set_cons_zero, List.set_cons_succ]
  refine wpAnyH_take (i := 26) (v := ?_) rfl (by kernel_rfl) (by kernel_rfl) (by kernel_rfl) (fun _ _ _ h => h) (Or.inl ⟨by rfl, by (intro w hSw; (try dsimp only at hSw); go_simp; try with_reducible rfl)⟩) (by assumption) ?_
  try simp only [List.getElem_toArray, List.getElem_cons_succ, List.getElem_cons_zero, Act.put, List.setIfInBounds_toArray, List.set_cons_zero, List.set_cons_succ]
  refine wpAnyH_ready (rs := [27]) (by kernel_rfl) (by simp) ?_
  refine AllReadyH.cons rfl (fun K hK => ?_) AllReadyH.nil
  go_simp
  go_at_call 7
  refine (works_calls w9).mono ?_
  rintro e w10 ⟨rfl, hb⟩
  have at9 := AT9.out.next hb
  have hW10 := below_step hW9 hb
  clear c0 c1 c2 c3 c4
  obtain ⟨c0, c1, c2, c3, c4⟩ := blk4 at9.q
  have AT10 := Aside0.mk at9
  clear hb at9
  go_wp2_with fail
  refine hK.out _ _ ⟨c0, c1, c2, c3, hcv w10 hW10, hcv7 w10 hW10⟩ (fun hHeld => ?_)
  clear hK K
  try simp only [List.getElem_toArray, List.getElem_cons_succ, List.getElem_cons_zero, Act.put, List.setIfInBounds_toArray, List.set_cons_zero, List.set_cons_succ]
  refine wpAnyH_take (i := 28) (v := ?_) rfl (by kernel_rfl) (by kernel_rfl) (by kernel_rfl) (fun _ _ _ h => h) (Or.inl ⟨by rfl, by (intro w hSw; (try dsimp only at hSw); go_simp; try with_reducible rfl)⟩) (by assumption) ?_
  try simp only [List.getElem_toArray, List.getElem_cons_succ, List.getElem_cons_zero, Act.put, List.setIfInBounds_toArray, List.set_cons_zero, List.set_cons_succ]
  refine wpAnyH_take (i := 29) (v := ?_) rfl (by kernel_rfl) (by kernel_rfl) (by kernel_rfl) (fun _ _ _ h => h) (Or.inl ⟨by rfl, by (intro w hSw; (try dsimp only at hSw); go_simp; try with_reducible rfl)⟩) (by assumption) ?_
  try simp only [List.getElem_toArray, List.getElem_cons_succ, List.getElem_cons_zero, Act.put, List.setIfInBounds_toArray, List.set_cons_zero, List.set_cons_succ]
  refine wpAnyH_done (by kernel_rfl) ?_ _
  go_wp2
  go_ret
  exact ⟨rfl, AT10.out.b⟩
end Go.Proofs.Ytgndmbkkggjklaa.Jo
namespace Go.Proofs.Ytgndmbkkggjklaa.Jo
set_option linter.unusedVariables false
set_option linter.unusedSimpArgs false
open Go.RowKit Go.Proofs.YtgndmbkkggjklaaW.PrintWords Go.Proofs.Ytgndmbkkggjklaa.Bs Go.WideShapes
theorem opens41 : Opens Try.prog 41 (Kd.slice 3 (Kd.int .i64)) (fun l => l.length ≤ maxLen) := (Opens.slice Try.underlying41 (by kernel_rfl) (Opens.int Try.underlying3)).imp (fun _ h => h.2)
theorem max_big {n : Nat} (h : n ≤ maxLen) : n ≤ 9223372036854775807 := by simp only [maxLen] at h; omega
theorem opens44 : Opens Try.prog 44 k44 (fun x => x.f1.size ≤ 9223372036854775807 ∧ x.f2.size ≤ 9223372036854775807 ∧ x.f4.length ≤ 9223372036854775807 ∧ x.f5.length ≤ 9223372036854775807) :=
  ((Opens.struct Try.underlying44 (by kernel_rfl) (OpensF.cons (Opens.int Try.underlying3) (by kernel_rfl) rfl (OpensF.cons (Opens.string Try.underlying9) (by kernel_rfl) rfl (OpensF.cons (Opens.string Try.underlying9) (by kernel_rfl) rfl (OpensF.cons (Opens.int Try.underlying3) (by kernel_rfl) rfl (OpensF.cons opens41 (by kernel_rfl) rfl (OpensF.cons opens41 (by kernel_rfl) rfl (OpensF.one (Opens.bool Try.underlying4) (by kernel_rfl) rfl)))))))).iso (fun x : S44 => (x.f0, x.f1, x.f2, x.f3, x.f4, x.f5, x.f6)) (fun y => ⟨y.1, y.2.1, y.2.2.1, y.2.2.2.1, y.2.2.2.2.1, y.2.2.2.2.2.1, y.2.2.2.2.2.2⟩) (fun _ => rfl)).imp (fun x h => ⟨max_big h.2.1, max_big h.2.2.1, max_big h.2.2.2.2.1, max_big h.2.2.2.2.2.1⟩)
theorem opens46 : Opens Try.prog 46 k46 sized :=
  ((Opens.struct Try.underlying46 (by kernel_rfl) (OpensF.cons (Opens.int Try.underlying3) (by kernel_rfl) rfl (OpensF.one opens44 (by kernel_rfl) rfl))).iso (fun x : S46 => (x.f0, x.f1)) (fun y => ⟨y.1, y.2⟩) (fun _ => rfl)).imp (fun x h => h.2)
theorem opens23 : Opens Try.prog 23 (Kd.slice 46 k46) (fun l => (∀ x ∈ l, sized x) ∧ l.length ≤ maxLen) := Opens.slice Try.underlying23 (by kernel_rfl) opens46
/-- What a commit that is handed in keeps to. -/
structure Good (c : S25) : Prop where
  siz : ∀ x ∈ c.f3, sized x
  len : c.f3.length ≤ 9223372036854775807
  st : 0 ≤ c.f1 ∧ c.f1 < 18446744073709551616
  tm : 0 ≤ c.f2 ∧ c.f2 < 18446744073709551616
theorem wf_u64 {x : Int} (h : (Lit.int .u64 x).wf = true) : 0 ≤ x ∧ x < 18446744073709551616 := by
  simp [Lit.wf, IntKind.min, IntKind.max, IntKind.signed, IntKind.bits] at h
  omega
theorem opens25 : Opens Try.prog 25 k25 Good :=
  ((Opens.struct Try.underlying25 (by kernel_rfl) (OpensF.cons (Opens.int Try.underlying3) (by kernel_rfl) rfl (OpensF.cons (Opens.int Try.underlying22) (by kernel_rfl) rfl (OpensF.cons (Opens.int Try.underlying22) (by kernel_rfl) rfl (OpensF.one opens23 (by kernel_rfl) rfl))))).iso (fun x : S25 => (x.f0, x.f1, x.f2, x.f3)) (fun y => ⟨y.1, y.2.1, y.2.2.1, y.2.2.2⟩) (fun _ => rfl)).imp (fun x h => ⟨h.2.2.2.1, max_big h.2.2.2.2, wf_u64 h.2.1, wf_u64 h.2.2.1⟩)
theorem agg25 {W : World} {r : Reach} {base : Nat} {v : Value} (h : Value.okWide Try.prog W r base 25 v) : ∃ cs, v = .agg cs := by
  obtain ⟨cs, e, _⟩ := okWide_struct Try.underlying25 h
  exact ⟨cs, e⟩
theorem com_of (W : World) (c : S25) (cs : Array Value) (h : k25.K W c (Value.agg cs).cells.toList) : ∃ (A : Option Addr) (cp : Nat), cs = #[.int .i64 c.f0, .int .u64 c.f1, .int .u64 c.f2, .slice A c.f3.length cp] ∧ c.f3.length ≤ cp ∧ k46.C W A c.f3.length c.f3 := by
  obtain ⟨A, cp, e, hc, hC⟩ := k25_open h
  exact ⟨A, cp, Array.toList_inj.mp e, hc, hC⟩
end Go.Proofs.Ytgndmbkkggjklaa.Jo
namespace Go.Proofs.Ytgndmbkkggjklaa.Jo
set_option linter.unusedVariables false
open Go.RowKit Go.Proofs.YtgndmbkkggjklaaW.PrintWords Go.Proofs.Ytgndmbkkggjklaa.Bs Go.WideShapes
theorem puts_row (W : World) (c : S25) (cs : Array Value) (f : k25.K W c (Value.agg cs).cells.toList) (g : Good c) : Calls Try.prog 3 #[.agg cs] W fun e w' => e = .returned (.bool true) ∧ Below W.heap.size W w' := by
  obtain ⟨A, cp, rfl, hc, hC⟩ := com_of W c cs f
  obtain ⟨t, s, u, l⟩ := c
  obtain ⟨hs, hl, h1, h2⟩ := g
  simp only at hs hl h1 h2 hc hC ⊢
  have a0 := At.start W #[.int .i64 t, .int .u64 s, .int .u64 u, .slice A l.length cp] 25
  obtain ⟨r, CS⟩ := small_calls (W.alloc (.cells #[.int .i64 t, .int .u64 s, .int .u64 u, .slice A l.length cp] 25)) A cp ⟨t, s, u, l⟩ (Kd.C_below hC a0.b) hc
  cases r with
  | false => exact puts_small W A cp t s u l hC hc hs hl ⟨CS⟩
  | true =>
    cases hr : rightC ⟨t, s, u, l⟩ with
    | false => exact puts_not W A cp t s u l hC hc hs hl hr ⟨CS⟩
    | true => exact puts_right W A cp t s u l hC hc hs hl hr h1 h2 ⟨CS⟩
end Go.Proofs.Ytgndmbkkggjklaa.Jo
