import Derived.Test.YtagihjlklbckmaaGreatDoorMz1
import Derived.Deep.RegionLaw
import Derived.Lib.Fold
import Derived.WalkMore
import Derived.Lib.TrimAscii
import Derived.ScopeJumps
import Derived.Shelf.Strings.FuncGrows
import Derived.Deep.QuietTactic
import Derived.BigQuiet
namespace Go.Proofs.YtagihjlklbckmaaGreatDoor.Sc
set_option linter.unusedVariables false
set_option linter.unusedSimpArgs false
open Go.RowKit Go.Proofs.YtagihjlklbckmaaGreatDoorW.PrintWords Go.Proofs.YtagihjlklbckmaaGreatDoorW.PrintLast Go.Proofs.YtagihjlklbckmaaGreatDoorW.PrintMore Go.Proofs.YtagihjlklbckmaaGreatDoor.Bs
def kStr : Kd LB := Kd.iso Kd.string ofL
def kAttr : Kd (LB × LB) := Kd.pair kStr kStr
/-- A piece of markup. -/
structure Tok where
  kind : Int
  name : LB
  text : LB
  attrs : List (LB × LB)
  empty : Bool
def kTok : Kd Tok := Kd.iso (Kd.pair (Kd.int .i64) (Kd.pair kStr (Kd.pair kStr (Kd.pair (Kd.slice 68 kAttr) Kd.bool)))) (fun t => (t.kind, t.name, t.text, t.attrs, t.empty))
theorem kAttr_open {w : World} {x : LB × LB} {cs : List Value} (h : kAttr.K w x cs) : cs = [.string (ofL x.1), .string (ofL x.2)] := by
  obtain ⟨a, b, rfl, ha, hb⟩ := h
  rw [show a = [.string (ofL x.1)] from ha, show b = [.string (ofL x.2)] from hb]; rfl
theorem kAttr_mkM (w : World) (base : Nat) (ok : Nat → Prop) (x : LB × LB) : kAttr.M w base ok x [.string (ofL x.1), .string (ofL x.2)] := ⟨[.string (ofL x.1)], [.string (ofL x.2)], rfl, rfl, rfl⟩
theorem kTok_open {w : World} {x : Tok} {cs : List Value} (h : kTok.K w x cs) : ∃ A c, cs = [.int .i64 x.kind, .string (ofL x.name), .string (ofL x.text), .slice A x.attrs.length c, .bool x.empty] ∧ x.attrs.length ≤ c ∧ kAttr.C w A x.attrs.length x.attrs := by
  obtain ⟨_, _, rfl, rfl, ⟨_, _, rfl, rfl, ⟨_, _, rfl, rfl, ⟨_, _, rfl, ⟨A, c, rfl, l, g⟩, rfl⟩⟩⟩⟩ := h
  exact ⟨A, c, rfl, l, g⟩
theorem kTok_mkM (w : World) (base : Nat) (ok : Nat → Prop) (x : Tok) {v : Value} (g : kAttr.R 68 w base ok v x.attrs) : kTok.M w base ok x [.int .i64 x.kind, .string (ofL x.name), .string (ofL x.text), v, .bool x.empty] :=
  ⟨[.int .i64 x.kind], [.string (ofL x.name), .string (ofL x.text), v, .bool x.empty], rfl, rfl, ⟨[.string (ofL x.name)], [.string (ofL x.text), v, .bool x.empty], rfl, rfl, ⟨[.string (ofL x.text)], [v, .bool x.empty], rfl, rfl, ⟨[v], [.bool x.empty], rfl, ⟨v, rfl, g⟩, rfl⟩⟩⟩⟩
theorem infoTok : (Tryz.prog.info? 33).map (fun i => (i.zero, i.size, i.bytes)) = some (some (.agg #[.int .i64 0, .string ByteArray.empty, .string ByteArray.empty, .slice none 0 0, .bool false]), 5, 72) := by kernel_rfl
theorem infoAt : (Tryz.prog.info? 68).map (fun i => (i.zero, i.size, i.bytes)) = some (some (.agg #[.string ByteArray.empty, .string ByteArray.empty]), 2, 32) := by kernel_rfl
/-- The scanner, and what it has said. -/
structure Sn (B g : Nat) (W : World) (s : LB) (tv : Value) (toks : List Tok) : Prop where
  blk : W.heap[g]? = some (.cells #[.string (ofL s), tv] 40 (0, 0))
  row : kTok.R 33 W B (fun k => B ≤ k ∧ k ≠ g) tv toks
  ge : B ≤ g
theorem Sn.below {B g : Nat} {W W' : World} {s : LB} {tv : Value} {toks : List Tok} (h : Sn B g W s tv toks) (hb : Below W.heap.size W W') : Sn B g W' s tv toks :=
  ⟨(hb.block _ (blk_lt h.blk)).trans h.blk, Kd.R_below h.row hb, h.ge⟩
theorem Sn.take {B g : Nat} {W W' : World} {s s' : LB} {tv : Value} {toks : List Tok} (h : Sn B g W s tv toks) (hq : W'.heap[g]? = some (.cells #[.string (ofL s'), tv] 40 (0, 0))) (hch : Ch (fun k => k = g) W W') : Sn B g W' s' tv toks ∧ Below B W W' :=
  ⟨⟨hq, Kd.R_step h.row (fun k hk hlt => hch.block k hlt (fun e => hk.2 e)), h.ge⟩, Ch.to_below hch (fun k hk => by have := h.ge; omega) (by have := h.ge; have := blk_lt h.blk; omega)⟩
def SaidIt (B g : Nat) (W : World) (s : LB) (toks : List Tok) (e : Ending) (w' : World) : Prop := e = .returned (.tuple #[]) ∧ (∃ tv', Sn B g w' s tv' toks) ∧ Below B W w'
set_option maxRecDepth 100000 in
set_option maxHeartbeats 4000000 in
theorem say_calls (B g : Nat) (W : World) (s : LB) (tv v : Value) (toks : List Tok) (x : Tok) (h : Sn B g W s tv toks) (hx : kAttr.R 68 W B (fun k => (B ≤ k ∧ k ≠ g) ∧ some k ≠ tv.ownBlock) v x.attrs) (hl : toks.length ≤ 1000000) :
    Calls Tryz.prog 43 #[.pointer (some ⟨g, 0, none⟩), .agg #[.int .i64 x.kind, .string (ofL x.name), .string (ofL x.text), v, .bool x.empty]] W (SaidIt B g W s (toks ++ [x])) := by
  obtain ⟨A, c, rfl⟩ := Kd.R_slice h.row
  have hM := Aside0.mk (fun W' (hb : Below W.heap.size W W') => Kd.M_below (kTok_mkM W B _ x hx) hb)
  have H := Aside0.mk h
  have HLEN := Aside0.mk (show (toks.length + 1) * 72 ≤ 140737488355328 by omega)
  have HBW := Aside0.mk (show B ≤ W.heap.size by have := h.ge; have := blk_lt h.blk; omega)
  obtain ⟨v5, c5, rfl⟩ := Kd.R_slice hx
  clear h hx
  go_enter Tryz.func43, Tryz.ntmps43
  go_upto_region 1 with (fail)
  obtain ⟨W1, hW1⟩ : ∃ q, q = W.alloc (.cells #[.int .i64 x.kind, .string (ofL x.name), .string (ofL x.text), .slice v5 x.attrs.length c5, .bool x.empty] 33) := ⟨_, rfl⟩
  have hb1 : Below W.heap.size W W1 := hW1 ▸ below_alloc (Below.refl _ _) _
  have hq1 : W1.heap[W.heap.size]? = some (.cells #[.int .i64 x.kind, .string (ofL x.name), .string (ofL x.text), .slice v5 x.attrs.length c5, .bool x.empty] 33 (0, 0)) := hW1 ▸ heap_alloc_new W _
  have H1 := Aside0.mk ((H.out.below hb1).below (below_drew (Below.refl _ _)))
  have HM1 := Aside0.mk (hM.out W1.drew (hb1.trans (below_drew (Below.refl _ _) |>.mono hb1.size)))
  obtain ⟨q0, q1, q2⟩ := blk2 (show W1.heap[g]? = _ from H1.out.blk)
  have HBW1 := Aside0.mk (show B ≤ W1.drew.heap.size from Nat.le_trans HBW.out hb1.size)
  have HBB := Aside0.mk (show Below B W W1.drew from (hb1.trans (below_drew (Below.refl _ _) |>.mono hb1.size)).mono HBW.out)
  rw [← hW1]
  obtain ⟨nb, hnb⟩ : ∃ q, q = W.heap.size := ⟨_, rfl⟩
  rw [← hnb] at hq1 ⊢
  have t0 := blk_cell hq1 0
  have t1 := blk_cell hq1 1
  have t2 := blk_cell hq1 2
  have t3 := blk_cell hq1 3
  have t4 := blk_cell hq1 4
  simp only [List.getElem?_toArray, List.getElem?_cons_zero, List.getElem?_cons_succ] at t0 t1 t2 t3 t4
  have q1a : ∀ o, (W1.alloc o).cell? ⟨g, 1, none⟩ = some (.slice A toks.length c) := fun o => pw_cell_below (below_alloc (Below.refl _ _) o) q1
  clear hW1 hb1 hq1 hnb
  go_region_law (first
    | (go_loud (refine app_step kTok (W := W1.drew) B rfl (.tmp 8) (.tmp 10) 23 33 _ 72 rfl Tryz.underlying23 infoTok ⟨rfl, by decide, by decide⟩ (.slice A toks.length c) toks x _ (fun k => B ≤ k ∧ k ≠ g) (fun k => (B ≤ k ∧ k ≠ g) ∧ some k ≠ (Value.slice A toks.length c).ownBlock) rfl rfl HM1.out (fun k hk => hk) H1.out.row HBW1.out HLEN.out ?_); intro A1 c1 w10 hr10 hch10 hat10; have hbl := hch10.heap H1.out.blk (fun e => (H1.out.row.1 g e.symm).2 rfl); obtain ⟨f0, f1, f2⟩ := blk2 hbl; have HR10 := Aside0.mk hr10; have HCH := Aside0.mk hch10; have HBL := Aside0.mk hbl; clear hr10 hch10 hat10 hbl))
  all_goals
    go_wp2
    go_end0
    have hgn : g < w10.heap.size := blk_lt HBL.out
    have hset : Ch (fun k => k = g) w10 (w10.setCell ⟨g, 1, none⟩ (.slice A1 (toks.length + 1) c1)) := (Ch.refl (fun k => k = g) w10).setCell (p := ⟨g, 1, none⟩) (.inl rfl) _
    have hB10 : Below B W1.drew w10 := Ch.to_below HCH.out (fun k hk => H1.out.row.1 k hk.symm |>.1) HBW1.out
    refine ⟨rfl, ⟨.slice A1 (toks.length + 1) c1, ⟨blk_upd 1 _ HBL.out rfl, Kd.R_step (Kd.R_mono HR10.out (fun k hk => ?_)) (fun k hk hlt => hset.block k hlt (fun e => hk.2 e)), H1.out.ge⟩⟩, (HBB.out.trans hB10).trans (Ch.to_below hset (fun k hk => by have := H1.out.ge; omega) (Nat.le_trans HBW1.out HCH.out.size))⟩
    rcases hk with hk | hk
    · exact hk
    · have hw : W1.drew.heap.size = W1.heap.size := rfl
      have hg1 : g < W1.drew.heap.size := blk_lt H1.out.blk
      exact ⟨Nat.le_trans HBW1.out hk, by omega⟩
end Go.Proofs.YtagihjlklbckmaaGreatDoor.Sc
namespace Go.Proofs.YtagihjlklbckmaaGreatDoor.Sc
set_option linter.unusedVariables false
set_option linter.unusedSimpArgs false
open Go.RowKit Go.Proofs.YtagihjlklbckmaaGreatDoorW.PrintWords Go.Proofs.YtagihjlklbckmaaGreatDoorW.PrintLast Go.Proofs.YtagihjlklbckmaaGreatDoorW.PrintMore Go.Proofs.YtagihjlklbckmaaGreatDoor.Bs
def Piece (B g : Nat) (W : World) (toks : List Tok) (r : Except Int (Tok × LB)) (e : Ending) (w' : World) : Prop := match r with
  | .error k => Bad k e ∧ Below B W w'
  | .ok (x, rest) => SaidIt B g W rest (toks ++ [x]) e w'
def cdataM (s : LB) : Except Int (Tok × LB) := match upToM [93, 93, 62] s with
  | .error k => .error k
  | .ok (t, r) => .ok (⟨3, [], t, [], false⟩, r)
def commentM (s : LB) : Except Int (Tok × LB) := match upToM [45, 45] s with
  | .error k => .error k
  | .ok (t, r) => match r with
    | [] => .error 13
    | c :: q => if c = 62 then .ok (⟨4, [], t, [], false⟩, q) else .error 13
def endM (s : LB) : Except Int (Tok × LB) := match nameM s with
  | .error k => .error k
  | .ok (t, r) => match mustM 62 (r.drop (spanN spaceR r)) with
    | .error k => .error k
    | .ok q => .ok (⟨2, t, [], [], false⟩, q)
def cutAt (l : LB) : Nat := if Lib.indexByte l 60 < 0 then l.length else (Lib.indexByte l 60).toNat
def textMk (s : LB) : Except Int (Tok × LB) := match escM id (s.take (cutAt s)) with
  | .error k => .error k
  | .ok t => .ok (⟨3, [], t, [], false⟩, s.drop (cutAt s))
theorem index_range (c : UInt8) : ∀ l : LB, -1 ≤ Lib.indexByte l c ∧ Lib.indexByte l c < l.length
  | [] => by simp [Lib.indexByte]
  | b :: l => by
    have ih := index_range c l
    rw [Lib.indexByte, List.length_cons]
    split
    · omega
    · split
      · omega
      · omega
theorem cutAt_le (l : LB) : cutAt l ≤ l.length := by
  have := index_range 60 l
  unfold cutAt
  split <;> omega
theorem rest_len {t l a b : LB} (h : upToM t l = .ok (a, b)) : a.length ≤ l.length ∧ b.length ≤ l.length := by
  unfold upToM at h
  have hc := cut_len l t
  split at h
  · cases h; exact hc
  · cases h
/-- A token without attributes is said. -/
theorem say_plain (B g : Nat) (W : World) (s n t : LB) (k : Int) (tv : Value) (toks : List Tok) (h : Sn B g W s tv toks) (hl : toks.length ≤ 1000000) :
    Calls Tryz.prog 43 #[.pointer (some ⟨g, 0, none⟩), .agg #[.int .i64 k, .string (ofL n), .string (ofL t), .slice none 0 0, .bool false]] W (SaidIt B g W s (toks ++ [⟨k, n, t, [], false⟩])) :=
  say_calls B g W s tv (.slice none 0 0) toks ⟨k, n, t, [], false⟩ h (Kd.R_nil _ _ _ _ _) hl
theorem SaidIt.from {B g : Nat} {W W1 : World} {s : LB} {toks : List Tok} {e : Ending} {w' : World} (hb : Below B W W1) (h : SaidIt B g W1 s toks e w') : SaidIt B g W s toks e w' := ⟨h.1, h.2.1, hb.trans h.2.2⟩
set_option maxRecDepth 100000 in
set_option maxHeartbeats 1000000 in
theorem cdata_calls (B g : Nat) (W : World) (s : LB) (tv : Value) (toks : List Tok) (h : Sn B g W s tv toks) (E : Env W) (hB : 6 ≤ B) (hs : s.length ≤ 1000000) (hl : toks.length ≤ 1000000) :
    Calls Tryz.prog 21 #[.pointer (some ⟨g, 0, none⟩)] W (Piece B g W toks (cdataM s)) := by
  have CU := Aside0.mk (show Calls Tryz.prog 44 #[.pointer (some ⟨g, 0, none⟩), .string ⟨#[93, 93, 62]⟩] W _ from upTo_calls W g s [93, 93, 62] tv h.blk E hs)
  have H := Aside0.mk h
  obtain ⟨R, hR⟩ : ∃ x, x = cdataM s := ⟨_, rfl⟩
  rw [← hR]
  unfold cdataM at hR
  have HR := Aside0.mk hR
  clear h E hR
  generalize upToM [93, 93, 62] s = u at CU HR
  go_enter Tryz.func21, Tryz.ntmps21
  go_wp2_with fail
  (with_reducible refine CU.out.mono ?_)
  rintro e w2 hT
  cases u with
  | error k =>
    obtain ⟨rfl, hch⟩ := hT
    have HE := Aside0.mk (show R = .error k from HR.out)
    have HB := Aside0.mk (Ch.to_below hch (B := B) (fun j hj => by have := H.out.ge; omega) (by have := H.out.ge; have := blk_lt H.out.blk; omega))
    rw [HE.out]
    exact ⟨rfl, rfl, HB.out⟩
  | ok p =>
    obtain ⟨t, r⟩ := p
    obtain ⟨rfl, hq, hch⟩ := hT
    have HE := Aside0.mk (show R = .ok (⟨3, [], t, [], false⟩, r) from HR.out)
    have H2 := Aside0.mk (H.out.take hq hch)
    have CS := Aside0.mk (show Calls Tryz.prog 43 #[.pointer (some ⟨g, 0, none⟩), .agg #[.int .i64 3, .string ⟨#[]⟩, .string (ofL t), .slice none 0 0, .bool false]] _ _ from say_plain B g w2 r [] t 3 tv toks H2.out.1 hl)
    clear hq hch CU
    go_wp2_with fail
    (with_reducible refine CS.out.mono ?_)
    rintro e w3 hS
    have HS := Aside0.mk (SaidIt.from H2.out.2 hS)
    obtain ⟨rfl, _, _⟩ := hS
    clear CS
    go_wp2_with fail
    go_end0
    rw [HE.out]
    exact HS.out
end Go.Proofs.YtagihjlklbckmaaGreatDoor.Sc
namespace Go.Proofs.YtagihjlklbckmaaGreatDoor.Sc
set_option linter.unusedVariables false
set_option linter.unusedSimpArgs false
open Go.RowKit Go.Proofs.YtagihjlklbckmaaGreatDoorW.PrintWords Go.Proofs.YtagihjlklbckmaaGreatDoorW.PrintLast Go.Proofs.YtagihjlklbckmaaGreatDoorW.PrintMore Go.Proofs.YtagihjlklbckmaaGreatDoor.Bs
theorem Sn.ch {B g : Nat} {W W' : World} {s : LB} {tv : Value} {toks : List Tok} (h : Sn B g W s tv toks) (hch : Ch (fun k => k = g) W W') : Below B W W' :=
  Ch.to_below hch (fun k hk => by have := h.ge; omega) (by have := h.ge; have := blk_lt h.blk; omega)
theorem Env.from {B : Nat} {W W' : World} (h : Env W) (hb : Below B W W') (hB : 6 ≤ B) : Env W' := h.below' (hb.mono hB) (Nat.le_refl _) h.big
theorem Sn.cut {B g : Nat} {W : World} {s s' : LB} {tv : Value} {toks : List Tok} (h : Sn B g W s tv toks) : Sn B g (W.setCell ⟨g, 0, none⟩ (.string (ofL s'))) s' tv toks ∧ Below B W (W.setCell ⟨g, 0, none⟩ (.string (ofL s'))) :=
  h.take (blk_upd 0 _ h.blk rfl) ((Ch.refl (fun k => k = g) W).setCell (p := ⟨g, 0, none⟩) (.inl rfl) _)
theorem pre_nil (c : UInt8) : Lib.hasPrefix [] [c] = false := rfl
theorem pre_cons (c d : UInt8) (r : LB) : Lib.hasPrefix (d :: r) [c] = decide (d = c) := by
  by_cases h : d = c
  · subst h; simp [Lib.hasPrefix, List.isPrefixOf]
  · have h' : ¬ c = d := fun e => h e.symm
    simp [Lib.hasPrefix, List.isPrefixOf, h, h']
set_option maxRecDepth 100000 in
set_option maxHeartbeats 1000000 in
theorem comment_calls (B g : Nat) (W : World) (s : LB) (tv : Value) (toks : List Tok) (h : Sn B g W s tv toks) (E : Env W) (hB : 6 ≤ B) (hs : s.length ≤ 1000000) (hl : toks.length ≤ 1000000) :
    Calls Tryz.prog 20 #[.pointer (some ⟨g, 0, none⟩)] W (Piece B g W toks (commentM s)) := by
  have CU := Aside0.mk (show Calls Tryz.prog 44 #[.pointer (some ⟨g, 0, none⟩), .string ⟨#[45, 45]⟩] W _ from upTo_calls W g s [45, 45] tv h.blk E hs)
  have H := Aside0.mk h
  obtain ⟨R, hR⟩ : ∃ x, x = commentM s := ⟨_, rfl⟩
  rw [← hR]
  unfold commentM at hR
  have HR := Aside0.mk hR
  clear h E hR
  generalize upToM [45, 45] s = u at CU HR
  go_enter Tryz.func20, Tryz.ntmps20
  go_wp2_with fail
  (with_reducible refine CU.out.mono ?_)
  rintro e w2 hT
  cases u with
  | error k =>
    obtain ⟨rfl, hch⟩ := hT
    have HE := Aside0.mk (show R = .error k from HR.out)
    have HB := Aside0.mk (H.out.ch hch)
    rw [HE.out]
    exact ⟨rfl, rfl, HB.out⟩
  | ok p =>
    obtain ⟨t, r⟩ := p
    obtain ⟨rfl, hq, hch⟩ := hT
    have H2 := Aside0.mk (H.out.take hq hch)
    have CP := Aside0.mk (show Calls Tryz.prog 26 #[.string (ofL r), .string ⟨#[62]⟩] w2 fun e w' => e = .returned (.bool (Lib.hasPrefix r [62])) ∧ w' = w2 from Tryz.strings_HasPrefix (ofL r) ⟨#[62]⟩ w2)
    obtain ⟨q0, q1, q2⟩ := blk2 hq
    clear hq hch CU
    cases r with
    | nil =>
      have HE := Aside0.mk (show R = .error 13 from HR.out)
      rw [pre_nil] at CP
      go_wp2_with (go_at_call 26; (with_reducible refine CP.out.mono ?_); rintro e w3 ⟨rfl, rfl⟩)
      (with_reducible refine (need_no _ _).mono ?_)
      rintro e w4 ⟨rfl, rfl⟩
      rw [HE.out]
      exact ⟨rfl, rfl, H2.out.2⟩
    | cons c q =>
      rw [pre_cons] at CP
      by_cases hc : c = 62
      · have HE := Aside0.mk (show R = .ok (⟨4, [], t, [], false⟩, q) by rw [HR.out]; simp only [if_pos hc])
        rw [decide_eq_true hc] at CP
        have hcut : (ofL (c :: q)).extract 1 (ofL (c :: q)).size = ofL q := ofL_cut (c :: q) 1
        have hz1 : (1 : Int) ≤ ((ofL (c :: q)).size : Int) := by rw [ofL_size, List.length_cons]; omega
        have hx := H2.out.1.cut (s' := q)
        have H3 := Aside0.mk hx.1
        have HB3 := Aside0.mk (H2.out.2.trans hx.2)
        have CS := Aside0.mk (show Calls Tryz.prog 43 #[.pointer (some ⟨g, 0, none⟩), .agg #[.int .i64 4, .string ⟨#[]⟩, .string (ofL t), .slice none 0 0, .bool false]] _ _ from say_plain B g _ q [] t 4 tv toks hx.1 hl)
        clear hx hc
        go_wp2_with (first | (go_at_call 26; (with_reducible refine CP.out.mono ?_); rintro e w3 ⟨rfl, rfl⟩) | (go_at_call 25; (with_reducible refine (need_ok _ _).mono ?_); rintro e w4 ⟨rfl, rfl⟩))
        (with_reducible refine CS.out.mono ?_)
        rintro e w3 hS
        have HS := Aside0.mk (SaidIt.from HB3.out hS)
        obtain ⟨rfl, _, _⟩ := hS
        clear CS
        go_wp2_with fail
        go_end0
        rw [HE.out]
        exact HS.out
      · have HE := Aside0.mk (show R = .error 13 by rw [HR.out]; simp only [if_neg hc])
        rw [decide_eq_false hc] at CP
        clear hc
        go_wp2_with (go_at_call 26; (with_reducible refine CP.out.mono ?_); rintro e w3 ⟨rfl, rfl⟩)
        (with_reducible refine (need_no _ _).mono ?_)
        rintro e w4 ⟨rfl, rfl⟩
        rw [HE.out]
        exact ⟨rfl, rfl, H2.out.2⟩
set_option maxRecDepth 100000 in
set_option maxHeartbeats 1000000 in
theorem end_calls (B g : Nat) (W : World) (s : LB) (tv : Value) (toks : List Tok) (h : Sn B g W s tv toks) (E : Env W) (hB : 6 ≤ B) (hs : s.length ≤ 1000000) (hl : toks.length ≤ 1000000) :
    Calls Tryz.prog 23 #[.pointer (some ⟨g, 0, none⟩)] W (Piece B g W toks (endM s)) := by
  have CN := Aside0.mk (name_get W g s tv h.blk E (Nat.le_trans hB h.ge) hs)
  have HNL := Aside0.mk (show ∀ t r, nameM s = .ok (t, r) → r.length ≤ 1000000 by
    intro t r h
    unfold nameM at h
    repeat' split at h
    all_goals first | (cases h; done) | (cases h; rw [List.length_drop]; omega))
  have H := Aside0.mk h
  have HE := Aside0.mk E
  obtain ⟨R, hR⟩ : ∃ x, x = endM s := ⟨_, rfl⟩
  rw [← hR]
  unfold endM at hR
  have HR := Aside0.mk hR
  clear h E hR
  generalize nameM s = u at CN HR HNL
  go_enter Tryz.func23, Tryz.ntmps23
  go_wp2_with fail
  (with_reducible refine CN.out.mono ?_)
  rintro e w2 hT
  cases u with
  | error k =>
    obtain ⟨rfl, hch⟩ := hT
    have HE := Aside0.mk (show R = .error k from HR.out)
    have HB := Aside0.mk (H.out.ch hch)
    rw [HE.out]
    exact ⟨rfl, rfl, HB.out⟩
  | ok p =>
    obtain ⟨t, r⟩ := p
    obtain ⟨rfl, hq, hch⟩ := hT
    have H2 := Aside0.mk (H.out.take hq hch)
    have HE2 := Aside0.mk (HE.out.from H2.out.2 hB)
    have hrl := HNL.out t r rfl
    have CW := Aside0.mk (while_calls w2 g r tv 50 spaceR space_calls enter_space hq HE2.out hrl)
    clear hq hch CN HNL
    simp only at HR
    generalize hr2 : r.drop (spanN spaceR r) = r2 at CW HR
    clear hr2
    go_wp2_with fail
    (with_reducible refine CW.out.mono ?_)
    rintro e w3 ⟨rfl, hq, hch⟩
    have H3 := Aside0.mk (H2.out.1.take hq hch)
    have HB3 := Aside0.mk (H2.out.2.trans H3.out.2)
    have CM := Aside0.mk (show Calls Tryz.prog 52 #[.pointer (some ⟨g, 0, none⟩), .int .u8 62] w3 _ from must_calls w3 g r2 62 tv hq)
    clear hq hch CW
    generalize mustM 62 r2 = m at CM HR
    go_wp2_with fail
    (with_reducible refine CM.out.mono ?_)
    rintro e w4 hT
    cases m with
    | error k =>
      obtain ⟨rfl, hch⟩ := hT
      have HE := Aside0.mk (show R = .error k from HR.out)
      have HB := Aside0.mk (HB3.out.trans (H3.out.1.ch hch))
      rw [HE.out]
      exact ⟨rfl, rfl, HB.out⟩
    | ok q =>
      obtain ⟨rfl, hq, hch⟩ := hT
      have H4 := Aside0.mk (H3.out.1.take hq hch)
      have HB4 := Aside0.mk (HB3.out.trans H4.out.2)
      have HE := Aside0.mk (show R = .ok (⟨2, t, [], [], false⟩, q) from HR.out)
      have CS := Aside0.mk (show Calls Tryz.prog 43 #[.pointer (some ⟨g, 0, none⟩), .agg #[.int .i64 2, .string (ofL t), .string ⟨#[]⟩, .slice none 0 0, .bool false]] _ _ from say_plain B g _ q t [] 2 tv toks H4.out.1 hl)
      clear hq hch CM
      go_wp2_with fail
      (with_reducible refine CS.out.mono ?_)
      rintro e w5 hS
      have HS := Aside0.mk (SaidIt.from HB4.out hS)
      obtain ⟨rfl, _, _⟩ := hS
      clear CS
      go_wp2_with fail
      go_end0
      rw [HE.out]
      exact HS.out
end Go.Proofs.YtagihjlklbckmaaGreatDoor.Sc
namespace Go.Proofs.YtagihjlklbckmaaGreatDoor.Sc
set_option linter.unusedVariables false
set_option linter.unusedSimpArgs false
open Go.RowKit Go.Proofs.YtagihjlklbckmaaGreatDoorW.PrintWords Go.Proofs.YtagihjlklbckmaaGreatDoorW.PrintLast Go.Proofs.YtagihjlklbckmaaGreatDoorW.PrintMore Go.Proofs.YtagihjlklbckmaaGreatDoor.Bs
theorem escF_err (pl : UInt8 → UInt8) : ∀ (n : Nat) (l out : LB) (k : Int), escF pl n l out = .error k → k = 13 ∨ k = 12
  | 0, _, _, k, h => by cases h
  | n + 1, [], _, k, h => by cases h
  | n + 1, c :: r, out, k, h => by
    simp only [escF] at h
    split at h
    · cases h; exact .inl rfl
    · split at h
      · cases hr : refM r with
        | none => rw [hr] at h; cases h; exact .inr rfl
        | some p => rw [hr] at h; exact escF_err pl n _ _ k h
      · split at h
        · exact escF_err pl n _ _ k h
        · exact escF_err pl n _ _ k h
theorem escM_err {pl : UInt8 → UInt8} {l : LB} {k : Int} (h : escM pl l = .error k) : k = 13 ∨ k = 12 ∨ k = 10 := by
  unfold escM at h
  split at h
  · exact (escF_err pl _ _ _ k h).elim .inl (fun h => .inr (.inl h))
  · cases h; exact .inr (.inr rfl)
set_option maxRecDepth 100000 in
set_option maxHeartbeats 1000000 in
theorem textp_calls (B g : Nat) (W : World) (s : LB) (tv : Value) (toks : List Tok) (h : Sn B g W s tv toks) (E : Env W) (hB : 6 ≤ B) (hs : s.length ≤ 1000000) (hl : toks.length ≤ 1000000) :
    Calls Tryz.prog 19 #[.pointer (some ⟨g, 0, none⟩)] W (Piece B g W toks (textMk s)) := by
  have CI := Aside0.mk (show Calls Tryz.prog 41 #[.string (ofL s), .int .u8 60] W fun e w' => e = .returned (.int .i64 (Lib.indexByte s 60)) ∧ w' = W from Tryz.strings_IndexByte (ofL s) 60 W)
  have CG := Aside0.mk (get_calls W (s.take (cutAt s)) E (by rw [List.length_take]; omega))
  have H := Aside0.mk h
  have HW := Aside0.mk (show B ≤ W.heap.size by have := h.ge; have := blk_lt h.blk; omega)
  obtain ⟨R, hR⟩ : ∃ x, x = textMk s := ⟨_, rfl⟩
  rw [← hR]
  unfold textMk at hR
  have HR := Aside0.mk hR
  obtain ⟨q0, q1, q2⟩ := blk2 h.blk
  have hix := index_range 60 s
  have hcl := cutAt_le s
  have hcd : cutAt s = if Lib.indexByte s 60 < 0 then s.length else (Lib.indexByte s 60).toNat := rfl
  generalize hn : cutAt s = n at CG HR hcl hcd
  generalize Lib.indexByte s 60 = i at CI hix hcd
  have HK := Aside0.mk (fun k (he : escM id (s.take n) = .error k) => escM_err he)
  generalize escM id (s.take n) = u at CG HR HK
  have hsz := ofL_size s
  have hhead := ofL_head s n
  have hcut := ofL_cut s n
  have hzz : ((ofL s).size : Int) = (s.length : Int) := by rw [hsz]
  have hnz : (n : Int) ≤ ((ofL s).size : Int) := by omega
  clear h E hR hn hsz
  by_cases hi : i < 0
  · rw [if_pos hi] at hcd
    have hnn : (s.length : Int) = (n : Int) := by omega
    clear hcd
    go_enter Tryz.func19, Tryz.ntmps19
    go_wp2_with (go_at_call 41; (with_reducible refine CI.out.mono ?_); rintro e w2 ⟨rfl, rfl⟩)
    (with_reducible refine CG.out.mono ?_)
    rintro e w2 hT
    cases u with
    | error k =>
      obtain ⟨rfl, hb⟩ := hT
      have HE := Aside0.mk (show R = .error k from HR.out)
      have HB := Aside0.mk (hb.mono HW.out)
      have hk : (k == 0) = false := by have := HK.out k rfl; rw [beq_eq_false_iff_ne]; omega
      go_wp2_with fail
      (with_reducible refine (need_no _ _).mono ?_)
      rintro e w4 ⟨rfl, rfl⟩
      rw [HE.out]
      exact ⟨rfl, rfl, HB.out⟩
    | ok t =>
      obtain ⟨rfl, hb⟩ := hT
      have HE := Aside0.mk (show R = .ok (⟨3, [], t, [], false⟩, s.drop n) from HR.out)
      have HB := Aside0.mk (hb.mono HW.out)
      have H2 := Aside0.mk (H.out.below hb)
      clear q0 q1 q2
      obtain ⟨q0, q1, q2⟩ := blk2 H2.out.blk
      have hx := H2.out.cut (s' := s.drop n)
      have HX := Aside0.mk hx.1
      have HB3 := Aside0.mk (HB.out.trans hx.2)
      have CS := Aside0.mk (show Calls Tryz.prog 43 #[.pointer (some ⟨g, 0, none⟩), .agg #[.int .i64 3, .string ⟨#[]⟩, .string (ofL t), .slice none 0 0, .bool false]] _ _ from say_plain B g _ (s.drop n) [] t 3 tv toks hx.1 hl)
      clear hx hb
      go_wp2_with (go_at_call 25; (with_reducible refine (need_ok _ _).mono ?_); rintro e w4 ⟨rfl, rfl⟩)
      (with_reducible refine CS.out.mono ?_)
      rintro e w3 hS
      have HS := Aside0.mk (SaidIt.from HB3.out hS)
      obtain ⟨rfl, _, _⟩ := hS
      clear CS
      go_wp2_with fail
      go_end0
      rw [HE.out]
      exact HS.out
  · rw [if_neg hi] at hcd
    have hin : i = (n : Int) := by omega
    subst hin
    clear hcd
    go_enter Tryz.func19, Tryz.ntmps19
    go_wp2_with (go_at_call 41; (with_reducible refine CI.out.mono ?_); rintro e w2 ⟨rfl, rfl⟩)
    (with_reducible refine CG.out.mono ?_)
    rintro e w2 hT
    cases u with
    | error k =>
      obtain ⟨rfl, hb⟩ := hT
      have HE := Aside0.mk (show R = .error k from HR.out)
      have HB := Aside0.mk (hb.mono HW.out)
      have hk : (k == 0) = false := by have := HK.out k rfl; rw [beq_eq_false_iff_ne]; omega
      go_wp2_with fail
      (with_reducible refine (need_no _ _).mono ?_)
      rintro e w4 ⟨rfl, rfl⟩
      rw [HE.out]
      exact ⟨rfl, rfl, HB.out⟩
    | ok t =>
      obtain ⟨rfl, hb⟩ := hT
      have HE := Aside0.mk (show R = .ok (⟨3, [], t, [], false⟩, s.drop n) from HR.out)
      have HB := Aside0.mk (hb.mono HW.out)
      have H2 := Aside0.mk (H.out.below hb)
      clear q0 q1 q2
      obtain ⟨q0, q1, q2⟩ := blk2 H2.out.blk
      have hx := H2.out.cut (s' := s.drop n)
      have HX := Aside0.mk hx.1
      have HB3 := Aside0.mk (HB.out.trans hx.2)
      have CS := Aside0.mk (show Calls Tryz.prog 43 #[.pointer (some ⟨g, 0, none⟩), .agg #[.int .i64 3, .string ⟨#[]⟩, .string (ofL t), .slice none 0 0, .bool false]] _ _ from say_plain B g _ (s.drop n) [] t 3 tv toks hx.1 hl)
      clear hx hb
      go_wp2_with (go_at_call 25; (with_reducible refine (need_ok _ _).mono ?_); rintro e w4 ⟨rfl, rfl⟩)
      (with_reducible refine CS.out.mono ?_)
      rintro e w3 hS
      have HS := Aside0.mk (SaidIt.from HB3.out hS)
      obtain ⟨rfl, _, _⟩ := hS
      clear CS
      go_wp2_with fail
      go_end0
      rw [HE.out]
      exact HS.out
end Go.Proofs.YtagihjlklbckmaaGreatDoor.Sc
namespace Go.Proofs.YtagihjlklbckmaaGreatDoor.Sc
set_option linter.unusedVariables false
set_option linter.unusedSimpArgs false
open Go.RowKit Go.Proofs.YtagihjlklbckmaaGreatDoorW.PrintWords Go.Proofs.YtagihjlklbckmaaGreatDoorW.PrintLast Go.Proofs.YtagihjlklbckmaaGreatDoorW.PrintMore Go.Proofs.YtagihjlklbckmaaGreatDoor.Bs
set_option maxRecDepth 100000 in
set_option maxHeartbeats 1000000 in
theorem simple_calls (w : World) (r : Nat) (v : Int) (h : w.cell? ⟨2, r, none⟩ = some (.int .u16 v)) (hr : r < 128) (hv : 0 ≤ v) (hv2 : v < 65536) :
    Calls Tryz.prog 75 #[.int .i32 r] w fun e w' => e = .returned (.int .i32 v) ∧ w' = w := by
  have h0 : (r : Int) < 128 := by omega
  go_enter Tryz.func75, Tryz.ntmps75
  go_wp2
  go_ret
  exact ⟨rfl, rfl⟩
section
variable {Q : Exit → Act → World → Prop} {a : Act} {w : World} {l : Nat} {J : Act → World → Prop}
theorem jump_ret : Exit.jump l J Q .ret a w = Q .ret a w := rfl
end
/-- Where the folding comes to a byte that is not ASCII. -/
structure FoldAt (l tt : LB) (R : Bool) (i : Nat) (x y : UInt8) : Prop where
  hx : 128 ≤ x.toNat
  dl : l.drop i = x :: l.drop (i + 1)
  dt : tt.drop i = y :: tt.drop (i + 1)
  hy : 97 ≤ y.toNat ∧ y.toNat ≤ 122 ∧ y.toNat ≠ 107 ∧ y.toNat ≠ 115
  eq : Lib.equalFold (l.drop i) (tt.drop i) = R
  il : i < l.length
  it : i < 3
def xmlL : LB := [120, 109, 108]
theorem xml_at (i : Nat) (h : i < 3) : ∃ y, xmlL.drop i = y :: xmlL.drop (i + 1) ∧ 97 ≤ y.toNat ∧ y.toNat ≤ 122 ∧ y.toNat ≠ 107 ∧ y.toNat ≠ 115 := by
  match i, h with
  | 0, _ => exact ⟨120, rfl, by decide⟩
  | 1, _ => exact ⟨109, rfl, by decide⟩
  | 2, _ => exact ⟨108, rfl, by decide⟩
theorem ofL_get (l : LB) (i : Nat) (x : UInt8) (h : l[i]? = some x) (hi : i < (ofL l).size) : (ofL l)[i]'hi = x := by
  have h2 := Lib.data_getElem? (ofL l) i hi
  rw [ofL_list, h] at h2
  exact (Option.some.inj h2).symm
theorem range123 (f : Nat → Value) : (List.range 123).map f = [f 0, f 1, f 2, f 3, f 4, f 5, f 6, f 7, f 8, f 9, f 10, f 11, f 12, f 13, f 14, f 15, f 16, f 17, f 18, f 19, f 20, f 21, f 22, f 23, f 24, f 25, f 26, f 27, f 28, f 29, f 30, f 31, f 32, f 33, f 34, f 35, f 36, f 37, f 38, f 39, f 40, f 41, f 42, f 43, f 44, f 45, f 46, f 47, f 48, f 49, f 50, f 51, f 52, f 53, f 54, f 55, f 56, f 57, f 58, f 59, f 60, f 61, f 62, f 63, f 64, f 65, f 66, f 67, f 68, f 69, f 70, f 71, f 72, f 73, f 74, f 75, f 76, f 77, f 78, f 79, f 80, f 81, f 82, f 83, f 84, f 85, f 86, f 87, f 88, f 89, f 90, f 91, f 92, f 93, f 94, f 95, f 96, f 97, f 98, f 99, f 100, f 101, f 102, f 103, f 104, f 105, f 106, f 107, f 108, f 109, f 110, f 111, f 112, f 113, f 114, f 115, f 116, f 117, f 118, f 119, f 120, f 121, f 122] := rfl
/-- A frame of 123 slots of which three are known. -/
theorem frame123 (tm : Array Value) (a b c : Value) (hn : tm.size = 123) (h0 : tm[0]? = some a) (h1 : tm[1]? = some b) (h5 : tm[5]? = some c) : ∃ u : Nat → Value, tm = #[a, b, u 2, u 3, u 4, c, u 6, u 7, u 8, u 9, u 10, u 11, u 12, u 13, u 14, u 15, u 16, u 17, u 18, u 19, u 20, u 21, u 22, u 23, u 24, u 25, u 26, u 27, u 28, u 29, u 30, u 31, u 32, u 33, u 34, u 35, u 36, u 37, u 38, u 39, u 40, u 41, u 42, u 43, u 44, u 45, u 46, u 47, u 48, u 49, u 50, u 51, u 52, u 53, u 54, u 55, u 56, u 57, u 58, u 59, u 60, u 61, u 62, u 63, u 64, u 65, u 66, u 67, u 68, u 69, u 70, u 71, u 72, u 73, u 74, u 75, u 76, u 77, u 78, u 79, u 80, u 81, u 82, u 83, u 84, u 85, u 86, u 87, u 88, u 89, u 90, u 91, u 92, u 93, u 94, u 95, u 96, u 97, u 98, u 99, u 100, u 101, u 102, u 103, u 104, u 105, u 106, u 107, u 108, u 109, u 110, u 111, u 112, u 113, u 114, u 115, u 116, u 117, u 118, u 119, u 120, u 121, u 122] := by
  obtain ⟨l⟩ := tm
  simp only [List.getElem?_toArray, List.size_toArray] at *
  have hl : l = (List.range 123).map (fun k => l[k]?.getD a) := by
    apply List.ext_getElem
    · simp [hn]
    · intro i h1 h2
      simp [List.getElem?_eq_getElem h1]
  refine ⟨fun k => l[k]?.getD a, (congrArg List.toArray hl).trans ?_⟩
  rw [range123]
  simp only [h0, h1, h5, Option.getD_some]
set_option maxRecDepth 100000 in
set_option maxHeartbeats 4000000 in
theorem fold_calls (w : World) (l : LB) (E : Env w) (hl : l.length ≤ 1000000) :
    Calls Tryz.prog 48 #[.string (ofL l), .string (ofL xmlL)] w fun e w' => e = .returned (.bool (Lib.equalFold l xmlL)) ∧ Below w.heap.size w w' := by
  obtain ⟨tt, htt⟩ : ∃ x, x = xmlL := ⟨_, rfl⟩
  have HX := Aside0.mk xml_at
  have HT3 := Aside0.mk (show tt.length = 3 by rw [htt]; rfl)
  rw [← htt] at HX ⊢
  clear htt
  obtain ⟨R, hR⟩ : ∃ x, x = Lib.equalFold l tt := ⟨_, rfl⟩
  rw [← hR]
  have HE := Aside0.mk E
  have hsl : ((ofL l).size : Int) = (l.length : Int) := by rw [ofL_size]
  have hst : ((ofL tt).size : Int) = 3 := by rw [ofL_size, HT3.out]; rfl
  obtain ⟨M, hM⟩ : ∃ M : Nat, min ((ofL l).size : Int) ((ofL tt).size : Int) = (M : Int) := ⟨min l.length 3, by omega⟩
  have hMs : M ≤ l.length := by omega
  have hMt : M ≤ 3 := by omega
  have hMe : M = l.length ∨ M = 3 := by omega
  have HR := Aside0.mk hR
  clear E hR
  go_enter Tryz.func48, Tryz.ntmps48
  go_wp2
  refine wp_scope_jumps 0 (fun a' w' => w' = w ∧ ∃ (i : Nat) (x y : UInt8), Aside0 (FoldAt l tt R i x y) ∧ a'.tmps.size = 123 ∧ a'.defers = [] ∧ a'.tmps[0]? = some (.string (ofL l)) ∧ a'.tmps[1]? = some (.string (ofL tt)) ∧ a'.tmps[5]? = some (.int .i64 (i : Int))) (fun _ _ => 0) rfl ?_ ?_
  case refine_2 =>
    clear HR hM hMs hMt hMe
    rintro ⟨tm, df⟩ w' ⟨rfl, i, x, y, HF, hn, hd, h0, h1, h5⟩
    dsimp only at hn hd h0 h1 h5
    subst hd
    obtain ⟨u, rfl⟩ := frame123 tm _ _ _ hn h0 h1 h5
    clear hn h0 h1 h5
    have hcl := ofL_cut l i
    have hct := ofL_cut tt i
    have hF2 := HF.out.it
    have hF3 := HF.out.il
    have hi1 : (i : Int) ≤ ((ofL l).size : Int) := by omega
    have hi2 : (i : Int) ≤ ((ofL tt).size : Int) := by omega
    rw [HF.out.dt] at hct
    go_wp2
    go_loopw [1] (fun v1 wx => v1 = .string (ofL (y :: tt.drop (i + 1))) ∧ wx = w'.iter (ofL (l.drop i)) 0) (fun _ _ => 0)
    case atStart => exact ⟨rfl, rfl⟩
    case round =>
      obtain ⟨rfl, rfl⟩ := hrel
      have hpos : 0 < (ofL (l.drop i)).size := by rw [ofL_size, List.length_drop]; omega
      have hnx : ∀ ty, (Instr.next (.pointer (some ⟨w'.heap.size, 0, none⟩)) true ty).run Tryz.prog (w'.iter (ofL (l.drop i)) 0) = _ := fun ty => run_next_any w' (ofL (l.drop i)) 0 ty hpos
      have HR0 := Aside0.mk (decode_high (ofL (l.drop i)) 0 hpos (by
        have := HF.out.hx
        rw [ofL_get (l.drop i) 0 x (by rw [HF.out.dl]; rfl) hpos]; omega)).1
      obtain ⟨wa, hwa⟩ : ∃ q, q = w'.iter (ofL (l.drop i)) (0 + (Utf8.decode (ofL (l.drop i)) 0).2) := ⟨_, rfl⟩
      have HBA := Aside0.mk (show Below w'.heap.size w' wa from hwa ▸ below_alloc (Below.refl _ _) _)
      have HEA := Aside0.mk (HE.out.below HBA.out)
      obtain ⟨r0, hr0⟩ : ∃ q, q = (Utf8.decode (ofL (l.drop i)) 0).1 := ⟨_, rfl⟩
      rw [← hwa, ← hr0] at hnx
      rw [← hr0] at HR0
      clear hwa hr0
      obtain ⟨q, hq⟩ : ∃ q, q = tt.drop (i + 1) := ⟨_, rfl⟩
      have HY := Aside0.mk HF.out.hy
      have HRR := Aside0.mk (show R = false by
        rw [← HF.out.eq, HF.out.dl, HF.out.dt, Lib.equalFold_no _ _ _ _ (decide_eq_false (by have := HF.out.hx; have := HF.out.hy; omega))])
      have CD := Aside0.mk (Tryz.utf8_DecodeRuneInString (ofL (y :: q)) wa HEA.out.tabs)
      rw [decode_ofL _ (List.cons_ne_nil _ _), Lib.decodeL_ascii _ _ (by have := HY.out; omega)] at CD
      have hql : ((ofL (y :: q)).size : Int) = (q.length : Int) + 1 := by rw [ofL_size, List.length_cons]; rfl
      have hqc := ofL_cut (y :: q) 1
      have HA := Aside0.mk (HE.out.fold)
      clear HF hcl hct hF2 hF3 hi1 hi2 hsl hst HX HT3
      rw [← hq]
      clear hq
      go_wp2_with fail
      (with_reducible refine CD.out.mono ?_)
      rintro e w2 ⟨rfl, hb⟩
      have HB2 := Aside0.mk (HBA.out.trans (hb.mono HBA.out.size))
      have HE2 := Aside0.mk (HEA.out.below hb)
      clear hb CD hnx
      have hy1 : (y.toNat : Int) < 128 := by have := HY.out; omega
      have hy2 : (y.toNat : Int) < (r0 : Int) := by have := HY.out; have := HR0.out; omega
      have hy3 : ((y.toNat : Int) == (r0 : Int)) = false := by rw [beq_eq_false_iff_ne]; omega
      have hr3 : ¬ (r0 : Int) < 128 := by have := HR0.out; omega
      go_wp2_with fail
      obtain ⟨z, hz⟩ : ∃ z : Nat, z + 32 = y.toNat := ⟨y.toNat - 32, by have := HY.out; omega⟩
      have CF1 := Aside0.mk (simple_calls w2 y.toNat (z : Int) (by
        have h := HE2.out.fold y.toNat (by have := HY.out; omega)
        have := HY.out
        rw [if_neg (by omega), if_neg (by omega), if_neg (by omega), if_pos (by omega)] at h
        rw [h, show y.toNat - 32 = z by omega]) (by have := HY.out; omega) (by omega) (by have := HY.out; omega))
      have CF2 := Aside0.mk (simple_calls w2 z (y.toNat : Int) (by
        have h := HE2.out.fold z (by have := HY.out; omega)
        have := HY.out
        rw [if_pos (by omega)] at h
        rw [h, hz]) (by have := HY.out; omega) (by omega) (by have := HY.out; omega))
      have hz1 : (z : Int) < (r0 : Int) := by omega
      have hz2 : ((z : Int) == (y.toNat : Int)) = false := by rw [beq_eq_false_iff_ne]; omega
      have hz4 : ¬ ((z : Int) = (y.toNat : Int)) := by omega
      have HZ := Aside0.mk hz
      clear hz
      (with_reducible refine CF1.out.mono ?_)
      rintro e w3 ⟨rfl, rfl⟩
      go_wp2_with fail
      go_loopw [13] (fun v13 wx => wx = w3 ∧ (v13 = .int .i32 (z : Int) ∨ v13 = .int .i32 (y.toNat : Int))) (fun v13 _ => y.toNat - (intOf v13).toNat)
      case atStart => first | exact ⟨rfl, .inl rfl⟩ | exact ⟨trivial, .inl rfl⟩ | simp
      case round =>
        obtain ⟨rfl, rfl | rfl⟩ := hrel
        · go_wp2_with fail
          (with_reducible refine CF2.out.mono ?_)
          rintro e w4 ⟨rfl, rfl⟩
          go_wp2_with fail
          go_roundw
          case rel => first | exact ⟨rfl, .inr rfl⟩ | exact ⟨trivial, .inr rfl⟩ | simp
          case measure => simp only [intOf]; have := HZ.out; omega
        · go_wp2_with fail
          rw [jump_ret]
          go_ret
          rw [HRR.out]
          exact ⟨rfl, HB2.out⟩
  go_wp2
  go_loopg [5] M (fun g s5 wx => w = wx ∧ ∃ i : Nat, i + g = M ∧ s5 = .int .i64 i ∧ Aside0 (Lib.equalFold (l.drop i) (tt.drop i) = R))
  case atStart => exact ⟨rfl, 0, by omega, rfl, Aside0.mk HR.out.symm⟩
  case round =>
    clear HR
    obtain ⟨rfl, i, hig, rfl, HI⟩ := hrel
    clear hM
    cases gk with
    | zero =>
      have hiM : ¬ ((i : Int) < (M : Int)) := by omega
      obtain rfl : i = M := by omega
      have hE : R = decide (l.length = 3) := by
        rw [← HI.out, Lib.equalFold_end _ _ (by
          rcases hMe with h | h
          · exact .inl (List.drop_eq_nil_of_le (by omega))
          · exact .inr (List.drop_eq_nil_of_le (by rw [HT3.out]; omega))), List.length_drop, List.length_drop, HT3.out]
        exact decide_eq_decide.2 (by omega)
      have hb : ((l.length : Int) == (3 : Int)) = R := by
        rw [hE]
        by_cases h : l.length = 3
        · rw [decide_eq_true h, h]; rfl
        · rw [decide_eq_false h, beq_eq_false_iff_ne]; omega
      clear hE
      go_wp2
      rw [jump_ret]
      go_ret
      exact ⟨rfl, Below.refl _ _⟩
    | succ g =>
      have hiM : (i : Int) < (M : Int) := by omega
      have hisz : (i : Int) < ((ofL l).size : Int) := by omega
      have hitz : (i : Int) < ((ofL tt).size : Int) := by omega
      obtain ⟨x, hxl⟩ : ∃ x : UInt8, l[i]? = some x := ⟨l[i]'(by omega), List.getElem?_eq_getElem _⟩
      obtain ⟨y, hyd, hy⟩ := HX.out i (by omega)
      have hyl : tt[i]? = some y := by
        have := congrArg (·[0]?) hyd
        simpa [List.getElem?_drop] using this
      have hx : (ofL l)[i]'(by omega) = x := ofL_get l i x hxl _
      have hyy : (ofL tt)[i]'(by omega) = y := ofL_get tt i y hyl _
      have HD := Aside0.mk (And.intro (show l.drop i = x :: l.drop (i + 1) from Lib.drop_at hxl) hyd)
      clear hxl hyl hyd
      by_cases hx128 : x.toNat < 128
      · have hor : bits .or .u8 (x.toNat : Int) (y.toNat : Int) = ((x.toNat ||| y.toNat : Nat) : Int) := u8_or_nat _ _ (by omega) (by omega)
        have hor128 : ¬ ((128 : Int) ≤ ((x.toNat ||| y.toNat : Nat) : Int)) := by have := Nat.or_lt_two_pow (n := 7) hx128 (show y.toNat < 2 ^ 7 by omega); omega
        go_wp2
        all_goals (try simp only [beq_iff_eq, beq_eq_false_iff_ne, ne_eq] at *)
        all_goals first
          | (go_roundg g
             case measure => omega
             case rel => exact ⟨rfl, i + 1, by omega, by first | rfl | simp, Aside0.mk (by rw [← HI.out, HD.out.1, HD.out.2, Lib.equalFold_yes _ _ _ _ (decide_eq_true (by omega))])⟩)
          | (rw [jump_ret]
             go_ret
             refine ⟨?_, Below.refl _ _⟩
             rw [← HI.out, HD.out.1, HD.out.2, Lib.equalFold_no _ _ _ _ (decide_eq_false (by omega))]
             rfl)
      · have hor : bits .or .u8 (x.toNat : Int) (y.toNat : Int) = ((x.toNat ||| y.toNat : Nat) : Int) := u8_or_nat _ _ (by have := x.toNat_lt; omega) (by omega)
        have hor128 : (128 : Int) ≤ ((x.toNat ||| y.toNat : Nat) : Int) := by have := @Nat.left_le_or x.toNat y.toNat; omega
        have HF := Aside0.mk (FoldAt.mk (by omega : 128 ≤ x.toNat) HD.out.1 HD.out.2 hy HI.out (by omega) (by omega))
        go_wp2
        go_step3
        exact ⟨rfl, rfl, i, x, y, HF, rfl, rfl, rfl, rfl, rfl⟩
end Go.Proofs.YtagihjlklbckmaaGreatDoor.Sc
namespace Go.Proofs.YtagihjlklbckmaaGreatDoor.Sc
set_option linter.unusedVariables false
set_option linter.unusedSimpArgs false
open Go.RowKit Go.Proofs.YtagihjlklbckmaaGreatDoorW.PrintWords Go.Proofs.YtagihjlklbckmaaGreatDoorW.PrintLast Go.Proofs.YtagihjlklbckmaaGreatDoorW.PrintMore Go.Proofs.YtagihjlklbckmaaGreatDoor.Bs
theorem idx_from (p : Int → Bool) (l : LB) : ∀ (f pos : Nat), l.length ≤ pos + f → Lib.idxFuncFrom (fun n => p (n : Int)) false (ofL l) f pos = if pos + spanN p (l.drop pos) < l.length then ((pos + spanN p (l.drop pos) : Nat) : Int) else -1
  | 0, pos, h => by
    rw [Lib.idxFuncFrom, if_neg (by omega)]
  | f + 1, pos, h => by
    rw [Lib.idxFuncFrom, ofL_size]
    by_cases hp : pos < l.length
    · have hw := width_one (l.drop pos)
      have hd : Utf8.decode (ofL l) pos = Lib.decodeL (l.drop pos) := by rw [← Lib.decodeL_drop]; rfl
      rw [if_pos hp, spanN_step p _ (drop_ne' hp), hd]
      cases hb : p (Lib.decodeL (l.drop pos)).1 with
      | true =>
        rw [if_neg (by decide), idx_from p l f _ (by omega), if_pos rfl, List.drop_drop, ← Nat.add_assoc]
      | false =>
        simp only [Bool.false_eq_true, if_false, if_true, Nat.add_zero, if_pos hp]
    · rw [if_neg hp, if_neg (by omega)]
theorem trim_left (p : Int → Bool) (l : LB) : Lib.trimLeftF (fun n => p (n : Int)) (ofL l) = ofL (l.drop (spanN p l)) := by
  unfold Lib.trimLeftF Lib.idxFunc
  rw [idx_from p l _ 0 (by rw [ofL_size]; omega)]
  simp only [Nat.zero_add, List.drop_zero]
  by_cases h : spanN p l < l.length
  · rw [if_pos h, if_neg (by omega), Int.toNat_natCast]
    exact ofL_cut l _
  · rw [if_neg h, if_pos rfl, List.drop_eq_nil_of_le (by omega)]
    rfl
theorem trim_calls (w : World) (q : LB) : Calls Tryz.prog 49 #[.string (ofL q), .func (.func 50) #[] #[]] w fun e w' => e = .returned (.string (ofL (q.drop (spanN spaceR q)))) ∧ Below w.heap.size w w' := by
  have h := Tryz.strings_TrimLeftFunc_grows 50 #[] enter_space (fun n => spaceR (n : Int)) (ofL q) w (fun W x hx hb => space_calls W x)
  rw [trim_left] at h
  exact h
/-- What stands in an instruction. -/
def piM (a : LB) : Except Int (LB × LB) :=
  if nameL (a.take (spanN partR a)) = true ∧ Lib.equalFold (a.take (spanN partR a)) xmlL = false then
    (if a.drop (spanN partR a) = [] ∨ ¬ (a.drop (spanN partR a)).drop (spanN spaceR (a.drop (spanN partR a))) = a.drop (spanN partR a) then .ok (a.take (spanN partR a), (a.drop (spanN partR a)).drop (spanN spaceR (a.drop (spanN partR a)))) else .error 13)
  else .error 11
def instrM (s : LB) : Except Int (Tok × LB) := match upToM [63, 62] s with
  | .error k => .error k
  | .ok (a, r) => match piM a with
    | .error k => .error k
    | .ok (t, rest) => .ok (⟨5, t, rest, [], false⟩, r)
set_option maxRecDepth 100000 in
set_option maxHeartbeats 1000000 in
theorem instr_calls (B g : Nat) (W : World) (s : LB) (tv : Value) (toks : List Tok) (h : Sn B g W s tv toks) (E : Env W) (hB : 6 ≤ B) (hs : s.length ≤ 1000000) (hl : toks.length ≤ 1000000) :
    Calls Tryz.prog 22 #[.pointer (some ⟨g, 0, none⟩)] W (Piece B g W toks (instrM s)) := by
  have CU := Aside0.mk (show Calls Tryz.prog 44 #[.pointer (some ⟨g, 0, none⟩), .string ⟨#[63, 62]⟩] W _ from upTo_calls W g s [63, 62] tv h.blk E hs)
  have HUL := Aside0.mk (fun a r (hu : upToM [63, 62] s = .ok (a, r)) => Nat.le_trans (rest_len hu).1 hs)
  have H := Aside0.mk h
  have HE := Aside0.mk E
  have HW := Aside0.mk (show B ≤ W.heap.size by have := h.ge; have := blk_lt h.blk; omega)
  obtain ⟨R, hR⟩ : ∃ x, x = instrM s := ⟨_, rfl⟩
  rw [← hR]
  unfold instrM piM at hR
  have HR := Aside0.mk hR
  clear h E hR
  generalize upToM [63, 62] s = u at CU HR HUL
  go_enter Tryz.func22, Tryz.ntmps22
  go_wp2_with fail
  (with_reducible refine CU.out.mono ?_)
  rintro e w2 hT
  cases u with
  | error k =>
    obtain ⟨rfl, hch⟩ := hT
    have HE := Aside0.mk (show R = .error k from HR.out)
    have HB := Aside0.mk (H.out.ch hch)
    rw [HE.out]
    exact ⟨rfl, rfl, HB.out⟩
  | ok p =>
    obtain ⟨a, r⟩ := p
    obtain ⟨rfl, hq, hch⟩ := hT
    have HAL := Aside0.mk (HUL.out a r rfl)
    have H2 := Aside0.mk (H.out.take hq hch)
    have HE2 := Aside0.mk (HE.out.from H2.out.2 hB)
    clear hq hch CU HUL
    obtain ⟨tq, htq⟩ : ∃ x, x = a.take (spanN partR a) := ⟨_, rfl⟩
    obtain ⟨q, hq0⟩ : ∃ x, x = a.drop (spanN partR a) := ⟨_, rfl⟩
    have HTL := Aside0.mk (show tq.length ≤ 1000000 by have := HAL.out; rw [htq, List.length_take]; omega)
    obtain ⟨W3, hW3⟩ : ∃ x, x = w2.alloc (.cells #[.string (ofL a), .slice none 0 0] 40) := ⟨_, rfl⟩
    have hb1 : Below w2.heap.size w2 W3 := hW3 ▸ below_alloc (Below.refl _ _) _
    have hq1 : W3.heap[w2.heap.size]? = some (.cells #[.string (ofL a), .slice none 0 0] 40 (0, 0)) := hW3 ▸ heap_alloc_new w2 _
    have hnb : B ≤ w2.heap.size := Nat.le_trans HW.out H2.out.2.size
    have CW := Aside0.mk (while_calls W3 w2.heap.size a (.slice none 0 0) 46 partR part_calls enter_part hq1 (HE2.out.below hb1) HAL.out)
    have HB3 := Aside0.mk hb1
    have HN := Aside0.mk hnb
    simp only at HR
    rw [← htq, ← hq0] at CW HR
    clear htq hq0 hb1 hnb
    go_wp2_with fail
    rw [← hW3]
    clear hW3 hq1
    (with_reducible refine CW.out.mono ?_)
    rintro e w4 ⟨rfl, hq, hch⟩
    have HB4 := Aside0.mk (HB3.out.trans (Ch.to_below hch (B := w2.heap.size) (fun k hk => by omega) HB3.out.size))
    have HQ4 := Aside0.mk hq
    clear hq hch CW
    have HE4 := Aside0.mk (HE2.out.below HB4.out)
    have CN := Aside0.mk (name_calls w4 (ofL tq) (by have := HTL.out; rw [ofL_size]; omega) HE4.out)
    rw [ofL_list] at CN
    generalize nameL tq = b1 at CN HR
    go_wp2_with fail
    (with_reducible refine CN.out.mono ?_)
    rintro e w5 ⟨rfl, hb⟩
    have HB5 := Aside0.mk (below_step HB4.out hb)
    have HQ5 := Aside0.mk ((hb.block _ (blk_lt HQ4.out)).trans HQ4.out)
    have HE5 := Aside0.mk (HE4.out.below hb)
    clear hb CN
    cases b1 with
    | false =>
      have HE := Aside0.mk (show R = .error 11 by rw [HR.out, if_neg (by simp)])
      go_wp2_with fail
      (with_reducible refine (need_no _ _).mono ?_)
      rintro e w6 ⟨rfl, rfl⟩
      rw [HE.out]
      exact ⟨rfl, rfl, H2.out.2.trans (HB5.out.mono HN.out)⟩
    | true =>
      have CF := Aside0.mk (show Calls Tryz.prog 48 #[.string (ofL tq), .string ⟨#[120, 109, 108]⟩] w5 _ from fold_calls w5 tq HE5.out HTL.out)
      generalize Lib.equalFold tq xmlL = b2 at CF HR
      go_wp2_with fail
      (with_reducible refine CF.out.mono ?_)
      rintro e w6 ⟨rfl, hb⟩
      have HB6 := Aside0.mk (below_step HB5.out hb)
      have HQ6 := Aside0.mk ((hb.block _ (blk_lt HQ5.out)).trans HQ5.out)
      clear hb CF
      cases b2 with
      | true =>
        have HE := Aside0.mk (show R = .error 11 by rw [HR.out, if_neg (by simp)])
        go_wp2_with fail
        (with_reducible refine (need_no _ _).mono ?_)
        rintro e w7 ⟨rfl, rfl⟩
        rw [HE.out]
        exact ⟨rfl, rfl, H2.out.2.trans (HB6.out.mono HN.out)⟩
      | false =>
        have HR2 := Aside0.mk (show R = match (if q = [] ∨ ¬ q.drop (spanN spaceR q) = q then .ok (tq, q.drop (spanN spaceR q)) else .error 13 : Except Int (LB × LB)) with
          | .error k => .error k
          | .ok (t, rest) => .ok (⟨5, t, rest, [], false⟩, r) by rw [HR.out, if_pos (by simp)])
        clear HR
        obtain ⟨q0, q1, q2⟩ := blk2 HQ6.out
        have CT := Aside0.mk (trim_calls w6 q)
        generalize q.drop (spanN spaceR q) = rest at CT HR2
        go_wp2_with (go_at_call 25; (with_reducible refine (need_ok _ _).mono ?_); rintro e w7 ⟨rfl, rfl⟩)
        (with_reducible refine CT.out.mono ?_)
        rintro e w7 ⟨rfl, hb⟩
        have HB7 := Aside0.mk (below_step HB6.out hb)
        have HQ7 := Aside0.mk ((hb.block _ (blk_lt HQ6.out)).trans HQ6.out)
        clear hb CT q0 q1 q2
        obtain ⟨q0, q1, q2⟩ := blk2 HQ7.out
        have H7 := Aside0.mk (H2.out.1.below HB7.out)
        have HBB := Aside0.mk (H2.out.2.trans (HB7.out.mono HN.out))
        by_cases hok : q = [] ∨ ¬ rest = q
        · have HE := Aside0.mk (show R = .ok (⟨5, tq, rest, [], false⟩, r) by rw [HR2.out, if_pos hok])
          have CS := Aside0.mk (show Calls Tryz.prog 43 #[.pointer (some ⟨g, 0, none⟩), .agg #[.int .i64 5, .string (ofL tq), .string (ofL rest), .slice none 0 0, .bool false]] _ _ from say_plain B g w7 r tq rest 5 tv toks H7.out hl)
          clear HR2
          by_cases hqn : q = []
          · have hn : (ofL q).toList = [] := by rw [ofL_toList, hqn]
            clear hqn hok
            go_wp2_with fail
            (with_reducible refine (need_ok _ _).mono ?_)
            rintro e w8 ⟨rfl, rfl⟩
            go_wp2_with fail
            (with_reducible refine CS.out.mono ?_)
            rintro e w9 hS
            have HS := Aside0.mk (SaidIt.from HBB.out hS)
            obtain ⟨rfl, _, _⟩ := hS
            clear CS
            go_wp2_with fail
            go_end0
            rw [HE.out]
            exact HS.out
          · have hn2 : ¬ (ofL q).toList = [] := by rw [ofL_toList]; exact hqn
            have hn3 : (ofL q).toList.isEmpty = false := by rw [ofL_toList]; cases q with | nil => exact absurd rfl hqn | cons => rfl
            have hn4 : ((ofL rest).toList == (ofL q).toList) = false := by rw [ofL_toList, ofL_toList, beq_eq_false_iff_ne]; exact hok.resolve_left hqn
            clear hqn hok
            go_wp2_with fail
            (with_reducible refine (need_ok _ _).mono ?_)
            rintro e w8 ⟨rfl, rfl⟩
            go_wp2_with fail
            (with_reducible refine CS.out.mono ?_)
            rintro e w9 hS
            have HS := Aside0.mk (SaidIt.from HBB.out hS)
            obtain ⟨rfl, _, _⟩ := hS
            clear CS
            go_wp2_with fail
            go_end0
            rw [HE.out]
            exact HS.out
        · have hqn : ¬ q = [] := fun h => hok (.inl h)
          have hre : rest = q := Decidable.byContradiction fun h => hok (.inr h)
          have HE := Aside0.mk (show R = .error 13 by rw [HR2.out, if_neg hok])
          have hn2 : ¬ (ofL q).toList = [] := by rw [ofL_toList]; exact hqn
          have hn3 : (ofL q).toList.isEmpty = false := by rw [ofL_toList]; cases q with | nil => exact absurd rfl hqn | cons => rfl
          clear hqn hok HR2
          subst hre
          go_wp2_with fail
          (with_reducible refine (need_no _ _).mono ?_)
          rintro e w8 ⟨rfl, rfl⟩
          rw [HE.out]
          exact ⟨rfl, rfl, HBB.out⟩
end Go.Proofs.YtagihjlklbckmaaGreatDoor.Sc
namespace Go.Proofs.YtagihjlklbckmaaGreatDoor.Sc
set_option linter.unusedVariables false
set_option linter.unusedSimpArgs false
open Go.RowKit Go.Proofs.YtagihjlklbckmaaGreatDoorW.PrintWords Go.Proofs.YtagihjlklbckmaaGreatDoorW.PrintLast Go.Proofs.YtagihjlklbckmaaGreatDoorW.PrintMore Go.Proofs.YtagihjlklbckmaaGreatDoor.Bs
def quotM (r3 : LB) : Except Int (LB × LB) := match r3 with
  | [] => .error 16
  | c :: r4 => if c = 34 ∨ c = 39 then upToM [c] r4 else .error 13
def twice (n : LB) (l : List (LB × LB)) : Bool := l.any fun a => a.1 == n
def attrM (l : List (LB × LB)) (s : LB) : Except Int ((LB × LB) × LB) := match nameM s with
  | .error k => .error k
  | .ok (n, r) => match mustM 61 (r.drop (spanN spaceR r)) with
    | .error k => .error k
    | .ok r2 => match quotM (r2.drop (spanN spaceR r2)) with
      | .error k => .error k
      | .ok (v, r5) => match escM blankB v with
        | .error k => .error k
        | .ok t => if twice n l = true then .error 15 else if 8 ≤ l.length then .error 19 else .ok ((n, t), r5)
/-- What an attribute gives. -/
def AttrGave (A g : Nat) (ok : Nat → Prop) (W : World) (tv v : Value) (l : List (LB × LB)) (r : Except Int ((LB × LB) × LB)) (e : Ending) (w' : World) : Prop := match r with
  | .error k => Bad k e ∧ Ch (fun j => j = g) W w'
  | .ok (x, rest) => (∃ v', e = .returned v' ∧ kAttr.R 68 w' A (fun k => ok k ∨ W.heap.size ≤ k) v' (l ++ [x])) ∧ w'.heap[g]? = some (.cells #[.string (ofL rest), tv] 40 (0, 0)) ∧ Ch (fun j => j = g ∨ some j = v.ownBlock) W w'
theorem name_rest {s t r : LB} (h : nameM s = .ok (t, r)) : r.length ≤ s.length := by
  unfold nameM at h
  repeat' split at h
  all_goals first | (cases h; done) | (cases h; rw [List.length_drop]; omega)
theorem must_rest {c : UInt8} {s r : LB} (h : mustM c s = .ok r) : r.length ≤ s.length := by
  unfold mustM at h
  repeat' split at h
  all_goals first | (cases h; done) | (cases h; rw [List.length_cons]; omega)
theorem twice_take {n : LB} {l : List (LB × LB)} (i : Nat) (hi : i < l.length) : twice n (l.take (i + 1)) = (twice n (l.take i) || l[i].1 == n) := by
  unfold twice
  rw [List.take_succ_eq_append_getElem hi, List.any_append]; simp
theorem twice_hit {n : LB} {l : List (LB × LB)} (i : Nat) (hi : i < l.length) (h : l[i].1 = n) : twice n l = true := by
  unfold twice
  exact List.any_eq_true.2 ⟨l[i], List.getElem_mem hi, by simp [h]⟩
theorem attrs_at {w : World} {A : Option Addr} {l : List (LB × LB)} (h : kAttr.C w A l.length l) (i : Nat) (hi : i < l.length) : ∃ ad, A = some ad ∧ w.cell? (ad.add (i * 2)) = some (.string (ofL l[i].1)) ∧ w.cell? ⟨(ad.add (i * 2)).block, (ad.add (i * 2)).off + 1, none⟩ = some (.string (ofL l[i].2)) := by
  obtain ⟨ad, c, e, _, hK, hc0⟩ := Kd.C_get h (([], []) : LB × LB) (i : Int) (by omega) (by omega)
  rw [show l.getD (i : Int).toNat ([], []) = l[i] by simp [List.getD, hi], Int.toNat_natCast] at *
  have hc : ∀ j u, c[j]? = some u → w.cell? (ad.add (i * 2 + j)) = some u := hc0
  obtain rfl := kAttr_open hK
  exact ⟨ad, e, hc 0 _ rfl, by rw [← add_field _ _ 1 (by omega)]; exact hc 1 _ rfl⟩
theorem chNext {g : Nat} {W a b : World} (h : Ch (fun j => j = g) W a) (hc : Ch (fun j => j = g) a b) : Ch (fun j => j = g) W b := h.trans (hc.mono (fun k hk _ => .inl hk))
set_option maxRecDepth 100000 in
set_option maxHeartbeats 4000000 in
theorem attr_calls (A g : Nat) (ok : Nat → Prop) (W : World) (s : LB) (tv v : Value) (l : List (LB × LB)) (hq : W.heap[g]? = some (.cells #[.string (ofL s), tv] 40 (0, 0))) (hr : kAttr.R 68 W A ok v l) (hok : ∀ k, ok k → k ≠ g) (hA : A ≤ W.heap.size) (E : Env W) (hg : 6 ≤ g) (hs : s.length ≤ 1000000) (hl : l.length ≤ 1000) :
    Calls Tryz.prog 55 #[.pointer (some ⟨g, 0, none⟩), v] W (AttrGave A g ok W tv v l (attrM l s)) := by
  obtain ⟨V, vc, rfl⟩ := Kd.R_slice hr
  have CN := Aside0.mk (name_get W g s tv hq E hg hs)
  have HNL := Aside0.mk (fun t r (h : nameM s = .ok (t, r)) => Nat.le_trans (name_rest h) hs)
  have HE := Aside0.mk E
  have HK := Aside0.mk hr
  have HOK := Aside0.mk hok
  have HA := Aside0.mk hA
  have HGL := Aside0.mk (blk_lt hq)
  obtain ⟨R, hR⟩ : ∃ x, x = attrM l s := ⟨_, rfl⟩
  rw [← hR]
  unfold attrM at hR
  have HR := Aside0.mk hR
  clear hq hr hok hA E hR
  generalize nameM s = u at CN HR HNL
  go_enter Tryz.func55, Tryz.ntmps55
  go_wp2_with fail
  (with_reducible refine CN.out.mono ?_)
  rintro e w2 hT
  cases u with
  | error k =>
    obtain ⟨rfl, hch⟩ := hT
    have HE := Aside0.mk (show R = .error k from HR.out)
    have HC := Aside0.mk hch
    rw [HE.out]
    exact ⟨rfl, rfl, HC.out⟩
  | ok p =>
    obtain ⟨n, r⟩ := p
    obtain ⟨rfl, hq, hch⟩ := hT
    have HQ2 := Aside0.mk hq
    have HC2 := Aside0.mk hch
    have HE2 := Aside0.mk (HE.out.ch hch hg)
    have HRL := Aside0.mk (HNL.out n r rfl)
    clear hq hch CN HNL
    simp only at HR
    obtain ⟨W3, hW3⟩ : ∃ x, x = w2.alloc (.cells #[.string (ofL n), .string ⟨#[]⟩] 68) := ⟨_, rfl⟩
    obtain ⟨ab, hab⟩ : ∃ x, x = w2.heap.size := ⟨_, rfl⟩
    have hb3 : Below w2.heap.size w2 W3 := hW3 ▸ below_alloc (Below.refl _ _) _
    have HAQ3 := Aside0.mk (show W3.heap[ab]? = some (.cells #[.string (ofL n), .string ⟨#[]⟩] 68 (0, 0)) from hab ▸ hW3 ▸ heap_alloc_new w2 _)
    have HQ3 := Aside0.mk ((hb3.block _ (blk_lt HQ2.out)).trans HQ2.out)
    have HE3 := Aside0.mk (HE2.out.below hb3)
    have HC3 := Aside0.mk (HC2.out.below hb3)
    have HAB := Aside0.mk (show W.heap.size ≤ ab ∧ ¬ ab = g from ⟨hab ▸ HC2.out.size, by have := HGL.out; have := HC2.out.size; omega⟩)
    have CW := Aside0.mk (while_calls W3 g r tv 50 spaceR space_calls enter_space HQ3.out HE3.out HRL.out)
    have HRL2 := Aside0.mk (show (r.drop (spanN spaceR r)).length ≤ 1000000 by have := HRL.out; rw [List.length_drop]; omega)
    generalize hr2 : r.drop (spanN spaceR r) = r2 at CW HR HRL2
    clear hb3 hr2
    go_wp2_with fail
    rw [← hW3, ← hab]
    clear hW3 hab
    (with_reducible refine CW.out.mono ?_)
    rintro e w4 ⟨rfl, hq, hch⟩
    have HQ4 := Aside0.mk hq
    have HAQ4 := Aside0.mk (hch.heap HAQ3.out HAB.out.2)
    have HC4 := Aside0.mk (chNext HC3.out hch)
    have HE4 := Aside0.mk (HE3.out.ch hch hg)
    clear hq hch CW
    have CM := Aside0.mk (show Calls Tryz.prog 52 #[.pointer (some ⟨g, 0, none⟩), .int .u8 61] w4 _ from must_calls w4 g r2 61 tv HQ4.out)
    have HML := Aside0.mk (fun q (h : mustM 61 r2 = .ok q) => Nat.le_trans (must_rest h) HRL2.out)
    generalize mustM 61 r2 = m at CM HR HML
    go_wp2_with fail
    (with_reducible refine CM.out.mono ?_)
    rintro e w5 hT
    cases m with
    | error k =>
      obtain ⟨rfl, hch⟩ := hT
      have HE := Aside0.mk (show R = .error k from HR.out)
      have HC := Aside0.mk (chNext HC4.out hch)
      rw [HE.out]
      exact ⟨rfl, rfl, HC.out⟩
    | ok r3 =>
      obtain ⟨rfl, hq, hch⟩ := hT
      have HQ5 := Aside0.mk hq
      have HAQ5 := Aside0.mk (hch.heap HAQ4.out HAB.out.2)
      have HC5 := Aside0.mk (chNext HC4.out hch)
      have HE5 := Aside0.mk (HE4.out.ch hch hg)
      have HRL3 := Aside0.mk (HML.out r3 rfl)
      clear hq hch CM HML
      have CW := Aside0.mk (while_calls w5 g r3 tv 50 spaceR space_calls enter_space HQ5.out HE5.out HRL3.out)
      have HRL4 := Aside0.mk (show (r3.drop (spanN spaceR r3)).length ≤ 1000000 by have := HRL3.out; rw [List.length_drop]; omega)
      simp only at HR
      generalize hr4 : r3.drop (spanN spaceR r3) = r4 at CW HR HRL4
      clear hr4
      go_wp2_with fail
      (with_reducible refine CW.out.mono ?_)
      rintro e w6 ⟨rfl, hq, hch⟩
      have HQ6 := Aside0.mk hq
      have HAQ6 := Aside0.mk (hch.heap HAQ5.out HAB.out.2)
      have HC6 := Aside0.mk (chNext HC5.out hch)
      have HE6 := Aside0.mk (HE5.out.ch hch hg)
      clear hq hch CW
      obtain ⟨q0, q1, q2⟩ := blk2 HQ6.out
      cases r4 with
      | nil =>
        have HE := Aside0.mk (show R = .error 16 from HR.out)
        have hn : (ofL ([] : LB)).toList = [] := ofL_toList []
        go_wp2_with fail
        (with_reducible refine (need_no _ _).mono ?_)
        rintro e w7 ⟨rfl, rfl⟩
        rw [HE.out]
        exact ⟨rfl, rfl, HC6.out⟩
      | cons c r5 =>
        have hn2 : ¬ (ofL (c :: r5)).toList = [] := by rw [ofL_toList]; simp
        have hn3 : (ofL (c :: r5)).toList.isEmpty = false := by rw [ofL_toList]; rfl
        have hz1 : (1 : Int) ≤ ((ofL (c :: r5)).size : Int) := by rw [ofL_size, List.length_cons]; omega
        have hhead : (ofL (c :: r5)).extract 0 1 = ofL [c] := ofL_head (c :: r5) 1
        have hcut : (ofL (c :: r5)).extract 1 (ofL (c :: r5)).size = ofL r5 := ofL_cut (c :: r5) 1
        have htl : (ofL [c]).toList = [c] := ofL_toList [c]
        have HRL5 := Aside0.mk (show r5.length ≤ 1000000 by have := HRL4.out; rw [List.length_cons] at this; omega)
        by_cases hc : c = 34 ∨ c = 39
        · obtain ⟨qt, hqt⟩ : ∃ x : LB, x = [c] := ⟨_, rfl⟩
          have HR2 := Aside0.mk (show R = match upToM qt r5 with
            | .error k => .error k
            | .ok (v, r5) => match escM blankB v with
              | .error k => .error k
              | .ok t => if twice n l = true then .error 15 else if 8 ≤ l.length then .error 19 else .ok ((n, t), r5) by rw [HR.out, hqt]; unfold quotM; simp only [if_pos hc])
          clear HR
          rcases hc with rfl | rfl
          all_goals
            have HQT := Aside0.mk hqt
            clear hqt
            go_wp2_with (go_at_call 25; (with_reducible refine (need_ok _ _).mono ?_); rintro e w7 ⟨rfl, rfl⟩)
            rw [← HQT.out]
            clear HQT
            obtain ⟨W8, hW8⟩ : ∃ x, x = w7.setCell ⟨g, 0, none⟩ (.string (ofL r5)) := ⟨_, rfl⟩
            have HQ8 := Aside0.mk (show W8.heap[g]? = some (.cells #[.string (ofL r5), tv] 40 (0, 0)) from hW8 ▸ blk_upd 0 _ HQ6.out rfl)
            have hch : Ch (fun j => j = g) w7 W8 := hW8 ▸ (Ch.refl (fun j => j = g) w7).setCell (p := ⟨g, 0, none⟩) (.inl rfl) _
            have HAQ8 := Aside0.mk (hch.heap HAQ6.out HAB.out.2)
            have HC8 := Aside0.mk (chNext HC6.out hch)
            have HE8 := Aside0.mk (HE6.out.ch hch hg)
            rw [← hW8]
            clear hW8 hch q0 q1 q2 hn2 hn3 hz1 hhead hcut htl
            have CU := Aside0.mk (upTo_calls W8 g r5 qt tv HQ8.out HE8.out HRL5.out)
            have HUL := Aside0.mk (fun a r (hu : upToM qt r5 = .ok (a, r)) => Nat.le_trans (rest_len hu).1 HRL5.out)
            generalize upToM qt r5 = u at CU HR2 HUL
            (with_reducible refine CU.out.mono ?_)
            rintro e w9 hT
            cases u with
            | error k =>
              obtain ⟨rfl, hch⟩ := hT
              have HE := Aside0.mk (show R = .error k from HR2.out)
              have HC := Aside0.mk (chNext HC8.out hch)
              rw [HE.out]
              exact ⟨rfl, rfl, HC.out⟩
            | ok p =>
              obtain ⟨v6, r6⟩ := p
              obtain ⟨rfl, hq, hch⟩ := hT
              have HQ9 := Aside0.mk hq
              have HAQ9 := Aside0.mk (hch.heap HAQ8.out HAB.out.2)
              have HC9 := Aside0.mk (chNext HC8.out hch)
              have HE9 := Aside0.mk (HE8.out.ch hch hg)
              have HVL := Aside0.mk (HUL.out v6 r6 rfl)
              clear hq hch CU HUL
              have CG := Aside0.mk (getAttr_calls w9 v6 HE9.out HVL.out)
              have HKE := Aside0.mk (fun k (he : escM blankB v6 = .error k) => escM_err he)
              simp only at HR2
              generalize escM blankB v6 = ue at CG HR2 HKE
              go_wp2_with fail
              (with_reducible refine CG.out.mono ?_)
              rintro e w10 hT
              cases ue with
              | error k =>
                obtain ⟨rfl, hb⟩ := hT
                have HE := Aside0.mk (show R = .error k from HR2.out)
                have HC := Aside0.mk (HC9.out.below hb)
                have hk : (k == 0) = false := by have := HKE.out k rfl; rw [beq_eq_false_iff_ne]; omega
                go_wp2_with fail
                (with_reducible refine (need_no _ _).mono ?_)
                rintro e w11 ⟨rfl, rfl⟩
                rw [HE.out]
                exact ⟨rfl, rfl, HC.out⟩
              | ok tx =>
                obtain ⟨rfl, hb⟩ := hT
                have HR3 := Aside0.mk (show R = if twice n l = true then .error 15 else if 8 ≤ l.length then .error 19 else .ok ((n, tx), r6) from HR2.out)
                have HQ10 := Aside0.mk ((hb.block _ (blk_lt HQ9.out)).trans HQ9.out)
                have HAQ10 := Aside0.mk ((hb.block _ (blk_lt HAQ9.out)).trans HAQ9.out)
                have HC10 := Aside0.mk (HC9.out.below hb)
                have HK10 := Aside0.mk (Kd.R_step HK.out (fun k hk hlt => HC10.out.block k hlt (fun e => HOK.out k hk e)))
                clear hb CG HR2 HKE HQ9 HAQ9
                go_wp2_with fail
                (with_reducible refine (need_ok _ _).mono ?_)
                rintro e w11 ⟨rfl, rfl⟩
                go_wp2_with fail
                have HKC := Aside0.mk (Kd.R_reads' HK10.out).2.2
                have HVC := Aside0.mk (Kd.R_reads' HK10.out).2.1
                have HB0 := Aside0.mk (Below.refl w11.heap.size w11)
                go_loopw [59] (fun v59 wr => ∃ i : Nat, v59 = .int .i64 i ∧ i ≤ l.length ∧ Aside0 (twice n (l.take i) = false) ∧ Aside0 (Below w11.heap.size w11 wr)) (fun v59 _ => l.length - (intOf v59).toNat)
                case atStart => exact ⟨0, rfl, Nat.zero_le _, ⟨rfl⟩, HB0⟩
                case round =>
                  clear HB0
                  obtain ⟨i, rfl, hi, HN, HB⟩ := hrel
                  have HAQr := Aside0.mk ((HB.out.block _ (blk_lt HAQ10.out)).trans HAQ10.out)
                  obtain ⟨a0, a1, a2⟩ := blk2 HAQr.out
                  have a0a : ∀ o, (wr.alloc o).cell? ⟨ab, 0, none⟩ = some (.string (ofL n)) := fun o => pw_cell_below (below_alloc (Below.refl _ _) o) a0
                  by_cases hlt : i < l.length
                  · obtain ⟨ad, rfl, e0, e1⟩ := attrs_at (Kd.C_below HKC.out HB.out) i hlt
                    have h1 : (i : Int) < (l.length : Int) := by omega
                    have h0 : (0 : Int) ≤ (i : Int) := by omega
                    have HT := Aside0.mk (twice_take (n := n) i hlt)
                    have HH := Aside0.mk (twice_hit (n := n) i hlt)
                    generalize l[i] = pp at *
                    obtain ⟨pn, pv⟩ := pp
                    simp only at e0 e1 HT HH
                    by_cases hpn : pn = n
                    · have HE := Aside0.mk (show R = .error 15 by rw [HR3.out, if_pos (HH.out hpn)])
                      subst hpn
                      clear HT HH
                      go_wp2_with fail
                      (with_reducible refine (need_no _ _).mono ?_)
                      rintro e w12 ⟨rfl, rfl⟩
                      obtain ⟨hRe⟩ := HE
                      subst hRe
                      exact ⟨rfl, rfl, (HC10.out.below HB.out).alloc _⟩
                    · have HE := Aside0.mk (show twice n (l.take (i + 1)) = false by rw [HT.out, HN.out]; simp [hpn])
                      have hnp : ((ofL n).toList == (ofL pn).toList) = false := by rw [ofL_toList, ofL_toList, beq_eq_false_iff_ne]; exact fun h => hpn h.symm
                      have HB2 := Aside0.mk (below_alloc HB.out (.cells #[.string (ofL pn), .string (ofL pv)] 68))
                      clear HT HH hpn
                      go_wp2_with fail
                      (with_reducible refine (need_ok _ _).mono ?_)
                      rintro e w12 ⟨rfl, rfl⟩
                      go_wp2_with fail
                      go_roundw
                      case rel => exact ⟨i + 1, by first | rfl | rw [wrap_succ i (by omega)] | simp, by omega, HE, HB2⟩
                      case measure => simp [intOf]; omega
                  · have HT := Aside0.mk (show twice n l = false by have := HN.out; rwa [List.take_of_length_le (by omega)] at this)
                    go_wp2_with fail
                    have HKr := Aside0.mk (Kd.R_step HK10.out (fun k hk hlt => HB.out.block k hlt))
                    have HQr := Aside0.mk ((HB.out.block _ (blk_lt HQ10.out)).trans HQ10.out)
                    have HCr := Aside0.mk (HC10.out.below HB.out)
                    by_cases h8 : l.length < 8
                    · have HE := Aside0.mk (show R = .ok ((n, tx), r6) by rw [HR3.out, if_neg (by rw [HT.out]; decide), if_neg (by omega)])
                      rw [decide_eq_true (show (l.length : Int) < 8 by omega)]
                      (with_reducible refine (need_ok _ _).mono ?_)
                      rintro e w12 ⟨rfl, rfl⟩
                      clear HR3 HT HN
                      go_upto_region 18 with (fail)
                      obtain ⟨W1, hW1⟩ : ∃ x, x = w12.setCell ⟨ab, 1, none⟩ (.string (ofL tx)) := ⟨_, rfl⟩
                      have hset : Ch (fun j => j = ab) w12 W1 := hW1 ▸ (Ch.refl (fun j => j = ab) w12).setCell (p := ⟨ab, 1, none⟩) (.inl rfl) _
                      have hqa : W1.heap[ab]? = some (.cells #[.string (ofL n), .string (ofL tx)] 68 (0, 0)) := hW1 ▸ blk_upd 1 _ HAQr.out rfl
                      have HQ1 := Aside0.mk (show W1.heap[g]? = _ from hset.heap HQr.out (fun e => HAB.out.2 e.symm))
                      have HC1 := Aside0.mk (HCr.out.trans (hset.mono (fun k hk _ => .inr (hk ▸ HAB.out.1))))
                      have HK1 := Aside0.mk (Kd.R_step HK.out (fun k hk hlt => HC1.out.block k hlt (fun e => HOK.out k hk e)))
                      have HB1 := Aside0.mk (Nat.le_trans HA.out HC1.out.size)
                      have HLEN := Aside0.mk (show (l.length + 1) * 32 ≤ 140737488355328 by omega)
                      obtain ⟨t0, t1, t2⟩ := blk2 hqa
                      rw [← hW1]
                      clear hW1 hset hqa a0 a1 a2 a0a
                      go_wp2_with (first | ((with_reducible refine gate_builtin (b := .append) (xs := #[.tmp 76, .tmp 78]) rfl ?_); at_builtin; go_loud (refine app_list kAttr (W := W1) A rfl (.tmp 76) (.tmp 78) 31 68 _ 32 rfl Tryz.underlying31 infoAt ⟨rfl, by decide, by decide⟩ (.slice V l.length vc) l (n, tx) _ ok (fun k => ok k ∧ some k ≠ (Value.slice V l.length vc).ownBlock) rfl rfl (kAttr_mkM _ _ _ (n, tx)) (fun k hk => hk) HK1.out HB1.out HLEN.out ?_); intro A1 c1 w13 hr13 hch13 hat13; have HR13 := Aside0.mk hr13; have HCH := Aside0.mk hch13; clear hr13 hch13 hat13))
                      all_goals
                        go_ret
                        rw [HE.out]
                        refine ⟨⟨_, rfl, Kd.R_mono HR13.out (fun k hk => ?_)⟩, HCH.out.heap HQ1.out (fun e => HOK.out g (HK.out.1 g e.symm) rfl), (HC1.out.mono (fun k hk _ => .inl hk)).trans (HCH.out.mono (fun k hk _ => .inl (.inr hk)))⟩
                        rcases hk with hk | hk
                        · exact .inl hk
                        · exact .inr (Nat.le_trans HC1.out.size hk)
                    · have HE := Aside0.mk (show R = .error 19 by rw [HR3.out, if_neg (by rw [HT.out]; decide), if_pos (by omega)])
                      rw [decide_eq_false (show ¬ (l.length : Int) < 8 by omega)]
                      (with_reducible refine (need_no _ _).mono ?_)
                      rintro e w12 ⟨rfl, rfl⟩
                      obtain ⟨hRe⟩ := HE
                      subst hRe
                      exact ⟨rfl, rfl, HCr.out⟩
        · have HE := Aside0.mk (show R = .error 13 by rw [HR.out]; unfold quotM; simp only [if_neg hc])
          have HCC := Aside0.mk (show (c == 34 || c == 39) = false by simpa using hc)
          have hc1 : ¬ c = 34 := fun h => hc (.inl h)
          have hc2 : ¬ c = 39 := fun h => hc (.inr h)
          clear HR hc
          go_wp2_with fail
          (with_reducible refine (need_ok _ _).mono ?_)
          rintro e w7 ⟨rfl, rfl⟩
          go_wp2_with fail
          rw [HCC.out]
          (with_reducible refine (need_no _ _).mono ?_)
          rintro e w8 ⟨rfl, rfl⟩
          rw [HE.out]
          exact ⟨rfl, rfl, HC6.out⟩
end Go.Proofs.YtagihjlklbckmaaGreatDoor.Sc
namespace Go.Proofs.YtagihjlklbckmaaGreatDoor.Sc
set_option linter.unusedVariables false
set_option linter.unusedSimpArgs false
open Go.RowKit Go.Proofs.YtagihjlklbckmaaGreatDoorW.PrintWords Go.Proofs.YtagihjlklbckmaaGreatDoorW.PrintLast Go.Proofs.YtagihjlklbckmaaGreatDoorW.PrintMore Go.Proofs.YtagihjlklbckmaaGreatDoor.Bs
def startS (f : List (LB × LB) → LB → Except Int ((List (LB × LB) × Bool) × LB)) (l : List (LB × LB)) (t s6 : LB) : Except Int ((List (LB × LB) × Bool) × LB) := match s6 with
  | [] => .error 16
  | c :: r => if c = 47 then (match mustM 62 r with
      | .error k => .error k
      | .ok q => .ok ((l, true), q))
    else if c = 62 then .ok ((l, false), r)
    else if t = [] then .error 13
    else match attrM l (c :: r) with
      | .error k => .error k
      | .ok (x, q) => f (l ++ [x]) q
def startF : Nat → List (LB × LB) → LB → Except Int ((List (LB × LB) × Bool) × LB)
  | 0, _, _ => .error 0
  | n + 1, l, s => startS (fun l q => startF n l q) l (s.take (spanN spaceR s)) (s.drop (spanN spaceR s))
def startM (s : LB) : Except Int (Tok × LB) := match nameM s with
  | .error k => .error k
  | .ok (n, r) => match startF 9 [] r with
    | .error k => .error k
    | .ok ((l, em), q) => .ok (⟨1, n, [], l, em⟩, q)
theorem quot_rest {s a b : LB} (h : quotM s = .ok (a, b)) : b.length ≤ s.length := by
  unfold quotM at h
  split at h
  · cases h
  · split at h
    · have := (rest_len h).2
      rw [List.length_cons]; omega
    · cases h
theorem attr_rest {l : List (LB × LB)} {s q : LB} {x : LB × LB} (h : attrM l s = .ok (x, q)) : q.length ≤ s.length ∧ l.length < 8 := by
  unfold attrM at h
  split at h
  · cases h
  · rename_i h1
    split at h
    · cases h
    · rename_i h2
      split at h
      · cases h
      · rename_i h3
        split at h
        · cases h
        · split at h
          · cases h
          · split at h
            · cases h
            · cases h
              have := name_rest h1
              have := must_rest h2
              have := quot_rest h3
              simp only [List.length_drop] at *
              omega
theorem blk5 {w : World} {g t : Nat} {a b c d e : Value} (h : w.heap[g]? = some (.cells #[a, b, c, d, e] t (0, 0))) : w.cell? ⟨g, 0, none⟩ = some a ∧ w.cell? ⟨g, 1, none⟩ = some b ∧ w.cell? ⟨g, 2, none⟩ = some c ∧ w.cell? ⟨g, 3, none⟩ = some d ∧ w.cell? ⟨g, 4, none⟩ = some e ∧ ∀ i, w.frozen? ⟨g, i, none⟩ = false :=
  ⟨blk_cell h 0, blk_cell h 1, blk_cell h 2, blk_cell h 3, blk_cell h 4, fun i => blk_frozen h i⟩
/-- A start tag under way. -/
structure Tag (W : World) (g tb : Nat) (n s : LB) (tv v : Value) (l : List (LB × LB)) (w : World) : Prop where
  scan : w.heap[g]? = some (.cells #[.string (ofL s), tv] 40 (0, 0))
  tok : w.heap[tb]? = some (.cells #[.int .i64 1, .string (ofL n), .string ⟨#[]⟩, v, .bool false] 33 (0, 0))
  row : kAttr.R 68 w W.heap.size (fun k => W.heap.size ≤ k ∧ k ≠ tb) v l
  ch : Ch (fun j => j = g) W w
  env : Env w
  len : s.length ≤ 1000000
theorem Tag.step {W : World} {g tb : Nat} {n s s' : LB} {tv v : Value} {l : List (LB × LB)} {w w' : World} (h : Tag W g tb n s tv v l w) (hq : w'.heap[g]? = some (.cells #[.string (ofL s'), tv] 40 (0, 0))) (hch : Ch (fun j => j = g) w w') (hgl : g < W.heap.size) (hne : ¬ tb = g) (hg6 : 6 ≤ g) (hln : s'.length ≤ 1000000) : Tag W g tb n s' tv v l w' :=
  ⟨hq, hch.heap h.tok hne, Kd.R_step h.row (fun k hk hlt => hch.block k hlt (fun e => by omega)), chNext h.ch hch, h.env.ch hch hg6, hln⟩
theorem startF_succ (gf : Nat) (l : List (LB × LB)) (s : LB) : startF (gf + 1) l s = startS (startF gf) l (s.take (spanN spaceR s)) (s.drop (spanN spaceR s)) := by rw [startF]
set_option maxRecDepth 100000 in
theorem tag_say {B g tb : Nat} {W w : World} {s0 s n : LB} {tv v : Value} {toks : List Tok} {l : List (LB × LB)} (H : Sn B g W s0 tv toks) (hq : w.heap[g]? = some (.cells #[.string (ofL s), tv] 40 (0, 0))) (hr : kAttr.R 68 w W.heap.size (fun k => W.heap.size ≤ k ∧ k ≠ tb) v l) (hch : Ch (fun j => j = g) W w) (em : Bool) (hl : toks.length ≤ 1000000) :
    Calls Tryz.prog 43 #[.pointer (some ⟨g, 0, none⟩), .agg #[.int .i64 1, .string (ofL n), .string ⟨#[]⟩, v, .bool em]] w (SaidIt B g W s (toks ++ [⟨1, n, [], l, em⟩])) := by
  have h2 := H.take hq hch
  have hgl := blk_lt H.blk
  have hge := H.ge
  have hlt := Kd.R_lt H.row
  refine (say_calls B g w s tv v toks ⟨1, n, [], l, em⟩ h2.1 (Kd.R_mono (Kd.R_lower hr (by omega)) (fun k hk => ⟨⟨by omega, by omega⟩, fun e => ?_⟩)) hl).mono (fun e w' hS => SaidIt.from h2.2 hS)
  have := hlt k e.symm
  omega
set_option maxRecDepth 1000000 in
set_option maxHeartbeats 4000000 in
theorem startp_calls (B g : Nat) (W : World) (s : LB) (tv : Value) (toks : List Tok) (h : Sn B g W s tv toks) (E : Env W) (hB : 6 ≤ B) (hs : s.length ≤ 1000000) (hl : toks.length ≤ 1000000) :
    Calls Tryz.prog 27 #[.pointer (some ⟨g, 0, none⟩)] W (Piece B g W toks (startM s)) := by
  have CN := Aside0.mk (name_get W g s tv h.blk E (Nat.le_trans hB h.ge) hs)
  have HNL := Aside0.mk (fun t r (h : nameM s = .ok (t, r)) => Nat.le_trans (name_rest h) hs)
  have H := Aside0.mk h
  have HE := Aside0.mk E
  have HGL := Aside0.mk (blk_lt h.blk)
  have HG6 := Aside0.mk (Nat.le_trans hB h.ge)
  obtain ⟨R, hR⟩ : ∃ x, x = startM s := ⟨_, rfl⟩
  rw [← hR]
  unfold startM at hR
  have HR := Aside0.mk hR
  clear h E hR
  generalize nameM s = u at CN HR HNL
  go_enter Tryz.func27, Tryz.ntmps27
  go_wp2_with fail
  (with_reducible refine CN.out.mono ?_)
  rintro e w2 hT
  cases u with
  | error k =>
    obtain ⟨rfl, hch⟩ := hT
    have HE := Aside0.mk (show R = .error k from HR.out)
    have HB := Aside0.mk (H.out.ch hch)
    rw [HE.out]
    exact ⟨rfl, rfl, HB.out⟩
  | ok p =>
    obtain ⟨n, r⟩ := p
    obtain ⟨rfl, hq, hch⟩ := hT
    have HQ2 := Aside0.mk hq
    have HC2 := Aside0.mk hch
    have HE2 := Aside0.mk (HE.out.ch hch HG6.out)
    have HRL := Aside0.mk (HNL.out n r rfl)
    clear hq hch CN HNL
    simp only at HR
    go_wp2_with fail
    obtain ⟨W3, hW3⟩ : ∃ x, x = w2.alloc (.cells #[.int .i64 1, .string (ofL n), .string ⟨#[]⟩, .slice none 0 0, .bool false] 33) := ⟨_, rfl⟩
    obtain ⟨tb, htb⟩ : ∃ x, x = w2.heap.size := ⟨_, rfl⟩
    have hb3 : Below w2.heap.size w2 W3 := hW3 ▸ below_alloc (Below.refl _ _) _
    have HAB := Aside0.mk (show W.heap.size ≤ tb ∧ ¬ tb = g ∧ tb < W3.heap.size from ⟨htb ▸ HC2.out.size, by have := HGL.out; have := HC2.out.size; omega, htb ▸ blk_lt (hW3 ▸ heap_alloc_new w2 _)⟩)
    have HT3 := Aside0.mk (show Tag W g tb n r tv (.slice none 0 0) [] W3 from ⟨(hb3.block _ (blk_lt HQ2.out)).trans HQ2.out, htb ▸ hW3 ▸ heap_alloc_new w2 _, Kd.R_nil _ _ _ _ _, HC2.out.below hb3, HE2.out.below hb3, HRL.out⟩)
    rw [← hW3, ← htb]
    clear hb3 hW3 htb HQ2 HC2 HE2 HRL
    have HR0 := Aside0.mk (show R = match startF 9 [] r with
      | .error k => .error k
      | .ok ((l, em), q) => .ok (⟨1, n, [], l, em⟩, q) from HR.out)
    clear HR
    go_loopg [] 9 (fun gk wx => ∃ (l : List (LB × LB)) (s : LB) (v : Value), l.length + gk = 9 ∧ l.length ≤ 8 ∧ W3.heap.size ≤ wx.heap.size ∧ Aside0 (Tag W g tb n s tv v l wx) ∧ Aside0 (R = match startF gk l s with
      | .error k => .error k
      | .ok ((l, em), q) => .ok (⟨1, n, [], l, em⟩, q)))
    case atStart => exact ⟨[], r, .slice none 0 0, rfl, by decide, Nat.le_refl _, HT3, HR0⟩
    case round =>
      clear HT3 HR0
      obtain ⟨l, s5, v, hgl, hl8, hsz, HT, HR⟩ := hrel
      obtain ⟨gf, rfl⟩ : ∃ x, gk = x + 1 := ⟨gk - 1, by omega⟩
      rw [startF_succ] at HR
      have CW := Aside0.mk (while_calls wr g s5 tv 50 spaceR space_calls enter_space HT.out.scan HT.out.env HT.out.len)
      have HL6 := Aside0.mk (show (s5.drop (spanN spaceR s5)).length ≤ 1000000 by have := HT.out.len; rw [List.length_drop]; omega)
      generalize s5.take (spanN spaceR s5) = t at CW HR
      generalize s5.drop (spanN spaceR s5) = s6 at CW HR HL6
      go_wp2_with fail
      (with_reducible refine CW.out.mono ?_)
      rintro e w4 ⟨rfl, hq, hch⟩
      have HT4 := Aside0.mk (HT.out.step hq hch HGL.out HAB.out.2.1 HG6.out HL6.out)
      have HSZ := Aside0.mk (Nat.le_trans hsz hch.size)
      clear hq hch CW HT hsz
      obtain ⟨q0, q1, q2⟩ := blk2 HT4.out.scan
      cases s6 with
      | nil =>
        have HE := Aside0.mk (show R = .error 16 from HR.out)
        have hn : (ofL ([] : LB)).toList = [] := ofL_toList []
        go_wp2_with fail
        (with_reducible refine (need_no _ _).mono ?_)
        rintro e w7 ⟨rfl, rfl⟩
        exact ⟨rfl, (show Piece B g W toks R _ _ by rw [HE.out]; exact ⟨rfl, H.out.ch HT4.out.ch⟩)⟩
      | cons c r6 =>
        have hn2 : ¬ (ofL (c :: r6)).toList = [] := by rw [ofL_toList]; simp
        have hn3 : (ofL (c :: r6)).toList.isEmpty = false := by rw [ofL_toList]; rfl
        have hz1 : (1 : Int) ≤ ((ofL (c :: r6)).size : Int) := by rw [ofL_size, List.length_cons]; omega
        have hcut : (ofL (c :: r6)).extract 1 (ofL (c :: r6)).size = ofL r6 := ofL_cut (c :: r6) 1
        have HL7 := Aside0.mk (show r6.length ≤ 1000000 by have := HL6.out; rw [List.length_cons] at this; omega)
        obtain ⟨b, hb⟩ : ∃ x, x = decide (c = 47) := ⟨_, rfl⟩
        have CP1 := Aside0.mk (show ∀ w, Calls Tryz.prog 26 #[.string (ofL (c :: r6)), .string ⟨#[47]⟩] w fun e w' => e = .returned (.bool b) ∧ w' = w from fun w => by rw [hb, ← pre_cons]; exact Tryz.strings_HasPrefix (ofL (c :: r6)) ⟨#[47]⟩ w)
        go_wp2_with fail
        (with_reducible refine (need_ok _ _).mono ?_)
        rintro e w7 ⟨rfl, rfl⟩
        go_wp2_with fail
        (with_reducible refine (CP1.out _).mono ?_)
        rintro e w8 ⟨rfl, rfl⟩
        clear CP1
        cases b with
        | true =>
          have hc := of_decide_eq_true hb.symm
          subst hc
          have HR2 := Aside0.mk (show R = match mustM 62 r6 with
            | .error k => .error k
            | .ok q => .ok (⟨1, n, [], l, true⟩, q) by
              rw [HR.out]; unfold startS; simp only [if_pos]
              cases mustM 62 r6 <;> rfl)
          clear HR hb
          go_wp2_with fail
          obtain ⟨W8, hW8⟩ : ∃ x, x = w8.setCell ⟨g, 0, none⟩ (.string (ofL r6)) := ⟨_, rfl⟩
          have hch8 : Ch (fun j => j = g) w8 W8 := hW8 ▸ (Ch.refl (fun j => j = g) w8).setCell (p := ⟨g, 0, none⟩) (.inl rfl) _
          have HT8 := Aside0.mk (HT4.out.step (hW8 ▸ blk_upd 0 _ HT4.out.scan rfl) hch8 HGL.out HAB.out.2.1 HG6.out HL7.out)
          rw [← hW8]
          clear hW8 hch8 q0 q1 q2 HT4 hn2 hn3 hz1 hcut
          have CM := Aside0.mk (show Calls Tryz.prog 52 #[.pointer (some ⟨g, 0, none⟩), .int .u8 62] W8 _ from must_calls W8 g r6 62 tv HT8.out.scan)
          have HML := Aside0.mk (fun q (h : mustM 62 r6 = .ok q) => Nat.le_trans (must_rest h) HL7.out)
          generalize mustM 62 r6 = m at CM HR2 HML
          (with_reducible refine CM.out.mono ?_)
          rintro e w9 hT
          cases m with
          | error k =>
            obtain ⟨rfl, hch⟩ := hT
            have HE := Aside0.mk (show R = .error k from HR2.out)
            have HC := Aside0.mk (chNext HT8.out.ch hch)
            exact ⟨rfl, (show Piece B g W toks R _ _ by rw [HE.out]; exact ⟨rfl, H.out.ch HC.out⟩)⟩
          | ok q =>
            obtain ⟨rfl, hq, hch⟩ := hT
            have HE := Aside0.mk (show R = .ok (⟨1, n, [], l, true⟩, q) from HR2.out)
            have HT9 := Aside0.mk (HT8.out.step hq hch HGL.out HAB.out.2.1 HG6.out (HML.out q rfl))
            clear hq hch CM HML HR2 HT8
            obtain ⟨Av, cv, rfl⟩ := Kd.R_slice HT9.out.row
            obtain ⟨f0, f1, f2, f3, f4, f5⟩ := blk5 HT9.out.tok
            go_wp2_with fail
            obtain ⟨W10, hW10⟩ : ∃ x, x = w9.setCell ⟨tb, 4, none⟩ (.bool true) := ⟨_, rfl⟩
            have hset : Ch (fun j => j = tb) w9 W10 := hW10 ▸ (Ch.refl (fun j => j = tb) w9).setCell (p := ⟨tb, 4, none⟩) (.inl rfl) _
            have CS := Aside0.mk (tag_say (tb := tb) H.out (hset.heap HT9.out.scan (fun e => HAB.out.2.1 e.symm)) (Kd.R_step HT9.out.row (fun k hk hlt => hset.block k hlt (fun e => hk.2 e))) (HT9.out.ch.trans (hset.mono (fun k hk _ => .inr (hk ▸ HAB.out.1)))) true (n := n) hl)
            rw [← hW10]
            clear hW10 hset
            (with_reducible refine CS.out.mono ?_)
            rintro e w11 hS
            have HS := Aside0.mk hS
            obtain ⟨rfl, _, _⟩ := hS
            clear CS
            go_wp2_with fail
            go_end0
            exact (show Piece B g W toks R _ _ by rw [HE.out]; exact HS.out)
        | false =>
          have hc47 := of_decide_eq_false hb.symm
          clear hb
          obtain ⟨b, hb⟩ : ∃ x, x = decide (c = 62) := ⟨_, rfl⟩
          have CP2 := Aside0.mk (show ∀ w, Calls Tryz.prog 26 #[.string (ofL (c :: r6)), .string ⟨#[62]⟩] w fun e w' => e = .returned (.bool b) ∧ w' = w from fun w => by rw [hb, ← pre_cons]; exact Tryz.strings_HasPrefix (ofL (c :: r6)) ⟨#[62]⟩ w)
          go_wp2_with fail
          (with_reducible refine (CP2.out _).mono ?_)
          rintro e w9 ⟨rfl, rfl⟩
          clear CP2
          cases b with
          | true =>
            have hc := of_decide_eq_true hb.symm
            subst hc
            have HE := Aside0.mk (show R = .ok (⟨1, n, [], l, false⟩, r6) by rw [HR.out]; unfold startS; simp only [if_pos, if_neg hc47])
            clear HR hb hc47
            obtain ⟨Av, cv, rfl⟩ := Kd.R_slice HT4.out.row
            have hgt := HAB.out.2.1
            have hgt' : ¬ g = tb := fun e => hgt e.symm
            obtain ⟨f0, f1, f2, f3, f4, f5⟩ := blk5 HT4.out.tok
            go_wp2_with fail
            obtain ⟨W8, hW8⟩ : ∃ x, x = w9.setCell ⟨g, 0, none⟩ (.string (ofL r6)) := ⟨_, rfl⟩
            have hch8 : Ch (fun j => j = g) w9 W8 := hW8 ▸ (Ch.refl (fun j => j = g) w9).setCell (p := ⟨g, 0, none⟩) (.inl rfl) _
            have HT8 := Aside0.mk (HT4.out.step (hW8 ▸ blk_upd 0 _ HT4.out.scan rfl) hch8 HGL.out HAB.out.2.1 HG6.out HL7.out)
            rw [← hW8]
            clear hW8 hch8 q0 q1 q2 HT4 hn2 hn3 hz1 hcut
            have CS := Aside0.mk (tag_say (tb := tb) H.out HT8.out.scan HT8.out.row HT8.out.ch false (n := n) hl)
            (with_reducible refine CS.out.mono ?_)
            rintro e w11 hS
            have HS := Aside0.mk hS
            obtain ⟨rfl, _, _⟩ := hS
            clear CS
            go_wp2_with fail
            go_end0
            exact (show Piece B g W toks R _ _ by rw [HE.out]; exact HS.out)
          | false =>
            have hc62 := of_decide_eq_false hb.symm
            have HR2 := Aside0.mk (show R = if t = [] then .error 13 else match attrM l (c :: r6) with
              | .error k => .error k
              | .ok (x, q) => match startF gf (l ++ [x]) q with
                | .error k => .error k
                | .ok ((l, em), q) => .ok (⟨1, n, [], l, em⟩, q) by
                rw [HR.out]; unfold startS; simp only [if_neg hc47, if_neg hc62]
                by_cases ht : t = []
                · simp only [if_pos ht]
                · simp only [if_neg ht]
                  cases attrM l (c :: r6) <;> rfl)
            clear HR hb hc47 hc62
            obtain ⟨Av, cv, rfl⟩ := Kd.R_slice HT4.out.row
            by_cases ht : t = []
            · subst ht
              have HE := Aside0.mk (show R = .error 13 by rw [HR2.out, if_pos rfl])
              have hte : (ofL ([] : LB)).toList.isEmpty = true := by rw [ofL_toList]; rfl
              go_wp2_with fail
              (with_reducible refine (need_no _ _).mono ?_)
              rintro e w10 ⟨rfl, rfl⟩
              exact ⟨rfl, (show Piece B g W toks R _ _ by rw [HE.out]; exact ⟨rfl, H.out.ch HT4.out.ch⟩)⟩
            · have HR3 := Aside0.mk (show R = match attrM l (c :: r6) with
                | .error k => .error k
                | .ok (x, q) => match startF gf (l ++ [x]) q with
                  | .error k => .error k
                  | .ok ((l, em), q) => .ok (⟨1, n, [], l, em⟩, q) by rw [HR2.out, if_neg ht])
              have hte : (ofL t).toList.isEmpty = false := by rw [ofL_toList]; cases t with | nil => exact absurd rfl ht | cons => rfl
              clear HR2 ht
              obtain ⟨f0, f1, f2, f3, f4, f5⟩ := blk5 HT4.out.tok
              go_wp2_with fail
              (with_reducible refine (need_ok _ _).mono ?_)
              rintro e w10 ⟨rfl, rfl⟩
              have CA := Aside0.mk (attr_calls W.heap.size g (fun k => W.heap.size ≤ k ∧ k ≠ tb) w10 (c :: r6) tv (.slice Av l.length cv) l HT4.out.scan HT4.out.row (fun k hk => by have := HGL.out; omega) HT4.out.ch.size HT4.out.env HG6.out HL6.out (by omega))
              have HAR := Aside0.mk (fun x q (h : attrM l (c :: r6) = .ok (x, q)) => attr_rest h)
              generalize attrM l (c :: r6) = u at CA HR3 HAR
              go_wp2_with fail
              (with_reducible refine CA.out.mono ?_)
              rintro e w11 hT
              cases u with
              | error k =>
                obtain ⟨rfl, hch⟩ := hT
                have HE := Aside0.mk (show R = .error k from HR3.out)
                have HC := Aside0.mk (chNext HT4.out.ch hch)
                exact ⟨rfl, (show Piece B g W toks R _ _ by rw [HE.out]; exact ⟨rfl, H.out.ch HC.out⟩)⟩
              | ok p =>
                obtain ⟨x, q⟩ := p
                obtain ⟨⟨v', rfl, hrow⟩, hq, hch⟩ := hT
                have HR4 := Aside0.mk (show R = match startF gf (l ++ [x]) q with
                  | .error k => .error k
                  | .ok ((l, em), q) => .ok (⟨1, n, [], l, em⟩, q) from HR3.out)
                have HXQ := Aside0.mk (HAR.out x q rfl)
                obtain ⟨A2, c2, rfl⟩ := Kd.R_slice hrow
                rw [List.length_append, List.length_singleton] at hrow
                have htok := hch.heap HT4.out.tok (fun h => h.elim HAB.out.2.1 (fun e => (HT4.out.row.1 tb e.symm).2 rfl))
                have HTK := Aside0.mk htok
                have HQ := Aside0.mk hq
                have HCH := Aside0.mk (HT4.out.ch.trans (hch.mono (fun k hk _ => hk.elim .inl (fun e => .inr (Kd.R_base HT4.out.row k e.symm)))))
                have HRW := Aside0.mk (Kd.R_mono (ok' := fun k => W.heap.size ≤ k ∧ k ≠ tb) hrow (fun k hk => hk.elim id (fun h => ⟨Nat.le_trans HT4.out.ch.size h, by have := HSZ.out; have := HAB.out.2.2; omega⟩)))
                have HS2 := Aside0.mk (Nat.le_trans HSZ.out hch.size)
                clear hq hch hrow CA HAR HR3 f0 f1 f2 f3 f4 f5 q0 q1 q2 htok
                obtain ⟨f0, f1, f2, f3, f4, f5⟩ := blk5 HTK.out
                go_wp2_with fail
                go_roundg gf
                case measure => omega
                case rel =>
                  have hset : Ch (fun j => j = tb) w11 (w11.setCell ⟨tb, 3, none⟩ (.slice A2 (l.length + 1) c2)) := (Ch.refl (fun j => j = tb) w11).setCell (p := ⟨tb, 3, none⟩) (.inl rfl) _
                  have hall := HCH.out.trans (hset.mono (fun k hk _ => .inr (hk ▸ HAB.out.1)))
                  refine ⟨l ++ [x], q, .slice A2 (l.length + 1) c2, by rw [List.length_append, List.length_singleton]; omega, by rw [List.length_append, List.length_singleton]; have := HXQ.out.2; omega, Nat.le_trans HS2.out hset.size, ⟨?_⟩, HR4⟩
                  exact ⟨hset.heap HQ.out (fun e => HAB.out.2.1 e.symm), blk_upd 3 _ HTK.out rfl, Kd.R_step HRW.out (fun k hk hlt => hset.block k hlt (fun e => hk.2 e)), hall, HE.out.ch hall HG6.out, Nat.le_trans HXQ.out.1 HL6.out⟩
end Go.Proofs.YtagihjlklbckmaaGreatDoor.Sc
namespace Go.Proofs.YtagihjlklbckmaaGreatDoor.Sc
set_option linter.unusedVariables false
set_option linter.unusedSimpArgs false
open Go.RowKit Go.Proofs.YtagihjlklbckmaaGreatDoorW.PrintWords Go.Proofs.YtagihjlklbckmaaGreatDoorW.PrintLast Go.Proofs.YtagihjlklbckmaaGreatDoorW.PrintMore Go.Proofs.YtagihjlklbckmaaGreatDoor.Bs
def preM (i : Nat) : LB := match i with
  | 0 => [60, 33, 45, 45]
  | 1 => [60, 33, 91, 67, 68, 65, 84, 65, 91]
  | 2 => [60, 63]
  | _ => [60, 47]
def takeM (i : Nat) : LB → Except Int (Tok × LB) := match i with
  | 0 => commentM
  | 1 => cdataM
  | 2 => instrM
  | _ => endM
/-- What stands behind the test of so many prefixes. -/
def sortM (s : LB) : Nat → Nat → Except Int (Tok × LB)
  | 0, _ => if Lib.hasPrefix s [60, 33] = true then .error 13 else startM (s.drop 1)
  | n + 1, i => if Lib.hasPrefix s (preM i) = true then takeM i (s.drop (preM i).length) else sortM s n (i + 1)
def pieceM (s : LB) : Except Int (Tok × LB) := match s with
  | [] => .error 0
  | c :: _ => if c = 60 then sortM s 4 0 else textMk s
theorem trim_drop (s p : LB) (h : Lib.hasPrefix s p = true) : (⟨(Lib.trimPrefix s p).toArray⟩ : ByteArray) = ofL (s.drop p.length) := by
  unfold Lib.trimPrefix
  rw [if_pos h]
  rfl
theorem Piece.ends {B g : Nat} {W w' : World} {toks : List Tok} {R : Except Int (Tok × LB)} {e : Ending} (h : Piece B g W toks R e w') : e = .returned (.tuple #[]) ∨ ∃ ch, e = .panicked ch := by
  unfold Piece at h
  split at h
  · exact .inr ⟨_, h.1⟩
  · exact .inl h.1
theorem Piece.from {B g : Nat} {W W1 w' : World} {toks : List Tok} {R : Except Int (Tok × LB)} {e : Ending} (hb : Below B W W1) (h : Piece B g W1 toks R e w') : Piece B g W toks R e w' := by
  unfold Piece at h ⊢
  split at h
  · exact ⟨h.1, hb.trans h.2⟩
  · exact SaidIt.from hb h
theorem index_0 (g : Nat) (w : World) : (Instr.index 48 (.agg #[.string ⟨#[60, 33, 45, 45]⟩, .func (.func 20) #[.pointer (some ⟨g, 0, none⟩)] #[], .string ⟨#[60, 33, 91, 67, 68, 65, 84, 65, 91]⟩, .func (.func 21) #[.pointer (some ⟨g, 0, none⟩)] #[], .string ⟨#[60, 63]⟩, .func (.func 22) #[.pointer (some ⟨g, 0, none⟩)] #[], .string ⟨#[60, 47]⟩, .func (.func 23) #[.pointer (some ⟨g, 0, none⟩)] #[]]) (.int .i64 0)).run Tryz.prog w = .ok (.agg #[.string ⟨#[60, 33, 45, 45]⟩, .func (.func 20) #[.pointer (some ⟨g, 0, none⟩)] #[]]) w := by kernel_rfl
theorem index_1 (g : Nat) (w : World) : (Instr.index 48 (.agg #[.string ⟨#[60, 33, 45, 45]⟩, .func (.func 20) #[.pointer (some ⟨g, 0, none⟩)] #[], .string ⟨#[60, 33, 91, 67, 68, 65, 84, 65, 91]⟩, .func (.func 21) #[.pointer (some ⟨g, 0, none⟩)] #[], .string ⟨#[60, 63]⟩, .func (.func 22) #[.pointer (some ⟨g, 0, none⟩)] #[], .string ⟨#[60, 47]⟩, .func (.func 23) #[.pointer (some ⟨g, 0, none⟩)] #[]]) (.int .i64 1)).run Tryz.prog w = .ok (.agg #[.string ⟨#[60, 33, 91, 67, 68, 65, 84, 65, 91]⟩, .func (.func 21) #[.pointer (some ⟨g, 0, none⟩)] #[]]) w := by kernel_rfl
theorem index_2 (g : Nat) (w : World) : (Instr.index 48 (.agg #[.string ⟨#[60, 33, 45, 45]⟩, .func (.func 20) #[.pointer (some ⟨g, 0, none⟩)] #[], .string ⟨#[60, 33, 91, 67, 68, 65, 84, 65, 91]⟩, .func (.func 21) #[.pointer (some ⟨g, 0, none⟩)] #[], .string ⟨#[60, 63]⟩, .func (.func 22) #[.pointer (some ⟨g, 0, none⟩)] #[], .string ⟨#[60, 47]⟩, .func (.func 23) #[.pointer (some ⟨g, 0, none⟩)] #[]]) (.int .i64 2)).run Tryz.prog w = .ok (.agg #[.string ⟨#[60, 63]⟩, .func (.func 22) #[.pointer (some ⟨g, 0, none⟩)] #[]]) w := by kernel_rfl
theorem index_3 (g : Nat) (w : World) : (Instr.index 48 (.agg #[.string ⟨#[60, 33, 45, 45]⟩, .func (.func 20) #[.pointer (some ⟨g, 0, none⟩)] #[], .string ⟨#[60, 33, 91, 67, 68, 65, 84, 65, 91]⟩, .func (.func 21) #[.pointer (some ⟨g, 0, none⟩)] #[], .string ⟨#[60, 63]⟩, .func (.func 22) #[.pointer (some ⟨g, 0, none⟩)] #[], .string ⟨#[60, 47]⟩, .func (.func 23) #[.pointer (some ⟨g, 0, none⟩)] #[]]) (.int .i64 3)).run Tryz.prog w = .ok (.agg #[.string ⟨#[60, 47]⟩, .func (.func 23) #[.pointer (some ⟨g, 0, none⟩)] #[]]) w := by kernel_rfl
set_option maxRecDepth 100000 in
set_option maxHeartbeats 4000000 in
theorem piece_calls (B g : Nat) (W : World) (c : UInt8) (r : LB) (tv : Value) (toks : List Tok) (h : Sn B g W (c :: r) tv toks) (E : Env W) (hB : 6 ≤ B) (hs : (c :: r).length ≤ 1000000) (hl : toks.length ≤ 1000000) :
    Calls Tryz.prog 11 #[.pointer (some ⟨g, 0, none⟩)] W (Piece B g W toks (pieceM (c :: r))) := by
  obtain ⟨q0, q1, q2⟩ := blk2 h.blk
  have hz : 0 < (ofL (c :: r)).size := by rw [ofL_size]; simp
  have hz' : (0 : Int) < ((ofL (c :: r)).size : Int) := by omega
  have hget : (ofL (c :: r))[0]'hz = c := rfl
  have H := Aside0.mk h
  have HE := Aside0.mk E
  obtain ⟨R, hR⟩ : ∃ x, x = pieceM (c :: r) := ⟨_, rfl⟩
  rw [← hR]
  unfold pieceM at hR
  have HR := Aside0.mk hR
  clear h E hR
  by_cases hc : c = 60
  · subst hc
    have HR2 := Aside0.mk (show R = sortM (60 :: r) 4 0 from HR.out)
    clear HR
    go_enter Tryz.func11, Tryz.ntmps11
    go_wp2_with fail
    have HB0 := Aside0.mk (Below.refl W.heap.size W)
    go_loopw [27] (fun v27 wr => ∃ i : Nat, v27 = .int .i64 i ∧ i ≤ 4 ∧ Aside0 (Below W.heap.size W wr) ∧ Aside0 (R = sortM (60 :: r) (4 - i) i)) (fun v27 _ => 4 - (intOf v27).toNat)
    case atStart => exact ⟨0, rfl, by decide, HB0, HR2⟩
    case round =>
      clear HB0 HR2 q0 q1 q2 hz hz' hget
      obtain ⟨i, rfl, hi, HB, HR⟩ := hrel
      have HS := Aside0.mk (H.out.below HB.out)
      have HWB := Aside0.mk (show B ≤ W.heap.size by have := H.out.ge; have := blk_lt H.out.blk; omega)
      have HBB := Aside0.mk (HB.out.mono HWB.out)
      obtain ⟨q0, q1, q2⟩ := blk2 HS.out.blk
      have q0a : ∀ o, (wr.alloc o).cell? ⟨g, 0, none⟩ = some (.string (ofL (60 :: r))) := fun o => pw_cell_below (below_alloc (Below.refl _ _) o) q0
      have q2a : ∀ o i, (wr.alloc o).frozen? ⟨g, i, none⟩ = false := fun o i => blk_frozen (((below_alloc (Below.refl wr.heap.size wr) o).block _ (blk_lt HS.out.blk)).trans HS.out.blk) i
      match i, hi with
      | 0, hi =>
        have hix : ∀ w, _ := index_0 g
        obtain ⟨b, hb⟩ : ∃ x, x = Lib.hasPrefix (60 :: r) [60, 33, 45, 45] := ⟨_, rfl⟩
        have CP := Aside0.mk (show ∀ w, Calls Tryz.prog 24 #[.string (ofL (60 :: r)), .string ⟨#[60, 33, 45, 45]⟩] w fun e w' => e = .returned (.tuple #[.string ⟨(Lib.trimPrefix (60 :: r) [60, 33, 45, 45]).toArray⟩, .bool b]) ∧ w' = w from fun w => by rw [hb]; exact Tryz.strings_CutPrefix (ofL (60 :: r)) ⟨#[60, 33, 45, 45]⟩ w)
        cases b with
        | true =>
          rw [trim_drop _ _ hb.symm] at CP
          have HR2 := Aside0.mk (show R = commentM ((60 :: r).drop 4) from HR.out.trans (if_pos hb.symm))
          have HL2 := Aside0.mk (show ((60 :: r).drop 4).length ≤ 1000000 by rw [List.length_drop]; omega)
          rw [show ([60, 33, 45, 45] : LB).length = 4 from rfl] at CP
          generalize (60 :: r).drop 4 = q at CP HR2 HL2
          have CT := Aside0.mk (show ∀ W', Below wr.heap.size wr W' → Calls Tryz.prog 20 #[.pointer (some ⟨g, 0, none⟩)] (W'.setCell ⟨g, 0, none⟩ (.string (ofL q))) (Piece B g W toks R) from fun W' hb => by
            have hx := (HS.out.below hb).cut (s' := q)
            have hb2 := (HBB.out.trans (hb.mono (Nat.le_trans HWB.out HB.out.size))).trans hx.2
            rw [HR2.out]
            exact (comment_calls B g _ q tv toks hx.1 (HE.out.from hb2 hB) hB HL2.out hl).mono (fun e w' hP => hP.from hb2))
          clear HR hb
          go_upto_region 5 with (fail)
          go_quiet ((go_at_call 24; refine Calls.quiet_of_same (CP.out _)))
          go_wp2_with fail
          (with_reducible refine (CT.out _ (pw_below_drewN (below_alloc (Below.refl _ _) _) _)).mono ?_)
          rintro e w6 hT
          have HT := Aside0.mk hT
          clear CT CP
          rcases hT.ends with rfl | ⟨ch, rfl⟩
          · clear hT
            go_wp2_with fail
            refine bodyPost_ret (v := .tuple #[]) (by simp [results, Tryz.results11]) rfl ?_
            exact HT.out
          · exact ⟨rfl, HT.out⟩
        | false =>
          have HR2 := Aside0.mk (show R = sortM (60 :: r) (4 - (0 + 1)) (0 + 1) from HR.out.trans (if_neg (by rw [show Lib.hasPrefix (60 :: r) (preM 0) = false from hb.symm]; decide)))
          generalize (⟨(Lib.trimPrefix (60 :: r) [60, 33, 45, 45]).toArray⟩ : ByteArray) = q at CP
          clear HR hb
          go_upto_region 5 with (fail)
          go_quiet ((go_at_call 24; refine Calls.quiet_of_same (CP.out _)))
          go_wp2_with fail
          go_roundw
          case rel => exact ⟨1, by first | rfl | simp, by decide, Aside0.mk (pw_below_drewN (below_alloc HB.out _) _), HR2⟩
          case measure => simp [intOf]
      | 1, hi =>
        have hix : ∀ w, _ := index_1 g
        obtain ⟨b, hb⟩ : ∃ x, x = Lib.hasPrefix (60 :: r) [60, 33, 91, 67, 68, 65, 84, 65, 91] := ⟨_, rfl⟩
        have CP := Aside0.mk (show ∀ w, Calls Tryz.prog 24 #[.string (ofL (60 :: r)), .string ⟨#[60, 33, 91, 67, 68, 65, 84, 65, 91]⟩] w fun e w' => e = .returned (.tuple #[.string ⟨(Lib.trimPrefix (60 :: r) [60, 33, 91, 67, 68, 65, 84, 65, 91]).toArray⟩, .bool b]) ∧ w' = w from fun w => by rw [hb]; exact Tryz.strings_CutPrefix (ofL (60 :: r)) ⟨#[60, 33, 91, 67, 68, 65, 84, 65, 91]⟩ w)
        cases b with
        | true =>
          rw [trim_drop _ _ hb.symm] at CP
          have HR2 := Aside0.mk (show R = cdataM ((60 :: r).drop 9) from HR.out.trans (if_pos hb.symm))
          have HL2 := Aside0.mk (show ((60 :: r).drop 9).length ≤ 1000000 by rw [List.length_drop]; omega)
          rw [show ([60, 33, 91, 67, 68, 65, 84, 65, 91] : LB).length = 9 from rfl] at CP
          generalize (60 :: r).drop 9 = q at CP HR2 HL2
          have CT := Aside0.mk (show ∀ W', Below wr.heap.size wr W' → Calls Tryz.prog 21 #[.pointer (some ⟨g, 0, none⟩)] (W'.setCell ⟨g, 0, none⟩ (.string (ofL q))) (Piece B g W toks R) from fun W' hb => by
            have hx := (HS.out.below hb).cut (s' := q)
            have hb2 := (HBB.out.trans (hb.mono (Nat.le_trans HWB.out HB.out.size))).trans hx.2
            rw [HR2.out]
            exact (cdata_calls B g _ q tv toks hx.1 (HE.out.from hb2 hB) hB HL2.out hl).mono (fun e w' hP => hP.from hb2))
          clear HR hb
          go_upto_region 5 with (fail)
          go_quiet ((go_at_call 24; refine Calls.quiet_of_same (CP.out _)))
          go_wp2_with fail
          (with_reducible refine (CT.out _ (pw_below_drewN (below_alloc (Below.refl _ _) _) _)).mono ?_)
          rintro e w6 hT
          have HT := Aside0.mk hT
          clear CT CP
          rcases hT.ends with rfl | ⟨ch, rfl⟩
          · clear hT
            go_wp2_with fail
            refine bodyPost_ret (v := .tuple #[]) (by simp [results, Tryz.results11]) rfl ?_
            exact HT.out
          · exact ⟨rfl, HT.out⟩
        | false =>
          have HR2 := Aside0.mk (show R = sortM (60 :: r) (4 - (1 + 1)) (1 + 1) from HR.out.trans (if_neg (by rw [show Lib.hasPrefix (60 :: r) (preM 1) = false from hb.symm]; decide)))
          generalize (⟨(Lib.trimPrefix (60 :: r) [60, 33, 91, 67, 68, 65, 84, 65, 91]).toArray⟩ : ByteArray) = q at CP
          clear HR hb
          go_upto_region 5 with (fail)
          go_quiet ((go_at_call 24; refine Calls.quiet_of_same (CP.out _)))
          go_wp2_with fail
          go_roundw
          case rel => exact ⟨2, by first | rfl | simp, by decide, Aside0.mk (pw_below_drewN (below_alloc HB.out _) _), HR2⟩
          case measure => simp [intOf]
      | 2, hi =>
        have hix : ∀ w, _ := index_2 g
        obtain ⟨b, hb⟩ : ∃ x, x = Lib.hasPrefix (60 :: r) [60, 63] := ⟨_, rfl⟩
        have CP := Aside0.mk (show ∀ w, Calls Tryz.prog 24 #[.string (ofL (60 :: r)), .string ⟨#[60, 63]⟩] w fun e w' => e = .returned (.tuple #[.string ⟨(Lib.trimPrefix (60 :: r) [60, 63]).toArray⟩, .bool b]) ∧ w' = w from fun w => by rw [hb]; exact Tryz.strings_CutPrefix (ofL (60 :: r)) ⟨#[60, 63]⟩ w)
        cases b with
        | true =>
          rw [trim_drop _ _ hb.symm] at CP
          have HR2 := Aside0.mk (show R = instrM ((60 :: r).drop 2) from HR.out.trans (if_pos hb.symm))
          have HL2 := Aside0.mk (show ((60 :: r).drop 2).length ≤ 1000000 by rw [List.length_drop]; omega)
          rw [show ([60, 63] : LB).length = 2 from rfl] at CP
          generalize (60 :: r).drop 2 = q at CP HR2 HL2
          have CT := Aside0.mk (show ∀ W', Below wr.heap.size wr W' → Calls Tryz.prog 22 #[.pointer (some ⟨g, 0, none⟩)] (W'.setCell ⟨g, 0, none⟩ (.string (ofL q))) (Piece B g W toks R) from fun W' hb => by
            have hx := (HS.out.below hb).cut (s' := q)
            have hb2 := (HBB.out.trans (hb.mono (Nat.le_trans HWB.out HB.out.size))).trans hx.2
            rw [HR2.out]
            exact (instr_calls B g _ q tv toks hx.1 (HE.out.from hb2 hB) hB HL2.out hl).mono (fun e w' hP => hP.from hb2))
          clear HR hb
          go_upto_region 5 with (fail)
          go_quiet ((go_at_call 24; refine Calls.quiet_of_same (CP.out _)))
          go_wp2_with fail
          (with_reducible refine (CT.out _ (pw_below_drewN (below_alloc (Below.refl _ _) _) _)).mono ?_)
          rintro e w6 hT
          have HT := Aside0.mk hT
          clear CT CP
          rcases hT.ends with rfl | ⟨ch, rfl⟩
          · clear hT
            go_wp2_with fail
            refine bodyPost_ret (v := .tuple #[]) (by simp [results, Tryz.results11]) rfl ?_
            exact HT.out
          · exact ⟨rfl, HT.out⟩
        | false =>
          have HR2 := Aside0.mk (show R = sortM (60 :: r) (4 - (2 + 1)) (2 + 1) from HR.out.trans (if_neg (by rw [show Lib.hasPrefix (60 :: r) (preM 2) = false from hb.symm]; decide)))
          generalize (⟨(Lib.trimPrefix (60 :: r) [60, 63]).toArray⟩ : ByteArray) = q at CP
          clear HR hb
          go_upto_region 5 with (fail)
          go_quiet ((go_at_call 24; refine Calls.quiet_of_same (CP.out _)))
          go_wp2_with fail
          go_roundw
          case rel => exact ⟨3, by first | rfl | simp, by decide, Aside0.mk (pw_below_drewN (below_alloc HB.out _) _), HR2⟩
          case measure => simp [intOf]
      | 3, hi =>
        have hix : ∀ w, _ := index_3 g
        obtain ⟨b, hb⟩ : ∃ x, x = Lib.hasPrefix (60 :: r) [60, 47] := ⟨_, rfl⟩
        have CP := Aside0.mk (show ∀ w, Calls Tryz.prog 24 #[.string (ofL (60 :: r)), .string ⟨#[60, 47]⟩] w fun e w' => e = .returned (.tuple #[.string ⟨(Lib.trimPrefix (60 :: r) [60, 47]).toArray⟩, .bool b]) ∧ w' = w from fun w => by rw [hb]; exact Tryz.strings_CutPrefix (ofL (60 :: r)) ⟨#[60, 47]⟩ w)
        cases b with
        | true =>
          rw [trim_drop _ _ hb.symm] at CP
          have HR2 := Aside0.mk (show R = endM ((60 :: r).drop 2) from HR.out.trans (if_pos hb.symm))
          have HL2 := Aside0.mk (show ((60 :: r).drop 2).length ≤ 1000000 by rw [List.length_drop]; omega)
          rw [show ([60, 47] : LB).length = 2 from rfl] at CP
          generalize (60 :: r).drop 2 = q at CP HR2 HL2
          have CT := Aside0.mk (show ∀ W', Below wr.heap.size wr W' → Calls Tryz.prog 23 #[.pointer (some ⟨g, 0, none⟩)] (W'.setCell ⟨g, 0, none⟩ (.string (ofL q))) (Piece B g W toks R) from fun W' hb => by
            have hx := (HS.out.below hb).cut (s' := q)
            have hb2 := (HBB.out.trans (hb.mono (Nat.le_trans HWB.out HB.out.size))).trans hx.2
            rw [HR2.out]
            exact (end_calls B g _ q tv toks hx.1 (HE.out.from hb2 hB) hB HL2.out hl).mono (fun e w' hP => hP.from hb2))
          clear HR hb
          go_upto_region 5 with (fail)
          go_quiet ((go_at_call 24; refine Calls.quiet_of_same (CP.out _)))
          go_wp2_with fail
          (with_reducible refine (CT.out _ (pw_below_drewN (below_alloc (Below.refl _ _) _) _)).mono ?_)
          rintro e w6 hT
          have HT := Aside0.mk hT
          clear CT CP
          rcases hT.ends with rfl | ⟨ch, rfl⟩
          · clear hT
            go_wp2_with fail
            refine bodyPost_ret (v := .tuple #[]) (by simp [results, Tryz.results11]) rfl ?_
            exact HT.out
          · exact ⟨rfl, HT.out⟩
        | false =>
          have HR2 := Aside0.mk (show R = sortM (60 :: r) (4 - (3 + 1)) (3 + 1) from HR.out.trans (if_neg (by rw [show Lib.hasPrefix (60 :: r) (preM 3) = false from hb.symm]; decide)))
          generalize (⟨(Lib.trimPrefix (60 :: r) [60, 47]).toArray⟩ : ByteArray) = q at CP
          clear HR hb
          go_upto_region 5 with (fail)
          go_quiet ((go_at_call 24; refine Calls.quiet_of_same (CP.out _)))
          go_wp2_with fail
          go_roundw
          case rel => exact ⟨4, by first | rfl | simp, by decide, Aside0.mk (pw_below_drewN (below_alloc HB.out _) _), HR2⟩
          case measure => simp [intOf]
      | 4, hi =>
        obtain ⟨b, hb⟩ : ∃ x, x = Lib.hasPrefix (60 :: r) [60, 33] := ⟨_, rfl⟩
        have CP := Aside0.mk (show ∀ w, Calls Tryz.prog 26 #[.string (ofL (60 :: r)), .string ⟨#[60, 33]⟩] w fun e w' => e = .returned (.bool b) ∧ w' = w from fun w => by rw [hb]; exact Tryz.strings_HasPrefix (ofL (60 :: r)) ⟨#[60, 33]⟩ w)
        have HHB := Aside0.mk hb
        clear hb
        go_wp2_with fail
        (with_reducible refine (CP.out _).mono ?_)
        rintro e w5 ⟨rfl, rfl⟩
        clear CP
        cases b with
        | true =>
          have HE2 := Aside0.mk (show R = .error 13 from HR.out.trans (if_pos HHB.out.symm))
          go_wp2_with fail
          (with_reducible refine (need_no _ _).mono ?_)
          rintro e w6 ⟨rfl, rfl⟩
          exact ⟨rfl, (show Piece B g W toks R _ _ by rw [HE2.out]; exact ⟨rfl, HBB.out⟩)⟩
        | false =>
          have HR2 := Aside0.mk (show R = startM r from HR.out.trans (if_neg (by rw [← HHB.out]; decide)))
          have hcut : (ofL (60 :: r)).extract 1 (ofL (60 :: r)).size = ofL r := ofL_cut (60 :: r) 1
          have hz1 : (1 : Int) ≤ ((ofL (60 :: r)).size : Int) := by rw [ofL_size, List.length_cons]; omega
          have CT := Aside0.mk (show ∀ W', W' = w5 → Calls Tryz.prog 27 #[.pointer (some ⟨g, 0, none⟩)] (W'.setCell ⟨g, 0, none⟩ (.string (ofL r))) (Piece B g W toks R) from fun W' hW => by
            subst hW
            have hx := HS.out.cut (s' := r)
            have hb2 := HBB.out.trans hx.2
            rw [HR2.out]
            exact (startp_calls B g _ r tv toks hx.1 (HE.out.from hb2 hB) hB (by rw [List.length_cons] at hs; omega) hl).mono (fun e w' hP => hP.from hb2))
          clear HR HHB
          go_wp2_with (go_at_call 25; (with_reducible refine (need_ok _ _).mono ?_); rintro e w7 ⟨rfl, rfl⟩)
          (with_reducible refine (CT.out _ rfl).mono ?_)
          rintro e w6 hT
          have HT := Aside0.mk hT
          clear CT
          rcases hT.ends with rfl | ⟨ch, rfl⟩
          · clear hT
            go_wp2_with fail
            go_end0
            exact HT.out
          · exact ⟨rfl, HT.out⟩
  · have hcn : ¬ (c.toNat : Int) = 60 := by
      intro e; exact hc (UInt8.toNat_inj.1 (show c.toNat = (60 : UInt8).toNat by have : (60 : UInt8).toNat = 60 := rfl; omega))
    have hcb : ((c.toNat : Int) == 60) = false := by simp [hcn]
    have HE2 := Aside0.mk (show R = textMk (c :: r) by rw [HR.out]; simp only [if_neg hc])
    have CT := Aside0.mk (textp_calls B g W (c :: r) tv toks H.out HE.out hB hs hl)
    rw [← HE2.out] at CT
    clear HR hc
    go_enter Tryz.func11, Tryz.ntmps11
    go_wp2_with fail
    (with_reducible refine CT.out.mono ?_)
    rintro e w2 hT
    have HT := Aside0.mk hT
    rcases hT.ends with rfl | ⟨ch, rfl⟩
    · clear hT CT
      go_wp2_with fail
      refine bodyPost_ret (v := .tuple #[]) (by simp [results, Tryz.results11]) rfl ?_
      exact HT.out
    · exact ⟨rfl, HT.out⟩
end Go.Proofs.YtagihjlklbckmaaGreatDoor.Sc
namespace Go.Proofs.YtagihjlklbckmaaGreatDoor.Sc
set_option linter.unusedVariables false
set_option linter.unusedSimpArgs false
open Go.RowKit Go.Proofs.YtagihjlklbckmaaGreatDoorW.PrintWords Go.Proofs.YtagihjlklbckmaaGreatDoorW.PrintLast Go.Proofs.YtagihjlklbckmaaGreatDoorW.PrintMore Go.Proofs.YtagihjlklbckmaaGreatDoor.Bs
theorem rep_def (s old new : LB) (h : (old == new) = false) : Lib.replaceAll s old new = Lib.replaceK old new (Lib.count s old) s := by
  unfold Lib.replaceAll Lib.replace Lib.replaceNum
  rw [h]; rfl
theorem rep_nil (old new : LB) (ho : old ≠ []) (h : (old == new) = false) : Lib.replaceAll [] old new = [] := by
  have hi : Lib.index [] old = -1 := by cases old with | nil => exact absurd rfl ho | cons => rfl
  rw [rep_def _ _ _ h, Lib.count_miss hi]; rfl
theorem rep_hit (s old new : LB) (ho : old ≠ []) (h : (old == new) = false) (hp : old.isPrefixOf s = true) : Lib.replaceAll s old new = new ++ Lib.replaceAll (s.drop old.length) old new := by
  have hi : Lib.index s old = (0 : Nat) := by
    cases s with
    | nil => cases old with | nil => exact absurd rfl ho | cons => cases hp
    | cons b l => unfold Lib.index; rw [if_pos hp]; rfl
  rw [rep_def _ _ _ h, rep_def _ _ _ h, Lib.count_hit ho hi, Nat.add_comm 1, Lib.replaceK_hit _ _ _ _ 0 hi, Nat.zero_add]; rfl
theorem rep_miss (c : UInt8) (r old new : LB) (ho : old ≠ []) (h : (old == new) = false) (hp : old.isPrefixOf (c :: r) = false) : Lib.replaceAll (c :: r) old new = c :: Lib.replaceAll r old new := by
  have hd : Lib.index (c :: r) old = if Lib.index r old == -1 then -1 else Lib.index r old + 1 := by
    rw [Lib.index, hp]; rfl
  rw [rep_def _ _ _ h, rep_def _ _ _ h]
  have hge := Lib.index_ge r old
  by_cases hm : Lib.index r old = -1
  · rw [Lib.count_miss hm, Lib.count_miss (by rw [hd, hm]; rfl)]; rfl
  · obtain ⟨i, hi⟩ : ∃ i : Nat, Lib.index r old = i := ⟨(Lib.index r old).toNat, by omega⟩
    have hi2 : Lib.index (c :: r) old = ((i + 1 : Nat) : Int) := by
      rw [hd, hi, if_neg (by rw [beq_iff_eq]; omega)]; rfl
    rw [Lib.count_hit ho hi, Lib.count_hit ho hi2, Nat.add_comm 1, Nat.add_comm 1, Lib.replaceK_hit _ _ _ _ _ hi, Lib.replaceK_hit _ _ _ _ _ hi2, show i + 1 + old.length = (i + old.length) + 1 by omega, List.drop_succ_cons, List.take_succ_cons]; rfl
/-- "\r\n" becomes "\n". -/
def crlf : LB → LB
  | [] => []
  | [c] => [c]
  | c :: d :: r => if c = 13 ∧ d = 10 then 10 :: crlf r else c :: crlf (d :: r)
def nlB (c : UInt8) : UInt8 := if c = 13 then 10 else c
def linesL (l : LB) : LB := (crlf l).map nlB
theorem crlf_rep : ∀ l : LB, Lib.replaceAll l [13, 10] [10] = crlf l
  | [] => by rw [rep_nil _ _ (by decide) (by decide)]; rfl
  | [c] => by
    rw [rep_miss _ _ _ _ (by decide) (by decide) (by simp [List.isPrefixOf]), rep_nil _ _ (by decide) (by decide)]; rfl
  | c :: d :: r => by
    rw [crlf]
    by_cases h : c = 13 ∧ d = 10
    · obtain ⟨rfl, rfl⟩ := h
      rw [if_pos ⟨rfl, rfl⟩, rep_hit _ _ _ (by decide) (by decide) (by simp [List.isPrefixOf]), ← crlf_rep r]; rfl
    · rw [if_neg h, rep_miss _ _ _ _ (by decide) (by decide) ?_, crlf_rep (d :: r)]
      simp only [List.isPrefixOf, Bool.and_true]
      by_cases h1 : c = 13
      · have h2 : ¬ d = 10 := fun e => h ⟨h1, e⟩
        rw [Bool.and_eq_false_iff]; right; rw [beq_eq_false_iff_ne]; exact fun e => h2 e.symm
      · rw [Bool.and_eq_false_iff]; left; rw [beq_eq_false_iff_ne]; exact fun e => h1 e.symm
theorem nl_rep : ∀ l : LB, Lib.replaceAll l [13] [10] = l.map nlB
  | [] => by rw [rep_nil _ _ (by decide) (by decide)]; rfl
  | c :: r => by
    rw [List.map_cons, nlB]
    by_cases h : c = 13
    · subst h
      rw [if_pos rfl, rep_hit _ _ _ (by decide) (by decide) (by simp [List.isPrefixOf]), ← nl_rep r]; rfl
    · rw [if_neg h, rep_miss _ _ _ _ (by decide) (by decide) ?_, nl_rep r]
      simp only [List.isPrefixOf, Bool.and_true]
      rw [beq_eq_false_iff_ne]; exact fun e => h e.symm
theorem crlf_len : ∀ l : LB, (crlf l).length ≤ l.length
  | [] => Nat.le_refl _
  | [c] => Nat.le_refl _
  | c :: d :: r => by
    rw [crlf]
    split
    · have := crlf_len r
      simp only [List.length_cons]; omega
    · have := crlf_len (d :: r)
      simp only [List.length_cons] at *; omega
theorem lines_len (l : LB) : (linesL l).length ≤ l.length := by
  unfold linesL
  rw [List.length_map]; exact crlf_len l
theorem countB_small (l old : LB) (h : 1 ≤ (ofL old).size) : Lib.countB (ofL l) (ofL old) ≤ l.length := by
  have := Lib.countB_le (ofL old) h _ (ofL l) (Nat.le_refl _)
  rwa [ofL_size] at this
set_option maxRecDepth 100000 in
set_option maxHeartbeats 1000000 in
theorem lines_calls (w : World) (l : LB) (E : Env w) (hl : l.length ≤ 1000000) :
    Calls Tryz.prog 10 #[.string (ofL l)] w fun e w' => e = .returned (.string (ofL (linesL l))) ∧ Below w.heap.size w w' := by
  obtain ⟨m, hm⟩ := E.most
  have HE := Aside0.mk E
  have C1 := Aside0.mk (show Calls Tryz.prog 18 #[.string (ofL l), .string ⟨#[13, 10]⟩, .string ⟨#[10]⟩] w fun e w' => e = .returned (.string (ofL (crlf l))) ∧ Below w.heap.size w w' by
    have h := Tryz.strings_ReplaceAll (ofL l) (ofL [13, 10]) (ofL [10]) m w (by rw [ofL_size]; omega) hm (by rw [ofL_size]; decide) (by
      have := countB_small l [13, 10] (by rw [ofL_size]; decide)
      rw [ofL_size, ofL_size]; simp only [List.length_cons, List.length_nil]; omega)
    rw [ofL_list, ofL_list, ofL_list, crlf_rep] at h
    exact h)
  have hcl := crlf_len l
  clear hm E
  go_enter Tryz.func10, Tryz.ntmps10
  go_wp2_with fail
  (with_reducible refine C1.out.mono ?_)
  rintro e w2 ⟨rfl, hb⟩
  have HB := Aside0.mk hb
  obtain ⟨m2, hm2⟩ := (HE.out.below hb).most
  have C2 := Aside0.mk (show Calls Tryz.prog 18 #[.string (ofL (crlf l)), .string ⟨#[13]⟩, .string ⟨#[10]⟩] w2 fun e w' => e = .returned (.string (ofL (linesL l))) ∧ Below w2.heap.size w2 w' by
    have h := Tryz.strings_ReplaceAll (ofL (crlf l)) (ofL [13]) (ofL [10]) m2 w2 (by rw [ofL_size]; omega) hm2 (by rw [ofL_size]; decide) (by
      have := countB_small (crlf l) [13] (by rw [ofL_size]; decide)
      rw [ofL_size, ofL_size]; simp only [List.length_cons, List.length_nil]; omega)
    rw [ofL_list, ofL_list, ofL_list, nl_rep] at h
    exact h)
  clear hm2 hb C1
  go_wp2_with fail
  (with_reducible refine C2.out.mono ?_)
  rintro e w3 ⟨rfl, hb⟩
  have HB2 := Aside0.mk (below_step HB.out hb)
  clear hb C2
  go_wp2_with fail
  go_ret
  exact ⟨rfl, HB2.out⟩
end Go.Proofs.YtagihjlklbckmaaGreatDoor.Sc
