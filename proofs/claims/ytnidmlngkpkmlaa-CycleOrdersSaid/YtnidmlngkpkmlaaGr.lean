/-
  sheerleglaw11: known.
-/
import Derived.Test.YtnidmlngkpkmlaaGq
namespace Go.Proofs.YtnidmlngkpkmlaaG
set_option linter.unusedVariables false
set_option linter.unusedSimpArgs false
open Go.RowKit Go.Proofs.YtnidmlngkpkmlaaK Go.Proofs.YtnidmlngkpkmlaaT Go.Proofs.YtnidmlngkpkmlaaL

def kg0 : Graph := [[2], [0], []]
def kg1 : Graph := [[1], [0]]
def kg2 : Graph := [[1], [0], [0]]
def kin : List Bool := [true, true, true]
theorem ord_kg0 : ordL kg0 kin = [1, 0, 2] := by decide
theorem ok_kg0 : okO kg0 kin = true := by decide
theorem back_kg0 : ordL (turnG kg0) kin = [2, 0, 1] := by decide
theorem bok_kg0 : okO (turnG kg0) kin = true := by decide
theorem ok_kg1 : okO kg1 kin = false := by decide
theorem small_kg0 : SmallG kg0 := by unfold SmallG; decide
theorem small_kg1 : SmallG kg1 := by unfold SmallG; decide
theorem small_kg2 : SmallG kg2 := by unfold SmallG; decide
theorem on_kg2 : onL kg2 kin = [0, 1] := by
  have hw : withinR kg2 kin = kg2 := by decide
  have h01 : (0 : Int) ∈ endsOf kg2 1 := by decide
  have h10 : (1 : Int) ∈ endsOf kg2 0 := by decide
  have e0 : ∀ a x, x ∈ endsOf kg2 a → x = 0 ∨ x = 1 := by
    intro a x hx
    match a, hx with
    | 0, hx => right; simpa [kg2, endsOf, inG] using hx
    | 1, hx => left; simpa [kg2, endsOf, inG] using hx
    | 2, hx => left; simpa [kg2, endsOf, inG] using hx
    | a + 3, hx => simp [kg2, endsOf] at hx
  have s0 : RP kg2 [1] 1 := .start (by decide) (by decide)
  have s1 : RP kg2 [0] 0 := .start (by decide) (by decide)
  have p0 : onP kg2 0 = true := onP_iff.2 (show RP kg2 [1] 0 from .step (a := 1) s0 h01)
  have p1 : onP kg2 1 = true := onP_iff.2 (show RP kg2 [0] 1 from .step (a := 0) s1 h10)
  have p2 : onP kg2 2 = false := by
    cases h : onP kg2 2 with
    | false => rfl
    | true =>
      have h2 : RP kg2 [0] 2 := onP_iff.1 h
      have : ∀ x, RP kg2 [0] x → x = 0 ∨ x = 1 := by
        intro x hx
        cases hx with
        | start h1 _ => left; simpa using h1
        | step _ h2 => exact e0 _ _ h2
      have := this 2 h2
      omega
  have m : ∀ a : Int, memF kg2 kin a = (decide (0 ≤ a) && decide (a < 3) && decide (a < 3) && kin.getD a.toNat false) := fun a => rfl
  unfold onL selTo
  rw [hw]
  show ((List.range 3).filter _).map _ = _
  rw [show List.range 3 = [0, 1, 2] from rfl]
  rw [List.filter_cons_of_pos (by rw [p0]; decide), List.filter_cons_of_pos (by rw [p1]; decide), List.filter_cons_of_neg (by rw [p2]; simp)]
  rfl
theorem int_K {w : World} {A0 : Option Addr} {l : List Int} {n c0 : Nat} (h : (Kd.int .i64).C w A0 l) (hn : l.length = n) (hc : n ≤ c0) : (Kd.slice (Kd.int .i64)).K w l [.slice A0 n c0] := by
  subst hn
  exact ⟨A0, c0, rfl, hc, h⟩
theorem C_ints {w : World} {b : Nat} {l : List Int} {cs : List Value} (h : (blk b 3 cs).q w) (hc : cs = l.map (fun x => Value.int .i64 x)) (hl : l.length ≤ 100) : (Kd.int .i64).C w (some ⟨b, 0, none⟩) l := C_blk (kd := Kd.int .i64) h (by omega) (cat_scalar.2 hc)
theorem C_bools {w : World} {b : Nat} {l : List Bool} {cs : List Value} (h : (blk b 4 cs).q w) (hc : cs = l.map (fun x => Value.bool x)) (hl : l.length ≤ 100) : Kd.bool.C w (some ⟨b, 0, none⟩) l := C_blk (kd := Kd.bool) h (by omega) (cat_scalar.2 hc)
theorem C_kg0 {w : World} {b1 b2 b3 : Nat} (h1 : (blk b1 3 [.int .i64 2]).q w) (h2 : (blk b2 3 [.int .i64 0]).q w) (h3 : (blk b3 50 [.slice (some ⟨b1, 0, none⟩) 1 1, .slice (some ⟨b2, 0, none⟩) 1 1, .slice none 0 0]).q w) : kII.C w (some ⟨b3, 0, none⟩) kg0 :=
  C_blk h3 (by decide) (Cat.app (Cat.one (int_K (l := [2]) (C_ints h1 rfl (by decide)) rfl (by decide))) (Cat.app (Cat.one (int_K (l := [0]) (C_ints h2 rfl (by decide)) rfl (by decide))) (Cat.one (int_K (l := []) (Kd.C_nil _ _ _) rfl (by decide)))))
theorem C_kg1 {w : World} {b1 b2 b3 : Nat} (h1 : (blk b1 3 [.int .i64 1]).q w) (h2 : (blk b2 3 [.int .i64 0]).q w) (h3 : (blk b3 50 [.slice (some ⟨b1, 0, none⟩) 1 1, .slice (some ⟨b2, 0, none⟩) 1 1]).q w) : kII.C w (some ⟨b3, 0, none⟩) kg1 :=
  C_blk h3 (by decide) (Cat.app (Cat.one (int_K (l := [1]) (C_ints h1 rfl (by decide)) rfl (by decide))) (Cat.one (int_K (l := [0]) (C_ints h2 rfl (by decide)) rfl (by decide))))
theorem C_kg2 {w : World} {b1 b2 b4 b3 : Nat} (h1 : (blk b1 3 [.int .i64 1]).q w) (h2 : (blk b2 3 [.int .i64 0]).q w) (h4 : (blk b4 3 [.int .i64 0]).q w) (h3 : (blk b3 50 [.slice (some ⟨b1, 0, none⟩) 1 1, .slice (some ⟨b2, 0, none⟩) 1 1, .slice (some ⟨b4, 0, none⟩) 1 1]).q w) : kII.C w (some ⟨b3, 0, none⟩) kg2 :=
  C_blk h3 (by decide) (Cat.app (Cat.one (int_K (l := [1]) (C_ints h1 rfl (by decide)) rfl (by decide))) (Cat.app (Cat.one (int_K (l := [0]) (C_ints h2 rfl (by decide)) rfl (by decide))) (Cat.one (int_K (l := [0]) (C_ints h4 rfl (by decide)) rfl (by decide)))))
set_option maxRecDepth 100000 in
set_option maxHeartbeats 1000000 in
theorem known11 {B : Base} {w : World} (hS : St B [] w) :
    CallsIn Fence.wide 0 Try.prog 34 #[] w (Ret B (fun _ : Unit => True) (fun _ => .bool true) (fun _ => [])) := by
  (refine enter Try.func34 rfl rfl hS ?_; simp only [List.zipIdx_cons, List.zipIdx_nil, List.map_cons, List.map_nil, Nat.reduceAdd, Nat.zero_add])
  refine wSeq ?_
  refine wRegion' ?_
  refine oAssign rfl ?_
  refine oNil ?_
  refine thn_n ?_
  refine wSeq ?_
  refine wRegion' ?_
  refine oBuildSliceF (Parts.cons rfl (Parts.cons rfl (Parts.cons rfl Parts.nil))) rfl rfl rfl rfl rfl (Fulls.cons (by first | exact CellsOf.agg | exact CellsOf.one rfl) rfl (Fulls.cons (by first | exact CellsOf.agg | exact CellsOf.one rfl) rfl (Fulls.cons (by first | exact CellsOf.agg | exact CellsOf.one rfl) rfl Fulls.nil (by repeat (first | exact AppL.nil | apply AppL.cons))) (by repeat (first | exact AppL.nil | apply AppL.cons))) (by repeat (first | exact AppL.nil | apply AppL.cons))) (fun b8 => ?_)
  refine oAssign rfl ?_
  refine oNil ?_
  refine thn_n ?_
  refine wSeq ?_
  refine wRegion' ?_
  refine oBuildSlice1 rfl rfl rfl rfl rfl (by first | exact CellsOf.agg | exact CellsOf.one rfl) rfl (fun b10 => ?_)
  refine oBuildSlice1 rfl rfl rfl rfl rfl (by first | exact CellsOf.agg | exact CellsOf.one rfl) rfl (fun b11 => ?_)
  refine oBuildSliceF (Parts.cons rfl (Parts.cons rfl (Parts.cons rfl Parts.nil))) rfl rfl rfl rfl rfl (Fulls.cons (by first | exact CellsOf.agg | exact CellsOf.one rfl) rfl (Fulls.cons (by first | exact CellsOf.agg | exact CellsOf.one rfl) rfl (Fulls.cons (by first | exact CellsOf.agg | exact CellsOf.one rfl) rfl Fulls.nil (by repeat (first | exact AppL.nil | apply AppL.cons))) (by repeat (first | exact AppL.nil | apply AppL.cons))) (by repeat (first | exact AppL.nil | apply AppL.cons))) (fun b12 => ?_)
  refine oMove rfl ?_
  (refine oCall rfl (by kernel_rfl) (fun w hS => frame' hS .nil (fun B' hB hR hS' => orderP hS' kg0 (some ⟨b12, 0, none⟩) 3 (C_kg0 (b1 := b10) (b2 := b11) (hR _ _ (by repeat (first | exact Pick.here | apply Pick.there))) (hR _ _ (by repeat (first | exact Pick.here | apply Pick.there))) (hR _ _ (by repeat (first | exact Pick.here | apply Pick.there)))) small_kg0 kin (some ⟨b8, 0, none⟩) 3 (C_bools (hR _ _ (by repeat (first | exact Pick.here | apply Pick.there))) rfl (by decide)) (by decide) B.e)) ?_; rintro ⟨A14, c14⟩ -)
  rw [ord_kg0, ok_kg0]; try dsimp only
  refine oMove rfl ?_
  refine oExt rfl (by repeat (first | exact GetAt.here | apply GetAt.there)) ?_
  refine oExt rfl (by repeat (first | exact GetAt.here | apply GetAt.there)) ?_
  refine oAssign rfl ?_
  refine oAssign rfl ?_
  refine oNil ?_
  refine thn_n ?_
  refine wSeq ?_
  refine wRegion' ?_
  refine oBuildSlice1 rfl rfl rfl rfl rfl (by first | exact CellsOf.agg | exact CellsOf.one rfl) rfl (fun b18 => ?_)
  refine oBuildSlice1 rfl rfl rfl rfl rfl (by first | exact CellsOf.agg | exact CellsOf.one rfl) rfl (fun b19 => ?_)
  refine oBuildSliceF (Parts.cons rfl (Parts.cons rfl (Parts.cons rfl Parts.nil))) rfl rfl rfl rfl rfl (Fulls.cons (by first | exact CellsOf.agg | exact CellsOf.one rfl) rfl (Fulls.cons (by first | exact CellsOf.agg | exact CellsOf.one rfl) rfl (Fulls.cons (by first | exact CellsOf.agg | exact CellsOf.one rfl) rfl Fulls.nil (by repeat (first | exact AppL.nil | apply AppL.cons))) (by repeat (first | exact AppL.nil | apply AppL.cons))) (by repeat (first | exact AppL.nil | apply AppL.cons))) (fun b20 => ?_)
  refine oMove rfl ?_
  (refine oCall rfl (by kernel_rfl) (fun w hS => frame' hS .nil (fun B' hB hR hS' => backP hS' kg0 (some ⟨b20, 0, none⟩) 3 (C_kg0 (b1 := b18) (b2 := b19) (hR _ _ (by repeat (first | exact Pick.here | apply Pick.there))) (hR _ _ (by repeat (first | exact Pick.here | apply Pick.there))) (hR _ _ (by repeat (first | exact Pick.here | apply Pick.there)))) small_kg0 kin (some ⟨b8, 0, none⟩) 3 (C_bools (hR _ _ (by repeat (first | exact Pick.here | apply Pick.there))) rfl (by decide)) (by decide) B.e)) ?_; rintro ⟨A22, c22⟩ -)
  rw [back_kg0, bok_kg0]; try dsimp only
  refine oMove rfl ?_
  refine oExt rfl (by repeat (first | exact GetAt.here | apply GetAt.there)) ?_
  refine oExt rfl (by repeat (first | exact GetAt.here | apply GetAt.there)) ?_
  refine oAssign rfl ?_
  refine oAssign rfl ?_
  refine oNil ?_
  refine thn_n ?_
  refine wSeq ?_
  refine wRegion' ?_
  refine oBuildSlice1 rfl rfl rfl rfl rfl (by first | exact CellsOf.agg | exact CellsOf.one rfl) rfl (fun b26 => ?_)
  refine oBuildSlice1 rfl rfl rfl rfl rfl (by first | exact CellsOf.agg | exact CellsOf.one rfl) rfl (fun b27 => ?_)
  refine oBuildSliceF (Parts.cons rfl (Parts.cons rfl Parts.nil)) rfl rfl rfl rfl rfl (Fulls.cons (by first | exact CellsOf.agg | exact CellsOf.one rfl) rfl (Fulls.cons (by first | exact CellsOf.agg | exact CellsOf.one rfl) rfl Fulls.nil (by repeat (first | exact AppL.nil | apply AppL.cons))) (by repeat (first | exact AppL.nil | apply AppL.cons))) (fun b28 => ?_)
  refine oMove rfl ?_
  (refine oCall rfl (by kernel_rfl) (fun w hS => frame' hS .nil (fun B' hB hR hS' => orderP hS' kg1 (some ⟨b28, 0, none⟩) 2 (C_kg1 (b1 := b26) (b2 := b27) (hR _ _ (by repeat (first | exact Pick.here | apply Pick.there))) (hR _ _ (by repeat (first | exact Pick.here | apply Pick.there))) (hR _ _ (by repeat (first | exact Pick.here | apply Pick.there)))) small_kg1 kin (some ⟨b8, 0, none⟩) 3 (C_bools (hR _ _ (by repeat (first | exact Pick.here | apply Pick.there))) rfl (by decide)) (by decide) B.e)) ?_; rintro ⟨A30, c30⟩ -)
  rw [ok_kg1]; try dsimp only
  refine oMove rfl ?_
  refine oExt rfl (by repeat (first | exact GetAt.here | apply GetAt.there)) ?_
  refine oExt rfl (by repeat (first | exact GetAt.here | apply GetAt.there)) ?_
  refine oAssign rfl ?_
  refine oAssign rfl ?_
  refine oNil ?_
  refine thn_n ?_
  refine wSeq ?_
  refine wRegion' ?_
  refine oMove rfl ?_
  refine oBuildSliceF (Parts.cons rfl (Parts.cons rfl (Parts.cons rfl Parts.nil))) rfl rfl rfl rfl rfl (Fulls.cons (by first | exact CellsOf.agg | exact CellsOf.one rfl) rfl (Fulls.cons (by first | exact CellsOf.agg | exact CellsOf.one rfl) rfl (Fulls.cons (by first | exact CellsOf.agg | exact CellsOf.one rfl) rfl Fulls.nil (by repeat (first | exact AppL.nil | apply AppL.cons))) (by repeat (first | exact AppL.nil | apply AppL.cons))) (by repeat (first | exact AppL.nil | apply AppL.cons))) (fun b34 => ?_)
  (refine oCall rfl (by kernel_rfl) (fun w hS => frame' hS .nil (fun B' hB hR hS' => ints_any hS' A14 c14 [1, 0, 2] (row_C (kd := Kd.int .i64) (W := B.e) (e := 3) (A := A14) (n := 3) (cp := c14) (xs := [1, 0, 2]) (hR _ _ (by repeat (first | exact Pick.here | apply Pick.there))) hB).2.2.1 (some ⟨b34, 0, none⟩) 3 [1, 0, 2] (C_ints (hR _ _ (by repeat (first | exact Pick.here | apply Pick.there))) rfl (by decide)))) ?_; rintro ⟨⟩ -)
  refine oMove rfl ?_
  first | refine oSplit (t := 36) rfl (fun h36 => ?_) (fun h36 => ?_) | refine oSplitB (t := 36) rfl (fun h36 => ?_) (fun h36 => ?_)
  ·
    refine oWant rfl rfl ?_
    refine oMove rfl ?_
    refine oPickT rfl rfl ?_
    refine oMove rfl ?_
    first | refine oSplit (t := 39) rfl (fun h39 => ?_) (fun h39 => ?_) | refine oSplitB (t := 39) rfl (fun h39 => ?_) (fun h39 => ?_)
    ·
      refine oWant rfl rfl ?_
      refine oMove rfl ?_
      refine oWant rfl rfl ?_
      refine oBuildSliceF (Parts.cons rfl (Parts.cons rfl (Parts.cons rfl Parts.nil))) rfl rfl rfl rfl rfl (Fulls.cons (by first | exact CellsOf.agg | exact CellsOf.one rfl) rfl (Fulls.cons (by first | exact CellsOf.agg | exact CellsOf.one rfl) rfl (Fulls.cons (by first | exact CellsOf.agg | exact CellsOf.one rfl) rfl Fulls.nil (by repeat (first | exact AppL.nil | apply AppL.cons))) (by repeat (first | exact AppL.nil | apply AppL.cons))) (by repeat (first | exact AppL.nil | apply AppL.cons))) (fun b41 => ?_)
      refine oWant rfl rfl ?_
      (refine oCall rfl (by kernel_rfl) (fun w hS => frame' hS .nil (fun B' hB hR hS' => ints_any hS' A22 c22 [2, 0, 1] (row_C (kd := Kd.int .i64) (W := B.e) (e := 3) (A := A22) (n := 3) (cp := c22) (xs := [2, 0, 1]) (hR _ _ (by repeat (first | exact Pick.here | apply Pick.there))) hB).2.2.1 (some ⟨b41, 0, none⟩) 3 [2, 0, 1] (C_ints (hR _ _ (by repeat (first | exact Pick.here | apply Pick.there))) rfl (by decide)))) ?_; rintro ⟨⟩ -)
      refine oPickT rfl rfl ?_
      refine oMove rfl ?_
      first | refine oSplit (t := 44) rfl (fun h44 => ?_) (fun h44 => ?_) | refine oSplitB (t := 44) rfl (fun h44 => ?_) (fun h44 => ?_)
      ·
        refine oWant rfl rfl ?_
        refine oMove rfl ?_
        refine oPickT rfl rfl ?_
        refine oMove rfl ?_
        first | refine oSplit (t := 47) rfl (fun h47 => ?_) (fun h47 => ?_) | refine oSplitB (t := 47) rfl (fun h47 => ?_) (fun h47 => ?_)
        ·
          refine oWant rfl rfl ?_
          refine oMove rfl ?_
          refine oWant rfl rfl ?_
          first | refine oNot rfl ?_ | refine oNotB rfl ?_
          refine oPickT rfl rfl ?_
          refine oMove rfl ?_
          first | refine oSplit (t := 51) rfl (fun h51 => ?_) (fun h51 => ?_) | refine oSplitB (t := 51) rfl (fun h51 => ?_) (fun h51 => ?_)
          ·
            refine oWant rfl rfl ?_
            refine oBuildSlice1 rfl rfl rfl rfl rfl (by first | exact CellsOf.agg | exact CellsOf.one rfl) rfl (fun b52 => ?_)
            refine oWant rfl rfl ?_
            refine oBuildSlice1 rfl rfl rfl rfl rfl (by first | exact CellsOf.agg | exact CellsOf.one rfl) rfl (fun b53 => ?_)
            refine oWant rfl rfl ?_
            refine oBuildSlice1 rfl rfl rfl rfl rfl (by first | exact CellsOf.agg | exact CellsOf.one rfl) rfl (fun b54 => ?_)
            refine oWant rfl rfl ?_
            refine oBuildSliceF (Parts.cons rfl (Parts.cons rfl (Parts.cons rfl Parts.nil))) rfl rfl rfl rfl rfl (Fulls.cons (by first | exact CellsOf.agg | exact CellsOf.one rfl) rfl (Fulls.cons (by first | exact CellsOf.agg | exact CellsOf.one rfl) rfl (Fulls.cons (by first | exact CellsOf.agg | exact CellsOf.one rfl) rfl Fulls.nil (by repeat (first | exact AppL.nil | apply AppL.cons))) (by repeat (first | exact AppL.nil | apply AppL.cons))) (by repeat (first | exact AppL.nil | apply AppL.cons))) (fun b55 => ?_)
            refine oWant rfl rfl ?_
            refine oMove rfl ?_
            refine oWant rfl rfl ?_
            (refine oCall rfl (by kernel_rfl) (fun w hS => frame' hS .nil (fun B' hB hR hS' => on_any hS' kg2 (some ⟨b55, 0, none⟩) 3 (C_kg2 (b1 := b52) (b2 := b53) (b4 := b54) (hR _ _ (by repeat (first | exact Pick.here | apply Pick.there))) (hR _ _ (by repeat (first | exact Pick.here | apply Pick.there))) (hR _ _ (by repeat (first | exact Pick.here | apply Pick.there))) (hR _ _ (by repeat (first | exact Pick.here | apply Pick.there)))) small_kg2 kin (some ⟨b8, 0, none⟩) 3 (C_bools (hR _ _ (by repeat (first | exact Pick.here | apply Pick.there))) rfl (by decide)) (by decide) B.e)) ?_; rintro ⟨A57, c57⟩ -)
            rw [on_kg2]; try dsimp only
            refine oWant rfl rfl ?_
            refine oBuildSliceF (Parts.cons rfl (Parts.cons rfl Parts.nil)) rfl rfl rfl rfl rfl (Fulls.cons (by first | exact CellsOf.agg | exact CellsOf.one rfl) rfl (Fulls.cons (by first | exact CellsOf.agg | exact CellsOf.one rfl) rfl Fulls.nil (by repeat (first | exact AppL.nil | apply AppL.cons))) (by repeat (first | exact AppL.nil | apply AppL.cons))) (fun b58 => ?_)
            refine oWant rfl rfl ?_
            (refine oCall rfl (by kernel_rfl) (fun w hS => frame' hS .nil (fun B' hB hR hS' => ints_any hS' A57 c57 [0, 1] (row_C (kd := Kd.int .i64) (W := B.e) (e := 3) (A := A57) (n := 2) (cp := c57) (xs := [0, 1]) (hR _ _ (by repeat (first | exact Pick.here | apply Pick.there))) hB).2.2.1 (some ⟨b58, 0, none⟩) 2 [0, 1] (C_ints (hR _ _ (by repeat (first | exact Pick.here | apply Pick.there))) rfl (by decide)))) ?_; rintro ⟨⟩ -)
            refine oPickT rfl rfl ?_
            refine oAssign rfl ?_
            refine oNil ?_
            refine thn_n ?_
            refine wRet ?_
            refine fin_r ?_
            refine ⟨rfl, _, (ResL.cons (ResR.tmp rfl) ResL.nil), ?_⟩
            exact ⟨(), trivial, rfl, (Leads.has (by repeat' (first | exact Has.nil | exact Pick.here | apply Has.cons | apply Pick.there)))⟩
          ·
            first | exact absurd rfl h51 | cases h51
        ·
          first | exact absurd rfl h47 | cases h47
      ·
        first | exact absurd rfl h44 | cases h44
    ·
      first | exact absurd rfl h39 | cases h39
  ·
    first | exact absurd rfl h36 | cases h36
end Go.Proofs.YtnidmlngkpkmlaaG
