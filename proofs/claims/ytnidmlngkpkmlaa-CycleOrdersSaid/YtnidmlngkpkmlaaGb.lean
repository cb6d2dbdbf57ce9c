/-
  Package digraph: Clean; the library's Sorted.
-/
import Derived.Test.YtnidmlngkpkmlaaGa
import Derived.Test.YtnidmlngkpkmlaaKs
import Derived.Test.YtnidmlngkpkmlaaLay
namespace Go.Proofs.YtnidmlngkpkmlaaG
set_option linter.unusedVariables false
set_option linter.unusedSimpArgs false
open Go.RowKit Go.Proofs.YtnidmlngkpkmlaaK Go.Proofs.YtnidmlngkpkmlaaT Go.Proofs.YtnidmlngkpkmlaaL

def SmallG (g : Graph) : Prop := g.length ≤ 1000 ∧ ∀ l ∈ g, l.length ≤ 1000
theorem ends_le {g : Graph} (h : SmallG g) (a : Nat) : (endsOf g a).length ≤ 1000 := by
  unfold endsOf
  refine Nat.le_trans (List.length_filter_le _ _) ?_
  by_cases ha : a < g.length
  · rw [getD_at (List.getElem?_eq_getElem ha)]
    exact h.2 _ (List.getElem_mem ha)
  · rw [List.getD_eq_getElem?_getD, List.getElem?_eq_none (by omega)]; simp
def cl (g : Graph) (a : Nat) : List Int := Lib.compact ((endsOf g a).mergeSort leI)
def cleanTo (g : Graph) (a : Nat) : Graph := (List.range g.length).map fun i => if i < a then cl g i else []
def cleanG (g : Graph) : Graph := (List.range g.length).map (cl g)
theorem cleanTo_zero (g : Graph) : cleanTo g 0 = List.replicate g.length [] := by
  unfold cleanTo
  apply List.ext_getElem?
  intro i
  rw [List.getElem?_map, List.getElem?_replicate]
  by_cases h : i < g.length
  · simp [h]
  · simp [h]
theorem cleanTo_all (g : Graph) : cleanTo g g.length = cleanG g := by
  unfold cleanTo cleanG
  apply List.map_congr_left
  intro i hi
  rw [if_pos (List.mem_range.1 hi)]
theorem cleanTo_len (g : Graph) (a : Nat) : (cleanTo g a).length = g.length := by simp [cleanTo]
theorem cleanG_len (g : Graph) : (cleanG g).length = g.length := by simp [cleanG]
theorem cleanTo_at {g : Graph} {a : Nat} (h : a < g.length) : (cleanTo g a)[a]? = some [] := by simp [cleanTo, h]
theorem cleanTo_succ {g : Graph} {a : Nat} (h : a < g.length) : (cleanTo g a).set a (cl g a) = cleanTo g (a + 1) := by
  apply List.ext_getElem?
  intro i
  rw [List.getElem?_set]
  by_cases e : a = i
  · subst e; simp [cleanTo, h]
  · rw [if_neg e]
    unfold cleanTo
    rw [List.getElem?_map, List.getElem?_map]
    cases hr : (List.range g.length)[i]? with
    | none => rfl
    | some j =>
      obtain ⟨hi, rfl⟩ := List.getElem?_eq_some_iff.1 hr
      simp only [List.getElem_range, Option.map_some, Option.some.injEq]
      by_cases h1 : i < a
      · rw [if_pos h1, if_pos (by omega)]
      · rw [if_neg h1, if_neg (by omega)]

set_option maxRecDepth 100000 in
theorem sorted_any {B : Base} {w : World} (g : Graph) (A : Option Addr) (cp a p2 p3 : Nat) (hS : St B [blk p2 68 [.slice A g.length cp], blk p3 3 [.int .i64 (a : Int)]] w) (hC : kII.C B.e A g) (ha : a < g.length) (hsm : (endsOf g a).length ≤ 1000) (W0 : World) :
    CallsIn Fence.wide 0 Try.prog 77 #[.func (.func 78) #[] #[.pointer (some ⟨p2, 0, none⟩), .pointer (some ⟨p3, 0, none⟩)]] w
      (Ret B (fun _ : Option Addr × Nat => True) (fun z => .slice z.1 (endsOf g a).length z.2) (fun z => [row (Kd.int .i64) W0 3 (.slice z.1 (endsOf g a).length z.2) ((endsOf g a).mergeSort leI)])) := by
  (refine enter Try.func77 rfl rfl hS ?_; simp only [List.zipIdx_cons, List.zipIdx_nil, List.map_cons, List.map_nil, Nat.reduceAdd, Nat.zero_add])
  refine wSeq ?_
  refine wRegion' ?_
  refine oAssign rfl ?_
  refine oNil ?_
  refine thn_n ?_
  refine wSeq ?_
  refine wRegion' ?_
  refine oMove rfl ?_
  (refine oCall rfl (by kernel_rfl) (fun w hS => frame hS (by repeat' (first | exact Split.nil | exact Pick.here | apply Split.cons | apply Pick.there)) (fun B' hB hS' => collect_any g A cp a p2 p3 hS' (Kd.C_grow hB hC) ha (by omega) W0)) ?_; rintro ⟨A1, c1⟩ -)
  refine oAssign rfl ?_
  refine oNil ?_
  refine thn_n ?_
  refine wSeq ?_
  refine wRegion' ?_
  refine oMove rfl ?_
  (refine oCall rfl (by kernel_rfl) (fun w hS => frame hS (by repeat' (first | exact Split.nil | exact Pick.here | apply Split.cons | apply Pick.there)) (fun B' hB hS' => sort_int laysn189_at hS' (by omega))) ?_; rintro ⟨⟩ -)
  refine oNil ?_
  refine thn_n ?_
  refine wSeq ?_
  refine wRegion' ?_
  refine oMove rfl ?_
  refine oAssign rfl ?_
  refine oNil ?_
  refine thn_n ?_
  refine wRet ?_
  refine fin_r ?_
  refine ⟨rfl, _, (ResL.cons (ResR.tmp rfl) ResL.nil), ?_⟩
  exact ⟨(A1, c1), trivial, rfl, (Leads.has (by repeat' (first | exact Has.nil | exact Pick.here | apply Has.cons | apply Pick.there)))⟩
set_option maxRecDepth 100000 in
set_option maxHeartbeats 600000 in
theorem clean_any {B : Base} {w : World} (hS : St B [] w) (g : Graph) (A : Option Addr) (cp : Nat) (hC : kII.C B.e A g) (hsm : SmallG g) (W0 : World) :
    CallsIn Fence.wide 0 Try.prog 74 #[.slice A g.length cp] w
      (Ret B (fun z : Option Addr × Nat × List Hdr => z.2.2.length = g.length) (fun z => .slice z.1 g.length z.2.1) (fun z => [row kHdr W0 50 (.slice z.1 g.length z.2.1) z.2.2, bun (rws (Kd.int .i64) W0 3 z.2.2 (cleanG g))])) := by
  have hn := hsm.1
  (refine enter Try.func74 rfl rfl hS ?_; simp only [List.zipIdx_cons, List.zipIdx_nil, List.map_cons, List.map_nil, Nat.reduceAdd, Nat.zero_add])
  refine wSeq ?_
  refine wRegion' ?_
  refine oAssign rfl ?_
  refine oNil ?_
  refine thn_n ?_
  refine wSeq ?_
  refine wRegion' ?_
  refine oMove rfl ?_
  refine oLenS rfl rfl ?_
  refine oMake (kd := kHdr) (W := W0) ((none, 0, 0) : Hdr) rfl rfl rfl rfl rfl rfl (by omega) rfl (fun g7 => ?_)
  refine oConv (rws_new (kd := Kd.int .i64) (W := W0) (ei := 3) g.length) ?_
  refine oAssign rfl ?_
  refine oNil ?_
  refine thn_n ?_
  refine wSeq ?_
  refine wSeq ?_
  refine wRegion' ?_
  refine oMove rfl ?_
  refine oLenS rfl rfl ?_
  refine oMove rfl ?_
  refine oNil ?_
  refine thn_n ?_
  refine wBlock ?_
  refine wLoop (ι := Nat × List Hdr) (fun z => [(0, .slice A g.length cp), (3, .slice (some ⟨g7, 0, none⟩) g.length g.length), (9, .int .i64 (g.length : Int)), (10, .int .i64 (z.1 : Int))]) (fun z => [row kHdr W0 50 (.slice (some ⟨g7, 0, none⟩) g.length g.length) z.2, bun (rws (Kd.int .i64) W0 3 z.2 (cleanTo g z.1))]) (fun z => z.1 ≤ g.length ∧ z.2.length = g.length) (fun z => g.length - z.1) (0, List.replicate g.length (none, 0, 0)) ?_ (by repeat (first | exact trivial | refine And.intro rfl ?_)) (by rw [cleanTo_zero]; exact (Leads.has (by repeat' (first | exact Has.nil | exact Pick.here | apply Has.cons | apply Pick.there)))) ?_
  ·
    exact ⟨Nat.zero_le _, by simp⟩
  ·
    rintro ⟨a, hs⟩ ⟨ha, hl⟩
    dsimp only at ha hl
    dsimp only
    refine wSeq ?_
    refine wRegion' ?_
    refine oLss rfl rfl ?_
    refine oNil ?_
    refine thn_n ?_
    refine wSeq ?_
    first | refine wCond rfl (fun h11 => ?_) (fun h11 => ?_) | refine wCondB rfl (fun h11 => ?_) (fun h11 => ?_)
    ·
      refine wSkip ?_
      refine thn_n ?_
      refine wSeq ?_
      refine wBlock ?_
      refine wSeq ?_
      refine wRegion' ?_
      refine oMove rfl ?_
      refine oAssign rfl ?_
      refine oNil ?_
      refine thn_n ?_
      refine wRegion' ?_
      refine oMove rfl ?_
      refine oMove rfl ?_
      refine oMove rfl ?_
      refine oMove rfl ?_
      (refine oCall rfl (by kernel_rfl) (fun w hS => frame hS (by repeat' (first | exact Split.nil | exact Pick.here | apply Split.cons | apply Pick.there)) (fun B' hB hS' => ends_any hS' A g.length cp (a : Int))) ?_; rintro ⟨p2, p3⟩ -)
      (refine oCall rfl (by kernel_rfl) (fun w hS => frame hS (by repeat' (first | exact Split.nil | exact Pick.here | apply Split.cons | apply Pick.there)) (fun B' hB hS' => sorted_any g A cp a p2 p3 hS' (Kd.C_grow hB hC) (by omega) (ends_le hsm a) W0)) ?_; rintro ⟨A18, c18⟩ -)
      (refine oCall rfl (by kernel_rfl) (fun w hS => frame hS (by repeat' (first | exact Split.nil | exact Pick.here | apply Split.cons | apply Pick.there)) (fun B' hB hS' => compact_int lays2n20_at hS' (by rw [List.length_mergeSort]; have := ends_le hsm a; omega))) ?_; rintro ⟨⟩ -)
      refine oFocus (i := a) (by repeat (first | exact Pick.here | apply Pick.there)) (List.getElem?_eq_getElem (by omega)) (cleanTo_at (by omega)) ?_
      refine oBack (kd := Kd.int .i64) (W := W0) (ei := 3) (hs := hs) (xss := cleanTo g a) (i := a) (u := (A18, (cl g a).length, c18)) (xs := cl g a) (by repeat (first | exact Pick.here | apply Pick.there)) (by repeat (first | exact Pick.here | apply Pick.there)) (by omega) (by rw [cleanTo_len]; exact hl) ?_
      rw [cleanTo_succ (by omega)]
      refine oIdxR rfl rfl (by repeat (first | exact Pick.here | apply Pick.there)) (by omega) rfl rfl (fun g20 hg20 => ?_)
      first | subst hg20 | (injection hg20 with hg20; injection hg20 with hg20; subst hg20)
      refine oStR (enc := hV) (A18, (cl g a).length, c18) rfl rfl rfl rfl (by repeat (first | exact Pick.here | apply Pick.there)) (by omega) ?_
      refine oNil ?_
      refine blk_n ?_
      refine thn_n ?_
      refine wRegion' ?_
      refine oSucc rfl rfl (by omega) ?_
      refine oMove rfl ?_
      refine oNil ?_
      refine thn_n ?_
      exact ⟨rfl, (a + 1, hs.set a (A18, (cl g a).length, c18)), ⟨by show a + 1 ≤ _; omega, by show (hs.set _ _).length = _; rw [List.length_set]; exact hl⟩, by show g.length - (a + 1) < g.length - a; omega, (by repeat (first | exact trivial | refine And.intro rfl ?_)), (Leads.has (by repeat' (first | exact Has.nil | exact Pick.here | apply Has.cons | apply Pick.there)))⟩
    ·
      obtain rfl : a = g.length := by omega
      rw [cleanTo_all]
      refine wExit ?_
      refine thn_x ?_
      refine thn_x ?_
      refine blk_x ?_
      refine thn_n ?_
      refine wSeq ?_
      refine wRegion' ?_
      refine oMove rfl ?_
      refine oAssign rfl ?_
      refine oNil ?_
      refine thn_n ?_
      refine wRet ?_
      refine fin_r ?_
      refine ⟨rfl, _, (ResL.cons (ResR.tmp rfl) ResL.nil), ?_⟩
      exact ⟨(some ⟨g7, 0, none⟩, g.length, hs), hl, rfl, (Leads.has (by repeat' (first | exact Has.nil | exact Pick.here | apply Has.cons | apply Pick.there)))⟩
end Go.Proofs.YtnidmlngkpkmlaaG
