/-
  Package scope: Find; what bound gives.
-/
import Derived.Test.YtnidmlngkpkmlaaSc
namespace Go.Proofs.YtnidmlngkpkmlaaS
set_option linter.unusedVariables false
set_option linter.unusedSimpArgs false
open Go.RowKit Go.Proofs.YtnidmlngkpkmlaaK Go.Proofs.YtnidmlngkpkmlaaT

set_option maxRecDepth 100000 in
theorem find_any {B : Base} {w : World} (hS : St B [] w) (A : Option Addr) (cp : Nat) (l : List ApiObject) (s : ByteArray) (hC : kApiObject.C B.e A l) (hl : Small l) :
    CallsIn Fence.wide 0 Try.prog 15 #[.slice A l.length cp, .string s] w (Ret B (fun _ : Unit => True) (fun _ => .tuple #[.int .i64 ((firstOf l s).getD (0, 0)).1, .int .i64 ((firstOf l s).getD (0, 0)).2, .bool (firstOf l s).isSome]) (fun _ => [])) := by
  (refine enter Try.func15 rfl rfl hS ?_; simp only [List.zipIdx_cons, List.zipIdx_nil, List.map_cons, List.map_nil, Nat.reduceAdd, Nat.zero_add])
  refine wSeq ?_
  refine wRegion' ?_
  refine oAssign rfl ?_
  refine oAssign rfl ?_
  refine oAssign rfl ?_
  refine oNil ?_
  refine thn_n ?_
  refine wSeq ?_
  refine wRegion' ?_
  refine oMove rfl ?_
  (refine oCall rfl (by kernel_rfl) (fun w hS => frame hS (by repeat' (first | exact Split.nil | exact Pick.here | apply Split.cons | apply Pick.there)) (fun B' hB hS' => firsts_any hS' A cp l (Kd.C_grow hB hC) hl)) ?_; rintro m -)
  refine oMove rfl ?_
  refine oLookOk (ev := placeV) (m := firstOf l) keyE_str rfl rfl rfl (by repeat (first | exact Pick.here | apply Pick.there)) (r := placeV ((firstOf l s).getD (0, 0))) (by cases firstOf l s <;> rfl) ?_
  refine oMove rfl ?_
  refine oExt rfl (by repeat (first | exact GetAt.here | apply GetAt.there)) ?_
  refine oExt rfl (by repeat (first | exact GetAt.here | apply GetAt.there)) ?_
  refine oAlloc rfl (by first | exact CellsOf.agg | exact CellsOf.one rfl) (fun b7 => ?_)
  refine oStA rfl rfl rfl rfl (by repeat (first | exact Pick.here | apply Pick.there)) (by rfl) ?_
  refine oAssign rfl ?_
  refine oNil ?_
  refine thn_n ?_
  refine wSeq ?_
  refine wDraw2 rfl rfl [4] [0, 1, 2, 3, 5, 6] 7 (by kernel_rfl) rfl rfl rfl (fun w0 => ?_)
  refine oFld (n := 0) (m := 0) rfl rfl rfl ?_
  refine oLd rfl (by repeat (first | exact Pick.here | apply Pick.there)) rfl rfl ?_
  refine oFld (n := 1) (m := 1) rfl rfl rfl ?_
  refine oLd rfl (by repeat (first | exact Pick.here | apply Pick.there)) rfl rfl ?_
  refine oAssign rfl ?_
  refine oAssign rfl ?_
  refine oHead ?_
  refine oAssign rfl ?_
  refine oNilT ?_
  refine thn_n ?_
  refine wRet ?_
  refine fin_r ?_
  refine ⟨rfl, _, (ResL.cons (ResR.tmp rfl) (ResL.cons (ResR.tmp rfl) (ResL.cons (ResR.tmp rfl) ResL.nil))), ?_⟩
  exact ⟨(), trivial, rfl, (Leads.has (by repeat' (first | exact Has.nil | exact Pick.here | apply Has.cons | apply Pick.there)))⟩
theorem getD_of {α : Type} [Inhabited α] {l : List α} {i : Nat} {o : α} (h : l[i]? = some o) : l.getD i default = o := by rw [List.getD_eq_getElem?_getD, h]; rfl
abbrev boundV (r : Int × Int × Int) : Value := .tuple #[.agg #[.int .i64 r.1, .int .i64 r.2.1], .int .i64 r.2.2]
theorem bound_bad {l : List ApiObject} {i k : Int} (h : i < 0 ∨ (l.length : Int) ≤ i ∨ k < 0 ∨ ((l.getD i.toNat default).fSymbols.length : Int) ≤ k) : boundS l i k = (0, 0, 2) := by
  unfold boundS
  rw [if_pos]
  unfold badAt
  simp only [Bool.or_eq_true, decide_eq_true_eq]
  rcases h with h | h | h | h
  · exact .inl (.inl (.inl h))
  · exact .inl (.inl (.inr h))
  · exact .inl (.inr h)
  · exact .inr h
theorem bound_good {l : List ApiObject} {i k : Nat} {o : ApiObject} {x : ApiSymbol} (ho : l[i]? = some o) (hx : o.fSymbols[k]? = some x) : boundS l i k = if x.fDef ≠ -1 then ((i : Int), (k : Int), (0 : Int)) else match firstOf l x.fName with
    | none => (0, 0, 13)
    | some p => if (symAt l p.1 p.2).fSort ≠ x.fSort ∨ (symAt l p.1 p.2).fKind ≠ x.fKind then (0, 0, 14) else ((p.1 : Int), (p.2 : Int), (0 : Int)) := by
  have hi := (List.getElem?_eq_some_iff.1 ho).1
  have hk := (List.getElem?_eq_some_iff.1 hx).1
  have hm : (i, k, x) ∈ symsFrom 0 l := mem_syms.2 ⟨hi, by rw [getD_of ho]; exact hk, by rw [getD_of ho, getD_of hx]⟩
  obtain ⟨hs, hb⟩ := symAt_eq hm
  unfold boundS; rw [hb, hs]; simp only [Bool.false_eq_true, if_false]; cases firstOf l x.fName <;> rfl

end Go.Proofs.YtnidmlngkpkmlaaS
