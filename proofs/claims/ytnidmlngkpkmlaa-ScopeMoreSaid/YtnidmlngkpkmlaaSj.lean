/-
  sheerleglaw23.ScopeMore: the plain law; walked.
-/
import Derived.Test.YtnidmlngkpkmlaaSi
namespace Go.Proofs.YtnidmlngkpkmlaaS
set_option linter.unusedVariables false
set_option linter.unusedSimpArgs false
open Go.RowKit Go.Proofs.YtnidmlngkpkmlaaK Go.Proofs.YtnidmlngkpkmlaaT

def loc (x : ApiSymbol) : ApiSymbol := ⟨x.fName, true, x.fSort, x.fKind, 0⟩
def more (o : ApiObject) : ApiObject := ⟨o.fSymbols.map loc, [], []⟩
theorem syms_app (m : ApiObject) : ∀ (l : List ApiObject) (i : Nat), symsFrom i (l ++ [m]) = symsFrom i l ++ fileSyms (i + l.length) m
  | [], i => by simp [symsFrom]
  | o :: l, i => by
    rw [List.cons_append, symsFrom, symsFrom, syms_app m l (i + 1), List.append_assoc, List.length_cons, show i + 1 + l.length = i + (l.length + 1) by omega]
theorem more_mem {o : ApiObject} {n i k : Nat} {x : ApiSymbol} (h : (i, k, x) ∈ fileSyms n (more o)) : isGlobal x = false ∧ x.fDef = 0 ∧ (i, k, x) ∈ fileSyms n (more o) := by
  refine ⟨?_, ?_, h⟩
  all_goals
    obtain ⟨j, hj, he⟩ := List.mem_mapIdx.1 h
    injection he with e1 e2
    injection e2 with e2 e3
    subst e3
    simp [more, loc, isGlobal]
theorem find_app {P : Nat × Nat × ApiSymbol → Bool} {l : List ApiObject} {o : ApiObject} (h : ∀ y ∈ fileSyms l.length (more o), P y = false) : (symsFrom 0 (l ++ [more o])).find? P = (symsFrom 0 l).find? P := by
  rw [syms_app, Nat.zero_add, List.find?_append]
  have : (fileSyms l.length (more o)).find? P = none := List.find?_eq_none.2 (fun y hy => by rw [h y hy]; simp)
  rw [this]
  cases (symsFrom 0 l).find? P <;> rfl
theorem first_app (l : List ApiObject) (o : ApiObject) (s : ByteArray) : firstOf (l ++ [more o]) s = firstOf l s := by
  rw [firstOf_eq, firstOf_eq, find_app]
  rintro ⟨i, k, x⟩ hy
  simp [isFirst, (more_mem hy).1]
theorem mem_app {l : List ApiObject} {o : ApiObject} {i k : Nat} {x : ApiSymbol} (h : (i, k, x) ∈ symsFrom 0 l) : (i, k, x) ∈ symsFrom 0 (l ++ [more o]) := by rw [syms_app]; exact List.mem_append_left _ h
theorem bound_app {l : List ApiObject} {o : ApiObject} {i k : Nat} {x : ApiSymbol} (h : (i, k, x) ∈ symsFrom 0 l) : boundS (l ++ [more o]) i k = boundS l i k := by
  obtain ⟨h1, h2⟩ := symAt_eq h
  obtain ⟨h3, h4⟩ := symAt_eq (mem_app (o := o) h)
  unfold boundS
  rw [h1, h2, h3, h4, first_app]
  cases hf : firstOf l x.fName with
  | none => rfl
  | some p =>
    obtain ⟨y, hy, _⟩ := first_some hf
    dsimp only
    rw [(symAt_eq hy).1, (symAt_eq (mem_app (o := o) hy)).1]
theorem check_app {l : List ApiObject} (o : ApiObject) (h0 : 0 < l.length) (h6 : l.length < 6) : checkS (l ++ [more o]) = checkS l := by
  have ht : twiceS (l ++ [more o]) = twiceS l := by
    unfold twiceS
    have e : twiceP (l ++ [more o]) = twiceP l := by funext y; unfold twiceP; rw [first_app]
    rw [e, find_app]
    rintro ⟨i, k, x⟩ hy
    simp [twiceP, (more_mem hy).1]
  have hu : (symsFrom 0 (l ++ [more o])).find? (unboundP (l ++ [more o])) = (symsFrom 0 l).find? (unboundP l) := by
    rw [find_app]
    · have key : ∀ L : List (Nat × Nat × ApiSymbol), (∀ y ∈ L, y ∈ symsFrom 0 l) → L.find? (unboundP (l ++ [more o])) = L.find? (unboundP l) := by
        intro L
        induction L with
        | nil => intro _; rfl
        | cons y L ih =>
          intro h
          obtain ⟨i, k, x⟩ := y
          have : unboundP (l ++ [more o]) (i, k, x) = unboundP l (i, k, x) := by
            unfold unboundP; rw [bound_app (h _ (List.mem_cons_self ..))]
          rw [List.find?_cons, List.find?_cons, this, ih (fun y hy => h y (List.mem_cons_of_mem _ hy))]
      exact key _ (fun _ h => h)
    · rintro ⟨i, k, x⟩ hy
      have hm : (i, k, x) ∈ symsFrom 0 (l ++ [more o]) := by rw [syms_app, Nat.zero_add]; exact List.mem_append_right _ hy
      obtain ⟨h1, h2⟩ := symAt_eq hm
      have : boundS (l ++ [more o]) i k = ((i : Int), (k : Int), (0 : Int)) := by
        unfold boundS; rw [h2, h1, (more_mem hy).2.1]; rfl
      simp [unboundP, this]
  unfold checkS
  rw [if_neg (by rw [List.length_append, List.length_singleton]; omega), if_neg (by omega), ht, hu]
  cases twiceS l with
  | some p => rfl
  | none =>
    dsimp only
    cases hf : (symsFrom 0 l).find? (unboundP l) with
    | none => rfl
    | some y =>
      obtain ⟨i, k, x⟩ := y
      dsimp only
      rw [bound_app (List.mem_of_find?_eq_some hf)]
theorem loc_take {l : List ApiSymbol} {k : Nat} {u : ApiSymbol} (hu : l[k]? = some u) : (l.map loc).take k ++ [loc u] = (l.map loc).take (k + 1) := by
  have h1 : k < (l.map loc).length := by simpa using (List.getElem?_eq_some_iff.1 hu).1
  rw [List.take_succ_eq_append_getElem h1]
  congr 2
  rw [List.getElem_map, (List.getElem?_eq_some_iff.1 hu).2]
theorem small_app {l : List ApiObject} {o : ApiObject} (h : l.length ≤ 9 ∧ ∀ o ∈ l, o.fSymbols.length ≤ 60) (ho : o.fSymbols.length ≤ 60) : Small (l ++ [more o]) := by
  refine ⟨by rw [List.length_append, List.length_singleton]; omega, fun x hx => ?_⟩
  rcases List.mem_append.1 hx with hx | hx
  · have := h.2 x hx; omega
  · obtain rfl := List.mem_singleton.1 hx
    show (o.fSymbols.map loc).length ≤ 1000
    rw [List.length_map]; omega

set_option maxRecDepth 100000 in
set_option maxHeartbeats 2000000 in
theorem More {B : Base} {w : World} (hS : St B [] w) (A : Option Addr) (cp : Nat) (l : List ApiObject) (hC : kApiObject.C B.e A l) (o : ApiObject) (cs : List Value) (hK : kApiObject.K B.e o cs) :
    CallsIn Fence.wide 0 Try.prog 5 #[.slice A l.length cp, .agg cs.toArray] w (Ret B (fun _ : Unit => True) (fun _ => .bool true) (fun _ => [])) := by
  obtain ⟨A0, c0, A1, c1, A2, c2, rfl, l0, g0, l1, g1, l2, g2⟩ := kApiObject_open hK
  have m0 := g0.1
  (refine enter Try.func5 rfl rfl hS ?_; simp only [List.zipIdx_cons, List.zipIdx_nil, List.map_cons, List.map_nil, Nat.reduceAdd, Nat.zero_add])
  refine wSeq ?_
  refine wRegion' ?_
  refine oBox rfl (by first | exact CellsOf.agg | exact CellsOf.one rfl) (fun b3 => ?_)
  refine oAssign rfl ?_
  refine oNil ?_
  refine thn_n ?_
  refine wSeq ?_
  refine wSeq ?_
  refine wRegion' ?_
  refine oMove rfl ?_
  (refine oCall rfl (by kernel_rfl) (fun w hS => frame hS (by repeat' (first | exact Split.nil | exact Pick.here | apply Split.cons | apply Pick.there)) (fun B' hB hS' => few24 hS' A cp l (Kd.C_grow hB hC))) ?_; rintro r hr)
  first | refine oNot rfl ?_ | refine oNotB rfl ?_
  refine oMove rfl ?_
  first | refine oSplit (t := 20) rfl (fun h20 => ?_) (fun h20 => ?_) | refine oSplitB (t := 20) rfl (fun h20 => ?_) (fun h20 => ?_)
  ·
    refine oSkip rfl rfl rfl rfl ?_
    refine oSkip rfl rfl rfl rfl ?_
    refine oSkip rfl rfl rfl rfl ?_
    refine oSkip rfl rfl rfl rfl ?_
    refine oPickT rfl rfl ?_
    refine oMove rfl ?_
    refine oSkip rfl rfl rfl rfl ?_
    refine oSkip rfl rfl rfl rfl ?_
    refine oSkip rfl rfl rfl rfl ?_
    refine oPickT rfl rfl ?_
    refine oNil ?_
    refine thn_n ?_
    refine wCondT rfl ?_
    refine wSeq ?_
    refine wRegion' ?_
    (refine oCall rfl (by kernel_rfl) (fun w hS => frame hS (by repeat' (first | exact Split.nil | exact Pick.here | apply Split.cons | apply Pick.there)) (fun B' hB hS' => known23 hS')) ?_; rintro ⟨⟩ -)
    refine oAssign rfl ?_
    refine oNil ?_
    refine thn_n ?_
    refine wRet ?_
    refine thn_r ?_
    refine fin_r ?_
    refine ⟨rfl, _, (ResL.cons (ResR.tmp rfl) ResL.nil), ?_⟩
    exact ⟨(), trivial, rfl, (Leads.has (by repeat' (first | exact Has.nil | exact Pick.here | apply Has.cons | apply Pick.there)))⟩
  ·
    have hf := hr (by simpa using h20)
    have hl : Small l := ⟨by omega, fun o ho => by have := hf.2 o ho; omega⟩
    refine oWant rfl rfl ?_
    refine oFld (n := 0) (m := 0) rfl rfl rfl ?_
    refine oWant rfl rfl ?_
    refine oLd rfl (by repeat (first | exact Pick.here | apply Pick.there)) rfl rfl ?_
    refine oWant rfl rfl ?_
    refine oLenS rfl rfl ?_
    refine oWant rfl rfl ?_
    refine oGtr rfl rfl ?_
    refine oPickF rfl rfl ?_
    refine oMove rfl ?_
    first | refine oSplit (t := 26) rfl (fun h26 => ?_) (fun h26 => ?_) | refine oSplitB (t := 26) rfl (fun h26 => ?_) (fun h26 => ?_)
    ·
      refine oSkip rfl rfl rfl rfl ?_
      refine oSkip rfl rfl rfl rfl ?_
      refine oSkip rfl rfl rfl rfl ?_
      refine oPickT rfl rfl ?_
      refine oNil ?_
      refine thn_n ?_
      refine wCondT rfl ?_
      refine wSeq ?_
      refine wRegion' ?_
      (refine oCall rfl (by kernel_rfl) (fun w hS => frame hS (by repeat' (first | exact Split.nil | exact Pick.here | apply Split.cons | apply Pick.there)) (fun B' hB hS' => known23 hS')) ?_; rintro ⟨⟩ -)
      refine oAssign rfl ?_
      refine oNil ?_
      refine thn_n ?_
      refine wRet ?_
      refine thn_r ?_
      refine fin_r ?_
      refine ⟨rfl, _, (ResL.cons (ResR.tmp rfl) ResL.nil), ?_⟩
      exact ⟨(), trivial, rfl, (Leads.has (by repeat' (first | exact Has.nil | exact Pick.here | apply Has.cons | apply Pick.there)))⟩
    ·
      refine oWant rfl rfl ?_
      refine oMove rfl ?_
      refine oWant rfl rfl ?_
      refine oLenS rfl rfl ?_
      refine oWant rfl rfl ?_
      refine oGeq rfl rfl ?_
      refine oPickF rfl rfl ?_
      refine oNil ?_
      refine thn_n ?_
      first | refine wCond rfl (fun h30 => ?_) (fun h30 => ?_) | refine wCondB rfl (fun h30 => ?_) (fun h30 => ?_)
      ·
        refine wSeq ?_
        refine wRegion' ?_
        (refine oCall rfl (by kernel_rfl) (fun w hS => frame hS (by repeat' (first | exact Split.nil | exact Pick.here | apply Split.cons | apply Pick.there)) (fun B' hB hS' => known23 hS')) ?_; rintro ⟨⟩ -)
        refine oAssign rfl ?_
        refine oNil ?_
        refine thn_n ?_
        refine wRet ?_
        refine thn_r ?_
        refine fin_r ?_
        refine ⟨rfl, _, (ResL.cons (ResR.tmp rfl) ResL.nil), ?_⟩
        exact ⟨(), trivial, rfl, (Leads.has (by repeat' (first | exact Has.nil | exact Pick.here | apply Has.cons | apply Pick.there)))⟩
      ·
        have hla : Small (l ++ [more o]) := small_app hf (by omega)
        refine wSkip ?_
        refine thn_n ?_
        refine wSeq ?_
        refine wRegion' ?_
        refine oBuild Parts.nil rfl rfl Built.nil ?_
        refine oAlloc rfl (by first | exact CellsOf.agg | exact CellsOf.one rfl) (fun b5 => ?_)
        refine oStA rfl rfl rfl rfl (by repeat (first | exact Pick.here | apply Pick.there)) (by rfl) ?_
        refine oNil ?_
        refine thn_n ?_
        refine wSeq ?_
        refine wSeq ?_
        refine wRegion' ?_
        refine oAssign rfl ?_
        refine oNil ?_
        refine thn_n ?_
        refine wBlock ?_
        refine wLoop (ι := Nat × Option Addr × Nat) (fun z => [(0, .slice A l.length cp), (3, .pointer (some ⟨b3, 0, none⟩)), (5, .pointer (some ⟨b5, 0, none⟩)), (6, .int .i64 (z.1 : Int))]) (fun z => [blk b3 40 [.slice A0 o.fSymbols.length c0, .slice A1 o.fFuncs.length c1, .slice A2 o.fDatas.length c2], blk b5 40 [.slice z.2.1 z.1 z.2.2, .slice none 0 0, .slice none 0 0], row kApiSymbol B.e 42 (.slice z.2.1 z.1 z.2.2) ((o.fSymbols.map loc).take z.1)]) (fun z => z.1 ≤ o.fSymbols.length) (fun z => o.fSymbols.length - z.1) (0, none, 0) ?_ (by repeat (first | exact trivial | refine And.intro rfl ?_)) (Leads.nilrow.trans (Leads.has (by repeat' (first | exact Has.nil | exact Pick.here | apply Has.cons | apply Pick.there)))) ?_
        ·
          exact Nat.zero_le _
        ·
          rintro ⟨i, A3, c3⟩ hi
          dsimp only at hi
          have hlt : ((o.fSymbols.map loc).take i).length = i := by simp; omega
          dsimp only
          refine wSeq ?_
          refine wSeq ?_
          refine wRegion' ?_
          refine oMove rfl ?_
          refine oFld (n := 0) (m := 0) rfl rfl rfl ?_
          refine oLd rfl (by repeat (first | exact Pick.here | apply Pick.there)) rfl rfl ?_
          refine oLenS rfl rfl ?_
          refine oLss rfl rfl ?_
          refine oNil ?_
          refine thn_n ?_
          first | refine wCond rfl (fun h37 => ?_) (fun h37 => ?_) | refine wCondB rfl (fun h37 => ?_) (fun h37 => ?_)
          ·
            refine wSkip ?_
            refine thn_n ?_
            refine wSeq ?_
            refine wBlock ?_
            refine wSeq ?_
            refine wRegion' ?_
            refine oFld (n := 0) (m := 0) rfl rfl rfl ?_
            refine oLd rfl (by repeat (first | exact Pick.here | apply Pick.there)) rfl rfl ?_
            refine oMove rfl ?_
            refine oIdx rfl rfl (g0) rfl (by omega) rfl rfl (fun e43 u43 cs43 hu43 hk43 hc43 => ?_)
            obtain rfl := kApiSymbol_open hk43
            first | refine oLdX rfl hc43 rfl rfl ?_ | refine oLdXA rfl hc43 rfl (by repeat (first | exact SubL.done | apply SubL.take | apply SubL.drop)) ?_ | (refine oLdR1 rfl (by repeat (first | exact Pick.here | apply Pick.there)) (by omega) rfl (fun u44 hu44 => ?_))
            refine oAlloc rfl (by first | exact CellsOf.agg | exact CellsOf.one rfl) (fun b7 => ?_)
            refine oStA rfl rfl rfl rfl (by repeat (first | exact Pick.here | apply Pick.there)) (by rfl) ?_
            refine oNil ?_
            refine thn_n ?_
            refine wSeq ?_
            refine wRegion' ?_
            refine oFld (n := 1) (m := 1) rfl rfl rfl ?_
            refine oSt rfl rfl rfl rfl rfl (by repeat (first | exact Pick.here | apply Pick.there)) (by repeat (first | exact SetAt.here | apply SetAt.there)) ?_
            refine oNil ?_
            refine thn_n ?_
            refine wSeq ?_
            refine wRegion' ?_
            refine oFld (n := 4) (m := 4) rfl rfl rfl ?_
            refine oSt rfl rfl rfl rfl rfl (by repeat (first | exact Pick.here | apply Pick.there)) (by repeat (first | exact SetAt.here | apply SetAt.there)) ?_
            refine oNil ?_
            refine thn_n ?_
            refine wRegion' ?_
            refine oFld (n := 0) (m := 0) rfl rfl rfl ?_
            refine oLd rfl (by repeat (first | exact Pick.here | apply Pick.there)) rfl rfl ?_
            refine oLdA rfl (by repeat (first | exact Pick.here | apply Pick.there)) rfl (by repeat (first | exact SubL.done | apply SubL.take | apply SubL.drop)) ?_
            refine oBuildSlice1 rfl rfl rfl rfl rfl (by first | exact CellsOf.agg | exact CellsOf.one rfl) rfl (fun b50 => ?_)
            refine oApp1 (loc u43) rfl rfl rfl rfl (by repeat (first | exact Pick.here | apply Pick.there)) (by repeat (first | exact Pick.here | apply Pick.there)) (kApiSymbol_mk _ (loc u43)) (by omega) rfl (fun g51 cp51 => ?_)
            rw [hlt, loc_take hu43]
            refine oFld (n := 0) (m := 0) rfl rfl rfl ?_
            refine oSt rfl rfl rfl rfl rfl (by repeat (first | exact Pick.here | apply Pick.there)) (by repeat (first | exact SetAt.here | apply SetAt.there)) ?_
            refine oNil ?_
            refine blk_n ?_
            refine thn_n ?_
            refine wRegion' ?_
            refine oMove rfl ?_
            refine oSucc rfl rfl (by omega) ?_
            refine oAssign rfl ?_
            refine oNil ?_
            refine thn_n ?_
            exact ⟨rfl, (i + 1, some ⟨g51, 0, none⟩, cp51), by show i + 1 ≤ _; omega, by show o.fSymbols.length - (i + 1) < o.fSymbols.length - i; omega, (by repeat (first | exact trivial | refine And.intro rfl ?_)), (Leads.has (by repeat' (first | exact Has.nil | exact Pick.here | apply Has.cons | apply Pick.there)))⟩
          ·
            obtain rfl : i = o.fSymbols.length := by omega
            rw [List.take_of_length_le (by simp)]
            refine wExit ?_
            refine thn_x ?_
            refine thn_x ?_
            refine blk_x ?_
            refine thn_n ?_
            refine wSeq ?_
            refine wRegion' ?_
            refine oAssign rfl ?_
            refine oNil ?_
            refine thn_n ?_
            refine wSeq ?_
            refine wRegion' ?_
            refine oMove rfl ?_
            refine oMove rfl ?_
            refine oConv (Leads.nilrow (kd := kApiObject) (W := B.e) (e := 40)) ?_
            refine oAppA (kd := kApiObject) (W := B.e) (ys := l) rfl rfl rfl rfl (by repeat (first | exact Pick.here | apply Pick.there)) rfl (fun w hw => src_C hC (Base.grow hw.ok)) (by simp only [List.length_nil]; omega) rfl (fun A8 c8 hc8 => ?_)
            rw [List.nil_append l, show ([] : List ApiObject).length + l.length = l.length by simp]
            refine oAssign rfl ?_
            refine oNil ?_
            refine thn_n ?_
            refine wSeq ?_
            refine wRegion' ?_
            refine oMove rfl ?_
            refine oLdA rfl (by repeat (first | exact Pick.here | apply Pick.there)) rfl (by repeat (first | exact SubL.done | apply SubL.take | apply SubL.drop)) ?_
            refine oBuildSlice1 rfl rfl rfl rfl rfl (by first | exact CellsOf.agg | exact CellsOf.one rfl) rfl (fun b58 => ?_)
            refine oRaw (kd := kApiObject) (W := B.e) (v := .slice A8 l.length c8) (xs := l) (e := 40) (by repeat (first | exact Pick.here | apply Pick.there)) (fun rs hrs => ?_)
            refine oApp1 (kd := kRaw kApiObject.sz) [.slice A3 o.fSymbols.length c3, .slice none 0 0, .slice none 0 0] rfl rfl rfl rfl (by repeat (first | exact Pick.here | apply Pick.there)) (by repeat (first | exact Pick.here | apply Pick.there)) ⟨rfl, rfl, by simp [Value.oneCell']⟩ (by rw [hrs.length]; omega) rfl (fun g59 cp59 => ?_)
            rw [hrs.length]
            refine oSeal (W := B.e) (kd := kApiObject) (A := some ⟨g59, 0, none⟩) (xs := l ++ [more o]) [row (kRaw kApiObject.sz) B.e 40 _ _, row kApiSymbol B.e 42 _ _] (by repeat' (first | exact Split.nil | exact Pick.here | apply Split.cons | apply Pick.there)) (fun w hq g => rawrow (hq _ _ (by repeat (first | exact Pick.here | apply Pick.there))) rfl ((hrs.grow g).app (Raws.one (obj_K (row_C (kd := kApiSymbol) (W := B.e) (e := 42) (A := A3) (n := o.fSymbols.length) (cp := c3) (hq _ _ (by repeat (first | exact Pick.here | apply Pick.there))) g).2.2.1 (by simp) (row_C (kd := kApiSymbol) (W := B.e) (e := 42) (A := A3) (n := o.fSymbols.length) (cp := c3) (xs := o.fSymbols.map loc) (hq _ _ (by repeat (first | exact Pick.here | apply Pick.there))) g).2.1)))) (fun S0 => ?_)
            refine oAssign rfl ?_
            refine oNil ?_
            refine thn_n ?_
            refine wSeq ?_
            refine wSeq ?_
            refine wRegion' ?_
            refine oMove rfl ?_
            refine oLenS rfl rfl ?_
            refine oGtr rfl rfl ?_
            refine oMove rfl ?_
            first | refine oSplit (t := 63) rfl (fun h63 => ?_) (fun h63 => ?_) | refine oSplitB (t := 63) rfl (fun h63 => ?_) (fun h63 => ?_)
            ·
              refine oWant rfl rfl ?_
              refine oMove rfl ?_
              refine oSet (t := 64) (v' := .slice (some ⟨g59, 0, none⟩) (l ++ [more o]).length cp59) rfl (by rw [List.length_append]; rfl) ?_
              refine oWant rfl rfl ?_
              (refine oCall rfl (by kernel_rfl) (fun w hS => frame' hS .nil (fun B' hB hR hS' => check_any hS' (some ⟨g59, 0, none⟩) cp59 (l ++ [more o]) (rdr_C (hR _ _ (by repeat (first | exact Pick.here | apply Pick.there))) hB) hla)) ?_; rintro ⟨⟩ -)
              refine oWant rfl rfl ?_
              refine oMove rfl ?_
              refine oWant rfl rfl ?_
              (refine oCall rfl (by kernel_rfl) (fun w hS => frame hS (by repeat' (first | exact Split.nil | exact Pick.here | apply Split.cons | apply Pick.there)) (fun B' hB hS' => check_any hS' A cp l (Kd.C_grow hB hC) hl)) ?_; rintro ⟨⟩ -)
              refine oWant rfl rfl ?_
              refine oBinV (r := .bool (decide (¬ checkS (l ++ [more o]) = checkS l))) rfl rfl (fun w => run_eqGuard_agg w .neq _ _ _ _ _ Try.eqGuardType31) (fun w => rej_neq _ _ w) ?_
              refine oPickT rfl rfl ?_
              refine oNil ?_
              refine thn_n ?_
              first | refine wCond rfl (fun h69 => ?_) (fun h69 => ?_) | refine wCondB rfl (fun h69 => ?_) (fun h69 => ?_)
              ·
                exact (h69 (check_app o (by omega) (by omega))).elim
              ·
                refine wSkip ?_
                refine thn_n ?_
                refine wSeq ?_
                refine wSeq ?_
                refine wRegion' ?_
                refine oAssign rfl ?_
                refine oNil ?_
                refine thn_n ?_
                refine wBlock ?_
                refine wLoop (ι := Nat) (fun i => [(0, .slice A l.length cp), (8, .slice (some ⟨g59, 0, none⟩) (l.length + 1) cp59), (9, .int .i64 (i : Int))]) (fun i => [rdr B.e S0 kApiObject (some ⟨g59, 0, none⟩) (l ++ [more o])]) (fun i => i ≤ l.length) (fun i => l.length - i) 0 ?_ (by repeat (first | exact trivial | refine And.intro rfl ?_)) (Leads.has (by repeat' (first | exact Has.nil | exact Pick.here | apply Has.cons | apply Pick.there))) ?_
                ·
                  exact Nat.zero_le _
                ·
                  rintro i hi
                  dsimp only
                  refine wSeq ?_
                  refine wSeq ?_
                  refine wRegion' ?_
                  refine oMove rfl ?_
                  refine oMove rfl ?_
                  refine oLenS rfl rfl ?_
                  refine oLss rfl rfl ?_
                  refine oNil ?_
                  refine thn_n ?_
                  first | refine wCond rfl (fun h73 => ?_) (fun h73 => ?_) | refine wCondB rfl (fun h73 => ?_) (fun h73 => ?_)
                  ·
                    refine wSkip ?_
                    refine thn_n ?_
                    refine wSeq ?_
                    refine wBlock ?_
                    refine wSeq ?_
                    refine wRegion' ?_
                    refine oAssign rfl ?_
                    refine oNil ?_
                    refine thn_n ?_
                    refine wBlock ?_
                    refine wLoop (ι := Nat) (fun k => [(0, .slice A l.length cp), (8, .slice (some ⟨g59, 0, none⟩) (l.length + 1) cp59), (9, .int .i64 (i : Int)), (10, .int .i64 (k : Int))]) (fun k => [rdr B.e S0 kApiObject (some ⟨g59, 0, none⟩) (l ++ [more o])]) (fun k => k ≤ (l.getD i default).fSymbols.length) (fun k => (l.getD i default).fSymbols.length - k) 0 ?_ (by repeat (first | exact trivial | refine And.intro rfl ?_)) (Leads.has (by repeat' (first | exact Has.nil | exact Pick.here | apply Has.cons | apply Pick.there))) ?_
                    ·
                      exact Nat.zero_le _
                    ·
                      rintro k hk
                      dsimp only
                      refine wSeq ?_
                      refine wSeq ?_
                      refine wRegion' ?_
                      refine oMove rfl ?_
                      refine oMove rfl ?_
                      refine oMove rfl ?_
                      refine oIdx rfl rfl (hC) rfl (by omega) rfl rfl (fun e79 u79 cs79 hu79 hk79 hc79 => ?_)
                      obtain ⟨A0', c0', A1', c1', A2', c2', rfl, l0', g0', l1', g1', l2', g2'⟩ := kApiObject_open hk79
                      have hsm := hf.2 _ (List.mem_of_getElem? hu79)
                      first | refine oFldX (n := 0) (m := 0) rfl rfl rfl ?_ | refine oFldR (n := 0) (m := 0) rfl rfl rfl ?_ | refine oFldD (n := 0) (m := 0) rfl rfl rfl ?_
                      first | refine oLdX rfl hc79 rfl rfl ?_ | refine oLdXA rfl hc79 rfl (by repeat (first | exact SubL.done | apply SubL.take | apply SubL.drop)) ?_ | (refine oLdR1 rfl (by repeat (first | exact Pick.here | apply Pick.there)) (by omega) rfl (fun u81 hu81 => ?_))
                      refine oLenS rfl rfl ?_
                      refine oLss rfl rfl ?_
                      refine oNil ?_
                      refine thn_n ?_
                      first | refine wCond rfl (fun h83 => ?_) (fun h83 => ?_) | refine wCondB rfl (fun h83 => ?_) (fun h83 => ?_)
                      ·
                        have hm := sym_mem hu79 (List.getElem?_eq_getElem (show k < u79.fSymbols.length by omega))
                        refine wSkip ?_
                        refine thn_n ?_
                        refine wSeq ?_
                        refine wBlock ?_
                        refine wSeq ?_
                        refine wRegion' ?_
                        refine oMove rfl ?_
                        refine oMove rfl ?_
                        refine oMove rfl ?_
                        (refine oCall rfl (by kernel_rfl) (fun w hS => frame hS (by repeat' (first | exact Split.nil | exact Pick.here | apply Split.cons | apply Pick.there)) (fun B' hB hS' => boundx_any hS' A cp l i k (Kd.C_grow hB hC) hl)) ?_; rintro ⟨⟩ -)
                        refine oMove rfl ?_
                        refine oExt rfl (by repeat (first | exact GetAt.here | apply GetAt.there)) ?_
                        refine oExt rfl (by repeat (first | exact GetAt.here | apply GetAt.there)) ?_
                        refine oExt rfl (by repeat (first | exact GetAt.here | apply GetAt.there)) ?_
                        refine oAssign rfl ?_
                        refine oAssign rfl ?_
                        refine oAssign rfl ?_
                        refine oNil ?_
                        refine thn_n ?_
                        refine wSeq ?_
                        refine wRegion' ?_
                        refine oMove rfl ?_
                        refine oSet (t := 95) (v' := .slice (some ⟨g59, 0, none⟩) (l ++ [more o]).length cp59) rfl (by rw [List.length_append]; rfl) ?_
                        refine oMove rfl ?_
                        refine oMove rfl ?_
                        (refine oCall rfl (by kernel_rfl) (fun w hS => frame' hS .nil (fun B' hB hR hS' => boundx_any hS' (some ⟨g59, 0, none⟩) cp59 (l ++ [more o]) i k (rdr_C (hR _ _ (by repeat (first | exact Pick.here | apply Pick.there))) hB) hla)) ?_; rintro ⟨⟩ -)
                        rw [bound_app hm]
                        refine oMove rfl ?_
                        refine oExt rfl (by repeat (first | exact GetAt.here | apply GetAt.there)) ?_
                        refine oExt rfl (by repeat (first | exact GetAt.here | apply GetAt.there)) ?_
                        refine oExt rfl (by repeat (first | exact GetAt.here | apply GetAt.there)) ?_
                        refine oAssign rfl ?_
                        refine oAssign rfl ?_
                        refine oAssign rfl ?_
                        refine oNil ?_
                        refine thn_n ?_
                        refine wSeq ?_
                        refine wRegion' ?_
                        refine oMove rfl ?_
                        refine oMove rfl ?_
                        refine oNeq rfl rfl ?_
                        refine oMove rfl ?_
                        first | refine oSplit (t := 105) rfl (fun h105 => ?_) (fun h105 => ?_) | refine oSplitB (t := 105) rfl (fun h105 => ?_) (fun h105 => ?_)
                        ·
                          exact (h105 rfl).elim
                        ·
                          refine oWant rfl rfl ?_
                          refine oMove rfl ?_
                          refine oWant rfl rfl ?_
                          refine oMove rfl ?_
                          refine oWant rfl rfl ?_
                          refine oNeq rfl rfl ?_
                          refine oPickF rfl rfl ?_
                          refine oMove rfl ?_
                          first | refine oSplit (t := 110) rfl (fun h110 => ?_) (fun h110 => ?_) | refine oSplitB (t := 110) rfl (fun h110 => ?_) (fun h110 => ?_)
                          ·
                            exact (h110 rfl).elim
                          ·
                            refine oWant rfl rfl ?_
                            refine oMove rfl ?_
                            refine oWant rfl rfl ?_
                            refine oMove rfl ?_
                            refine oWant rfl rfl ?_
                            refine oNeq rfl rfl ?_
                            refine oPickF rfl rfl ?_
                            refine oNil ?_
                            refine thn_n ?_
                            first | refine wCond rfl (fun h114 => ?_) (fun h114 => ?_) | refine wCondB rfl (fun h114 => ?_) (fun h114 => ?_)
                            ·
                              exact (h114 rfl).elim
                            ·
                              refine wSkip ?_
                              refine blk_n ?_
                              refine thn_n ?_
                              refine wRegion' ?_
                              refine oMove rfl ?_
                              refine oSucc rfl rfl (by omega) ?_
                              refine oAssign rfl ?_
                              refine oNil ?_
                              refine thn_n ?_
                              exact ⟨rfl, k + 1, by rw [getD_of hu79]; omega, by rw [getD_of hu79]; omega, (by repeat (first | exact trivial | refine And.intro rfl ?_)), (Leads.has (by repeat' (first | exact Has.nil | exact Pick.here | apply Has.cons | apply Pick.there)))⟩
                      ·
                        refine wExit ?_
                        refine thn_x ?_
                        refine thn_x ?_
                        refine blk_x ?_
                        refine blk_n ?_
                        refine thn_n ?_
                        refine wRegion' ?_
                        refine oMove rfl ?_
                        refine oSucc rfl rfl (by omega) ?_
                        refine oAssign rfl ?_
                        refine oNil ?_
                        refine thn_n ?_
                        exact ⟨rfl, i + 1, by omega, by omega, (by repeat (first | exact trivial | refine And.intro rfl ?_)), (Leads.has (by repeat' (first | exact Has.nil | exact Pick.here | apply Has.cons | apply Pick.there)))⟩
                  ·
                    refine wExit ?_
                    refine thn_x ?_
                    refine thn_x ?_
                    refine blk_x ?_
                    refine thn_n ?_
                    refine wSeq ?_
                    refine wRegion' ?_
                    (refine oCall rfl (by kernel_rfl) (fun w hS => frame hS (by repeat' (first | exact Split.nil | exact Pick.here | apply Split.cons | apply Pick.there)) (fun B' hB hS' => known23 hS')) ?_; rintro ⟨⟩ -)
                    refine oAssign rfl ?_
                    refine oNil ?_
                    refine thn_n ?_
                    refine wRet ?_
                    refine fin_r ?_
                    refine ⟨rfl, _, (ResL.cons (ResR.tmp rfl) ResL.nil), ?_⟩
                    exact ⟨(), trivial, rfl, (Leads.has (by repeat' (first | exact Has.nil | exact Pick.here | apply Has.cons | apply Pick.there)))⟩
            ·
              refine oSkip rfl rfl rfl rfl ?_
              refine oSkip rfl rfl rfl rfl ?_
              refine oSkip rfl rfl rfl rfl ?_
              refine oSkip rfl rfl rfl rfl ?_
              refine oSkip rfl rfl rfl rfl ?_
              refine oPickF rfl rfl ?_
              refine oNil ?_
              refine thn_n ?_
              refine wCondF rfl ?_
              refine wSkip ?_
              refine thn_n ?_
              refine wSeq ?_
              refine wSeq ?_
              refine wRegion' ?_
              refine oAssign rfl ?_
              refine oNil ?_
              refine thn_n ?_
              refine wBlock ?_
              refine wLoop (ι := Nat) (fun i => [(0, .slice A l.length cp), (8, .slice (some ⟨g59, 0, none⟩) (l.length + 1) cp59), (9, .int .i64 (i : Int))]) (fun i => [rdr B.e S0 kApiObject (some ⟨g59, 0, none⟩) (l ++ [more o])]) (fun i => i ≤ l.length) (fun i => l.length - i) 0 ?_ (by repeat (first | exact trivial | refine And.intro rfl ?_)) (Leads.has (by repeat' (first | exact Has.nil | exact Pick.here | apply Has.cons | apply Pick.there))) ?_
              ·
                exact Nat.zero_le _
              ·
                rintro i hi
                dsimp only
                refine wSeq ?_
                refine wSeq ?_
                refine wRegion' ?_
                refine oMove rfl ?_
                refine oMove rfl ?_
                refine oLenS rfl rfl ?_
                refine oLss rfl rfl ?_
                refine oNil ?_
                refine thn_n ?_
                first | refine wCond rfl (fun h73 => ?_) (fun h73 => ?_) | refine wCondB rfl (fun h73 => ?_) (fun h73 => ?_)
                ·
                  refine wSkip ?_
                  refine thn_n ?_
                  refine wSeq ?_
                  refine wBlock ?_
                  refine wSeq ?_
                  refine wRegion' ?_
                  refine oAssign rfl ?_
                  refine oNil ?_
                  refine thn_n ?_
                  refine wBlock ?_
                  refine wLoop (ι := Nat) (fun k => [(0, .slice A l.length cp), (8, .slice (some ⟨g59, 0, none⟩) (l.length + 1) cp59), (9, .int .i64 (i : Int)), (10, .int .i64 (k : Int))]) (fun k => [rdr B.e S0 kApiObject (some ⟨g59, 0, none⟩) (l ++ [more o])]) (fun k => k ≤ (l.getD i default).fSymbols.length) (fun k => (l.getD i default).fSymbols.length - k) 0 ?_ (by repeat (first | exact trivial | refine And.intro rfl ?_)) (Leads.has (by repeat' (first | exact Has.nil | exact Pick.here | apply Has.cons | apply Pick.there))) ?_
                  ·
                    exact Nat.zero_le _
                  ·
                    rintro k hk
                    dsimp only
                    refine wSeq ?_
                    refine wSeq ?_
                    refine wRegion' ?_
                    refine oMove rfl ?_
                    refine oMove rfl ?_
                    refine oMove rfl ?_
                    refine oIdx rfl rfl (hC) rfl (by omega) rfl rfl (fun e79 u79 cs79 hu79 hk79 hc79 => ?_)
                    obtain ⟨A0', c0', A1', c1', A2', c2', rfl, l0', g0', l1', g1', l2', g2'⟩ := kApiObject_open hk79
                    have hsm := hf.2 _ (List.mem_of_getElem? hu79)
                    first | refine oFldX (n := 0) (m := 0) rfl rfl rfl ?_ | refine oFldR (n := 0) (m := 0) rfl rfl rfl ?_ | refine oFldD (n := 0) (m := 0) rfl rfl rfl ?_
                    first | refine oLdX rfl hc79 rfl rfl ?_ | refine oLdXA rfl hc79 rfl (by repeat (first | exact SubL.done | apply SubL.take | apply SubL.drop)) ?_ | (refine oLdR1 rfl (by repeat (first | exact Pick.here | apply Pick.there)) (by omega) rfl (fun u81 hu81 => ?_))
                    refine oLenS rfl rfl ?_
                    refine oLss rfl rfl ?_
                    refine oNil ?_
                    refine thn_n ?_
                    first | refine wCond rfl (fun h83 => ?_) (fun h83 => ?_) | refine wCondB rfl (fun h83 => ?_) (fun h83 => ?_)
                    ·
                      have hm := sym_mem hu79 (List.getElem?_eq_getElem (show k < u79.fSymbols.length by omega))
                      refine wSkip ?_
                      refine thn_n ?_
                      refine wSeq ?_
                      refine wBlock ?_
                      refine wSeq ?_
                      refine wRegion' ?_
                      refine oMove rfl ?_
                      refine oMove rfl ?_
                      refine oMove rfl ?_
                      (refine oCall rfl (by kernel_rfl) (fun w hS => frame hS (by repeat' (first | exact Split.nil | exact Pick.here | apply Split.cons | apply Pick.there)) (fun B' hB hS' => boundx_any hS' A cp l i k (Kd.C_grow hB hC) hl)) ?_; rintro ⟨⟩ -)
                      refine oMove rfl ?_
                      refine oExt rfl (by repeat (first | exact GetAt.here | apply GetAt.there)) ?_
                      refine oExt rfl (by repeat (first | exact GetAt.here | apply GetAt.there)) ?_
                      refine oExt rfl (by repeat (first | exact GetAt.here | apply GetAt.there)) ?_
                      refine oAssign rfl ?_
                      refine oAssign rfl ?_
                      refine oAssign rfl ?_
                      refine oNil ?_
                      refine thn_n ?_
                      refine wSeq ?_
                      refine wRegion' ?_
                      refine oMove rfl ?_
                      refine oSet (t := 95) (v' := .slice (some ⟨g59, 0, none⟩) (l ++ [more o]).length cp59) rfl (by rw [List.length_append]; rfl) ?_
                      refine oMove rfl ?_
                      refine oMove rfl ?_
                      (refine oCall rfl (by kernel_rfl) (fun w hS => frame' hS .nil (fun B' hB hR hS' => boundx_any hS' (some ⟨g59, 0, none⟩) cp59 (l ++ [more o]) i k (rdr_C (hR _ _ (by repeat (first | exact Pick.here | apply Pick.there))) hB) hla)) ?_; rintro ⟨⟩ -)
                      rw [bound_app hm]
                      refine oMove rfl ?_
                      refine oExt rfl (by repeat (first | exact GetAt.here | apply GetAt.there)) ?_
                      refine oExt rfl (by repeat (first | exact GetAt.here | apply GetAt.there)) ?_
                      refine oExt rfl (by repeat (first | exact GetAt.here | apply GetAt.there)) ?_
                      refine oAssign rfl ?_
                      refine oAssign rfl ?_
                      refine oAssign rfl ?_
                      refine oNil ?_
                      refine thn_n ?_
                      refine wSeq ?_
                      refine wRegion' ?_
                      refine oMove rfl ?_
                      refine oMove rfl ?_
                      refine oNeq rfl rfl ?_
                      refine oMove rfl ?_
                      first | refine oSplit (t := 105) rfl (fun h105 => ?_) (fun h105 => ?_) | refine oSplitB (t := 105) rfl (fun h105 => ?_) (fun h105 => ?_)
                      ·
                        exact (h105 rfl).elim
                      ·
                        refine oWant rfl rfl ?_
                        refine oMove rfl ?_
                        refine oWant rfl rfl ?_
                        refine oMove rfl ?_
                        refine oWant rfl rfl ?_
                        refine oNeq rfl rfl ?_
                        refine oPickF rfl rfl ?_
                        refine oMove rfl ?_
                        first | refine oSplit (t := 110) rfl (fun h110 => ?_) (fun h110 => ?_) | refine oSplitB (t := 110) rfl (fun h110 => ?_) (fun h110 => ?_)
                        ·
                          exact (h110 rfl).elim
                        ·
                          refine oWant rfl rfl ?_
                          refine oMove rfl ?_
                          refine oWant rfl rfl ?_
                          refine oMove rfl ?_
                          refine oWant rfl rfl ?_
                          refine oNeq rfl rfl ?_
                          refine oPickF rfl rfl ?_
                          refine oNil ?_
                          refine thn_n ?_
                          first | refine wCond rfl (fun h114 => ?_) (fun h114 => ?_) | refine wCondB rfl (fun h114 => ?_) (fun h114 => ?_)
                          ·
                            exact (h114 rfl).elim
                          ·
                            refine wSkip ?_
                            refine blk_n ?_
                            refine thn_n ?_
                            refine wRegion' ?_
                            refine oMove rfl ?_
                            refine oSucc rfl rfl (by omega) ?_
                            refine oAssign rfl ?_
                            refine oNil ?_
                            refine thn_n ?_
                            exact ⟨rfl, k + 1, by rw [getD_of hu79]; omega, by rw [getD_of hu79]; omega, (by repeat (first | exact trivial | refine And.intro rfl ?_)), (Leads.has (by repeat' (first | exact Has.nil | exact Pick.here | apply Has.cons | apply Pick.there)))⟩
                    ·
                      refine wExit ?_
                      refine thn_x ?_
                      refine thn_x ?_
                      refine blk_x ?_
                      refine blk_n ?_
                      refine thn_n ?_
                      refine wRegion' ?_
                      refine oMove rfl ?_
                      refine oSucc rfl rfl (by omega) ?_
                      refine oAssign rfl ?_
                      refine oNil ?_
                      refine thn_n ?_
                      exact ⟨rfl, i + 1, by omega, by omega, (by repeat (first | exact trivial | refine And.intro rfl ?_)), (Leads.has (by repeat' (first | exact Has.nil | exact Pick.here | apply Has.cons | apply Pick.there)))⟩
                ·
                  refine wExit ?_
                  refine thn_x ?_
                  refine thn_x ?_
                  refine blk_x ?_
                  refine thn_n ?_
                  refine wSeq ?_
                  refine wRegion' ?_
                  (refine oCall rfl (by kernel_rfl) (fun w hS => frame hS (by repeat' (first | exact Split.nil | exact Pick.here | apply Split.cons | apply Pick.there)) (fun B' hB hS' => known23 hS')) ?_; rintro ⟨⟩ -)
                  refine oAssign rfl ?_
                  refine oNil ?_
                  refine thn_n ?_
                  refine wRet ?_
                  refine fin_r ?_
                  refine ⟨rfl, _, (ResL.cons (ResR.tmp rfl) ResL.nil), ?_⟩
                  exact ⟨(), trivial, rfl, (Leads.has (by repeat' (first | exact Has.nil | exact Pick.here | apply Has.cons | apply Pick.there)))⟩
end Go.Proofs.YtnidmlngkpkmlaaS
