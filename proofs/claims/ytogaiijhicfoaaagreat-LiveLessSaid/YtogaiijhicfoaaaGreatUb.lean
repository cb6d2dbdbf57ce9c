import Derived.Test.YtogaiijhicfoaaaGreatUa
import Derived.Test.YtogaiijhicfoaaaGreatMG
import Derived.Test.YtogaiijhicfoaaaGreatVa

/-
  To what functions refer: the program's package calls.
-/
namespace Go.Proofs.YtogaiijhicfoaaaGreatU
set_option linter.unusedVariables false
set_option linter.unusedSimpArgs false
open Go.RowKit Go.Proofs.YtogaiijhicfoaaaGreatK Go.Proofs.YtogaiijhicfoaaaGreatT Go.Proofs.YtogaiijhicfoaaaGreatL Go.Proofs.YtogaiijhicfoaaaGreatV Go.Proofs.YtogaiijhicfoaaaGreatG

def badM (m x : Int) : Bool := decide (x < 0) || decide (m ≤ x)
def ris (l : List Int) (m : Nat) : List Int := ((List.range m).filter fun i : Nat => decide ((i : Int) ∈ l)).map fun i : Nat => (i : Int)
theorem mem_ris {l : List Int} {m : Nat} {x : Int} : x ∈ ris l m ↔ x ∈ l ∧ 0 ≤ x ∧ x < (m : Int) := by
  unfold ris
  simp only [List.mem_map, List.mem_filter, List.mem_range, decide_eq_true_eq]
  constructor
  · rintro ⟨i, ⟨h1, h2⟩, rfl⟩; exact ⟨h2, by omega, by omega⟩
  · rintro ⟨h1, h2, h3⟩
    obtain ⟨i, rfl⟩ := Int.eq_ofNat_of_zero_le h2
    exact ⟨i, ⟨by omega, h1⟩, rfl⟩
theorem ris_len (l : List Int) (m : Nat) : (ris l m).length ≤ m := by
  unfold ris
  rw [List.length_map]
  exact Nat.le_trans (List.length_filter_le _ _) (by simp)
theorem ris_rises (l : List Int) (m : Nat) : (ris l m).Pairwise (· < ·) := by
  unfold ris
  rw [List.pairwise_map]
  exact (List.Pairwise.filter _ List.pairwise_lt_range).imp (fun h => by omega)
theorem ris_eq (l : List Int) (m : Nat) : Lib.compact ((leftL (badM m) l).mergeSort leI) = ris l m := by
  obtain ⟨h1, h2⟩ := sorted_spec (leftL (badM m) l)
  refine rising_eq h1 (ris_rises l m) (fun x => ?_)
  rw [h2, mem_ris]
  unfold leftL badM
  rw [List.mem_filter]
  simp
set_option maxRecDepth 100000 in
theorem rising1 {B : Base} {w : World} {b : Nat} {m : Int} (hS : St B [blk b 3 [.int .i64 m]] w) (x : Int) :
    CallsIn Fence.wide 0 Tryz.prog 143 #[.int .i64 x, .pointer (some ⟨b, 0, none⟩)] w (Ret B (fun _ : Unit => True) (fun _ => .bool (badM m x)) (fun _ => [blk b 3 [.int .i64 m]])) := by
  (refine enter Tryz.func143 rfl rfl hS ?_; simp only [List.zipIdx_cons, List.zipIdx_nil, List.map_cons, List.map_nil, Nat.reduceAdd, Nat.zero_add])
  refine wSeq (wRegion' (oAssign rfl (oNil (thn_n (wSeq (wRegion' (oMove rfl (oLss rfl rfl (oMove rfl ?_)))))))))
  first | refine oSplit (t := 6) rfl (fun h6 => ?_) (fun h6 => ?_) | refine oSplitB (t := 6) rfl (fun h6 => ?_) (fun h6 => ?_)
  ·
   refine oSkip rfl rfl rfl rfl (oSkip rfl rfl rfl rfl (oSkip rfl rfl rfl rfl (oPickT rfl rfl (oAssign rfl (oNil (thn_n (wRet (fin_r (fi1 rfl ?_)))))))))
   exact ⟨(), trivial, by simp [resVal, badM, h6], Lh⟩
  refine oWant rfl rfl (oMove rfl (oWant rfl rfl (oLd rfl (by repeat constructor) rfl rfl ?_)))
  refine oWant rfl rfl (oGeq rfl rfl (oPickF rfl rfl (oAssign rfl (oNil (thn_n (wRet (fin_r (fi1 rfl ?_))))))))
  exact ⟨(), trivial, by simp [resVal, badM, h6], Lh⟩
set_option maxRecDepth 100000 in
set_option maxHeartbeats 600000 in
theorem calls_rising {B : Base} {w : World} (hS : St B [] w) (l : List Int) (A : Option Addr) (cp : Nat) (hC : (Kd.int .i64).C B.e A l) (hl : l.length ≤ 1000000) (m : Nat) (W0 : World) :
    CallsIn Fence.wide 0 Tryz.prog 85 #[.slice A l.length cp, .int .i64 (m : Int)] w (Ret B (fun _ : Option Addr × Nat => True) (fun z => .slice z.1 (ris l m).length z.2) (fun z => [row (Kd.int .i64) W0 3 (.slice z.1 (ris l m).length z.2) (ris l m)])) := by
  have hle := left_le (badM m) l
  (refine enter Tryz.func85 rfl rfl hS ?_; simp only [List.zipIdx_cons, List.zipIdx_nil, List.map_cons, List.map_nil, Nat.reduceAdd, Nat.zero_add])
  refine wSeq (wRegion' (oBox rfl (by repeat constructor) (fun b3 => ?_)))
  refine oAssign rfl (oNil (thn_n (wSeq (wRegion' (oMove rfl ?_)))))
  (refine oCall rfl (by kernel_rfl) (fun w hS => frame hS (by repeat' constructor) (fun B' hB hS' => clone_int hS' l A cp (Kd.C_grow hB hC) hl W0)) ?_; rintro ⟨A7, c7⟩ -)
  refine oMakeFunc rfl ?_
  (refine oCall rfl (by kernel_rfl) (fun w hS => frame hS (Ψ := [row (Kd.int .i64) W0 3 (.slice A7 l.length c7) l, blk b3 3 [.int .i64 (m : Int)]]) (by repeat' constructor) (fun B' hB hS' => deleteFunc_int l A7 c7 hS' hl 143 _ (badM m) (by kernel_rfl) (fun B2 w2 x hg hx hS2 => rising1 hS2 x))) ?_; rintro ⟨⟩ -)
  refine oAssign rfl (oNil (thn_n (wSeq (wRegion' (oMove rfl ?_)))))
  (refine oCall rfl (by kernel_rfl) (fun w hS => frame hS (by repeat' constructor) (fun B' hB hS' => sort_int laysn189_at hS' (by omega))) ?_; rintro ⟨⟩ -)
  refine oNil (thn_n (wSeq (wRegion' (oMove rfl ?_))))
  (refine oCall rfl (by kernel_rfl) (fun w hS => frame hS (by repeat' constructor) (fun B' hB hS' => compact_int lays2n20_at hS' (by rw [List.length_mergeSort]; omega))) ?_; rintro ⟨⟩ -)
  rw [ris_eq]
  refine oAssign rfl (oNil (thn_n (wRet (fin_r (fi1 rfl ?_)))))
  exact ⟨(A7, c7), trivial, rfl, Lh⟩
def selP (needs : List Int) (q : ApiInstr × Int) : Bool := decide (needF q.1.fOp ∈ needs)
def refsTo (f : ApiFun) (needs : List Int) (n : Nat) : List Int := (((f.fF.fCode.zip f.fRefs).take n).filter (selP needs)).map (·.2)
def refsC (f : ApiFun) (needs : List Int) : List Int := ((f.fF.fCode.zip f.fRefs).filter (selP needs)).map (·.2)
theorem refsTo_succ {f : ApiFun} {needs : List Int} {i : Nat} {x : ApiInstr} {r : Int} (hx : f.fF.fCode[i]? = some x) (hr : f.fRefs[i]? = some r) : refsTo f needs (i + 1) = refsTo f needs i ++ (if needF x.fOp ∈ needs then [r] else []) := by
  have h : (f.fF.fCode.zip f.fRefs)[i]? = some (x, r) := by rw [List.getElem?_zip_eq_some]; exact ⟨hx, hr⟩
  unfold refsTo
  rw [List.take_add_one, h, List.filter_append, List.map_append]
  congr 1
  show List.map _ (List.filter _ [(x, r)]) = _
  unfold selP
  by_cases hn : needF x.fOp ∈ needs
  · rw [if_pos hn]; simp [hn]
  · rw [if_neg hn]; simp [hn]
theorem refsTo_over {f : ApiFun} {needs : List Int} {i : Nat} (h : f.fRefs.length ≤ i) : refsTo f needs (i + 1) = refsTo f needs i := by
  unfold refsTo
  rw [List.take_of_length_le (by rw [List.length_zip]; omega), List.take_of_length_le (by rw [List.length_zip]; omega)]
theorem refsTo_all {f : ApiFun} {needs : List Int} {i : Nat} (h : f.fF.fCode.length ≤ i ∨ f.fRefs.length ≤ i) : refsTo f needs i = refsC f needs := by
  unfold refsTo refsC
  rw [List.take_of_length_le (by rw [List.length_zip]; omega)]
theorem refsTo_len (f : ApiFun) (needs : List Int) (n : Nat) : (refsTo f needs n).length ≤ f.fRefs.length := by
  unfold refsTo
  rw [List.length_map]
  refine Nat.le_trans (List.length_filter_le _ _) ?_
  rw [List.length_take, List.length_zip]; omega
theorem refsC_len (f : ApiFun) (needs : List Int) : (refsC f needs).length ≤ f.fRefs.length := by
  rw [← refsTo_all (Or.inl (Nat.le_refl _))]; exact refsTo_len _ _ _
set_option maxRecDepth 100000 in
set_option maxHeartbeats 1000000 in
theorem calls_refs {B : Base} {w : World} (hS : St B [] w) (f : ApiFun) (fc : List Value) (hf : kApiFun.K B.e f fc) (hl : f.fRefs.length ≤ 1000) (needs : List Int) (A : Option Addr) (cp : Nat) (hC : (Kd.int .i64).C B.e A needs) (W0 : World) :
    CallsIn Fence.wide 0 Tryz.prog 89 #[.agg fc.toArray, .slice A needs.length cp] w (Ret B (fun _ : Option Addr × Nat => True) (fun z => .slice z.1 (refsC f needs).length z.2) (fun z => [row (Kd.int .i64) W0 3 (.slice z.1 (refsC f needs).length z.2) (refsC f needs)])) := by
  obtain ⟨A0, c0, A1, c1, A2, c2, A3, c3, A4, c4, rfl, l0, g0, l1, g1, l2, g2, l3, g3, l4, g4⟩ := kApiFun_open hf
  have hcl := g2.1
  (refine enter Tryz.func89 rfl rfl hS ?_; simp only [List.zipIdx_cons, List.zipIdx_nil, List.map_cons, List.map_nil, Nat.reduceAdd, Nat.zero_add])
  refine wSeq (wRegion' (oBox rfl (by repeat constructor) (fun b2 => ?_)))
  refine oAssign rfl (oNil (thn_n (wSeq (wRegion' (oAssign rfl (oNil (thn_n (wSeq (wSeq (wRegion' (oFld (n := 3) (m := 3) rfl rfl rfl ?_)))))))))))
  refine oFld (n := 7) (m := 10) rfl rfl rfl (oLd rfl (by repeat constructor) rfl rfl ?_)
  refine oLenS rfl rfl (oMove rfl (oNil (thn_n (wBlock (wLoop (ι := Nat × Option Addr × Nat) (fun z => [(1, .slice A needs.length cp), (2, .pointer (some ⟨b2, 0, none⟩)), (5, .slice z.2.1 (refsTo f needs z.1).length z.2.2), (10, .slice A2 f.fF.fCode.length c2), (11, .int .i64 (f.fF.fCode.length : Int)), (12, .int .i64 (z.1 : Int))]) (fun z => [blk b2 49 [.int .i64 f.fFile, .int .i64 f.fItem, .string f.fName, .int .i64 f.fF.fClass, .slice A0 f.fF.fKinds.length c0, .int .i64 f.fF.fPad, .bool f.fF.fNosplit, .int .i64 f.fF.fFrom, .int .i64 f.fF.fTo, .slice A1 f.fF.fLines.length c1, .slice A2 f.fF.fCode.length c2, .slice A3 f.fF.fRelocs.length c3, .slice A4 f.fRefs.length c4], row (Kd.int .i64) W0 3 (.slice z.2.1 (refsTo f needs z.1).length z.2.2) (refsTo f needs z.1)]) (fun z => z.1 ≤ f.fF.fCode.length) (fun z => f.fF.fCode.length - z.1) (0, none, 0) ?_ cv (Leads.nilrow.trans Lh) ?_)))))
  ·
   exact Nat.zero_le _
  rintro ⟨i, A5, c5⟩ hi
  dsimp only at hi
  have hle := refsTo_len f needs i
  try dsimp only
  refine wSeq (wRegion' (oLss rfl rfl (oNil (thn_n (wSeq (wC (fun h13 => ?_) (fun h13 => ?_)))))))
  ·
   obtain ⟨x, hx⟩ : ∃ x, f.fF.fCode[i]? = some x := ⟨_, List.getElem?_eq_getElem (by omega)⟩
   obtain ⟨e1, cs1, hE⟩ := g2.elm hx
   obtain rfl := kApiInstr_open hE.K
   refine wSkip (thn_n (wSeq (wBlock (wSeq (wRegion' (oMove rfl (oIdxE rfl rfl (hE) (by omega) rfl rfl ?_)))))))
   have hc15 := (hE).cell
   first | refine oLdX rfl hc15 rfl rfl ?_ | refine oLdXA rfl hc15 rfl (by repeat constructor) ?_ | (refine oLdR1 rfl (by repeat constructor) (by omega) rfl (fun u16 hu16 => ?_))
   refine oAlloc rfl (by repeat constructor) (fun b7 => ?_)
   refine oAssign rfl (oStA rfl rfl rfl rfl (by repeat constructor) (by rfl) ?_)
   refine oNil (thn_n (wSeq (wRegion' (oMove rfl (oFld (n := 12) (m := 12) rfl rfl rfl (oLd rfl (by repeat constructor) rfl rfl ?_))))))
   refine oLenS rfl rfl (oLss rfl rfl (oMove rfl ?_))
   first | refine oSplit (t := 22) rfl (fun h22 => ?_) (fun h22 => ?_) | refine oSplitB (t := 22) rfl (fun h22 => ?_) (fun h22 => ?_)
   ·
    obtain ⟨r, hr⟩ : ∃ r, f.fRefs[i]? = some r := ⟨_, List.getElem?_eq_getElem (by omega)⟩
    obtain ⟨e2, cs2, hE2⟩ := g4.elm hr
    obtain rfl := (show cs2 = [Value.int .i64 r] from hE2.K)
    have hrs := refsTo_succ (needs := needs) hx hr
    refine oWant rfl rfl (oMove rfl (oWant rfl rfl (oFld (n := 0) (m := 0) rfl rfl rfl (oWant rfl rfl (oLd rfl (by repeat constructor) rfl rfl ?_)))))
    refine oWant rfl rfl ?_
    (refine oCall rfl (by kernel_rfl) (fun w hS => frame hS (by repeat' constructor) (fun B' hB hS' => op_Need hS' x.fOp)) ?_; rintro ⟨⟩ -)
    refine oWant rfl rfl ?_
    (refine oCall rfl (by kernel_rfl) (fun w hS => frame hS (by repeat' constructor) (fun B' hB hS' => contains_int hS' needs A cp (Kd.C_grow hB hC) (needF x.fOp))) ?_; rintro ⟨⟩ -)
    refine oPickT rfl rfl (oNil (thn_n (wC (fun h28 => ?_) (fun h28 => ?_))))
    ·
     refine wRegion' (oMove rfl (oFld (n := 12) (m := 12) rfl rfl rfl (oLd rfl (by repeat constructor) rfl rfl ?_)))
     refine oMove rfl (oIdxE rfl rfl (hE2) (by omega) rfl rfl ?_)
     have hc33 := (hE2).cell
     first | refine oLdX rfl hc33 rfl rfl ?_ | refine oLdXA rfl hc33 rfl (by repeat constructor) ?_ | (refine oLdR1 rfl (by repeat constructor) (by omega) rfl (fun u34 hu34 => ?_))
     refine oBuildSlice1 rfl rfl rfl rfl rfl (by repeat constructor) rfl (fun b35 => ?_)
     refine oApp1 r rfl rfl rfl rfl (by repeat constructor) (by repeat constructor) rfl (by omega) rfl (fun g36 cp36 => ?_)
     rw [if_pos (by simpa using h28)] at hrs
     rw [show (refsTo f needs i).length + 1 = (refsTo f needs (i + 1)).length by rw [hrs, List.length_append]; rfl, ← hrs]
     refine oAssign rfl (oNil (blk_n (thn_n (wRegion' (oSucc rfl rfl (by omega) ?_)))))
     refine oMove rfl (oNil (thn_n ?_))
     exact ⟨rfl, (i + 1, some ⟨g36, 0, none⟩, cp36), by show i + 1 ≤ _; omega, by show f.fF.fCode.length - (i + 1) < f.fF.fCode.length - i; omega, cv, Lh⟩
    refine wSkip (blk_n (thn_n (wRegion' (oSucc rfl rfl (by omega) ?_))))
    refine oMove rfl (oNil (thn_n ?_))
    exact ⟨rfl, (i + 1, A5, c5), by show i + 1 ≤ _; omega, by show f.fF.fCode.length - (i + 1) < f.fF.fCode.length - i; omega, by dsimp only; rw [hrs, if_neg (by simpa using h28), List.append_nil]; exact cv, by dsimp only; rw [hrs, if_neg (by simpa using h28), List.append_nil]; exact Lh⟩
   refine oSkip rfl rfl rfl rfl (oSkip rfl rfl rfl rfl (oSkip rfl rfl rfl rfl (oSkip rfl rfl rfl rfl (oSkip rfl rfl rfl rfl (oPickF rfl rfl (oNil (thn_n ?_)))))))
   first | refine wCondF rfl ?_ | refine wCondFd h28 rfl ?_ | refine wCondFb h28 rfl ?_
   refine wSkip (blk_n (thn_n (wRegion' (oSucc rfl rfl (by omega) ?_))))
   refine oMove rfl (oNil (thn_n ?_))
   exact ⟨rfl, (i + 1, A5, c5), by show i + 1 ≤ _; omega, by show f.fF.fCode.length - (i + 1) < f.fF.fCode.length - i; omega, by dsimp only; rw [refsTo_over (by omega)]; exact cv, by dsimp only; rw [refsTo_over (by omega)]; exact Lh⟩
  obtain rfl : i = f.fF.fCode.length := by omega
  rw [refsTo_all (Or.inl (Nat.le_refl _))]
  refine wExit (thn_x (thn_x (blk_x (thn_n (wSeq (wRegion' (oMove rfl (oAssign rfl (oNil (thn_n (wRet ?_)))))))))))
  refine fin_r (fi1 rfl ?_)
  exact ⟨(A5, c5), trivial, rfl, Lh⟩
structure SmallP (p : ApiProgram) : Prop where
  funs : p.fFuns.length ≤ 24
  dats : p.fDats.length ≤ 24
  fn : ∀ f ∈ p.fFuns, f.fF.fCode.length ≤ 80 ∧ f.fRefs.length ≤ 80 ∧ f.fF.fKinds.length ≤ 80 ∧ f.fF.fRelocs.length ≤ 80 ∧ f.fF.fLines.length ≤ 80
  dt : ∀ d ∈ p.fDats, d.fD.fWords.length ≤ 80 ∧ d.fRefs.length ≤ 80 ∧ d.fD.fRelocs.length ≤ 80
theorem map_take_succ {α β : Type} (F : α → β) {l : List α} {i : Nat} {x : α} (h : l[i]? = some x) : (l.map F).take i ++ [F x] = (l.map F).take (i + 1) := by
  rw [List.take_add_one, List.getElem?_map, h]; rfl
set_option maxRecDepth 100000 in
set_option maxHeartbeats 1000000 in
theorem calls_each {B : Base} {w : World} {R : Res} (hS : St B [R] w) (p : ApiProgram) (pc : List Value) (hp : kApiProgram.K B.e p pc) (hn : p.fFuns.length ≤ 1000) (gf : Nat) (lb : Array Value) (F : ApiFun → List Int) (hg : goodF Tryz.prog gf = true) (W0 : World)
    (hh : ∀ B' w f fc, Grow B.e B'.e → f ∈ p.fFuns → kApiFun.K B'.e f fc → St B' [R] w → CallsIn Fence.wide 0 Tryz.prog gf (#[] ++ [Value.agg fc.toArray].toArray ++ lb) w (Ret B' (fun _ : Option Addr × Nat => True) (fun z => .slice z.1 (F f).length z.2) (fun z => [R, row (Kd.int .i64) W0 3 (.slice z.1 (F f).length z.2) (F f)]))) :
    CallsIn Fence.wide 0 Tryz.prog 74 #[.agg pc.toArray, .func (.func gf) #[] lb] w (Ret B (fun z : Option Addr × Nat × List Hdr => z.2.2.length = p.fFuns.length) (fun z => .slice z.1 p.fFuns.length z.2.1) (fun z => [R, row kHdr W0 42 (.slice z.1 p.fFuns.length z.2.1) z.2.2, bun (rws (Kd.int .i64) W0 3 z.2.2 (p.fFuns.map F))])) := by
  obtain ⟨A0, c0, A1, c1, rfl, l0, g0, l1, g1⟩ := kApiProgram_open hp
  (refine enter Tryz.func74 rfl rfl hS ?_; simp only [List.zipIdx_cons, List.zipIdx_nil, List.map_cons, List.map_nil, Nat.reduceAdd, Nat.zero_add])
  refine wSeq (wRegion' (oBox rfl (by repeat constructor) (fun b2 => ?_)))
  refine oAssign rfl (oNil (thn_n (wSeq (wRegion' (oAssign rfl (oNil (thn_n (wSeq (wSeq (wRegion' (oFld (n := 0) (m := 0) rfl rfl rfl ?_)))))))))))
  refine oLd rfl (by repeat constructor) rfl rfl ?_
  refine oLenS rfl rfl (oMove rfl (oNil (thn_n (wBlock (wLoop (ι := Nat × List Hdr × Option Addr × Nat) (fun z => [(1, .func (.func gf) #[] lb), (5, .slice z.2.2.1 z.1 z.2.2.2), (9, .slice A0 p.fFuns.length c0), (10, .int .i64 (p.fFuns.length : Int)), (11, .int .i64 (z.1 : Int))]) (fun z => [R, row kHdr W0 42 (.slice z.2.2.1 z.1 z.2.2.2) z.2.1, bun (rws (Kd.int .i64) W0 3 z.2.1 ((p.fFuns.map F).take z.1))]) (fun z => z.1 ≤ p.fFuns.length ∧ z.2.1.length = z.1) (fun z => p.fFuns.length - z.1) (0, [], none, 0) ?_ cv (Leads.nilrow.trans (bun_nil.trans Lh)) ?_)))))
  ·
   exact ⟨Nat.zero_le _, rfl⟩
  rintro ⟨i, hs, A5, c5⟩ ⟨hi, hl⟩
  dsimp only at hi hl
  have hxl : ((p.fFuns.map F).take i).length = i := by rw [List.length_take, List.length_map]; omega
  try dsimp only
  refine wSeq (wRegion' (oLss rfl rfl (oNil (thn_n (wSeq (wC (fun h12 => ?_) (fun h12 => ?_)))))))
  ·
   obtain ⟨f, hf⟩ : ∃ f, p.fFuns[i]? = some f := ⟨_, List.getElem?_eq_getElem (by omega)⟩
   obtain ⟨e1, cs1, hE⟩ := g0.elm hf
   obtain ⟨D0, d0, D1, d1, D2, d2, D3, d3, D4, d4, rfl, m0, q0, m1, q1, m2, q2, m3, q3, m4, q4⟩ := kApiFun_open hE.K
   refine wSkip (thn_n (wSeq (wBlock (wSeq (wRegion' (oIdxE rfl rfl (hE) (by omega) rfl rfl ?_))))))
   have hc13 := (hE).cell
   first | refine oLdX rfl hc13 rfl rfl ?_ | refine oLdXA rfl hc13 rfl (by repeat constructor) ?_ | (refine oLdR1 rfl (by repeat constructor) (by omega) rfl (fun u14 hu14 => ?_))
   refine oAlloc rfl (by repeat constructor) (fun b7 => ?_)
   refine oStA rfl rfl rfl rfl (by repeat constructor) (by rfl) ?_
   refine oNil (thn_n (wRegion' (oMove rfl (oMove rfl (oLdA rfl (by repeat constructor) rfl (by repeat constructor) ?_)))))
   (refine oCallV rfl rfl rfl hg (fun w hS => frame hS (Ψ := [R]) (by repeat' constructor) (fun B' hB hS' => hh B' w f _ hB (List.mem_of_getElem? hf) (kApiFun_mk _ f m0 (Kd.C_grow hB q0) m1 (Kd.C_grow hB q1) m2 (Kd.C_grow hB q2) m3 (Kd.C_grow hB q3) m4 (Kd.C_grow hB q4)) hS')) ?_; rintro ⟨A18, c18⟩ -)
   refine oBuildSlice1 rfl rfl rfl rfl rfl (by repeat constructor) rfl (fun b19 => ?_)
   refine oApp1 (kd := kHdr) ((A18, (F f).length, c18) : Hdr) rfl rfl rfl rfl (by repeat constructor) (by repeat constructor) rfl (by omega) rfl (fun g20 cp20 => ?_)
   refine oSnoc (kd := Kd.int .i64) (W := W0) (ei := 3) (u := (A18, (F f).length, c18)) (l := F f) (hs := hs) (xss := (p.fFuns.map F).take i) (by repeat constructor) (by repeat constructor) (by omega) ?_
   rw [map_take_succ F hf, hl]
   refine oAssign rfl (oNil (blk_n (thn_n (wRegion' (oSucc rfl rfl (by omega) ?_)))))
   refine oMove rfl (oNil (thn_n ?_))
   exact ⟨rfl, (i + 1, hs ++ [(A18, (F f).length, c18)], some ⟨g20, 0, none⟩, cp20), ⟨by show i + 1 ≤ _; omega, by show (hs ++ _).length = i + 1; rw [List.length_append, hl]; rfl⟩, by show p.fFuns.length - (i + 1) < p.fFuns.length - i; omega, cv, Lh⟩
  obtain rfl : i = p.fFuns.length := by omega
  rw [show (p.fFuns.map F).take p.fFuns.length = p.fFuns.map F from List.take_of_length_le (by simp)]
  refine wExit (thn_x (thn_x (blk_x (thn_n (wSeq (wRegion' (oMove rfl (oAssign rfl (oNil (thn_n (wRet ?_)))))))))))
  refine fin_r (fi1 rfl ?_)
  exact ⟨(A5, c5, hs), hl, rfl, Lh⟩
end Go.Proofs.YtogaiijhicfoaaaGreatU
