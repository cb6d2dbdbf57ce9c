import Derived.Test.YtogaiijhicfoaaaGreatUi

/-
  The call graph: the program's.
-/
namespace Go.Proofs.YtogaiijhicfoaaaGreatU
set_option linter.unusedVariables false
set_option linter.unusedSimpArgs false
open Go.RowKit Go.Proofs.YtogaiijhicfoaaaGreatK Go.Proofs.YtogaiijhicfoaaaGreatT Go.Proofs.YtogaiijhicfoaaaGreatL Go.Proofs.YtogaiijhicfoaaaGreatV Go.Proofs.YtogaiijhicfoaaaGreatG

def clsP (p : ApiProgram) (tk : List Bool) (c : Int) (k : Nat) : Bool := tk.getD k false && decide ((p.fFuns.getD k default).fF.fClass = c)
def clsFrom (p : ApiProgram) (tk : List Bool) (c : Int) (i : Nat) : List Int := (((List.range p.fFuns.length).drop i).filter (clsP p tk c)).map fun k : Nat => (k : Int)
def classL (p : ApiProgram) (tk : List Bool) (c : Int) : List Int := clsFrom p tk c 0
theorem cls_T {p : ApiProgram} {tk : List Bool} {c : Int} {i : Nat} (hi : i < p.fFuns.length) (h : clsP p tk c i = true) : clsFrom p tk c i = (i : Int) :: clsFrom p tk c (i + 1) := by
  unfold clsFrom
  rw [List.drop_eq_getElem_cons (by simpa using hi), List.getElem_range, List.filter_cons, if_pos h, List.map_cons]
theorem cls_F {p : ApiProgram} {tk : List Bool} {c : Int} {i : Nat} (hi : i < p.fFuns.length) (h : clsP p tk c i = false) : clsFrom p tk c i = clsFrom p tk c (i + 1) := by
  unfold clsFrom
  rw [List.drop_eq_getElem_cons (by simpa using hi), List.getElem_range, List.filter_cons, if_neg (by rw [h]; simp)]
theorem cls_end (p : ApiProgram) (tk : List Bool) (c : Int) : clsFrom p tk c p.fFuns.length = [] := by unfold clsFrom; rw [List.drop_of_length_le (by simp)]; rfl
theorem cls_len (p : ApiProgram) (tk : List Bool) (c : Int) : (classL p tk c).length ≤ p.fFuns.length := by
  unfold classL clsFrom
  rw [List.length_map, List.drop_zero]
  exact Nat.le_trans (List.length_filter_le _ _) (by simp)
theorem clsP_at {p : ApiProgram} {tk : List Bool} {c : Int} {k : Nat} {f : ApiFun} {u : Bool} (hu : tk[k]? = some u) (hf : p.fFuns[k]? = some f) : clsP p tk c k = (u && decide (f.fF.fClass = c)) := by
  unfold clsP
  rw [List.getD_eq_getElem?_getD, hu, List.getD_eq_getElem?_getD, hf]; rfl
set_option maxRecDepth 100000 in
theorem ofClass_any {B : Base} {w : World} (hS : St B [] w) (pc : List Value) (A : Option Addr) (n cp : Nat) (c : Int) :
    CallsIn Fence.wide 0 Tryz.prog 92 #[.agg pc.toArray, .slice A n cp, .int .i64 c] w (Ret B (fun _ : Nat × Nat × Nat => True) (fun b => .func (.func 150) #[] #[.pointer (some ⟨b.1, 0, none⟩), .pointer (some ⟨b.2.1, 0, none⟩), .pointer (some ⟨b.2.2, 0, none⟩)]) (fun b => [blk b.1 29 pc, blk b.2.1 53 [.slice A n cp], blk b.2.2 3 [.int .i64 c]])) := by
  (refine enter Tryz.func92 rfl rfl hS ?_; simp only [List.zipIdx_cons, List.zipIdx_nil, List.map_cons, List.map_nil, Nat.reduceAdd, Nat.zero_add])
  refine wSeq (wRegion' (oBox rfl (by repeat constructor) (fun b3 => ?_)))
  refine oBox rfl (by repeat constructor) (fun b4 => ?_)
  refine oBox rfl (by repeat constructor) (fun b5 => ?_)
  refine oAssign rfl (oNil (thn_n (wSeq (wRegion' (oMakeFunc rfl (oAssign rfl (oNil (thn_n (wRet (fin_r (fi1 rfl ?_)))))))))))
  exact ⟨(b3, b4, b5), trivial, rfl, Lh⟩
set_option maxRecDepth 100000 in
set_option maxHeartbeats 1000000 in
theorem ofClass1 {B : Base} (p : ApiProgram) (pc : List Value) (hp : kApiProgram.K B.e p pc) (hn : p.fFuns.length ≤ 1000) (tk : List Bool) (A : Option Addr) (cp : Nat) (hT : Kd.bool.C B.e A tk) (htl : tk.length = p.fFuns.length) (c : Int) (x1 x2 x3 : Nat) :
    IterC Tryz.prog 150 #[.pointer (some ⟨x1, 0, none⟩), .pointer (some ⟨x2, 0, none⟩), .pointer (some ⟨x3, 0, none⟩)] B ((classL p tk c).map intV) [blk x1 29 pc, blk x2 53 [.slice A p.fFuns.length cp], blk x3 3 [.int .i64 c]] := by
  obtain ⟨A0, c0, A1, c1, rfl, l0, g0, l1, g1⟩ := kApiProgram_open hp
  intro lp AI Ax r0 w hbody hA hS
  show CallsIn Fence.wide 0 Tryz.prog 150 #[.func (.yield lp) #[] #[], .pointer (some ⟨x1, 0, none⟩), .pointer (some ⟨x2, 0, none⟩), .pointer (some ⟨x3, 0, none⟩)] w _
  (refine enter Tryz.func150 rfl rfl hS ?_; simp only [List.zipIdx_cons, List.zipIdx_nil, List.map_cons, List.map_nil, Nat.reduceAdd, Nat.zero_add])
  refine wSeq (wRegion' (oFld (n := 0) (m := 0) rfl rfl rfl (oLd rfl (by repeat constructor) rfl rfl ?_)))
  refine oLenS rfl rfl (oMove rfl (oNil (thn_n (wBlock (wLoop (ι := Nat × Nat × Res) (fun z => [(0, .func (.yield lp) #[] #[]), (1, .pointer (some ⟨x1, 0, none⟩)), (2, .pointer (some ⟨x2, 0, none⟩)), (3, .pointer (some ⟨x3, 0, none⟩)), (8, .slice A0 p.fFuns.length c0), (9, .int .i64 (p.fFuns.length : Int)), (10, .int .i64 (z.1 : Int))]) (fun z => [z.2.2, blk x1 29 [.slice A0 p.fFuns.length c0, .slice A1 p.fDats.length c1, .int .i64 p.fEntry], blk x2 53 [.slice A p.fFuns.length cp], blk x3 3 [.int .i64 c]]) (fun z => z.1 ≤ p.fFuns.length ∧ z.2.1 ≤ (classL p tk c).length ∧ AI z.2.1 z.2.2 ∧ (classL p tk c).drop z.2.1 = clsFrom p tk c z.1) (fun z => p.fFuns.length - z.1) (0, 0, r0) ?_ cv Lh ?_)))))
  ·
   exact ⟨Nat.zero_le _, Nat.zero_le _, hA, rfl⟩
  rintro ⟨i, j, r⟩ ⟨hi, hj, hA, hd⟩
  dsimp only at hi hj hA hd
  try dsimp only
  refine wSeq (wRegion' (oLss rfl rfl (oNil (thn_n (wSeq (wC (fun h11 => ?_) (fun h11 => ?_)))))))
  ·
   obtain ⟨f, hf⟩ : ∃ f, p.fFuns[i]? = some f := ⟨_, List.getElem?_eq_getElem (by omega)⟩
   have hil : i < p.fFuns.length := by omega
   obtain ⟨ef, csf, hEf⟩ := g0.elm hf
   obtain ⟨D0, d0, D1, d1, D2, d2, D3, d3, D4, d4, rfl, m0, q0, m1, q1, m2, q2, m3, q3, m4, q4⟩ := kApiFun_open hEf.K
   obtain ⟨u, hu⟩ : ∃ u, tk[i]? = some u := ⟨_, List.getElem?_eq_getElem (by omega)⟩
   obtain ⟨eb, csb, hEb⟩ := hT.elm hu
   obtain rfl := (show csb = [Value.bool u] from hEb.K)
   have hcp := clsP_at (c := c) hu hf
   refine wSkip (thn_n (wSeq (wBlock (wSeq (wRegion' (oMove rfl (oIdxE rfl rfl (hEf) (by omega) rfl rfl ?_)))))))
   have hc13 := (hEf).cell
   first | refine oLdX rfl hc13 rfl rfl ?_ | refine oLdXA rfl hc13 rfl (by repeat constructor) ?_ | (refine oLdR1 rfl (by repeat constructor) (by omega) rfl (fun u14 hu14 => ?_))
   refine oAlloc rfl (by repeat constructor) (fun b6 => ?_)
   refine oAssign rfl (oStA rfl rfl rfl rfl (by repeat constructor) (by rfl) ?_)
   refine oNil (thn_n (wSeq (wRegion' (oLd rfl (by repeat constructor) rfl rfl ?_))))
   refine oMove rfl (oIdxE rfl rfl (hEb) (by omega) rfl rfl ?_)
   have hc17 := (hEb).cell
   first | refine oLdX rfl hc17 rfl rfl ?_ | refine oLdXA rfl hc17 rfl (by repeat constructor) ?_ | (refine oLdR1 rfl (by repeat constructor) (by omega) rfl (fun u18 hu18 => ?_))
   refine oMove rfl ?_
   first | refine oSplit (t := 19) rfl (fun h19 => ?_) (fun h19 => ?_) | refine oSplitB (t := 19) rfl (fun h19 => ?_) (fun h19 => ?_)
   ·
    refine oWant rfl rfl (oFld (n := 3) (m := 3) rfl rfl rfl (oWant rfl rfl (oFld (n := 0) (m := 3) rfl rfl rfl (oWant rfl rfl (oLd rfl (by repeat constructor) rfl rfl ?_)))))
    refine oWant rfl rfl (oLd rfl (by repeat constructor) rfl rfl ?_)
    refine oWant rfl rfl (oEql rfl rfl (oPickT rfl rfl (oMove rfl ?_)))
    first | refine oSplit (t := 26) rfl (fun h26 => ?_) (fun h26 => ?_) | refine oSplitB (t := 26) rfl (fun h26 => ?_) (fun h26 => ?_)
    ·
     have hct : clsP p tk c i = true := by rw [hcp]; simp_all
     rw [cls_T hil hct] at hd
     obtain ⟨hjlt, hjg, hjd⟩ := drop_cons hd
     have hY : ∀ Fr W1, St B (r :: Fr) W1 → YieldAt Fence.wide 0 Tryz.prog lp (intV (i : Int)).toArray W1 (YEnd B j AI Ax Fr) := by
       intro Fr W1 h1
       have := hbody j (by simpa using hjlt) r Fr W1 hA h1
       rwa [List.getElem_map, hjg] at this
     refine oWant rfl rfl (oMove rfl (oWant rfl rfl (oMove rfl (oWant rfl rfl (oYield rfl rfl rfl (fun w hS => hY _ w (hS.perm (Pick.perm (by repeat constructor)))) ?_)))))
     rintro ⟨bb, r'⟩ hr'
     dsimp only at hr' ⊢
     refine oWant rfl rfl ?_
     first | refine oNot rfl ?_ | refine oNotB rfl ?_
     refine oPickT rfl rfl (oNil (thn_n (wC (fun h31 => ?_) (fun h31 => ?_))))
     ·
      refine wRet (blk_r (thn_r (thn_r (blk_r (fin_r ?_)))))
      refine ⟨rfl, _, ResL.nil, ?_⟩
      exact ⟨r', .inr ⟨j, by simpa using hjlt, by rw [if_neg (by simpa using h31)] at hr'; exact hr'⟩, rfl, Lh⟩
     refine wSkip (blk_n (thn_n (wRegion' (oSucc rfl rfl (by omega) ?_))))
     refine oMove rfl (oNil (thn_n ?_))
     exact ⟨rfl, (i + 1, j + 1, r'), ⟨by show i + 1 ≤ _; omega, hjlt, by rw [if_pos (by simpa using h31)] at hr'; exact hr', hjd⟩, by show p.fFuns.length - (i + 1) < p.fFuns.length - i; omega, cv, Lh⟩
    refine oSkip rfl rfl rfl rfl (oSkip rfl rfl rfl rfl (oSkip rfl rfl rfl rfl (oSkip rfl rfl rfl rfl (oPickF rfl rfl (oNil (thn_n ?_))))))
    first | refine wCondF rfl ?_ | refine wCondFd h31 rfl ?_ | refine wCondFb h31 rfl ?_
    refine wSkip (blk_n (thn_n (wRegion' (oSucc rfl rfl (by omega) ?_))))
    refine oMove rfl (oNil (thn_n ?_))
    exact ⟨rfl, (i + 1, j, r), ⟨by show i + 1 ≤ _; omega, hj, hA, by rw [hd, cls_F hil (by rw [hcp]; simp_all)]⟩, by show p.fFuns.length - (i + 1) < p.fFuns.length - i; omega, cv, Lh⟩
   refine oSkip rfl rfl rfl rfl (oSkip rfl rfl rfl rfl (oSkip rfl rfl rfl rfl (oSkip rfl rfl rfl rfl (oSkip rfl rfl rfl rfl (oPickF rfl rfl (oMove rfl (oSkip rfl rfl rfl rfl (oSkip rfl rfl rfl rfl (oSkip rfl rfl rfl rfl (oSkip rfl rfl rfl rfl (oPickF rfl rfl ?_)))))))))))
   refine oNil (thn_n ?_)
   first | refine wCondF rfl ?_ | refine wCondFd h31 rfl ?_ | refine wCondFb h31 rfl ?_
   refine wSkip (blk_n (thn_n (wRegion' (oSucc rfl rfl (by omega) ?_))))
   refine oMove rfl (oNil (thn_n ?_))
   exact ⟨rfl, (i + 1, j, r), ⟨by show i + 1 ≤ _; omega, hj, hA, by rw [hd, cls_F hil (by rw [hcp]; simp_all)]⟩, by show p.fFuns.length - (i + 1) < p.fFuns.length - i; omega, cv, Lh⟩
  refine wExit (thn_x (thn_x (blk_x (fin_n ?_))))
  refine ⟨rfl, _, ResL.nil, ?_⟩
  have hjj : j = ((classL p tk c).map intV).length := by
    obtain rfl : i = p.fFuns.length := by omega
    rw [cls_end] at hd
    have := List.drop_eq_nil_iff.1 hd
    rw [List.length_map]; omega
  exact ⟨r, .inl (hjj ▸ hA), rfl, Lh⟩
noncomputable def partF (p : ApiProgram) (f : ApiFun) (j : Nat) : List Int := directF p f ++ (((viasF f).take j).map (classL p (takenL p))).flatten
theorem partF_zero (p : ApiProgram) (f : ApiFun) : partF p f 0 = directF p f := by unfold partF; simp
theorem partF_succ {p : ApiProgram} {f : ApiFun} {j : Nat} {c : Int} (h : (viasF f)[j]? = some c) : partF p f (j + 1) = partF p f j ++ classL p (takenL p) c := by
  unfold partF
  rw [List.take_add_one, h, List.map_append, List.flatten_append, List.append_assoc]; simp
theorem partF_len {p : ApiProgram} (hsm : SmallP p) (f : ApiFun) (j : Nat) : (partF p f j).length ≤ 300 := by
  unfold partF
  have h1 : (directF p f).length ≤ p.fFuns.length := ris_len _ _
  have h2 : (viasF f).length ≤ 8 := ris_len _ _
  have h3 := flat_bound (c := 24) (ll := ((viasF f).take j).map (classL p (takenL p))) (fun x hx => by
    obtain ⟨c, _, rfl⟩ := List.mem_map.1 hx
    exact Nat.le_trans (cls_len _ _ _) hsm.funs)
  have h4 := hsm.funs
  rw [List.length_map, List.length_take] at h3
  rw [List.length_append]
  have : 24 * min j (viasF f).length ≤ 24 * 8 := Nat.mul_le_mul_left _ (by omega)
  omega
noncomputable def rowF (p : ApiProgram) (i : Nat) : List Int := if (liveL p).getD i false = true then partF p (p.fFuns.getD i default) (viasF (p.fFuns.getD i default)).length else []
noncomputable def grTo (p : ApiProgram) (i : Nat) : List (List Int) := (List.range p.fFuns.length).map fun k => if k < i then rowF p k else []
theorem grTo_zero (p : ApiProgram) : grTo p 0 = List.replicate p.fFuns.length [] := by
  unfold grTo
  apply List.ext_getElem?
  intro i
  rw [List.getElem?_map, List.getElem?_replicate]
  by_cases h : i < p.fFuns.length
  · simp [h]
  · simp [h]
theorem grTo_len (p : ApiProgram) (i : Nat) : (grTo p i).length = p.fFuns.length := by simp [grTo]
theorem grTo_at {p : ApiProgram} {i : Nat} (h : i < p.fFuns.length) : (grTo p i)[i]? = some [] := by simp [grTo, h]
theorem grTo_succ {p : ApiProgram} {i : Nat} (h : i < p.fFuns.length) {l : List Int} (hl : rowF p i = l) : (grTo p i).set i l = grTo p (i + 1) := by
  apply List.ext_getElem?
  intro k
  rw [List.getElem?_set, grTo_len]
  by_cases e : i = k
  · subst e; simp [grTo, h, hl]
  · rw [if_neg e]
    unfold grTo
    rw [List.getElem?_map, List.getElem?_map]
    cases hr : (List.range p.fFuns.length)[k]? with
    | none => rfl
    | some j =>
      obtain ⟨hk, rfl⟩ := List.getElem?_eq_some_iff.1 hr
      simp only [List.getElem_range, Option.map_some, Option.some.injEq]
      by_cases h1 : k < i
      · rw [if_pos h1, if_pos (by omega)]
      · rw [if_neg h1, if_neg (by omega)]
theorem bun_pop {B : Base} {r : Res} {Ψ Φ Φ' : List Res} (hp : Pick Φ (bun (r :: Ψ)) Φ') : Leads B Φ (r :: bun Ψ :: Φ') := fun w h => bun_focus (Ψ := r :: Ψ) (i := 0) rfl w (h.perm hp.perm)
theorem rws_drop {α : Type} {kd : Kd α} {W : World} {e : TypeId} {hs : List Hdr} {xss : List (List α)} {i : Nat} {u : Hdr} {xs : List α} (hu : hs[i]? = some u) (hx : xss[i]? = some xs) : (rws kd W e hs xss).drop i = row kd W e (hV u) xs :: (rws kd W e hs xss).drop (i + 1) := by
  have h := rws_at (kd := kd) (W := W) (ei := e) hu hx
  obtain ⟨hi, he⟩ := List.getElem?_eq_some_iff.1 h
  rw [List.drop_eq_getElem_cons hi, he]
end Go.Proofs.YtogaiijhicfoaaaGreatU
