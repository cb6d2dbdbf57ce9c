import Derived.Test.YtogaiijhicfoaaaGreatWk

/-
  The reference of binding: program.
-/
namespace Go.Proofs.YtogaiijhicfoaaaGreatW
set_option linter.unusedVariables false
set_option linter.unusedSimpArgs false
open Go.RowKit Go.Proofs.YtogaiijhicfoaaaGreatK Go.Proofs.YtogaiijhicfoaaaGreatT Go.Proofs.YtogaiijhicfoaaaGreatL Go.Proofs.YtogaiijhicfoaaaGreatV Go.Proofs.YtogaiijhicfoaaaGreatG

theorem elm_grow {α : Type} {kd : Kd α} {W W' : World} {A : Option Addr} {i : Nat} {u : α} {e : Addr} {cs : List Value} (h : Elm kd W A i u e cs) (g : Grow W W') : Elm kd W' A i u e cs := ⟨h.at_, kd.K_grow g h.K, fun j v hv => g _ _ (h.cell j v hv)⟩
theorem kFunT_mk {W : World} {i k : Int} {s : ByteArray} {f : ApiFunc} {fc : List Value} {u : Hdr} (h : kApiFunc.K W f fc) : kFunT.K W (i, k, s, f, u) (.int .i64 i :: .int .i64 k :: .string s :: (fc ++ [hV u])) := ⟨_, _, rfl, rfl, _, _, rfl, rfl, _, _, rfl, rfl, _, _, rfl, h, rfl⟩
theorem kDatT_mk {W : World} {i k : Int} {s : ByteArray} {f : ApiData} {fc : List Value} {u : Hdr} (h : kApiData.K W f fc) : kDatT.K W (i, k, s, f, u) (.int .i64 i :: .int .i64 k :: .string s :: (fc ++ [hV u])) := ⟨_, _, rfl, rfl, _, _, rfl, rfl, _, _, rfl, rfl, _, _, rfl, h, rfl⟩
theorem symsF_take {f : ApiFunc} {j : Nat} (hj : j < f.fCode.length) : (symsF f).take (j + 1) = (symsF f).take j ++ [symF f (j : Int)] := by
  have : (symsF f)[j]? = some (symF f (j : Int)) := rmap_at (e := fun j : Nat => symF f (j : Int)) hj
  rw [List.take_add_one, this]; rfl
theorem symsF_all (f : ApiFunc) : (symsF f).take f.fCode.length = symsF f := by rw [← symsF_len f, List.take_length]
theorem sum_funs {l : List ApiObject} (h : FewO l) (n : Nat) : (funsTo l n).length ≤ 20 * n := by rw [funsTo_len]; exact sumO_le h n
theorem sum_dats {l : List ApiObject} (h : FewO l) (n : Nat) : (datsTo l n).length ≤ 20 * n := by rw [datsTo_len]; exact sumO_le h n
set_option maxRecDepth 100000 in
set_option maxHeartbeats 4000000 in
theorem ref24_program {B : Base} {w : World} (hS : St B [] w) (A : Option Addr) (cp : Nat) (l : List ApiObject) (W0 : World) (hW : Grow W0 B.e) (hC0 : kApiObject.C W0 A l) (hv : ∀ o ∈ l, vApiObject o) (hok : OkL l) :
    CallsIn Fence.wide 0 Tryz.prog 72 #[.slice A l.length cp] w (Ret B (fun z : PZ => z.ok ∧ funsOf z.ft z.fr = funsTo l l.length ∧ datsOf z.dt z.dr = datsTo l l.length) (fun z => .agg (z.cells 0).toArray) (fun z => [row kFunT W0 49 (.slice z.Af z.ft.length z.cf) z.ft, bun (rws (Kd.int .i64) W0 3 (z.ft.map hdT) z.fr), row kDatT W0 98 (.slice z.Ad z.dt.length z.cd) z.dt, bun (rws (Kd.int .i64) W0 3 (z.dt.map hdT) z.dr)])) := by
  have hsm := hok.few
  have hln := hsm.len
  have hC := Kd.C_grow hW hC0
  (refine enter Tryz.func72 rfl rfl hS ?_; simp only [List.zipIdx_cons, List.zipIdx_nil, List.map_cons, List.map_nil, Nat.reduceAdd, Nat.zero_add])
  refine wSeq (wRegion' (oAlloc rfl (by repeat constructor) (fun b2 => ?_)))
  refine oNil (thn_n (wSeq (wRegion' (oAlloc rfl (by repeat constructor) (fun b3 => ?_)))))
  refine oNil (thn_n (wSeq (wSeq (wRegion' (oAssign rfl (oNil (thn_n (wBlock (wLoop (ι := Nat × PZ) (fun x => [(0, .slice A l.length cp), (2, .pointer (some ⟨b2, 0, none⟩)), (3, .pointer (some ⟨b3, 0, none⟩)), (4, .int .i64 (x.1 : Int))]) (fun x => [blk b2 29 [.slice none 0 0, .slice none 0 0, .int .i64 0], blk b3 29 (x.2.cells 0), row kFunT W0 49 (.slice x.2.Af x.2.ft.length x.2.cf) x.2.ft, bun (rws (Kd.int .i64) W0 3 (x.2.ft.map hdT) x.2.fr), row kDatT W0 98 (.slice x.2.Ad x.2.dt.length x.2.cd) x.2.dt, bun (rws (Kd.int .i64) W0 3 (x.2.dt.map hdT) x.2.dr)]) (fun x => x.1 ≤ l.length ∧ x.2.ok ∧ funsOf x.2.ft x.2.fr = funsTo l x.1 ∧ datsOf x.2.dt x.2.dr = datsTo l x.1) (fun x => l.length - x.1) (0, ⟨none, 0, [], [], none, 0, [], []⟩) ?_ cv (Leads.nilrow.trans (bun_nil.trans (Leads.nilrow.trans (bun_nil.trans Lh)))) ?_)))))))))
  ·
   exact ⟨Nat.zero_le _, ⟨rfl, rfl⟩, rfl, rfl⟩
  rintro ⟨i, z⟩ ⟨hi, hz, hzf, hzd⟩
  dsimp only at hi hz hzf hzd
  try dsimp only
  refine wSeq (wSeq (wRegion' (oMove rfl (oMove rfl (oLenS rfl rfl (oLss rfl rfl (oNil (thn_n (wC (fun h13 => ?_) (fun h13 => ?_))))))))))
  ·
   obtain ⟨o, ho⟩ : ∃ o, l[i]? = some o := ⟨_, List.getElem?_eq_getElem (by omega)⟩
   have hom := List.mem_of_getElem? ho
   have hg := hsm.one hv hom
   have hg0 := hg.syms
   have hg1 := hg.funcs
   have hg2 := hg.datas
   have hoz := obj_zero (hok.objs o hom)
   have hoa := objAt_eq ho
   have hil : i < l.length := by omega
   obtain ⟨e1, cs1, hE⟩ := hC0.elm ho
   obtain ⟨B0, d0, B1, d1, B2, d2, rfl, m0, q0, m1, q1, m2, q2⟩ := kApiObject_open hE.K
   refine wSkip (thn_n (wSeq (wBlock (wSeq (wRegion' (oMove rfl (oMove rfl (oIdxE rfl rfl (elm_grow hE hW) (by omega) rfl rfl ?_))))))))
   have hc18 := (elm_grow hE hW).cell
   first | refine oLdX rfl hc18 rfl rfl ?_ | refine oLdXA rfl hc18 rfl (by repeat constructor) ?_ | (refine oLdR1 rfl (by repeat constructor) (by omega) rfl (fun u19 hu19 => ?_))
   refine oAlloc rfl (by repeat constructor) (fun b5 => ?_)
   refine oStA rfl rfl rfl rfl (by repeat constructor) (by rfl) ?_
   refine oNil (thn_n (wSeq (wSeq (wRegion' (oAssign rfl (oNil (thn_n (wBlock (wLoop (ι := Nat × PZ) (fun x => [(0, .slice A l.length cp), (2, .pointer (some ⟨b2, 0, none⟩)), (3, .pointer (some ⟨b3, 0, none⟩)), (4, .int .i64 (i : Int)), (5, .pointer (some ⟨b5, 0, none⟩)), (6, .int .i64 (x.1 : Int))]) (fun x => [blk b2 29 [.slice none 0 0, .slice none 0 0, .int .i64 0], blk b3 29 (x.2.cells 0), row kFunT W0 49 (.slice x.2.Af x.2.ft.length x.2.cf) x.2.ft, bun (rws (Kd.int .i64) W0 3 (x.2.ft.map hdT) x.2.fr), row kDatT W0 98 (.slice x.2.Ad x.2.dt.length x.2.cd) x.2.dt, bun (rws (Kd.int .i64) W0 3 (x.2.dt.map hdT) x.2.dr), blk b5 79 [.slice B0 o.fSymbols.length d0, .slice B1 o.fFuncs.length d1, .slice B2 o.fDatas.length d2]]) (fun x => x.1 ≤ o.fFuncs.length ∧ x.2.ok ∧ funsOf x.2.ft x.2.fr = funsTo l i ++ (List.range x.1).map (mkFun l i) ∧ datsOf x.2.dt x.2.dr = datsTo l i) (fun x => o.fFuncs.length - x.1) (0, z) ?_ cv Lh ?_)))))))))
   ·
    exact ⟨Nat.zero_le _, hz, by show funsOf z.ft z.fr = _; rw [hzf]; simp, hzd⟩
   rintro ⟨k, z⟩ ⟨hk, hz, hzf, hzd⟩
   dsimp only at hk hz hzf hzd
   have hzl : z.ft.length ≤ 1000 := by have h1 := congrArg List.length hzf; unfold funsOf at h1; rw [zip_len hz.f, List.length_append, List.length_map, List.length_range] at h1; have := sum_funs hsm i; omega
   try dsimp only
   refine wSeq (wSeq (wRegion' (oMove rfl (oFld (n := 1) (m := 1) rfl rfl rfl (oLd rfl (by repeat constructor) rfl rfl ?_)))))
   refine oLenS rfl rfl (oLss rfl rfl (oNil (thn_n (wC (fun h24 => ?_) (fun h24 => ?_)))))
   ·
    obtain ⟨f, hf⟩ : ∃ f, o.fFuncs[k]? = some f := ⟨_, List.getElem?_eq_getElem (by omega)⟩
    have hfm := List.mem_of_getElem? hf
    have hgf := hg.fun_ f hfm
    have hfz := item_fun (hoz.2.2 k (by omega)) hf
    have hfg : funAt l i k = f := by unfold funAt; rw [hoa, List.getD_eq_getElem?_getD, hf]; rfl
    have hmk : ∀ u : Hdr, mkFun l i k = mkF ((i : Int), (k : Int), nameI o (k : Int), f, u) (boundL l i (symsF f)) := fun u => by unfold mkFun; rw [hoa, hfg]; rfl
    obtain ⟨e3, cs3, hE3⟩ := q1.elm hf
    obtain ⟨F0, f0, F1, f1, F2, f2, F3, f3, rfl, n0, r0, n1, r1, n2, r2, n3, r3⟩ := kApiFunc_open hE3.K
    have hsl := symsF_len f
    have hkf : k < o.fFuncs.length := by omega
    refine wSkip (thn_n (wSeq (wBlock (wSeq (wRegion' (oAssign rfl (oNil (thn_n (wSeq (wSeq (wRegion' ?_)))))))))))
    refine oAssign rfl (oNil (thn_n (wBlock (wLoop (ι := Nat × Option Addr × Nat) (fun x => [(0, .slice A l.length cp), (2, .pointer (some ⟨b2, 0, none⟩)), (3, .pointer (some ⟨b3, 0, none⟩)), (4, .int .i64 (i : Int)), (5, .pointer (some ⟨b5, 0, none⟩)), (6, .int .i64 (k : Int)), (7, .slice x.2.1 ((symsF f).take x.1).length x.2.2), (8, .int .i64 (x.1 : Int))]) (fun x => [blk b2 29 [.slice none 0 0, .slice none 0 0, .int .i64 0], blk b3 29 (z.cells 0), row kFunT W0 49 (.slice z.Af z.ft.length z.cf) z.ft, bun (rws (Kd.int .i64) W0 3 (z.ft.map hdT) z.fr), row kDatT W0 98 (.slice z.Ad z.dt.length z.cd) z.dt, bun (rws (Kd.int .i64) W0 3 (z.dt.map hdT) z.dr), blk b5 79 [.slice B0 o.fSymbols.length d0, .slice B1 o.fFuncs.length d1, .slice B2 o.fDatas.length d2], row (Kd.int .i64) W0 3 (.slice x.2.1 ((symsF f).take x.1).length x.2.2) ((symsF f).take x.1)]) (fun x => x.1 ≤ f.fCode.length) (fun x => f.fCode.length - x.1) (0, none, 0) ?_ cv (Leads.nilrow.trans Lh) ?_))))
    ·
     exact Nat.zero_le _
    rintro ⟨j, A7, c7⟩ hj
    dsimp only at hj
    have htl : ((symsF f).take j).length ≤ 1000 := by rw [List.length_take]; omega
    try dsimp only
    refine wSeq (wSeq (wRegion' (oMove rfl (oFld (n := 1) (m := 1) rfl rfl rfl (oLd rfl (by repeat constructor) rfl rfl ?_)))))
    refine oMove rfl (oIdxE rfl rfl (elm_grow hE3 hW) (by omega) rfl rfl ?_)
    have hc31 := (elm_grow hE3 hW).cell
    first | refine oFldX (n := 7) (m := 7) rfl rfl rfl ?_ | refine oFldR (n := 7) (m := 7) rfl rfl rfl ?_ | refine oFldD (n := 7) (m := 7) rfl rfl rfl ?_
    first | refine oLdX rfl hc31 rfl rfl ?_ | refine oLdXA rfl hc31 rfl (by repeat constructor) ?_ | (refine oLdR1 rfl (by repeat constructor) (by omega) rfl (fun u33 hu33 => ?_))
    refine oLenS rfl rfl (oLss rfl rfl (oNil (thn_n (wC (fun h35 => ?_) (fun h35 => ?_)))))
    ·
     refine wSkip (thn_n (wSeq (wBlock (wRegion' (oMove rfl (oFld (n := 1) (m := 1) rfl rfl rfl (oLd rfl (by repeat constructor) rfl rfl ?_)))))))
     refine oMove rfl (oIdxE rfl rfl (elm_grow hE3 hW) (by omega) rfl rfl ?_)
     have hc42 := (elm_grow hE3 hW).cell
     first | refine oLdX rfl hc42 rfl rfl ?_ | refine oLdXA rfl hc42 rfl (by repeat constructor) ?_ | (refine oLdR1 rfl (by repeat constructor) (by omega) rfl (fun u43 hu43 => ?_))
     refine oMove rfl ?_
     (refine oCall rfl (by kernel_rfl) (fun w hS => frame hS (by repeat' constructor) (fun B' hB hS' => ref17_Sym hS' f _ (kApiFunc_mk _ f n0 (Kd.C_grow (hW.trans hB) r0) n1 (Kd.C_grow (hW.trans hB) r1) n2 (Kd.C_grow (hW.trans hB) r2) n3 (Kd.C_grow (hW.trans hB) r3)) (j : Int))) ?_; rintro ⟨⟩ -)
     refine oBuildSlice1 rfl rfl rfl rfl rfl (by repeat constructor) rfl (fun b46 => ?_)
     refine oApp1 (symF f (j : Int)) rfl rfl rfl rfl (by repeat constructor) (by repeat constructor) rfl (by omega) rfl (fun g47 cp47 => ?_)
     rw [show ((symsF f).take j).length + 1 = ((symsF f).take (j + 1)).length by rw [symsF_take (by omega), List.length_append]; rfl, ← symsF_take (by omega)]
     refine oAssign rfl (oNil (blk_n (thn_n (wRegion' (oMove rfl (oSucc rfl rfl (by omega) ?_))))))
     refine oAssign rfl (oNil (thn_n ?_))
     exact ⟨rfl, (j + 1, some ⟨g47, 0, none⟩, cp47), by show j + 1 ≤ _; omega, by show f.fCode.length - (j + 1) < f.fCode.length - j; omega, cv, Lh⟩
    obtain rfl : j = f.fCode.length := by omega
    rw [symsF_all]
    refine wExit (thn_x (thn_x (blk_x (thn_n (wDrawG rfl [0, 1, 2, 3, 4, 5, 7, 8, 9, 10, 11, 12, 13, 14] [(6, [0, 1, 2, 3, 7, 8, 9, 10, 11, 12, 13, 14], []), (15, [0, 1, 2, 3, 7, 8, 9, 10, 11], [16]), (17, [0, 1], []), (18, [], [])] [19, 20] 24 (by kernel_rfl) rfl rfl (fun w0 => ?_))))))
    refine oFld (n := 0) (m := 0) rfl rfl rfl (oLd rfl (by repeat constructor) rfl rfl ?_)
    refine oMove rfl (oMove rfl (oLdA rfl (by repeat constructor) rfl (by repeat constructor) ?_))
    refine oMove rfl (oFld (n := 1) (m := 1) rfl rfl rfl (oLd rfl (by repeat constructor) rfl rfl ?_))
    refine oMove rfl (oIdxE rfl rfl (elm_grow hE3 hW) (by omega) rfl rfl ?_)
    have hc58 := (elm_grow hE3 hW).cell
    first | refine oLdX rfl hc58 rfl rfl ?_ | refine oLdXA rfl hc58 rfl (by repeat constructor) ?_ | (refine oLdR1 rfl (by repeat constructor) (by omega) rfl (fun u59 hu59 => ?_))
    refine oMove rfl (oMove rfl (oMove rfl (oLkSegG (oSegG rfl ?_))))
    (refine oCall rfl (by kernel_rfl) (fun w hS => frame hS (by repeat' constructor) (fun B' hB hS' => ref24_name hS' o _ (kApiObject_mk _ o m0 (Kd.C_grow (hW.trans hB) q0) m1 (Kd.C_grow (hW.trans hB) q1) m2 (Kd.C_grow (hW.trans hB) q2)) hg (k : Int) hfz.1)) ?_; rintro ⟨⟩ -)
    refine oAgainG ?_ rfl (fun w0 => ?_)
    ·
     refine AgainG.cons rfl rfl rfl rfl (fun w0 => ?_) ?_
     ·
      refine oFld (n := 0) (m := 0) rfl rfl rfl ?_
      exact oLkHas rfl
     refine AgainG.cons rfl rfl rfl rfl (fun w0 => ?_) ?_
     ·
      refine oLd rfl (by repeat constructor) rfl rfl ?_
      exact oLkHas rfl
     refine AgainG.cons rfl rfl rfl rfl (fun w0 => ?_) ?_
     ·
      refine oMove rfl ?_
      exact oLkHas rfl
     refine AgainG.cons rfl rfl rfl rfl (fun w0 => ?_) ?_
     ·
      refine oMove rfl ?_
      exact oLkHas rfl
     refine AgainG.cons rfl rfl rfl rfl (fun w0 => ?_) ?_
     ·
      refine oFld (n := 1) (m := 1) rfl rfl rfl ?_
      exact oLkHas rfl
     refine AgainG.cons rfl rfl rfl rfl (fun w0 => ?_) ?_
     ·
      refine oLd rfl (by repeat constructor) rfl rfl ?_
      exact oLkHas rfl
     refine AgainG.cons rfl rfl rfl rfl (fun w0 => ?_) ?_
     ·
      refine oMove rfl ?_
      exact oLkHas rfl
     refine AgainG.cons rfl rfl rfl rfl (fun w0 => ?_) ?_
     ·
      refine oIdxE rfl rfl (elm_grow hE3 hW) (by omega) rfl rfl ?_
      have hc58 := (elm_grow hE3 hW).cell
      exact oLkHas rfl
     refine AgainG.cons rfl rfl rfl rfl (fun w0 => ?_) ?_
     ·
      first | refine oLdX rfl hc58 rfl rfl ?_ | refine oLdXA rfl hc58 rfl (by repeat constructor) ?_ | (refine oLdR1 rfl (by repeat constructor) (by omega) rfl (fun u59 hu59 => ?_))
      exact oLkHas rfl
     refine AgainG.cons rfl rfl rfl rfl (fun w0 => ?_) ?_
     ·
      refine oMove rfl ?_
      exact oLkHas rfl
     refine AgainG.cons rfl rfl rfl rfl (fun w0 => ?_) ?_
     ·
      refine oMove rfl ?_
      exact oLkHas rfl
     refine AgainG.cons rfl rfl rfl rfl (fun w0 => ?_) ?_
     ·
      refine oMove rfl ?_
      exact oLkHas rfl
     exact AgainG.nil
    refine oLkSegG (oSegG rfl ?_)
    (refine oCall rfl (by kernel_rfl) (fun w hS => frame' hS .nil (fun B' hB hR hS' => ref24_bound hS' A cp l (Kd.C_grow hB hC) hsm i A7 c7 (symsF f) (row_Cs (W := W0) (e := 3) (n := (symsF f).length) (cp := c7) (hR _ _ (by repeat constructor))) (by omega) (hok.syms ho (syms_in hfz.2.2.1)) W0)) ?_; rintro ⟨A63, c63⟩ -)
    refine oAgainG ?_ rfl (fun w0 => ?_)
    ·
     refine AgainG.cons rfl rfl rfl rfl (fun w0 => ?_) ?_
     ·
      refine oFld (n := 0) (m := 0) rfl rfl rfl ?_
      exact oLkHas rfl
     refine AgainG.cons rfl rfl rfl rfl (fun w0 => ?_) ?_
     ·
      refine oLd rfl (by repeat constructor) rfl rfl ?_
      exact oLkHas rfl
     refine AgainG.cons rfl rfl rfl rfl (fun w0 => ?_) ?_
     ·
      refine oMove rfl ?_
      exact oLkHas rfl
     refine AgainG.cons rfl rfl rfl rfl (fun w0 => ?_) ?_
     ·
      refine oMove rfl ?_
      exact oLkHas rfl
     refine AgainG.cons rfl rfl rfl rfl (fun w0 => ?_) ?_
     ·
      refine oFld (n := 1) (m := 1) rfl rfl rfl ?_
      exact oLkHas rfl
     refine AgainG.cons rfl rfl rfl rfl (fun w0 => ?_) ?_
     ·
      refine oLd rfl (by repeat constructor) rfl rfl ?_
      exact oLkHas rfl
     refine AgainG.cons rfl rfl rfl rfl (fun w0 => ?_) ?_
     ·
      refine oMove rfl ?_
      exact oLkHas rfl
     refine AgainG.cons rfl rfl rfl rfl (fun w0 => ?_) ?_
     ·
      refine oIdxE rfl rfl (elm_grow hE3 hW) (by omega) rfl rfl ?_
      have hc58 := (elm_grow hE3 hW).cell
      exact oLkHas rfl
     refine AgainG.cons rfl rfl rfl rfl (fun w0 => ?_) ?_
     ·
      first | refine oLdX rfl hc58 rfl rfl ?_ | refine oLdXA rfl hc58 rfl (by repeat constructor) ?_ | (refine oLdR1 rfl (by repeat constructor) (by omega) rfl (fun u59 hu59 => ?_))
      exact oLkHas rfl
     exact AgainG.nil
    refine oBuild (Parts.cons rfl (Parts.cons rfl (Parts.cons rfl (Parts.cons rfl (Parts.cons rfl Parts.nil))))) rfl rfl (Built.cons (off := 0) (s := 1) rfl (by repeat constructor) rfl (by repeat constructor) (Built.cons (off := 1) (s := 1) rfl (by repeat constructor) rfl (by repeat constructor) (Built.cons (off := 2) (s := 1) rfl (by repeat constructor) rfl (by repeat constructor) (Built.cons (off := 3) (s := 9) rfl (by repeat constructor) rfl (by repeat constructor) (Built.cons (off := 12) (s := 1) rfl (by repeat constructor) rfl (by repeat constructor) Built.nil))))) ?_
    refine oLkSegG (oSegG rfl (oBuildSlice1 rfl rfl rfl rfl rfl (by repeat constructor) rfl (fun b65 => ?_)))
    refine oAgainG ?_ rfl (fun w0 => ?_)
    ·
     refine AgainG.cons rfl rfl rfl rfl (fun w0 => ?_) ?_
     ·
      refine oFld (n := 0) (m := 0) rfl rfl rfl ?_
      exact oLkHas rfl
     refine AgainG.cons rfl rfl rfl rfl (fun w0 => ?_) ?_
     ·
      refine oLd rfl (by repeat constructor) rfl rfl ?_
      exact oLkHas rfl
     exact AgainG.nil
    refine oLkSegG (oSegG rfl (oApp1 (kd := kFunT) (W := W0) (xs := z.ft) ((i : Int), (k : Int), nameI o (k : Int), f, (A63, (boundL l i (symsF f)).length, c63)) rfl rfl rfl rfl (by repeat constructor) (by repeat constructor) (kFunT_mk (kApiFunc_mk _ f n0 r0 n1 r1 n2 r2 n3 r3)) (by omega) rfl (fun g66 cp66 => ?_)))
    rw [show z.ft.length + 1 = (z.ft ++ [((i : Int), (k : Int), nameI o (k : Int), f, (A63, (boundL l i (symsF f)).length, c63))]).length by rw [List.length_append]; rfl]
    refine oSnoc (kd := Kd.int .i64) (W := W0) (ei := 3) (u := (A63, (boundL l i (symsF f)).length, c63)) (l := boundL l i (symsF f)) (hs := z.ft.map hdT) (xss := z.fr) (by repeat constructor) (by repeat constructor) (by rw [List.length_map]; exact hz.f) ?_
    rw [show z.ft.map hdT ++ [(A63, (boundL l i (symsF f)).length, c63)] = (z.ft ++ [((i : Int), (k : Int), nameI o (k : Int), f, (A63, (boundL l i (symsF f)).length, c63))]).map hdT by rw [List.map_append]; rfl]
    refine oAgainG ?_ rfl (fun w0 => ?_)
    ·
     exact AgainG.nil
    refine oTailG (oFld (n := 0) (m := 0) rfl rfl rfl (oSt rfl rfl rfl rfl rfl (by repeat constructor) (by repeat constructor) ?_))
    refine oNil (blk_n (thn_n (wRegion' (oMove rfl (oSucc rfl rfl (by omega) ?_)))))
    refine oAssign rfl (oNil (thn_n ?_))
    exact ⟨rfl, (k + 1, ⟨some ⟨g66, 0, none⟩, cp66, z.ft ++ [((i : Int), (k : Int), nameI o (k : Int), f, (A63, (boundL l i (symsF f)).length, c63))], z.fr ++ [boundL l i (symsF f)], z.Ad, z.cd, z.dt, z.dr⟩), ⟨by show k + 1 ≤ _; omega, ⟨by show (z.ft ++ [_]).length = (z.fr ++ [_]).length; rw [List.length_append, List.length_append, hz.f]; rfl, hz.d⟩, by show funsOf (z.ft ++ [_]) (z.fr ++ [_]) = _; unfold funsOf; rw [zip_snoc hz.f, ← hmk (A63, (boundL l i (symsF f)).length, c63)]; rw [show List.zipWith mkF z.ft z.fr = funsOf z.ft z.fr from rfl, hzf, List.append_assoc, List.range_succ, List.map_append]; rfl, hzd⟩, by show o.fFuncs.length - (k + 1) < o.fFuncs.length - k; omega, cv, Lh⟩
   obtain rfl : k = o.fFuncs.length := by omega
   have hzf : funsOf z.ft z.fr = funsTo l (i + 1) := by rw [hzf, funsTo_succ]; unfold fileFuns; rw [hoa]
   refine wExit (thn_x (thn_x (blk_x (thn_n (wSeq (wRegion' (oAssign rfl (oNil (thn_n (wBlock (wLoop (ι := Nat × PZ) (fun x => [(0, .slice A l.length cp), (2, .pointer (some ⟨b2, 0, none⟩)), (3, .pointer (some ⟨b3, 0, none⟩)), (4, .int .i64 (i : Int)), (5, .pointer (some ⟨b5, 0, none⟩)), (9, .int .i64 (x.1 : Int))]) (fun x => [blk b2 29 [.slice none 0 0, .slice none 0 0, .int .i64 0], blk b3 29 (x.2.cells 0), row kFunT W0 49 (.slice x.2.Af x.2.ft.length x.2.cf) x.2.ft, bun (rws (Kd.int .i64) W0 3 (x.2.ft.map hdT) x.2.fr), row kDatT W0 98 (.slice x.2.Ad x.2.dt.length x.2.cd) x.2.dt, bun (rws (Kd.int .i64) W0 3 (x.2.dt.map hdT) x.2.dr), blk b5 79 [.slice B0 o.fSymbols.length d0, .slice B1 o.fFuncs.length d1, .slice B2 o.fDatas.length d2]]) (fun x => x.1 ≤ o.fDatas.length ∧ x.2.ok ∧ funsOf x.2.ft x.2.fr = funsTo l (i + 1) ∧ datsOf x.2.dt x.2.dr = datsTo l i ++ (List.range x.1).map (mkDat l i)) (fun x => o.fDatas.length - x.1) (0, z) ?_ cv Lh ?_)))))))))))
   ·
    exact ⟨Nat.zero_le _, hz, hzf, by show datsOf z.dt z.dr = _; rw [hzd]; simp⟩
   rintro ⟨k, z⟩ ⟨hk, hz, hzf, hzd⟩
   dsimp only at hk hz hzf hzd
   have hzl : z.dt.length ≤ 1000 := by have h1 := congrArg List.length hzd; unfold datsOf at h1; rw [zip_len hz.d, List.length_append, List.length_map, List.length_range] at h1; have := sum_dats hsm i; omega
   try dsimp only
   refine wSeq (wSeq (wRegion' (oMove rfl (oFld (n := 2) (m := 2) rfl rfl rfl (oLd rfl (by repeat constructor) rfl rfl ?_)))))
   refine oLenS rfl rfl (oLss rfl rfl (oNil (thn_n (wC (fun h72 => ?_) (fun h72 => ?_)))))
   ·
    obtain ⟨d, hd⟩ : ∃ d, o.fDatas[k]? = some d := ⟨_, List.getElem?_eq_getElem (by omega)⟩
    have hdm := List.mem_of_getElem? hd
    have hgd := hg.data d hdm
    have hdz := item_dat (hoz.2.2 (o.fFuncs.length + k) (by omega)) hd
    have hdg : datAt l i k = d := by unfold datAt; rw [hoa, List.getD_eq_getElem?_getD, hd]; rfl
    have hmk : ∀ u : Hdr, mkDat l i k = mkD ((i : Int), ((o.fFuncs.length + k : Nat) : Int), nameI o ((o.fFuncs.length + k : Nat) : Int), d, u) (boundL l i (refsD d)) := fun u => by unfold mkDat; rw [hoa, hdg]; rfl
    obtain ⟨e3, cs3, hE3⟩ := q2.elm hd
    obtain ⟨F0, f0, F1, f1, rfl, n0, r0, n1, r1⟩ := kApiData_open hE3.K
    have hrl : (refsD d).length = d.fWords.length := (refsD_len d).trans (marksL_len _ _)
    have hkd : k < o.fDatas.length := by omega
    refine wSkip (thn_n (wSeq (wBlock (wDrawG rfl [0, 1, 2, 3, 4, 5, 6, 7, 8, 9, 10, 11, 12, 13, 15, 16, 17, 18, 19, 20, 21, 22, 23, 24, 25, 26] [(14, [0, 1, 2, 3, 4, 5, 6, 7, 15, 16, 17, 18, 19, 20, 21, 22, 23, 24, 25, 26], []), (27, [0, 1, 2, 3, 4, 5, 6, 7, 15, 16, 17, 18, 19, 20, 21], []), (28, [0, 1, 2, 3, 4, 5, 6, 7, 15, 16, 17, 18, 19], [29]), (30, [0, 1], []), (31, [], [])] [32, 33] 24 (by kernel_rfl) rfl rfl (fun w0 => ?_)))))
    refine oFld (n := 1) (m := 1) rfl rfl rfl (oLd rfl (by repeat constructor) rfl rfl ?_)
    refine oMove rfl (oFld (n := 1) (m := 1) rfl rfl rfl (oLd rfl (by repeat constructor) rfl rfl ?_))
    refine oLenS rfl rfl (oMove rfl (oAdd rfl rfl (by omega) ?_))
    refine oSet (t := 82) (v' := .int .i64 ((o.fFuncs.length + k : Nat) : Int)) rfl (by congr 1) ?_
    refine oLdA rfl (by repeat constructor) rfl (by repeat constructor) ?_
    refine oFld (n := 1) (m := 1) rfl rfl rfl (oLd rfl (by repeat constructor) rfl rfl ?_)
    refine oLenS rfl rfl (oMove rfl (oAdd rfl rfl (by omega) ?_))
    refine oSet (t := 88) (v' := .int .i64 ((o.fFuncs.length + k : Nat) : Int)) rfl (by congr 1) ?_
    refine oFld (n := 2) (m := 2) rfl rfl rfl (oLd rfl (by repeat constructor) rfl rfl ?_)
    refine oMove rfl (oIdxE rfl rfl (elm_grow hE3 hW) (by omega) rfl rfl ?_)
    have hc93 := (elm_grow hE3 hW).cell
    first | refine oLdX rfl hc93 rfl rfl ?_ | refine oLdXA rfl hc93 rfl (by repeat constructor) ?_ | (refine oLdR1 rfl (by repeat constructor) (by omega) rfl (fun u94 hu94 => ?_))
    refine oMove rfl (oMove rfl (oFld (n := 2) (m := 2) rfl rfl rfl (oLd rfl (by repeat constructor) rfl rfl ?_)))
    refine oMove rfl (oIdxE rfl rfl (elm_grow hE3 hW) (by omega) rfl rfl ?_)
    have hc100 := (elm_grow hE3 hW).cell
    first | refine oLdX rfl hc100 rfl rfl ?_ | refine oLdXA rfl hc100 rfl (by repeat constructor) ?_ | (refine oLdR1 rfl (by repeat constructor) (by omega) rfl (fun u101 hu101 => ?_))
    refine oLkSegG (oSegG rfl ?_)
    (refine oCall rfl (by kernel_rfl) (fun w hS => frame hS (by repeat' constructor) (fun B' hB hS' => ref24_name hS' o _ (kApiObject_mk _ o m0 (Kd.C_grow (hW.trans hB) q0) m1 (Kd.C_grow (hW.trans hB) q1) m2 (Kd.C_grow (hW.trans hB) q2)) hg ((o.fFuncs.length + k : Nat) : Int) hdz.1)) ?_; rintro ⟨⟩ -)
    refine oAgainG ?_ rfl (fun w0 => ?_)
    ·
     refine AgainG.cons rfl rfl rfl rfl (fun w0 => ?_) ?_
     ·
      refine oFld (n := 1) (m := 1) rfl rfl rfl ?_
      exact oLkHas rfl
     refine AgainG.cons rfl rfl rfl rfl (fun w0 => ?_) ?_
     ·
      refine oLd rfl (by repeat constructor) rfl rfl ?_
      exact oLkHas rfl
     refine AgainG.cons rfl rfl rfl rfl (fun w0 => ?_) ?_
     ·
      refine oMove rfl ?_
      exact oLkHas rfl
     refine AgainG.cons rfl rfl rfl rfl (fun w0 => ?_) ?_
     ·
      refine oFld (n := 1) (m := 1) rfl rfl rfl ?_
      exact oLkHas rfl
     refine AgainG.cons rfl rfl rfl rfl (fun w0 => ?_) ?_
     ·
      refine oLd rfl (by repeat constructor) rfl rfl ?_
      exact oLkHas rfl
     refine AgainG.cons rfl rfl rfl rfl (fun w0 => ?_) ?_
     ·
      refine oLenS rfl rfl ?_
      exact oLkHas rfl
     refine AgainG.cons rfl rfl rfl rfl (fun w0 => ?_) ?_
     ·
      refine oMove rfl ?_
      exact oLkHas rfl
     refine AgainG.cons rfl rfl rfl rfl (fun w0 => ?_) ?_
     ·
      refine oAdd rfl rfl (by omega) ?_
      refine oSet (t := 82) (v' := .int .i64 ((o.fFuncs.length + k : Nat) : Int)) rfl (by congr 1) ?_
      exact oLkHas rfl
     refine AgainG.cons rfl rfl rfl rfl (fun w0 => ?_) ?_
     ·
      refine oFld (n := 2) (m := 2) rfl rfl rfl ?_
      exact oLkHas rfl
     refine AgainG.cons rfl rfl rfl rfl (fun w0 => ?_) ?_
     ·
      refine oLd rfl (by repeat constructor) rfl rfl ?_
      exact oLkHas rfl
     refine AgainG.cons rfl rfl rfl rfl (fun w0 => ?_) ?_
     ·
      refine oMove rfl ?_
      exact oLkHas rfl
     refine AgainG.cons rfl rfl rfl rfl (fun w0 => ?_) ?_
     ·
      refine oIdxE rfl rfl (elm_grow hE3 hW) (by omega) rfl rfl ?_
      have hc93 := (elm_grow hE3 hW).cell
      exact oLkHas rfl
     refine AgainG.cons rfl rfl rfl rfl (fun w0 => ?_) ?_
     ·
      first | refine oLdX rfl hc93 rfl rfl ?_ | refine oLdXA rfl hc93 rfl (by repeat constructor) ?_ | (refine oLdR1 rfl (by repeat constructor) (by omega) rfl (fun u94 hu94 => ?_))
      exact oLkHas rfl
     refine AgainG.cons rfl rfl rfl rfl (fun w0 => ?_) ?_
     ·
      refine oMove rfl ?_
      exact oLkHas rfl
     refine AgainG.cons rfl rfl rfl rfl (fun w0 => ?_) ?_
     ·
      refine oMove rfl ?_
      exact oLkHas rfl
     refine AgainG.cons rfl rfl rfl rfl (fun w0 => ?_) ?_
     ·
      refine oFld (n := 2) (m := 2) rfl rfl rfl ?_
      exact oLkHas rfl
     refine AgainG.cons rfl rfl rfl rfl (fun w0 => ?_) ?_
     ·
      refine oLd rfl (by repeat constructor) rfl rfl ?_
      exact oLkHas rfl
     refine AgainG.cons rfl rfl rfl rfl (fun w0 => ?_) ?_
     ·
      refine oMove rfl ?_
      exact oLkHas rfl
     refine AgainG.cons rfl rfl rfl rfl (fun w0 => ?_) ?_
     ·
      refine oIdxE rfl rfl (elm_grow hE3 hW) (by omega) rfl rfl ?_
      have hc100 := (elm_grow hE3 hW).cell
      exact oLkHas rfl
     refine AgainG.cons rfl rfl rfl rfl (fun w0 => ?_) ?_
     ·
      first | refine oLdX rfl hc100 rfl rfl ?_ | refine oLdXA rfl hc100 rfl (by repeat constructor) ?_ | (refine oLdR1 rfl (by repeat constructor) (by omega) rfl (fun u101 hu101 => ?_))
      exact oLkHas rfl
     exact AgainG.nil
    refine oLkSegG (oSegG rfl ?_)
    (refine oCall rfl (by kernel_rfl) (fun w hS => frame hS (by repeat' constructor) (fun B' hB hS' => ref15_Refs hS' d _ (kApiData_mk _ d n0 (Kd.C_grow (hW.trans hB) r0) n1 (Kd.C_grow (hW.trans hB) r1)) (by omega) (by omega) W0)) ?_; rintro ⟨A102, c102⟩ -)
    refine oSet (t := 102) (v' := .slice A102 (refsD d).length c102) rfl (by rw [hrl]) ?_
    refine oAgainG ?_ rfl (fun w0 => ?_)
    ·
     refine AgainG.cons rfl rfl rfl rfl (fun w0 => ?_) ?_
     ·
      refine oFld (n := 1) (m := 1) rfl rfl rfl ?_
      exact oLkHas rfl
     refine AgainG.cons rfl rfl rfl rfl (fun w0 => ?_) ?_
     ·
      refine oLd rfl (by repeat constructor) rfl rfl ?_
      exact oLkHas rfl
     refine AgainG.cons rfl rfl rfl rfl (fun w0 => ?_) ?_
     ·
      refine oMove rfl ?_
      exact oLkHas rfl
     refine AgainG.cons rfl rfl rfl rfl (fun w0 => ?_) ?_
     ·
      refine oFld (n := 1) (m := 1) rfl rfl rfl ?_
      exact oLkHas rfl
     refine AgainG.cons rfl rfl rfl rfl (fun w0 => ?_) ?_
     ·
      refine oLd rfl (by repeat constructor) rfl rfl ?_
      exact oLkHas rfl
     refine AgainG.cons rfl rfl rfl rfl (fun w0 => ?_) ?_
     ·
      refine oLenS rfl rfl ?_
      exact oLkHas rfl
     refine AgainG.cons rfl rfl rfl rfl (fun w0 => ?_) ?_
     ·
      refine oMove rfl ?_
      exact oLkHas rfl
     refine AgainG.cons rfl rfl rfl rfl (fun w0 => ?_) ?_
     ·
      refine oAdd rfl rfl (by omega) ?_
      refine oSet (t := 82) (v' := .int .i64 ((o.fFuncs.length + k : Nat) : Int)) rfl (by congr 1) ?_
      exact oLkHas rfl
     refine AgainG.cons rfl rfl rfl rfl (fun w0 => ?_) ?_
     ·
      refine oFld (n := 2) (m := 2) rfl rfl rfl ?_
      exact oLkHas rfl
     refine AgainG.cons rfl rfl rfl rfl (fun w0 => ?_) ?_
     ·
      refine oLd rfl (by repeat constructor) rfl rfl ?_
      exact oLkHas rfl
     refine AgainG.cons rfl rfl rfl rfl (fun w0 => ?_) ?_
     ·
      refine oMove rfl ?_
      exact oLkHas rfl
     refine AgainG.cons rfl rfl rfl rfl (fun w0 => ?_) ?_
     ·
      refine oIdxE rfl rfl (elm_grow hE3 hW) (by omega) rfl rfl ?_
      have hc93 := (elm_grow hE3 hW).cell
      exact oLkHas rfl
     refine AgainG.cons rfl rfl rfl rfl (fun w0 => ?_) ?_
     ·
      first | refine oLdX rfl hc93 rfl rfl ?_ | refine oLdXA rfl hc93 rfl (by repeat constructor) ?_ | (refine oLdR1 rfl (by repeat constructor) (by omega) rfl (fun u94 hu94 => ?_))
      exact oLkHas rfl
     refine AgainG.cons rfl rfl rfl rfl (fun w0 => ?_) ?_
     ·
      refine oMove rfl ?_
      exact oLkHas rfl
     refine AgainG.cons rfl rfl rfl rfl (fun w0 => ?_) ?_
     ·
      refine oMove rfl ?_
      exact oLkHas rfl
     exact AgainG.nil
    refine oLkSegG (oSegG rfl ?_)
    (refine oCall rfl (by kernel_rfl) (fun w hS => frame' hS .nil (fun B' hB hR hS' => ref24_bound hS' A cp l (Kd.C_grow hB hC) hsm i A102 c102 (refsD d) (row_Cs (W := W0) (e := 3) (n := d.fWords.length) (cp := c102) (hR _ _ (by repeat constructor))) (by omega) (hok.syms ho (refs_in hdz.2.2)) W0)) ?_; rintro ⟨A103, c103⟩ -)
    refine oAgainG ?_ rfl (fun w0 => ?_)
    ·
     refine AgainG.cons rfl rfl rfl rfl (fun w0 => ?_) ?_
     ·
      refine oFld (n := 1) (m := 1) rfl rfl rfl ?_
      exact oLkHas rfl
     refine AgainG.cons rfl rfl rfl rfl (fun w0 => ?_) ?_
     ·
      refine oLd rfl (by repeat constructor) rfl rfl ?_
      exact oLkHas rfl
     refine AgainG.cons rfl rfl rfl rfl (fun w0 => ?_) ?_
     ·
      refine oMove rfl ?_
      exact oLkHas rfl
     refine AgainG.cons rfl rfl rfl rfl (fun w0 => ?_) ?_
     ·
      refine oFld (n := 1) (m := 1) rfl rfl rfl ?_
      exact oLkHas rfl
     refine AgainG.cons rfl rfl rfl rfl (fun w0 => ?_) ?_
     ·
      refine oLd rfl (by repeat constructor) rfl rfl ?_
      exact oLkHas rfl
     refine AgainG.cons rfl rfl rfl rfl (fun w0 => ?_) ?_
     ·
      refine oLenS rfl rfl ?_
      exact oLkHas rfl
     refine AgainG.cons rfl rfl rfl rfl (fun w0 => ?_) ?_
     ·
      refine oMove rfl ?_
      exact oLkHas rfl
     refine AgainG.cons rfl rfl rfl rfl (fun w0 => ?_) ?_
     ·
      refine oAdd rfl rfl (by omega) ?_
      refine oSet (t := 82) (v' := .int .i64 ((o.fFuncs.length + k : Nat) : Int)) rfl (by congr 1) ?_
      exact oLkHas rfl
     refine AgainG.cons rfl rfl rfl rfl (fun w0 => ?_) ?_
     ·
      refine oFld (n := 2) (m := 2) rfl rfl rfl ?_
      exact oLkHas rfl
     refine AgainG.cons rfl rfl rfl rfl (fun w0 => ?_) ?_
     ·
      refine oLd rfl (by repeat constructor) rfl rfl ?_
      exact oLkHas rfl
     refine AgainG.cons rfl rfl rfl rfl (fun w0 => ?_) ?_
     ·
      refine oMove rfl ?_
      exact oLkHas rfl
     refine AgainG.cons rfl rfl rfl rfl (fun w0 => ?_) ?_
     ·
      refine oIdxE rfl rfl (elm_grow hE3 hW) (by omega) rfl rfl ?_
      have hc93 := (elm_grow hE3 hW).cell
      exact oLkHas rfl
     refine AgainG.cons rfl rfl rfl rfl (fun w0 => ?_) ?_
     ·
      first | refine oLdX rfl hc93 rfl rfl ?_ | refine oLdXA rfl hc93 rfl (by repeat constructor) ?_ | (refine oLdR1 rfl (by repeat constructor) (by omega) rfl (fun u94 hu94 => ?_))
      exact oLkHas rfl
     exact AgainG.nil
    refine oBuild (Parts.cons rfl (Parts.cons rfl (Parts.cons rfl (Parts.cons rfl (Parts.cons rfl Parts.nil))))) rfl rfl (Built.cons (off := 0) (s := 1) rfl (by repeat constructor) rfl (by repeat constructor) (Built.cons (off := 1) (s := 1) rfl (by repeat constructor) rfl (by repeat constructor) (Built.cons (off := 2) (s := 1) rfl (by repeat constructor) rfl (by repeat constructor) (Built.cons (off := 3) (s := 3) rfl (by repeat constructor) rfl (by repeat constructor) (Built.cons (off := 6) (s := 1) rfl (by repeat constructor) rfl (by repeat constructor) Built.nil))))) ?_
    refine oLkSegG (oSegG rfl (oBuildSlice1 rfl rfl rfl rfl rfl (by repeat constructor) rfl (fun b105 => ?_)))
    refine oAgainG ?_ rfl (fun w0 => ?_)
    ·
     refine AgainG.cons rfl rfl rfl rfl (fun w0 => ?_) ?_
     ·
      refine oFld (n := 1) (m := 1) rfl rfl rfl ?_
      exact oLkHas rfl
     refine AgainG.cons rfl rfl rfl rfl (fun w0 => ?_) ?_
     ·
      refine oLd rfl (by repeat constructor) rfl rfl ?_
      exact oLkHas rfl
     exact AgainG.nil
    refine oLkSegG (oSegG rfl (oApp1 (kd := kDatT) (W := W0) (xs := z.dt) ((i : Int), ((o.fFuncs.length + k : Nat) : Int), nameI o ((o.fFuncs.length + k : Nat) : Int), d, (A103, (boundL l i (refsD d)).length, c103)) rfl rfl rfl rfl (by repeat constructor) (by repeat constructor) (kDatT_mk (kApiData_mk _ d n0 r0 n1 r1)) (by omega) rfl (fun g106 cp106 => ?_)))
    rw [show z.dt.length + 1 = (z.dt ++ [((i : Int), ((o.fFuncs.length + k : Nat) : Int), nameI o ((o.fFuncs.length + k : Nat) : Int), d, (A103, (boundL l i (refsD d)).length, c103))]).length by rw [List.length_append]; rfl]
    refine oSnoc (kd := Kd.int .i64) (W := W0) (ei := 3) (u := (A103, (boundL l i (refsD d)).length, c103)) (l := boundL l i (refsD d)) (hs := z.dt.map hdT) (xss := z.dr) (by repeat constructor) (by repeat constructor) (by rw [List.length_map]; exact hz.d) ?_
    rw [show z.dt.map hdT ++ [(A103, (boundL l i (refsD d)).length, c103)] = (z.dt ++ [((i : Int), ((o.fFuncs.length + k : Nat) : Int), nameI o ((o.fFuncs.length + k : Nat) : Int), d, (A103, (boundL l i (refsD d)).length, c103))]).map hdT by rw [List.map_append]; rfl]
    refine oAgainG ?_ rfl (fun w0 => ?_)
    ·
     exact AgainG.nil
    refine oTailG (oFld (n := 1) (m := 1) rfl rfl rfl (oSt rfl rfl rfl rfl rfl (by repeat constructor) (by repeat constructor) ?_))
    refine oNil (blk_n (thn_n (wRegion' (oMove rfl (oSucc rfl rfl (by omega) ?_)))))
    refine oAssign rfl (oNil (thn_n ?_))
    exact ⟨rfl, (k + 1, ⟨z.Af, z.cf, z.ft, z.fr, some ⟨g106, 0, none⟩, cp106, z.dt ++ [((i : Int), ((o.fFuncs.length + k : Nat) : Int), nameI o ((o.fFuncs.length + k : Nat) : Int), d, (A103, (boundL l i (refsD d)).length, c103))], z.dr ++ [boundL l i (refsD d)]⟩), ⟨by show k + 1 ≤ _; omega, ⟨hz.f, by show (z.dt ++ [_]).length = (z.dr ++ [_]).length; rw [List.length_append, List.length_append, hz.d]; rfl⟩, hzf, by show datsOf (z.dt ++ [_]) (z.dr ++ [_]) = _; unfold datsOf; rw [zip_snoc hz.d, ← hmk (A103, (boundL l i (refsD d)).length, c103)]; rw [show List.zipWith mkD z.dt z.dr = datsOf z.dt z.dr from rfl, hzd, List.append_assoc, List.range_succ, List.map_append]; rfl⟩, by show o.fDatas.length - (k + 1) < o.fDatas.length - k; omega, cv, Lh⟩
   obtain rfl : k = o.fDatas.length := by omega
   refine wExit (thn_x (thn_x (blk_x (blk_n (thn_n (wRegion' (oMove rfl (oSucc rfl rfl (by omega) ?_))))))))
   refine oAssign rfl (oNil (thn_n ?_))
   exact ⟨rfl, (i + 1, z), ⟨by show i + 1 ≤ _; omega, hz, hzf, by show datsOf z.dt z.dr = _; rw [hzd, datsTo_succ]; unfold fileDats; rw [hoa]⟩, by show l.length - (i + 1) < l.length - i; omega, cv, Lh⟩
  obtain rfl : i = l.length := by omega
  refine wExit (thn_x (thn_x (blk_x (thn_n (wSeq (wRegion' (oLdA rfl (by repeat constructor) rfl (by repeat constructor) ?_)))))))
  refine oStA rfl rfl rfl rfl (by repeat constructor) (by rfl) ?_
  refine oNil (thn_n (wRet (fin_r ?_)))
  refine ⟨rfl, _, (ResL.cons (by first | exact ResR.cell rfl (by repeat constructor) rfl | exact ResR.agg rfl (by repeat constructor) rfl rfl) ResL.nil), ?_⟩
  exact ⟨z, ⟨hz, hzf, hzd⟩, rfl, Lh⟩
end Go.Proofs.YtogaiijhicfoaaaGreatW
