import Derived.Test.YtogaiijhicfoaaaGreatWc

/-
  The references of ranges and flow: places that defer, graphs of code.
-/
namespace Go.Proofs.YtogaiijhicfoaaaGreatW
set_option linter.unusedVariables false
set_option linter.unusedSimpArgs false
open Go.RowKit Go.Proofs.YtogaiijhicfoaaaGreatK Go.Proofs.YtogaiijhicfoaaaGreatT Go.Proofs.YtogaiijhicfoaaaGreatL Go.Proofs.YtogaiijhicfoaaaGreatV

def dP (code : List ApiInstr) (k : Nat) : Bool := decide ((code.getD k default).fOp = 21)
def dfr (code : List ApiInstr) (n : Nat) : List Int := ((List.range n).filter (dP code)).map fun k => ((k : Nat) : Int)
theorem dfr_succ (code : List ApiInstr) (n : Nat) : dfr code (n + 1) = dfr code n ++ (if dP code n = true then [(n : Int)] else []) := by
  unfold dfr
  rw [List.range_succ, List.filter_append, List.map_append]
  congr 1
  simp only [List.filter_cons, List.filter_nil]
  split <;> rfl
theorem dfr_len (code : List ApiInstr) (n : Nat) : (dfr code n).length ≤ n := by
  unfold dfr
  rw [List.length_map]
  exact Nat.le_trans (List.length_filter_le _ _) (by simp)
theorem dP_at {code : List ApiInstr} {k : Nat} {x : ApiInstr} (h : code[k]? = some x) : dP code k = decide (x.fOp = 21) := by
  unfold dP; rw [List.getD_eq_getElem?_getD, h]; rfl
set_option maxRecDepth 100000 in
set_option maxHeartbeats 600000 in
theorem ref18_Marks {B : Base} {w : World} (hS : St B [] w) (A : Option Addr) (cp : Nat) (code : List ApiInstr) (hC : kApiInstr.C B.e A code) (hl : code.length ≤ 100000) (W0 : World) :
    CallsIn Fence.wide 0 Tryz.prog 218 #[.slice A code.length cp] w (Ret B (fun _ : Option Addr × Nat => True) (fun z => .slice z.1 (dfr code code.length).length z.2) (fun z => [row (Kd.int .i64) W0 3 (.slice z.1 (dfr code code.length).length z.2) (dfr code code.length)])) := by
  (refine enter Tryz.func218 rfl rfl hS ?_; simp only [List.zipIdx_cons, List.zipIdx_nil, List.map_cons, List.map_nil, Nat.reduceAdd, Nat.zero_add])
  refine wSeq (wRegion' (oAssign rfl (oNil (thn_n (wSeq (wRegion' (oAssign rfl (oNil (thn_n (wSeq (wSeq ?_)))))))))))
  refine wRegion' (oAssign rfl (oNil (thn_n (wBlock (wLoop (ι := Nat × Option Addr × Nat) (fun z => [(0, .slice A code.length cp), (3, .slice z.2.1 (dfr code z.1).length z.2.2), (4, .int .i64 (z.1 : Int))]) (fun z => [row (Kd.int .i64) W0 3 (.slice z.2.1 (dfr code z.1).length z.2.2) (dfr code z.1)]) (fun z => z.1 ≤ code.length) (fun z => code.length - z.1) (0, none, 0) ?_ cv (Leads.nilrow.trans Lh) ?_)))))
  ·
   exact Nat.zero_le _
  rintro ⟨i, A2, c2⟩ hi
  dsimp only at hi
  have hle := dfr_len code i
  try dsimp only
  refine wSeq (wSeq (wRegion' (oMove rfl (oMove rfl (oLenS rfl rfl (oLss rfl rfl (oNil (thn_n (wC (fun h8 => ?_) (fun h8 => ?_))))))))))
  ·
   obtain ⟨x, hx⟩ : ∃ x, code[i]? = some x := ⟨_, List.getElem?_eq_getElem (by omega)⟩
   obtain ⟨e1, cs1, hE⟩ := hC.elm hx
   obtain rfl := kApiInstr_open hE.K
   have hdp := dP_at hx
   refine wSkip (thn_n (wSeq (wBlock (wSeq (wRegion' (oMove rfl (oMove rfl (oIdxE rfl rfl (hE) (by omega) rfl rfl ?_))))))))
   have hc13 := (hE).cell
   first | refine oFldX (n := 0) (m := 0) rfl rfl rfl ?_ | refine oFldR (n := 0) (m := 0) rfl rfl rfl ?_ | refine oFldD (n := 0) (m := 0) rfl rfl rfl ?_
   first | refine oLdX rfl hc13 rfl rfl ?_ | refine oLdXA rfl hc13 rfl (by repeat constructor) ?_ | (refine oLdR1 rfl (by repeat constructor) (by omega) rfl (fun u15 hu15 => ?_))
   refine oEql rfl rfl (oNil (thn_n (wC (fun h16 => ?_) (fun h16 => ?_))))
   ·
    refine wRegion' (oMove rfl (oMove rfl (oBuildSlice1 rfl rfl rfl rfl rfl (by repeat constructor) rfl (fun b19 => ?_))))
    refine oApp1 (i : Int) rfl rfl rfl rfl (by repeat constructor) (by repeat constructor) rfl (by omega) rfl (fun g20 cp20 => ?_)
    have hft : dfr code (i + 1) = dfr code i ++ [(i : Int)] := by rw [dfr_succ, hdp, if_pos (by simpa using h16)]
    rw [show (dfr code i).length + 1 = (dfr code (i + 1)).length by rw [hft, List.length_append]; rfl, ← hft]
    refine oAssign rfl (oNil (blk_n (thn_n (wRegion' (oMove rfl (oSucc rfl rfl (by omega) ?_))))))
    refine oAssign rfl (oNil (thn_n ?_))
    exact ⟨rfl, (i + 1, some ⟨g20, 0, none⟩, cp20), by show i + 1 ≤ _; omega, by show code.length - (i + 1) < code.length - i; omega, cv, Lh⟩
   refine wSkip (blk_n (thn_n (wRegion' (oMove rfl (oSucc rfl rfl (by omega) ?_)))))
   refine oAssign rfl (oNil (thn_n ?_))
   have hft : dfr code (i + 1) = dfr code i := by rw [dfr_succ, hdp, if_neg (by simpa using h16), List.append_nil]
   exact ⟨rfl, (i + 1, A2, c2), by show i + 1 ≤ _; omega, by show code.length - (i + 1) < code.length - i; omega, by dsimp only; rw [hft]; exact cv, by dsimp only; rw [hft]; exact Lh⟩
  obtain rfl : i = code.length := by omega
  refine wExit (thn_x (thn_x (blk_x (thn_n (wSeq (wRegion' (oMove rfl (oAssign rfl (oNil (thn_n (wRet ?_)))))))))))
  refine fin_r (fi1 rfl ?_)
  exact ⟨(A2, c2), trivial, rfl, Lh⟩
def rg (code : List ApiInstr) : List (List Int) := (List.range code.length).map fun k => rnext (code.getD k default) k
theorem rg_len (code : List ApiInstr) : (rg code).length = code.length := by simp [rg]
theorem rg_at {code : List ApiInstr} {k : Nat} {x : ApiInstr} (h : code[k]? = some x) : (rg code)[k]? = some (rnext x k) := by
  obtain ⟨hk, rfl⟩ := List.getElem?_eq_some_iff.1 h
  unfold rg
  rw [List.getElem?_map, List.getElem?_range hk]
  show some (rnext (code.getD k default) k) = _
  rw [List.getD_eq_getElem?_getD, h]; rfl
theorem take_atW {α : Type} {l : List α} {k : Nat} {x : α} (h : l[k]? = some x) : l.take k ++ [x] = l.take (k + 1) := by
  rw [List.take_add_one, h]; rfl
set_option maxRecDepth 100000 in
set_option maxHeartbeats 600000 in
theorem ref14_Graph {B : Base} {w : World} (hS : St B [] w) (A : Option Addr) (cp : Nat) (code : List ApiInstr) (hC : kApiInstr.C B.e A code) (hl0 : code.length ≤ 100000) (W0 : World) :
    CallsIn Fence.wide 0 Tryz.prog 262 #[.slice A code.length cp] w (Ret B (fun z : Option Addr × Nat × List Hdr => z.2.2.length = code.length) (fun z => .slice z.1 code.length z.2.1) (fun z => [row kHdr W0 42 (.slice z.1 code.length z.2.1) z.2.2, bun (rws (Kd.int .i64) W0 3 z.2.2 (rg code))])) := by
  (refine enter Tryz.func262 rfl rfl hS ?_; simp only [List.zipIdx_cons, List.zipIdx_nil, List.map_cons, List.map_nil, Nat.reduceAdd, Nat.zero_add])
  refine wSeq (wRegion' (oAssign rfl (oNil (thn_n (wSeq (wRegion' (oAssign rfl (oNil (thn_n (wSeq (wSeq ?_)))))))))))
  refine wRegion' (oAssign rfl (oNil (thn_n (wBlock (wLoop (ι := Nat × List Hdr × Option Addr × Nat) (fun z => [(0, .slice A code.length cp), (3, .slice z.2.2.1 z.1 z.2.2.2), (4, .int .i64 (z.1 : Int))]) (fun z => [row kHdr W0 42 (.slice z.2.2.1 z.1 z.2.2.2) z.2.1, bun (rws (Kd.int .i64) W0 3 z.2.1 ((rg code).take z.1))]) (fun z => z.1 ≤ code.length ∧ z.2.1.length = z.1) (fun z => code.length - z.1) (0, [], none, 0) ?_ cv (Leads.nilrow.trans (bun_nil.trans Lh)) ?_)))))
  ·
   exact ⟨Nat.zero_le _, rfl⟩
  rintro ⟨a, hs, A5, c5⟩ ⟨ha, hl⟩
  dsimp only at ha hl
  have hxl : ((rg code).take a).length = a := by rw [List.length_take, rg_len]; omega
  try dsimp only
  refine wSeq (wSeq (wRegion' (oMove rfl (oMove rfl (oLenS rfl rfl (oLss rfl rfl (oNil (thn_n (wC (fun h8 => ?_) (fun h8 => ?_))))))))))
  ·
   obtain ⟨x, hx⟩ : ∃ x, code[a]? = some x := ⟨_, List.getElem?_eq_getElem (by omega)⟩
   refine wSkip (thn_n (wSeq (wBlock (wRegion' (oMove rfl (oMove rfl (oMove rfl ?_)))))))
   (refine oCall rfl (by kernel_rfl) (fun w hS => frame hS (by repeat' constructor) (fun B' hB hS' => ref14_Next hS' A cp code (Kd.C_grow hB hC) a x hx W0)) ?_; rintro ⟨A14, c14⟩ -)
   refine oBuildSlice1 rfl rfl rfl rfl rfl (by repeat constructor) rfl (fun b15 => ?_)
   refine oApp1 (kd := kHdr) ((A14, (rnext x a).length, c14) : Hdr) rfl rfl rfl rfl (by repeat constructor) (by repeat constructor) rfl (by omega) rfl (fun g16 cp16 => ?_)
   refine oSnoc (kd := Kd.int .i64) (W := W0) (ei := 3) (u := (A14, (rnext x a).length, c14)) (l := rnext x a) (hs := hs) (xss := (rg code).take a) (by repeat constructor) (by repeat constructor) (by omega) ?_
   rw [take_atW (rg_at hx), hl]
   refine oAssign rfl (oNil (blk_n (thn_n (wRegion' (oMove rfl (oSucc rfl rfl (by omega) ?_))))))
   refine oAssign rfl (oNil (thn_n ?_))
   exact ⟨rfl, (a + 1, hs ++ [(A14, (rnext x a).length, c14)], some ⟨g16, 0, none⟩, cp16), ⟨by show a + 1 ≤ _; omega, by show (hs ++ _).length = a + 1; rw [List.length_append, hl]; rfl⟩, by show code.length - (a + 1) < code.length - a; omega, cv, Lh⟩
  obtain rfl : a = code.length := by omega
  rw [show (rg code).take code.length = rg code by rw [← rg_len code, List.take_length]]
  refine wExit (thn_x (thn_x (blk_x (thn_n (wSeq (wRegion' (oMove rfl (oAssign rfl (oNil (thn_n (wRet ?_)))))))))))
  refine fin_r (fi1 rfl ?_)
  exact ⟨(A5, c5, hs), hl, rfl, Lh⟩
end Go.Proofs.YtogaiijhicfoaaaGreatW
