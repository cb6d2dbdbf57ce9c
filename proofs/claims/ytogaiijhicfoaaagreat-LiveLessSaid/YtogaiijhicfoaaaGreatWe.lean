import Derived.Test.YtogaiijhicfoaaaGreatWd
import Derived.Test.YtogaiijhicfoaaaGreatMG

/-
  The references of flow and ranges: what comes behind, and whether a range is right.
-/
namespace Go.Proofs.YtogaiijhicfoaaaGreatW
set_option linter.unusedVariables false
set_option linter.unusedSimpArgs false
open Go.RowKit Go.Proofs.YtogaiijhicfoaaaGreatK Go.Proofs.YtogaiijhicfoaaaGreatT Go.Proofs.YtogaiijhicfoaaaGreatL Go.Proofs.YtogaiijhicfoaaaGreatV Go.Proofs.YtogaiijhicfoaaaGreatG

def fromL (code : List ApiInstr) (marks : List Nat) : List Int := (marks.map fun k => rnext (code.getD k default) k).flatten
def dfrN (code : List ApiInstr) : List Nat := (List.range code.length).filter (dP code)
theorem dfr_N (code : List ApiInstr) : dfr code code.length = (dfrN code).map fun k => ((k : Nat) : Int) := rfl
theorem dfrN_lt {code : List ApiInstr} {k : Nat} (h : k ∈ dfrN code) : k < code.length := List.mem_range.1 (List.mem_filter.1 h).1
theorem rnext_len (x : ApiInstr) (k : Nat) : (rnext x k).length ≤ 2 := by
  unfold rnext
  repeat' split
  all_goals simp
theorem fromL_len (code : List ApiInstr) : ∀ marks : List Nat, (fromL code marks).length ≤ 2 * marks.length
  | [] => by simp [fromL]
  | k :: marks => by
    have h := fromL_len code marks
    have h2 := rnext_len (code.getD k default) k
    unfold fromL at *
    rw [List.map_cons, List.flatten_cons, List.length_append, List.length_cons]
    omega
theorem fromL_snoc (code : List ApiInstr) (marks : List Nat) (k : Nat) : fromL code (marks ++ [k]) = fromL code marks ++ rnext (code.getD k default) k := by
  unfold fromL; simp
theorem rg_small {code : List ApiInstr} (h : code.length ≤ 1000) : SmallG (rg code) := by
  refine ⟨by rw [rg_len]; exact h, fun l hl => ?_⟩
  unfold rg at hl
  obtain ⟨k, _, rfl⟩ := List.mem_map.1 hl
  exact Nat.le_trans (rnext_len _ _) (by decide)
set_option maxRecDepth 100000 in
set_option maxHeartbeats 1000000 in
theorem ref14_After {B : Base} {w : World} (hS : St B [] w) (A : Option Addr) (cp : Nat) (code : List ApiInstr) (hC : kApiInstr.C B.e A code) (hl : code.length ≤ 1000) (A1 : Option Addr) (cp1 : Nat) (ks : List Nat) (hC1 : (Kd.int .i64).C B.e A1 (ks.map fun k => ((k : Nat) : Int))) (hk : ∀ k ∈ ks, k < code.length) (hn : ks.length ≤ 1000) (W0 : World) :
    CallsIn Fence.wide 0 Tryz.prog 217 #[.slice A code.length cp, .slice A1 ks.length cp1] w
      (Ret B (fun z : Option Addr × Nat × List Bool => z.2.2.length = code.length ∧ ∀ i : Nat, z.2.2[i]? = some true ↔ RP (rg code) (fromL code ks) (i : Int)) (fun z => .slice z.1 code.length z.2.1) (fun z => [row Kd.bool W0 4 (.slice z.1 code.length z.2.1) z.2.2])) := by
  (refine enter Tryz.func217 rfl rfl hS ?_; simp only [List.zipIdx_cons, List.zipIdx_nil, List.map_cons, List.map_nil, Nat.reduceAdd, Nat.zero_add])
  refine wSeq (wRegion' (oAssign rfl (oNil (thn_n (wSeq (wRegion' (oAssign rfl (oNil (thn_n (wSeq (wSeq ?_)))))))))))
  refine wRegion' (oAssign rfl (oNil (thn_n (wBlock (wLoop (ι := Nat × Option Addr × Nat) (fun z => [(0, .slice A code.length cp), (1, .slice A1 ks.length cp1), (5, .slice z.2.1 (fromL code (ks.take z.1)).length z.2.2), (6, .int .i64 (z.1 : Int))]) (fun z => [row (Kd.int .i64) W0 3 (.slice z.2.1 (fromL code (ks.take z.1)).length z.2.2) (fromL code (ks.take z.1))]) (fun z => z.1 ≤ ks.length) (fun z => ks.length - z.1) (0, none, 0) ?_ cv (Leads.nilrow.trans Lh) ?_)))))
  ·
   exact Nat.zero_le _
  rintro ⟨i, A2, c2⟩ hi
  dsimp only at hi
  have hle := fromL_len code (ks.take i)
  rw [List.length_take] at hle
  try dsimp only
  refine wSeq (wSeq (wRegion' (oMove rfl (oMove rfl (oLenS rfl rfl (oLss rfl rfl (oNil (thn_n (wC (fun h10 => ?_) (fun h10 => ?_))))))))))
  ·
   obtain ⟨k, hki⟩ : ∃ k, ks[i]? = some k := ⟨_, List.getElem?_eq_getElem (by omega)⟩
   have hkl := hk k (List.mem_of_getElem? hki)
   obtain ⟨x, hx⟩ : ∃ x, code[k]? = some x := ⟨_, List.getElem?_eq_getElem hkl⟩
   obtain ⟨e1, cs1, hE⟩ := hC1.elm (i := i) (u := (k : Int)) (by rw [List.getElem?_map, hki]; rfl)
   obtain rfl := (show cs1 = [Value.int .i64 (k : Int)] from hE.K)
   have hft : fromL code (ks.take (i + 1)) = fromL code (ks.take i) ++ rnext x k := by rw [List.take_add_one, hki]; show fromL code (ks.take i ++ [k]) = _; rw [fromL_snoc, List.getD_eq_getElem?_getD, hx]; rfl
   have hrl := rnext_len x k
   refine wSkip (thn_n (wSeq (wBlock (wRegion' (oMove rfl (oMove rfl (oMove rfl (oMove rfl (oIdxE rfl rfl (hE) (by omega) rfl rfl ?_)))))))))
   have hc17 := (hE).cell
   first | refine oLdX rfl hc17 rfl rfl ?_ | refine oLdXA rfl hc17 rfl (by repeat constructor) ?_ | (refine oLdR1 rfl (by repeat constructor) (by omega) rfl (fun u18 hu18 => ?_))
   (refine oCall rfl (by kernel_rfl) (fun w hS => frame hS (by repeat' constructor) (fun B' hB hS' => ref14_Next hS' A cp code (Kd.C_grow hB hC) k x hx W0)) ?_; rintro ⟨A19, c19⟩ -)
   refine oAppA (kd := Kd.int .i64) (W := W0) (xs := fromL code (ks.take i)) (ys := rnext x k) rfl rfl rfl rfl (by repeat constructor) rfl (fun w hw => src_row (e := 3) (n := (rnext x k).length) (cp := c19) (hw.get (by repeat constructor))) (by omega) rfl (fun A20 c20 hc20 => ?_)
   rw [← hft, show (fromL code (ks.take i)).length + (rnext x k).length = (fromL code (ks.take (i + 1))).length by rw [hft, List.length_append]]
   refine oAssign rfl (oNil (blk_n (thn_n (wRegion' (oMove rfl (oSucc rfl rfl (by omega) ?_))))))
   refine oAssign rfl (oNil (thn_n ?_))
   exact ⟨rfl, (i + 1, A20, c20), by show i + 1 ≤ _; omega, by show ks.length - (i + 1) < ks.length - i; omega, cv, Lh⟩
  obtain rfl : i = ks.length := by omega
  rw [List.take_length] at *
  refine wExit (thn_x (thn_x (blk_x (thn_n (wSeq (wRegion' (oMove rfl ?_)))))))
  (refine oCall rfl (by kernel_rfl) (fun w hS => frame hS (by repeat' constructor) (fun B' hB hS' => ref14_Graph hS' A cp code (Kd.C_grow hB hC) (by omega) B.e)) ?_; rintro ⟨A22, c22, hs22⟩ hl22)
  refine oSet (t := 22) (v' := .slice A22 (rg code).length c22) rfl (by rw [rg_len]) ?_
  refine oMove rfl ?_
  (refine oCall rfl (by kernel_rfl) (fun w hS => frame' hS .nil (fun B' hB hR hS' => refReach hS' (rg code) A22 c22 (grid_C (hR _ _ (by repeat constructor)) (hR _ _ (by repeat constructor)) (by rw [rg_len]; exact hl22) hB) (rg_small hl) (fromL code ks) A2 c2 (row_Cs (W := W0) (e := 3) (n := (fromL code ks).length) (cp := c2) (hR _ _ (by repeat constructor))) W0)) ?_; rintro ⟨A24, c24, l24⟩ ⟨h24a, h24b⟩)
  dsimp only at h24a h24b ⊢
  rw [rg_len] at h24a ⊢
  refine oAssign rfl (oNil (thn_n (wRet (fin_r (fi1 rfl ?_)))))
  exact ⟨(A24, c24, l24), ⟨h24a, h24b⟩, rfl, Lh⟩
end Go.Proofs.YtogaiijhicfoaaaGreatW
