import Derived.Test.YtogaiijhicfoaaaGreatUc
import Derived.Test.YtogaiijhicfoaaaGreatVk

/-
  To what functions refer: the reference.
-/
namespace Go.Proofs.YtogaiijhicfoaaaGreatU
set_option linter.unusedVariables false
set_option linter.unusedSimpArgs false
open Go.RowKit Go.Proofs.YtogaiijhicfoaaaGreatK Go.Proofs.YtogaiijhicfoaaaGreatT Go.Proofs.YtogaiijhicfoaaaGreatL Go.Proofs.YtogaiijhicfoaaaGreatV Go.Proofs.YtogaiijhicfoaaaGreatG

set_option maxRecDepth 100000 in
set_option maxHeartbeats 1000000 in
theorem ref10_Same {B : Base} {w : World} (hS : St B [] w) (g : List (List Int)) (A : Option Addr) (cp : Nat) (hC : (Kd.slice (Kd.int .i64)).C B.e A g) (A1 : Option Addr) (cp1 : Nat) (hC1 : (Kd.slice (Kd.int .i64)).C B.e A1 g) :
    CallsIn Fence.wide 0 Tryz.prog 20 #[.slice A g.length cp, .slice A1 g.length cp1] w (Ret B (fun _ : Unit => True) (fun _ => .bool true) (fun _ => [])) := by
  have hgl := hC.1
  (refine enter Tryz.func20 rfl rfl hS ?_; simp only [List.zipIdx_cons, List.zipIdx_nil, List.map_cons, List.map_nil, Nat.reduceAdd, Nat.zero_add])
  refine wSeq (wRegion' (oAssign rfl (oNil (thn_n (wSeq (wSeq (wRegion' (oMove rfl (oLenS rfl rfl (oMove rfl (oLenS rfl rfl ?_)))))))))))
  refine oNeq rfl rfl (oNil (thn_n (wC (fun h11 => ?_) (fun h11 => ?_))))
  ·
   exact absurd rfl h11
  refine wSkip (thn_n (wSeq (wSeq (wRegion' (oAssign rfl (oNil (thn_n (wBlock (wLoop (ι := Nat) (fun i => [(0, .slice A g.length cp), (1, .slice A1 g.length cp1), (5, .int .i64 (i : Int))]) (fun i => []) (fun i => i ≤ g.length) (fun i => g.length - i) 0 ?_ cv Lh ?_)))))))))
  ·
   exact Nat.zero_le _
  rintro i hi
  try dsimp only
  refine wSeq (wSeq (wRegion' (oMove rfl (oMove rfl (oLenS rfl rfl (oLss rfl rfl (oNil (thn_n (wC (fun h15 => ?_) (fun h15 => ?_))))))))))
  ·
   obtain ⟨x, hx⟩ : ∃ x, g[i]? = some x := ⟨_, List.getElem?_eq_getElem (by omega)⟩
   obtain ⟨e1, cs1, hE⟩ := hC.elm hx
   obtain ⟨X1, n1, rfl, hn1, hX1⟩ := hE.K
   obtain ⟨e2, cs2, hE2⟩ := hC1.elm hx
   obtain ⟨X2, n2, rfl, hn2, hX2⟩ := hE2.K
   have hxl := hX1.1
   have hil : i < g.length := by omega
   refine wSkip (thn_n (wSeq (wBlock (wSeq (wSeq (wDraw2 rfl rfl [0, 1, 5, 6] [2, 3, 4, 7, 8, 9] 10 (by kernel_rfl) rfl rfl rfl (fun w0 => ?_)))))))
   refine oIdxE rfl rfl (hE) (by omega) rfl rfl ?_
   have hc20 := (hE).cell
   first | refine oLdX rfl hc20 rfl rfl ?_ | refine oLdXA rfl hc20 rfl (by repeat constructor) ?_ | (refine oLdR1 rfl (by repeat constructor) (by omega) rfl (fun u21 hu21 => ?_))
   refine oLenS rfl rfl (oIdxE rfl rfl (hE2) (by omega) rfl rfl ?_)
   have hc25 := (hE2).cell
   first | refine oLdX rfl hc25 rfl rfl ?_ | refine oLdXA rfl hc25 rfl (by repeat constructor) ?_ | (refine oLdR1 rfl (by repeat constructor) (by omega) rfl (fun u26 hu26 => ?_))
   refine oLenS rfl rfl (oHead (oNeq rfl rfl (oNilT (thn_n (wC (fun h28 => ?_) (fun h28 => ?_))))))
   ·
    exact absurd rfl h28
   refine wSkip (thn_n (wSeq (wRegion' (oAssign rfl (oNil (thn_n (wBlock (wLoop (ι := Nat) (fun j => [(0, .slice A g.length cp), (1, .slice A1 g.length cp1), (5, .int .i64 (i : Int)), (6, .int .i64 (j : Int))]) (fun j => []) (fun j => j ≤ x.length) (fun j => x.length - j) 0 ?_ cv Lh ?_))))))))
   ·
    exact Nat.zero_le _
   rintro j hj
   try dsimp only
   refine wSeq (wSeq (wRegion' (oMove rfl (oMove rfl (oMove rfl (oIdxE rfl rfl (hE) (by omega) rfl rfl ?_))))))
   have hc32 := (hE).cell
   first | refine oLdX rfl hc32 rfl rfl ?_ | refine oLdXA rfl hc32 rfl (by repeat constructor) ?_ | (refine oLdR1 rfl (by repeat constructor) (by omega) rfl (fun u33 hu33 => ?_))
   refine oLenS rfl rfl (oLss rfl rfl (oNil (thn_n (wC (fun h35 => ?_) (fun h35 => ?_)))))
   ·
    obtain ⟨y, hy⟩ : ∃ y, x[j]? = some y := ⟨_, List.getElem?_eq_getElem (by omega)⟩
    obtain ⟨e3, cs3, hE3⟩ := hX1.elm hy
    obtain rfl := (show cs3 = [Value.int .i64 y] from hE3.K)
    obtain ⟨e4, cs4, hE4⟩ := hX2.elm hy
    obtain rfl := (show cs4 = [Value.int .i64 y] from hE4.K)
    refine wSkip (thn_n (wSeq (wBlock (wSeq (wDraw2 rfl rfl [0, 1, 4, 7, 8, 11] [2, 3, 5, 6, 9, 10, 12, 13] 14 (by kernel_rfl) rfl rfl rfl (fun w0 => ?_))))))
    refine oIdxE rfl rfl (hE) (by omega) rfl rfl ?_
    have hc40 := (hE).cell
    first | refine oLdX rfl hc40 rfl rfl ?_ | refine oLdXA rfl hc40 rfl (by repeat constructor) ?_ | (refine oLdR1 rfl (by repeat constructor) (by omega) rfl (fun u41 hu41 => ?_))
    refine oIdxE rfl rfl (hE3) (by omega) rfl rfl ?_
    have hc43 := (hE3).cell
    first | refine oLdX rfl hc43 rfl rfl ?_ | refine oLdXA rfl hc43 rfl (by repeat constructor) ?_ | (refine oLdR1 rfl (by repeat constructor) (by omega) rfl (fun u44 hu44 => ?_))
    refine oIdxE rfl rfl (hE2) (by omega) rfl rfl ?_
    have hc47 := (hE2).cell
    first | refine oLdX rfl hc47 rfl rfl ?_ | refine oLdXA rfl hc47 rfl (by repeat constructor) ?_ | (refine oLdR1 rfl (by repeat constructor) (by omega) rfl (fun u48 hu48 => ?_))
    refine oIdxE rfl rfl (hE4) (by omega) rfl rfl ?_
    have hc50 := (hE4).cell
    first | refine oLdX rfl hc50 rfl rfl ?_ | refine oLdXA rfl hc50 rfl (by repeat constructor) ?_ | (refine oLdR1 rfl (by repeat constructor) (by omega) rfl (fun u51 hu51 => ?_))
    refine oHead (oNeq rfl rfl (oNilT (thn_n (wC (fun h52 => ?_) (fun h52 => ?_)))))
    ·
     exact absurd rfl h52
    refine wSkip (blk_n (thn_n (wRegion' (oMove rfl (oSucc rfl rfl (by omega) ?_)))))
    refine oAssign rfl (oNil (thn_n ?_))
    exact ⟨rfl, j + 1, by omega, by omega, cv, Lh⟩
   refine wExit (thn_x (thn_x (blk_x (blk_n (thn_n (wRegion' (oMove rfl (oSucc rfl rfl (by omega) ?_))))))))
   refine oAssign rfl (oNil (thn_n ?_))
   exact ⟨rfl, i + 1, by omega, by omega, cv, Lh⟩
  refine wExit (thn_x (thn_x (blk_x (thn_n (wSeq (wRegion' (oAssign rfl (oNil (thn_n (wRet (fin_r ?_)))))))))))
  refine fi1 rfl ?_
  exact ⟨(), trivial, rfl, Lh⟩
end Go.Proofs.YtogaiijhicfoaaaGreatU
