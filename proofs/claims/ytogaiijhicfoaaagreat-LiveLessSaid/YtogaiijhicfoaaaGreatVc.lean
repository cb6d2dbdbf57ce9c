import Derived.Test.YtogaiijhicfoaaaGreatVb
import Derived.Test.YtogaiijhicfoaaaGreatLay

/-
  Package flow: Next, Check; package fun: Check.
-/
namespace Go.Proofs.YtogaiijhicfoaaaGreatV
set_option linter.unusedVariables false
set_option linter.unusedSimpArgs false
open Go.RowKit Go.Proofs.YtogaiijhicfoaaaGreatK Go.Proofs.YtogaiijhicfoaaaGreatT Go.Proofs.YtogaiijhicfoaaaGreatL

abbrev kII : Kd (List Int) := Kd.slice (Kd.int .i64)
def idxI {α : Type} (p : α → Bool) (l : List α) : Int := if l.any p then (l.findIdx p : Int) else -1
theorem idxI_stop {α : Type} {p : α → Bool} {l : List α} {i : Nat} {x : α} (h : ∀ y ∈ l.take i, p y = false) (hi : l[i]? = some x) (hp : p x = true) : idxI p l = (i : Int) := by
  obtain ⟨hl, rfl⟩ := List.getElem?_eq_some_iff.1 hi
  unfold idxI
  rw [if_pos (List.any_eq_true.2 ⟨_, List.getElem_mem hl, hp⟩)]
  rw [(List.findIdx_eq hl).2 ⟨hp, fun j hj => h _ (List.mem_take_iff_getElem.2 ⟨j, by omega, rfl⟩)⟩]
theorem idxI_none {α : Type} {p : α → Bool} {l : List α} (h : ∀ y ∈ l, p y = false) : idxI p l = -1 := by
  unfold idxI
  rw [if_neg]
  intro k
  obtain ⟨x, hx, hp⟩ := List.any_eq_true.1 k
  rw [h x hx] at hp; cases hp
theorem take_not {α : Type} {p : α → Bool} {l : List α} {i : Nat} {x : α} (h : ∀ y ∈ l.take i, p y = false) (hi : l[i]? = some x) (hp : p x = false) : ∀ y ∈ l.take (i + 1), p y = false := by
  intro y hy
  rw [List.take_add_one, hi] at hy
  rcases List.mem_append.1 hy with k | k
  · exact h y k
  · obtain rfl : y = x := by simpa using k
    exact hp
theorem idxI_iff {α : Type} {p : α → Bool} {l : List α} : 0 ≤ idxI p l ↔ l.any p = true := by
  unfold idxI
  split
  · next h => simp [h] <;> omega
  · next h => simp [h] <;> omega
theorem idxI_at {α : Type} {p : α → Bool} {l : List α} (h : 0 ≤ idxI p l) : ∃ (k : Nat) (x : α), idxI p l = (k : Int) ∧ l[k]? = some x ∧ p x = true := by
  have ha := idxI_iff.1 h
  unfold idxI
  rw [if_pos ha]
  have hl : l.findIdx p < l.length := List.findIdx_lt_length_of_exists (by simpa using ha)
  exact ⟨_, _, rfl, List.getElem?_eq_getElem hl, List.findIdx_getElem⟩
set_option maxRecDepth 100000 in
theorem indexFunc_int {B : Base} {w : World} {R : Res} (hS : St B [R] w) (l : List Int) (A : Option Addr) (cp : Nat) (hC : (Kd.int .i64).C B.e A l) (gf : Nat) (lb : Array Value) (p : Int → Bool) (hg : goodF Tryz.prog gf = true)
    (hh : ∀ B' w (x : Int), Grow B.e B'.e → x ∈ l → St B' [R] w → CallsIn Fence.wide 0 Tryz.prog gf (#[] ++ [Value.int .i64 x].toArray ++ lb) w (Ret B' (fun _ : Unit => True) (fun _ => .bool (p x)) (fun _ => [R]))) :
    CallsIn Fence.wide 0 Tryz.prog 191 #[.slice A l.length cp, .func (.func gf) #[] lb] w (Ret B (fun _ : Unit => True) (fun _ => .int .i64 (idxI p l)) (fun _ => [R])) := by
  have hl := hC.1
  (refine enter Tryz.func191 rfl rfl hS ?_; simp only [List.zipIdx_cons, List.zipIdx_nil, List.map_cons, List.map_nil, Nat.reduceAdd, Nat.zero_add])
  refine wSeq (wRegion' (oAssign rfl (oNil (thn_n (wSeq (wSeq (wRegion' (oMove rfl (oLenS rfl rfl (oMove rfl (oNil ?_)))))))))))
  refine thn_n (wBlock (wLoop (ι := Nat) (fun i => [(0, .slice A l.length cp), (1, .func (.func gf) #[] lb), (7, .int .i64 (l.length : Int)), (8, .int .i64 (i : Int))]) (fun i => [R]) (fun i => i ≤ l.length ∧ ∀ y ∈ l.take i, p y = false) (fun i => l.length - i) 0 ?_ cv Lh ?_))
  ·
   exact ⟨Nat.zero_le _, by simp⟩
  rintro i ⟨hi, hs⟩
  try dsimp only
  refine wSeq (wRegion' (oLss rfl rfl (oNil (thn_n (wSeq (wC (fun h9 => ?_) (fun h9 => ?_)))))))
  ·
   refine wSkip (thn_n (wSeq (wBlock (wSeq (wRegion' (oMove rfl (oAssign rfl (oNil (thn_n (wSeq (wRegion' ?_)))))))))))
   refine oMove rfl (oMove rfl (oMove rfl (oIdx rfl rfl (hC) rfl (by omega) rfl rfl (fun e14 u14 cs14 hu14 hk14 hc14 => ?_))))
   obtain rfl := hk14
   first | refine oLdX rfl hc14 rfl rfl ?_ | refine oLdXA rfl hc14 rfl (by repeat constructor) ?_ | (refine oLdR1 rfl (by repeat constructor) (by omega) rfl (fun u15 hu15 => ?_))
   (refine oCallV rfl rfl rfl hg (fun w hS => frame hS (by repeat' constructor) (fun B' hB hS' => hh B' w u14 hB (List.mem_of_getElem? hu14) hS')) ?_; rintro ⟨⟩ -)
   refine oNil (thn_n (wC (fun h16 => ?_) (fun h16 => ?_)))
   ·
    refine wSeq (wRegion' (oMove rfl (oAssign rfl (oNil (thn_n (wRet (blk_r (thn_r (thn_r (blk_r (thn_r ?_)))))))))))
    refine fin_r (fi1 rfl ?_)
    exact ⟨(), trivial, by rw [idxI_stop hs hu14 (by simpa using h16)]; rfl, Lh⟩
   refine wSkip (blk_n (thn_n (wRegion' (oSucc rfl rfl (by omega) ?_))))
   refine oMove rfl (oNil (thn_n ?_))
   exact ⟨rfl, i + 1, ⟨by omega, take_not hs hu14 (by simpa using h16)⟩, by omega, cv, Lh⟩
  refine wExit (thn_x (thn_x (blk_x (thn_n (wSeq (wRegion' (oAssign rfl (oNil (thn_n (wRet (fin_r ?_)))))))))))
  refine fi1 rfl ?_
  obtain rfl : i = l.length := by omega
  rw [List.take_length] at hs
  exact ⟨(), trivial, by rw [idxI_none hs]; rfl, Lh⟩
def nextR (x : ApiInstr) (i : Int) : List Int := if x.fOp = 12 then [i + 1, x.fN] else if x.fOp = 11 then [x.fN] else if endsF x.fOp then [] else [i + 1]
def nextL (x : ApiInstr) (i : Int) : List Int := Lib.compact ((nextR x i).mergeSort leI)
def nextF (code : List ApiInstr) (i : Int) : List Int := if i < 0 ∨ (code.length : Int) ≤ i then [] else nextL (code.getD i.toNat default) i
def graphF (code : List ApiInstr) : List (List Int) := (List.range code.length).map fun i : Nat => nextF code (i : Int)
theorem graphF_len (code : List ApiInstr) : (graphF code).length = code.length := by simp [graphF]
def outF (n : Nat) (to : Int) : Bool := decide (to < 0 ∨ (n : Int) ≤ to)
def flowF (code : List ApiInstr) : Int := if code.length = 0 then 3 else if 64 < code.length then 6 else if (graphF code).any (fun l => l.any (outF code.length)) then 10 else 0
end Go.Proofs.YtogaiijhicfoaaaGreatV
