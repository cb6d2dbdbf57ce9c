import Derived.Test.YtcacohoanlljhaaHa
import Derived.Test.YtcacohoanlljhaaMB

/-
  Package deep: near; slices.Backward, slices.MaxFunc.
-/
namespace Go.Proofs.YtcacohoanlljhaaG
set_option linter.unusedVariables false
set_option linter.unusedSimpArgs false
open Go.RowKit Go.Proofs.YtcacohoanlljhaaK Go.Proofs.YtcacohoanlljhaaT Go.Proofs.YtcacohoanlljhaaL

set_option maxRecDepth 100000 in
theorem num_Near {B : Base} {w : World} (hS : St B [] w) (n lo hi : Int) :
    CallsIn Fence.wide 0 Try.prog 40 #[.int .i64 n, .int .i64 lo, .int .i64 hi] w (Ret B (fun _ : Unit => True) (fun _ => .int .i64 (nearF n lo hi)) (fun _ => [])) := by
  (refine enter Try.func40 rfl rfl hS ?_; simp only [List.zipIdx_cons, List.zipIdx_nil, List.map_cons, List.map_nil, Nat.reduceAdd, Nat.zero_add])
  refine wSeq ?_
  refine wRegion' ?_
  refine oAssign rfl ?_
  refine oNil ?_
  refine thn_n ?_
  refine wSeq ?_
  refine wBlock ?_
  refine wSeq ?_
  refine wRegion' ?_
  refine oMove rfl ?_
  refine oMove rfl ?_
  refine oLss rfl rfl ?_
  refine oAssign rfl ?_
  refine oNil ?_
  refine thn_n ?_
  first | refine wCond rfl (fun h7 => ?_) (fun h7 => ?_) | refine wCondB rfl (fun h7 => ?_) (fun h7 => ?_)
  ·
    refine wSeq ?_
    refine wRegion' ?_
    refine oMove rfl ?_
    refine oAssign rfl ?_
    refine oNil ?_
    refine thn_n ?_
    refine wRet ?_
    refine blk_r ?_
    refine thn_r ?_
    refine fin_r ?_
    refine ⟨rfl, _, (ResL.cons (ResR.tmp rfl) ResL.nil), ?_⟩
    exact ⟨(), trivial, by unfold nearF; rw [if_pos h7]; rfl, (Leads.has (by repeat' (first | exact Has.nil | exact Pick.here | apply Has.cons | apply Pick.there)))⟩
  ·
    refine wSeq ?_
    refine wRegion' ?_
    refine oMove rfl ?_
    refine oMove rfl ?_
    refine oGtr rfl rfl ?_
    refine oAssign rfl ?_
    refine oNil ?_
    refine thn_n ?_
    first | refine wCond rfl (fun h12 => ?_) (fun h12 => ?_) | refine wCondB rfl (fun h12 => ?_) (fun h12 => ?_)
    ·
      refine wSeq ?_
      refine wRegion' ?_
      refine oMove rfl ?_
      refine oAssign rfl ?_
      refine oNil ?_
      refine thn_n ?_
      refine wRet ?_
      refine blk_r ?_
      refine thn_r ?_
      refine fin_r ?_
      refine ⟨rfl, _, (ResL.cons (ResR.tmp rfl) ResL.nil), ?_⟩
      exact ⟨(), trivial, by unfold nearF; rw [if_neg h7, if_pos h12]; rfl, (Leads.has (by repeat' (first | exact Has.nil | exact Pick.here | apply Has.cons | apply Pick.there)))⟩
    ·
      refine wSkip ?_
      refine blk_n ?_
      refine thn_n ?_
      refine wSeq ?_
      refine wRegion' ?_
      refine oMove rfl ?_
      refine oAssign rfl ?_
      refine oNil ?_
      refine thn_n ?_
      refine wRet ?_
      refine fin_r ?_
      refine ⟨rfl, _, (ResL.cons (ResR.tmp rfl) ResL.nil), ?_⟩
      exact ⟨(), trivial, by unfold nearF; rw [if_neg h7, if_neg h12]; rfl, (Leads.has (by repeat' (first | exact Has.nil | exact Pick.here | apply Has.cons | apply Pick.there)))⟩
set_option maxRecDepth 100000 in
theorem ref_Near {B : Base} {w : World} (hS : St B [] w) (n lo hi : Int) :
    CallsIn Fence.wide 0 Try.prog 47 #[.int .i64 n, .int .i64 lo, .int .i64 hi] w (Ret B (fun _ : Unit => True) (fun _ => .int .i64 (nearF n lo hi)) (fun _ => [])) := by
  (refine enter Try.func47 rfl rfl hS ?_; simp only [List.zipIdx_cons, List.zipIdx_nil, List.map_cons, List.map_nil, Nat.reduceAdd, Nat.zero_add])
  refine wSeq ?_
  refine wRegion' ?_
  refine oAssign rfl ?_
  refine oNil ?_
  refine thn_n ?_
  refine wSeq ?_
  refine wSeq ?_
  refine wRegion' ?_
  refine oMove rfl ?_
  refine oMove rfl ?_
  refine oLss rfl rfl ?_
  refine oNil ?_
  refine thn_n ?_
  first | refine wCond rfl (fun h9 => ?_) (fun h9 => ?_) | refine wCondB rfl (fun h9 => ?_) (fun h9 => ?_)
  ·
    refine wSeq ?_
    refine wRegion' ?_
    refine oMove rfl ?_
    refine oAssign rfl ?_
    refine oNil ?_
    refine thn_n ?_
    refine wRet ?_
    refine thn_r ?_
    refine fin_r ?_
    refine ⟨rfl, _, (ResL.cons (ResR.tmp rfl) ResL.nil), ?_⟩
    exact ⟨(), trivial, by unfold nearF; rw [if_pos h9]; rfl, (Leads.has (by repeat' (first | exact Has.nil | exact Pick.here | apply Has.cons | apply Pick.there)))⟩
  ·
    refine wSkip ?_
    refine thn_n ?_
    refine wSeq ?_
    refine wSeq ?_
    refine wRegion' ?_
    refine oMove rfl ?_
    refine oMove rfl ?_
    refine oGtr rfl rfl ?_
    refine oNil ?_
    refine thn_n ?_
    first | refine wCond rfl (fun h13 => ?_) (fun h13 => ?_) | refine wCondB rfl (fun h13 => ?_) (fun h13 => ?_)
    ·
      refine wSeq ?_
      refine wRegion' ?_
      refine oMove rfl ?_
      refine oAssign rfl ?_
      refine oNil ?_
      refine thn_n ?_
      refine wRet ?_
      refine thn_r ?_
      refine fin_r ?_
      refine ⟨rfl, _, (ResL.cons (ResR.tmp rfl) ResL.nil), ?_⟩
      exact ⟨(), trivial, by unfold nearF; rw [if_neg h9, if_pos h13]; rfl, (Leads.has (by repeat' (first | exact Has.nil | exact Pick.here | apply Has.cons | apply Pick.there)))⟩
    ·
      refine wSkip ?_
      refine thn_n ?_
      refine wSeq ?_
      refine wRegion' ?_
      refine oMove rfl ?_
      refine oAssign rfl ?_
      refine oNil ?_
      refine thn_n ?_
      refine wRet ?_
      refine fin_r ?_
      refine ⟨rfl, _, (ResL.cons (ResR.tmp rfl) ResL.nil), ?_⟩
      exact ⟨(), trivial, by unfold nearF; rw [if_neg h9, if_neg h13]; rfl, (Leads.has (by repeat' (first | exact Has.nil | exact Pick.here | apply Has.cons | apply Pick.there)))⟩
set_option maxRecDepth 100000 in
theorem deep_near {B : Base} {w : World} (hS : St B [] w) (n : Int) :
    CallsIn Fence.wide 0 Try.prog 25 #[.int .i64 n] w (Ret B (fun _ : Unit => True) (fun _ => .int .i64 (nr n)) (fun _ => [])) := by
  (refine enter Try.func25 rfl rfl hS ?_; simp only [List.zipIdx_cons, List.zipIdx_nil, List.map_cons, List.map_nil, Nat.reduceAdd, Nat.zero_add])
  refine wSeq ?_
  refine wRegion' ?_
  refine oAssign rfl ?_
  refine oNil ?_
  refine thn_n ?_
  refine wSeq ?_
  refine wRegion' ?_
  refine oMove rfl ?_
  (refine oCall rfl (by kernel_rfl) (fun w hS => frame hS (by repeat' (first | exact Split.nil | exact Pick.here | apply Split.cons | apply Pick.there)) (fun B' hB hS' => num_Near hS' n 0 1048576)) ?_; rintro ⟨⟩ -)
  refine oAssign rfl ?_
  refine oNil ?_
  refine thn_n ?_
  refine wRet ?_
  refine fin_r ?_
  refine ⟨rfl, _, (ResL.cons (ResR.tmp rfl) ResL.nil), ?_⟩
  exact ⟨(), trivial, rfl, (Leads.has (by repeat' (first | exact Has.nil | exact Pick.here | apply Has.cons | apply Pick.there)))⟩
/-! ### Backward -/
def bwL (l : List Int) : List (List Value) := (List.range l.length).map fun j => [.int .i64 ((l.length - 1 - j : Nat) : Int), .int .i64 (l.getD (l.length - 1 - j) 0)]
theorem bwL_len (l : List Int) : (bwL l).length = l.length := by simp [bwL]
theorem bwL_at {l : List Int} {j : Nat} (h : j < (bwL l).length) : (bwL l)[j] = [.int .i64 ((l.length - 1 - j : Nat) : Int), .int .i64 (l.getD (l.length - 1 - j) 0)] := by simp [bwL]
set_option maxRecDepth 100000 in
theorem back_any {B : Base} {w : World} (hS : St B [] w) (A : Option Addr) (n cp : Nat) :
    CallsIn Fence.wide 0 Try.prog 27 #[.slice A n cp] w (Ret B (fun _ : Nat => True) (fun p => .func (.func 44) #[] #[.pointer (some ⟨p, 0, none⟩)]) (fun p => [blk p 24 [.slice A n cp]])) := by
  (refine enter Try.func27 rfl rfl hS ?_; simp only [List.zipIdx_cons, List.zipIdx_nil, List.map_cons, List.map_nil, Nat.reduceAdd, Nat.zero_add])
  refine wSeq ?_
  refine wRegion' ?_
  refine oBox rfl (by first | exact CellsOf.agg | exact CellsOf.one rfl) (fun b1 => ?_)
  refine oAssign rfl ?_
  refine oNil ?_
  refine thn_n ?_
  refine wSeq ?_
  refine wRegion' ?_
  refine oMakeFunc rfl ?_
  refine oAssign rfl ?_
  refine oNil ?_
  refine thn_n ?_
  refine wRet ?_
  refine fin_r ?_
  refine ⟨rfl, _, (ResL.cons (ResR.tmp rfl) ResL.nil), ?_⟩
  exact ⟨b1, trivial, rfl, (Leads.has (by repeat' (first | exact Has.nil | exact Pick.here | apply Has.cons | apply Pick.there)))⟩
set_option maxRecDepth 100000 in
set_option maxHeartbeats 600000 in
theorem back1 {B : Base} (l : List Int) (A : Option Addr) (cp p : Nat) (hC : (Kd.int .i64).C B.e A l) :
    IterC Try.prog 44 #[.pointer (some ⟨p, 0, none⟩)] B (bwL l) [blk p 24 [.slice A l.length cp]] := by
  intro lp AI Ax r0 w hbody hA hS
  have hl1 := hC.1
  have hbl := bwL_len l
  show CallsIn Fence.wide 0 Try.prog 44 #[.func (.yield lp) #[] #[], .pointer (some ⟨p, 0, none⟩)] w _
  (refine enter Try.func44 rfl rfl hS ?_; simp only [List.zipIdx_cons, List.zipIdx_nil, List.map_cons, List.map_nil, Nat.reduceAdd, Nat.zero_add])
  refine wSeq ?_
  refine wRegion' ?_
  refine oLd rfl (by repeat (first | exact Pick.here | apply Pick.there)) rfl rfl ?_
  refine oLenS rfl rfl ?_
  refine oSub rfl rfl (by omega) ?_
  refine oSet (t := 6) (v' := .int .i64 ((l.length : Int) - 1 - ((0 : Nat) : Int))) rfl (by congr 1; omega) ?_
  refine oAssign rfl ?_
  refine oNil ?_
  refine thn_n ?_
  refine wBlock ?_
  refine wLoop (ι := Nat × Res) (fun z => [(0, .func (.yield lp) #[] #[]), (1, .pointer (some ⟨p, 0, none⟩)), (3, .int .i64 ((l.length : Int) - 1 - (z.1 : Int)))]) (fun z => [z.2, blk p 24 [.slice A l.length cp]]) (fun z => z.1 ≤ l.length ∧ AI z.1 z.2) (fun z => l.length - z.1) (0, r0) ?_ (by repeat (first | exact trivial | refine And.intro rfl ?_)) (Leads.has (by repeat' (first | exact Has.nil | exact Pick.here | apply Has.cons | apply Pick.there))) ?_
  ·
    exact ⟨Nat.zero_le _, hA⟩
  ·
    rintro ⟨j, r⟩ ⟨hj, hA⟩
    dsimp only at hj hA
    try dsimp only
    refine wSeq ?_
    refine wSeq ?_
    refine wRegion' ?_
    refine oMove rfl ?_
    refine oGeq rfl rfl ?_
    refine oNil ?_
    refine thn_n ?_
    first | refine wCond rfl (fun h8 => ?_) (fun h8 => ?_) | refine wCondB rfl (fun h8 => ?_) (fun h8 => ?_)
    ·
      have hjl : j < l.length := by omega
      refine wSkip ?_
      refine thn_n ?_
      refine wSeq ?_
      refine wBlock ?_
      refine wSeq ?_
      refine wRegion' ?_
      refine oMove rfl ?_
      refine oSet (t := 3) (v' := .int .i64 ((l.length - 1 - j : Nat) : Int)) rfl (by congr 1; omega) ?_
      refine oMove rfl ?_
      refine oLd rfl (by repeat (first | exact Pick.here | apply Pick.there)) rfl rfl ?_
      refine oMove rfl ?_
      refine oIdx rfl rfl (hC) rfl (by omega) rfl rfl (fun e15 u15 cs15 hu15 hk15 hc15 => ?_)
      obtain rfl := hk15
      have hgd : l.getD (l.length - 1 - j) 0 = u15 := getD_at hu15
      have hY : ∀ Fr W1, St B (r :: Fr) W1 → YieldAt Fence.wide 0 Try.prog lp ([.int .i64 ((l.length - 1 - j : Nat) : Int), .int .i64 u15] : List Value).toArray W1 (YEnd B j AI Ax Fr) := by
        intro Fr W1 h1
        have := hbody j (by omega) r Fr W1 hA h1
        rwa [bwL_at, hgd] at this
      first | refine oLdX rfl hc15 rfl rfl ?_ | refine oLdXA rfl hc15 rfl (by repeat (first | exact SubL.done | apply SubL.take | apply SubL.drop)) ?_ | (refine oLdR1 rfl (by repeat (first | exact Pick.here | apply Pick.there)) (by omega) rfl (fun u16 hu16 => ?_))
      refine oYield rfl rfl rfl (fun w hS => hY _ w (hS.perm (Pick.perm (by repeat (first | exact Pick.here | apply Pick.there))))) ?_
      rintro ⟨bb, r'⟩ hr'
      dsimp only at hr' ⊢
      first | refine oNot rfl ?_ | refine oNotB rfl ?_
      refine oNil ?_
      refine thn_n ?_
      first | refine wCond rfl (fun h18 => ?_) (fun h18 => ?_) | refine wCondB rfl (fun h18 => ?_) (fun h18 => ?_)
      ·
        refine wRet ?_
        refine blk_r ?_
        refine thn_r ?_
        refine thn_r ?_
        refine blk_r ?_
        refine fin_r ?_
        refine ⟨rfl, _, ResL.nil, ?_⟩
        exact ⟨r', .inr ⟨j, by omega, by rw [if_neg (by simpa using h18)] at hr'; exact hr'⟩, rfl, (Leads.has (by repeat' (first | exact Has.nil | exact Pick.here | apply Has.cons | apply Pick.there)))⟩
      ·
        refine wSkip ?_
        refine blk_n ?_
        refine thn_n ?_
        refine wRegion' ?_
        refine oMove rfl ?_
        refine oSub rfl rfl (by omega) ?_
        refine oSet (t := 10) (v' := .int .i64 ((l.length : Int) - 1 - ((j + 1 : Nat) : Int))) rfl (by congr 1; omega) ?_
        refine oAssign rfl ?_
        refine oNil ?_
        refine thn_n ?_
        exact ⟨rfl, (j + 1, r'), ⟨by show j + 1 ≤ _; omega, by rw [if_pos (by simpa using h18)] at hr'; exact hr'⟩, by show l.length - (j + 1) < l.length - j; omega, (by repeat (first | exact trivial | refine And.intro rfl ?_)), (Leads.has (by repeat' (first | exact Has.nil | exact Pick.here | apply Has.cons | apply Pick.there)))⟩
    ·
      refine wExit ?_
      refine thn_x ?_
      refine thn_x ?_
      refine blk_x ?_
      refine fin_n ?_
      refine ⟨rfl, _, ResL.nil, ?_⟩
      have hj : j = (bwL l).length := by omega
      exact ⟨r, .inl (hj ▸ hA), rfl, (Leads.has (by repeat' (first | exact Has.nil | exact Pick.here | apply Has.cons | apply Pick.there)))⟩
/-! ### MaxFunc -/
def bestF (v : Int → Int) : List Int → Int
  | [] => 0
  | x :: l => l.foldl (fun m y => if v m < v y then y else m) x
theorem bestF_snoc {v : Int → Int} {l : List Int} (h : l ≠ []) (y : Int) : bestF v (l ++ [y]) = if v (bestF v l) < v y then y else bestF v l := by
  cases l with
  | nil => exact absurd rfl h
  | cons x l => show (l ++ [y]).foldl _ x = _; rw [List.foldl_append]; rfl
theorem bestF_mem {v : Int → Int} {l : List Int} (h : l ≠ []) : bestF v l ∈ l := by
  cases l with
  | nil => exact absurd rfl h
  | cons x l =>
    have : ∀ (l : List Int) (m : Int), l.foldl (fun m y => if v m < v y then y else m) m = m ∨ l.foldl (fun m y => if v m < v y then y else m) m ∈ l := by
      intro l
      induction l with
      | nil => intro m; left; rfl
      | cons y l ih =>
        intro m
        rw [List.foldl_cons]
        rcases ih (if v m < v y then y else m) with h | h
        · rw [h]
          split
          · right; exact List.mem_cons_self
          · left; rfl
        · right; exact List.mem_cons_of_mem _ h
    rcases this l x with h | h
    · show l.foldl _ x ∈ _; rw [h]; exact List.mem_cons_self
    · exact List.mem_cons_of_mem _ h
set_option maxRecDepth 100000 in
set_option maxHeartbeats 600000 in
theorem maxFunc_any {B : Base} {w : World} {R : Res} (hS : St B [R] w) (l : List Int) (A : Option Addr) (cp : Nat) (hC : (Kd.int .i64).C B.e A l) (hl : l ≠ []) (gf : Nat) (lb : Array Value) (v : Int → Int) (hg : goodF Try.prog gf = true)
    (hh : ∀ B' w (x y : Int), Grow B.e B'.e → x ∈ l → y ∈ l → St B' [R] w → CallsIn Fence.wide 0 Try.prog gf (#[] ++ [Value.int .i64 x, Value.int .i64 y].toArray ++ lb) w (Ret B' (fun _ : Unit => True) (fun _ => .int .i64 (v x - v y)) (fun _ => [R]))) :
    CallsIn Fence.wide 0 Try.prog 30 #[.slice A l.length cp, .func (.func gf) #[] lb] w (Ret B (fun _ : Unit => True) (fun _ => .int .i64 (bestF v l)) (fun _ => [R])) := by
  have hl1 := hC.1
  have hl0 : 0 < l.length := List.length_pos_iff.2 hl
  (refine enter Try.func30 rfl rfl hS ?_; simp only [List.zipIdx_cons, List.zipIdx_nil, List.map_cons, List.map_nil, Nat.reduceAdd, Nat.zero_add])
  refine wSeq ?_
  refine wRegion' ?_
  refine oAssign rfl ?_
  refine oNil ?_
  refine thn_n ?_
  refine wSeq ?_
  refine wSeq ?_
  refine wRegion' ?_
  refine oMove rfl ?_
  refine oLenS rfl rfl ?_
  refine oLss rfl rfl ?_
  refine oNil ?_
  refine thn_n ?_
  first | refine wCond rfl (fun h9 => ?_) (fun h9 => ?_) | refine wCondB rfl (fun h9 => ?_) (fun h9 => ?_)
  ·
    omega
  ·
    refine wSkip ?_
    refine thn_n ?_
    refine wSeq ?_
    refine wRegion' ?_
    refine oMove rfl ?_
    refine oIdx rfl rfl (hC) rfl (by omega) rfl rfl (fun e12 u12 cs12 hu12 hk12 hc12 => ?_)
    obtain rfl := hk12
    first | refine oLdX rfl hc12 rfl rfl ?_ | refine oLdXA rfl hc12 rfl (by repeat (first | exact SubL.done | apply SubL.take | apply SubL.drop)) ?_ | (refine oLdR1 rfl (by repeat (first | exact Pick.here | apply Pick.there)) (by omega) rfl (fun u13 hu13 => ?_))
    have h1 : bestF v (l.take 1) = u12 := by cases l with | nil => exact absurd rfl hl | cons x l => simpa [bestF] using hu12
    refine oSet (t := 13) (v' := .int .i64 (bestF v (l.take 1))) rfl (by rw [h1]) ?_
    refine oAssign rfl ?_
    refine oNil ?_
    refine thn_n ?_
    refine wSeq ?_
    refine wSeq ?_
    refine wRegion' ?_
    refine oAssign rfl ?_
    refine oNil ?_
    refine thn_n ?_
    refine wBlock ?_
    refine wLoop (ι := Nat) (fun i => [(0, .slice A l.length cp), (1, .func (.func gf) #[] lb), (5, .int .i64 (bestF v (l.take i))), (6, .int .i64 (i : Int))]) (fun i => [R]) (fun i => 1 ≤ i ∧ i ≤ l.length) (fun i => l.length - i) 1 ?_ (by repeat (first | exact trivial | refine And.intro rfl ?_)) (Leads.has (by repeat' (first | exact Has.nil | exact Pick.here | apply Has.cons | apply Pick.there))) ?_
    ·
      exact ⟨Nat.le_refl _, by omega⟩
    ·
      rintro i ⟨hi1, hi⟩
      have htn : l.take i ≠ [] := by intro h; rw [List.take_eq_nil_iff] at h; exact h.elim (fun h => by omega) hl
      have hbm : bestF v (l.take i) ∈ l := List.mem_of_mem_take (bestF_mem htn)
      try dsimp only
      refine wSeq ?_
      refine wSeq ?_
      refine wRegion' ?_
      refine oMove rfl ?_
      refine oMove rfl ?_
      refine oLenS rfl rfl ?_
      refine oLss rfl rfl ?_
      refine oNil ?_
      refine thn_n ?_
      first | refine wCond rfl (fun h17 => ?_) (fun h17 => ?_) | refine wCondB rfl (fun h17 => ?_) (fun h17 => ?_)
      ·
        refine wSkip ?_
        refine thn_n ?_
        refine wSeq ?_
        refine wBlock ?_
        refine wSeq ?_
        refine wRegion' ?_
        refine oMove rfl ?_
        refine oMove rfl ?_
        refine oMove rfl ?_
        refine oIdx rfl rfl (hC) rfl (by omega) rfl rfl (fun e23 u23 cs23 hu23 hk23 hc23 => ?_)
        obtain rfl := hk23
        first | refine oLdX rfl hc23 rfl rfl ?_ | refine oLdXA rfl hc23 rfl (by repeat (first | exact SubL.done | apply SubL.take | apply SubL.drop)) ?_ | (refine oLdR1 rfl (by repeat (first | exact Pick.here | apply Pick.there)) (by omega) rfl (fun u24 hu24 => ?_))
        refine oMove rfl ?_
        (refine oCallV rfl rfl rfl hg (fun w hS => frame hS (by repeat' (first | exact Split.nil | exact Pick.here | apply Split.cons | apply Pick.there)) (fun B' hB hS' => hh B' w u23 (bestF v (l.take i)) hB (List.mem_of_getElem? hu23) hbm hS')) ?_; rintro ⟨⟩ -)
        refine oGtr rfl rfl ?_
        refine oNil ?_
        refine thn_n ?_
        first | refine wCond rfl (fun h27 => ?_) (fun h27 => ?_) | refine wCondB rfl (fun h27 => ?_) (fun h27 => ?_)
        ·
          refine wRegion' ?_
          refine oMove rfl ?_
          refine oMove rfl ?_
          refine oIdx rfl rfl (hC) rfl (by omega) rfl rfl (fun e30 u30 cs30 hu30 hk30 hc30 => ?_)
          obtain rfl := hk30
          first | refine oLdX rfl hc30 rfl rfl ?_ | refine oLdXA rfl hc30 rfl (by repeat (first | exact SubL.done | apply SubL.take | apply SubL.drop)) ?_ | (refine oLdR1 rfl (by repeat (first | exact Pick.here | apply Pick.there)) (by omega) rfl (fun u31 hu31 => ?_))
          obtain rfl := Option.some.inj (hu23.symm.trans hu30)
          refine oAssign rfl ?_
          refine oNil ?_
          refine blk_n ?_
          refine thn_n ?_
          refine wRegion' ?_
          refine oMove rfl ?_
          refine oSucc rfl rfl (by omega) ?_
          refine oAssign rfl ?_
          refine oNil ?_
          refine thn_n ?_
          exact ⟨rfl, i + 1, ⟨by omega, by omega⟩, by omega, by rw [List.take_add_one, hu23, show (some u23).toList = [u23] from rfl, bestF_snoc htn, if_pos (by omega)]; exact (by repeat (first | exact trivial | refine And.intro rfl ?_)), (Leads.has (by repeat' (first | exact Has.nil | exact Pick.here | apply Has.cons | apply Pick.there)))⟩
        ·
          refine wSkip ?_
          refine blk_n ?_
          refine thn_n ?_
          refine wRegion' ?_
          refine oMove rfl ?_
          refine oSucc rfl rfl (by omega) ?_
          refine oAssign rfl ?_
          refine oNil ?_
          refine thn_n ?_
          exact ⟨rfl, i + 1, ⟨by omega, by omega⟩, by omega, by rw [List.take_add_one, hu23, show (some u23).toList = [u23] from rfl, bestF_snoc htn, if_neg (by omega)]; exact (by repeat (first | exact trivial | refine And.intro rfl ?_)), (Leads.has (by repeat' (first | exact Has.nil | exact Pick.here | apply Has.cons | apply Pick.there)))⟩
      ·
        obtain rfl : i = l.length := by omega
        rw [List.take_length]
        refine wExit ?_
        refine thn_x ?_
        refine thn_x ?_
        refine blk_x ?_
        refine thn_n ?_
        refine wSeq ?_
        refine wRegion' ?_
        refine oMove rfl ?_
        refine oAssign rfl ?_
        refine oNil ?_
        refine thn_n ?_
        refine wRet ?_
        refine fin_r ?_
        refine ⟨rfl, _, (ResL.cons (ResR.tmp rfl) ResL.nil), ?_⟩
        exact ⟨(), trivial, rfl, (Leads.has (by repeat' (first | exact Has.nil | exact Pick.here | apply Has.cons | apply Pick.there)))⟩
end Go.Proofs.YtcacohoanlljhaaG
