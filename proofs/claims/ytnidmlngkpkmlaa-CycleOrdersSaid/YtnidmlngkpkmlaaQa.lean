/-
  Package queue: what a pile is, and its methods Len and Less.
-/
import Derived.Test.YtnidmlngkpkmlaaKj
import Derived.Test.YtnidmlngkpkmlaaProg
namespace Go.Proofs.YtnidmlngkpkmlaaQ
set_option linter.unusedVariables false
set_option linter.unusedSimpArgs false
open Go.RowKit Go.Proofs.YtnidmlngkpkmlaaK

structure It where
  id : Int
  key : Int
  pl : Int
def itCells (x : It) : List Value := [.int .i64 x.id, .int .i64 x.key, .int .i64 x.pl]
/-- Items in memory: of each block of S what f tells. -/
def its (S : Nat → Prop) (f : Nat → It) : Res where
  fp := S
  q w := ∀ b, S b → w.heap[b]? = some (.cells (itCells (f b)).toArray 98 (0, 0))
  inb w h k hk := (Array.getElem?_eq_some_iff.1 (h k hk)).1
  st w w' h hk := fun b hb => (hk b hb).trans (h b hb)
abbrev ptrV (b : Nat) : Value := .pointer (some ⟨b, 0, none⟩)
def ptrK : Kd Nat := Kd.scalar ptrV (fun _ => rfl)
structure Pile where
  A : Option Addr
  cp : Nat
  mb : Nat
  l : List Nat
  f : Nat → It
  m : Int → Option Nat
def pileR (p : Nat) (s : Pile) : List Res :=
  [blk p 94 [.slice s.A s.l.length s.cp, .map (some s.mb)], row ptrK default 95 (.slice s.A s.l.length s.cp) s.l, its (· ∈ s.l) s.f, kmap (Value.int .i64) ptrV s.mb s.m]
def ltI (a b : It) : Prop := a.key < b.key ∨ a.key = b.key ∧ a.id < b.id
instance (a b : It) : Decidable (ltI a b) := by unfold ltI; infer_instance

section
variable {c : Cx} {N : Md c} {M : Me c} {d : Nat} {ty : TypeId} {pos : String} {af : Array Edge} {rest : List Oper} {E : Env} {D : List Deferred} {H H' : List Res} {v : Value} {x y : Operand} {t : TypeId} {S : Nat → Prop} {f : Nat → It}
theorem oLdI {b i : Nat} (hx : E.op x = some (.pointer (some ⟨b, i, none⟩))) (hp : Pick H (its S f) H') (hb : S b) (hv : (itCells (f b))[i]? = some v) (hs : scalT c.P t = true) (h : O N rest ((d, v) :: E) D H) (hN : Nat.blt d c.N = true := by rfl) : O N (⟨some d, .load t x, ty, pos, af, none⟩ :: rest) E D H :=
  oC _ rfl hN (fun u w ha hw => by
    have hc : w.cell? ⟨b, i, none⟩ = some v := by rw [cell_of ((hw.get hp) b hb)]; exact hv
    simp [execOp, ha.op hx, Instr.loadAt, Instr.sureAddr, loadVar, run_isAgg_s hs, hc]) h
end

set_option maxRecDepth 100000 in
theorem pile_Len {B : Base} {w : World} {p : Nat} {s : Pile} (hS : St B (pileR p s) w) :
    CallsIn Fence.wide 0 Try.prog 54 #[ptrV p] w (Ret B (fun _ : Unit => True) (fun _ => .int .i64 (s.l.length : Int)) (fun _ => pileR p s)) := by
  unfold pileR at hS ⊢
  (refine enter Try.func54 rfl rfl hS ?_; simp only [List.zipIdx_cons, List.zipIdx_nil, List.map_cons, List.map_nil, Nat.reduceAdd, Nat.zero_add])
  refine wSeq ?_
  refine wRegion' ?_
  refine oAssign rfl ?_
  refine oNil ?_
  refine thn_n ?_
  refine wSeq ?_
  refine wRegion' ?_
  refine oMove rfl ?_
  refine oPtr rfl ?_
  refine oFld (n := 0) (m := 0) rfl rfl rfl ?_
  refine oLd rfl (by repeat (first | exact Pick.here | apply Pick.there)) rfl rfl ?_
  refine oLenS rfl rfl ?_
  refine oAssign rfl ?_
  refine oNil ?_
  refine thn_n ?_
  refine wRet ?_
  refine fin_r ?_
  refine ⟨rfl, _, (ResL.cons (ResR.tmp rfl) ResL.nil), ?_⟩
  exact ⟨(), trivial, rfl, (Leads.has (by repeat' (first | exact Has.nil | exact Pick.here | apply Has.cons | apply Pick.there)))⟩

set_option maxRecDepth 100000 in
theorem pile_Less {B : Base} {w : World} {p : Nat} {s : Pile} (hS : St B (pileR p s) w) (i j : Nat) (bi bj : Nat) (hi : s.l[i]? = some bi) (hj : s.l[j]? = some bj) :
    CallsIn Fence.wide 0 Try.prog 119 #[ptrV p, .int .i64 (i : Int), .int .i64 (j : Int)] w (Ret B (fun _ : Unit => True) (fun _ => .bool (decide (ltI (s.f bi) (s.f bj)))) (fun _ => pileR p s)) := by
  have mi : bi ∈ s.l := List.mem_of_getElem? hi
  have mj : bj ∈ s.l := List.mem_of_getElem? hj
  have li : i < s.l.length := (List.getElem?_eq_some_iff.1 hi).1
  have lj : j < s.l.length := (List.getElem?_eq_some_iff.1 hj).1
  obtain ⟨A, cp, mb, l, f, m⟩ := s
  unfold pileR at hS ⊢
  dsimp only at *
  (refine enter Try.func119 rfl rfl hS ?_; simp only [List.zipIdx_cons, List.zipIdx_nil, List.map_cons, List.map_nil, Nat.reduceAdd, Nat.zero_add])
  refine wSeq ?_
  refine wRegion' ?_
  refine oAssign rfl ?_
  refine oNil ?_
  refine thn_n ?_
  refine wSeq ?_
  refine wDraw2 rfl rfl [0, 4, 7, 11] [1, 2, 3, 5, 6, 8, 9, 10, 12, 13, 14] 15 (by kernel_rfl) rfl rfl rfl (fun w0 => ?_)
  refine oPtr rfl ?_
  refine oFld (n := 0) (m := 0) rfl rfl rfl ?_
  first | refine oLd rfl (by repeat (first | exact Pick.here | apply Pick.there)) rfl rfl ?_ | refine oLdI rfl (by repeat (first | exact Pick.here | apply Pick.there)) (by assumption) rfl rfl ?_
  refine oIdxR rfl rfl (by repeat (first | exact Pick.here | apply Pick.there)) (by omega) rfl rfl (fun g14 hg14 => ?_)
  first | subst hg14 | (injection hg14 with hg14; injection hg14 with hg14; subst hg14)
  first | refine oLdX rfl hc14 rfl rfl ?_ | refine oLdXA rfl hc14 rfl (by repeat (first | exact SubL.done | apply SubL.take | apply SubL.drop)) ?_ | (refine oLdR1 rfl (by repeat (first | exact Pick.here | apply Pick.there)) (by omega) rfl (fun u15 hu15 => ?_))
  obtain rfl := Option.some.inj (hi.symm.trans hu15)
  refine oPtr rfl ?_
  refine oFld (n := 0) (m := 0) rfl rfl rfl ?_
  first | refine oLd rfl (by repeat (first | exact Pick.here | apply Pick.there)) rfl rfl ?_ | refine oLdI rfl (by repeat (first | exact Pick.here | apply Pick.there)) (by assumption) rfl rfl ?_
  refine oIdxR rfl rfl (by repeat (first | exact Pick.here | apply Pick.there)) (by omega) rfl rfl (fun g21 hg21 => ?_)
  first | subst hg21 | (injection hg21 with hg21; injection hg21 with hg21; subst hg21)
  first | refine oLdX rfl hc21 rfl rfl ?_ | refine oLdXA rfl hc21 rfl (by repeat (first | exact SubL.done | apply SubL.take | apply SubL.drop)) ?_ | (refine oLdR1 rfl (by repeat (first | exact Pick.here | apply Pick.there)) (by omega) rfl (fun u22 hu22 => ?_))
  obtain rfl := Option.some.inj (hj.symm.trans hu22)
  refine oAssign rfl ?_
  refine oHead ?_
  refine oAssign rfl ?_
  refine oNilT ?_
  refine thn_n ?_
  refine wSeq ?_
  refine wSeq ?_
  refine wDraw2 rfl rfl [0, 4] [1, 2, 3, 5, 6, 7] 8 (by kernel_rfl) rfl rfl rfl (fun w0 => ?_)
  refine oPtr rfl ?_
  refine oFld (n := 1) (m := 1) rfl rfl rfl ?_
  first | refine oLd rfl (by repeat (first | exact Pick.here | apply Pick.there)) rfl rfl ?_ | refine oLdI rfl (by repeat (first | exact Pick.here | apply Pick.there)) (by assumption) rfl rfl ?_
  refine oPtr rfl ?_
  refine oFld (n := 1) (m := 1) rfl rfl rfl ?_
  first | refine oLd rfl (by repeat (first | exact Pick.here | apply Pick.there)) rfl rfl ?_ | refine oLdI rfl (by repeat (first | exact Pick.here | apply Pick.there)) (by assumption) rfl rfl ?_
  refine oHead ?_
  refine oNeq rfl rfl ?_
  refine oNilT ?_
  refine thn_n ?_
  first | refine wCond rfl (fun h31 => ?_) (fun h31 => ?_) | refine wCondB rfl (fun h31 => ?_) (fun h31 => ?_)
  ·
    refine wSeq ?_
    refine wDraw2 rfl rfl [0, 4] [1, 2, 3, 5, 6, 7, 8] 9 (by kernel_rfl) rfl rfl rfl (fun w0 => ?_)
    refine oPtr rfl ?_
    refine oFld (n := 1) (m := 1) rfl rfl rfl ?_
    first | refine oLd rfl (by repeat (first | exact Pick.here | apply Pick.there)) rfl rfl ?_ | refine oLdI rfl (by repeat (first | exact Pick.here | apply Pick.there)) (by assumption) rfl rfl ?_
    refine oPtr rfl ?_
    refine oFld (n := 1) (m := 1) rfl rfl rfl ?_
    first | refine oLd rfl (by repeat (first | exact Pick.here | apply Pick.there)) rfl rfl ?_ | refine oLdI rfl (by repeat (first | exact Pick.here | apply Pick.there)) (by assumption) rfl rfl ?_
    refine oLss rfl rfl ?_
    refine oHead ?_
    refine oAssign rfl ?_
    refine oNilT ?_
    refine thn_n ?_
    refine wRet ?_
    refine thn_r ?_
    refine fin_r ?_
    refine ⟨rfl, _, (ResL.cons (ResR.tmp rfl) ResL.nil), ?_⟩
    exact ⟨(), trivial, by simp [resVal, ltI, h31], (Leads.has (by repeat' (first | exact Has.nil | exact Pick.here | apply Has.cons | apply Pick.there)))⟩
  ·
    refine wSkip ?_
    refine thn_n ?_
    refine wSeq ?_
    refine wDraw2 rfl rfl [0, 4] [1, 2, 3, 5, 6, 7, 8] 9 (by kernel_rfl) rfl rfl rfl (fun w0 => ?_)
    refine oPtr rfl ?_
    refine oFld (n := 0) (m := 0) rfl rfl rfl ?_
    first | refine oLd rfl (by repeat (first | exact Pick.here | apply Pick.there)) rfl rfl ?_ | refine oLdI rfl (by repeat (first | exact Pick.here | apply Pick.there)) (by assumption) rfl rfl ?_
    refine oPtr rfl ?_
    refine oFld (n := 0) (m := 0) rfl rfl rfl ?_
    first | refine oLd rfl (by repeat (first | exact Pick.here | apply Pick.there)) rfl rfl ?_ | refine oLdI rfl (by repeat (first | exact Pick.here | apply Pick.there)) (by assumption) rfl rfl ?_
    refine oLss rfl rfl ?_
    refine oHead ?_
    refine oAssign rfl ?_
    refine oNilT ?_
    refine thn_n ?_
    refine wRet ?_
    refine fin_r ?_
    refine ⟨rfl, _, (ResL.cons (ResR.tmp rfl) ResL.nil), ?_⟩
    exact ⟨(), trivial, by have := Decidable.not_not.1 h31; simp [resVal, ltI, this], (Leads.has (by repeat' (first | exact Has.nil | exact Pick.here | apply Has.cons | apply Pick.there)))⟩
end Go.Proofs.YtnidmlngkpkmlaaQ
