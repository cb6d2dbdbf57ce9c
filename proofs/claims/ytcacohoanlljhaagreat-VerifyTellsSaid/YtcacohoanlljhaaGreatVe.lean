import Derived.Test.YtcacohoanlljhaaGreatVd

/-
  Package verify: what a checker tells of operands.
-/
namespace Go.Proofs.YtcacohoanlljhaaGreatV
set_option linter.unusedVariables false
set_option linter.unusedSimpArgs false
open Go.RowKit Go.Proofs.YtcacohoanlljhaaGreatK Go.Proofs.YtcacohoanlljhaaGreatT Go.Proofs.YtcacohoanlljhaaGreatL

/-- Where a function's lists lie. -/
structure FunA where
  A0 : Option Addr
  c0 : Nat
  A1 : Option Addr
  c1 : Nat
  A2 : Option Addr
  c2 : Nat
  A3 : Option Addr
  c3 : Nat
abbrev symL (s : ApiSymbol) : List Value := [.string s.fName, .bool s.fLocal, .int .i64 s.fSort, .int .i64 s.fKind, .int .i64 s.fDef]
abbrev ckL (f : ApiFunc) (a : FunA) (x : ApiInstr) (s : ApiSymbol) (k : Int) : List Value := [.int .i64 f.fClass, .slice a.A0 f.fKinds.length a.c0, .int .i64 f.fPad, .bool f.fNosplit, .int .i64 f.fFrom, .int .i64 f.fTo, .slice a.A1 f.fLines.length a.c1, .slice a.A2 f.fCode.length a.c2, .slice a.A3 f.fRelocs.length a.c3, .int .i64 x.fOp, .int .i64 x.fA, .int .i64 x.fB, .int .i64 x.fC, .int .i64 x.fN, .string s.fName, .bool s.fLocal, .int .i64 s.fSort, .int .i64 s.fKind, .int .i64 s.fDef, .int .i64 k]
abbrev ckR (b : Nat) (f : ApiFunc) (a : FunA) (x : ApiInstr) (s : ApiSymbol) (k : Int) : Res := blk b 98 (ckL f a x s k)
def slotF (kinds : List Int) (at_ kind : Int) : Int := if at_ < 0 ∨ (kinds.length : Int) ≤ at_ then 9 else if kinds.getD at_.toNat 0 ≠ kind then 8 else 0
def zeroF (at_ : Int) : Int := if at_ ≠ 0 then 2 else 0
def nCall (k : Int) : Int := if parF k = 0 ∧ ansF k = true then 1 else parF k
def callF (kinds : List Int) (k at_ : Int) : Int := if nCall k = 0 then zeroF at_ else fstE ((List.range (nCall k).toNat).map fun i : Nat => slotF kinds (IntKind.i64.wrap (at_ + (i : Int))) 0)
def lateF (kinds : List Int) (k at_ : Int) : Int := if parF k = 0 then zeroF at_ else slotF kinds at_ 0
def answF (kinds : List Int) (c at_ : Int) : Int := if ansF c then slotF kinds at_ 0 else zeroF at_
theorem nCall_in (k : Int) : 0 ≤ nCall k ∧ nCall k ≤ 3 := by
  have := parF_in k
  unfold nCall
  split <;> omega
section
variable {B : Base} {w : World} {b : Nat} {f : ApiFunc} {a : FunA} {x : ApiInstr} {s : ApiSymbol} {k : Int}
set_option maxRecDepth 100000 in
theorem ck_slot (hS : St B [ckR b f a x s k] w) (g0 : (Kd.int .i64).C B.e a.A0 f.fKinds) (at_ kind : Int) :
    CallsIn Fence.wide 0 Tryz.prog 171 #[.pointer (some ⟨b, 0, none⟩), .int .i64 at_, .int .i64 kind] w (Ret B (fun _ : Unit => True) (fun _ => .int .i64 (slotF f.fKinds at_ kind)) (fun _ => [ckR b f a x s k])) := by
  (refine enter Tryz.func171 rfl rfl hS ?_; simp only [List.zipIdx_cons, List.zipIdx_nil, List.map_cons, List.map_nil, Nat.reduceAdd, Nat.zero_add])
  refine wSeq ?_
  refine wRegion' ?_
  refine oAssign rfl ?_
  refine oNil ?_
  refine thn_n ?_
  refine wSeq ?_
  refine wBlock ?_
  refine wSeq ?_
  refine wSeq ?_
  refine wRegion' ?_
  refine oMove rfl ?_
  refine oLss rfl rfl ?_
  refine oAssign rfl ?_
  refine oNil ?_
  refine thn_n ?_
  first | refine wCond rfl (fun h7 => ?_) (fun h7 => ?_) | refine wCondB rfl (fun h7 => ?_) (fun h7 => ?_)
  ·
    refine wSkip ?_
    refine thn_n ?_
    first | refine wCondT rfl ?_ | refine wCondTd h7 rfl ?_ | refine wCondTb h7 rfl ?_
    refine wSeq ?_
    refine wRegion' ?_
    refine oAssign rfl ?_
    refine oNil ?_
    refine thn_n ?_
    refine wRet ?_
    refine blk_r ?_
    refine thn_r ?_
    refine fin_r ?_
    refine ⟨rfl, _, (ResL.cons (ResR.tmp rfl) ResL.nil), ?_⟩
    exact ⟨(), trivial, by unfold slotF; rw [if_pos (by omega)]; rfl, (Leads.has (by repeat' (first | exact Has.nil | exact Pick.here | apply Has.cons | apply Pick.there)))⟩
  ·
    refine wRegion' ?_
    refine oMove rfl ?_
    refine oMove rfl ?_
    refine oPtr rfl ?_
    refine oFld (n := 0) (m := 0) rfl rfl rfl ?_
    refine oFld (n := 1) (m := 1) rfl rfl rfl ?_
    refine oLd rfl (by repeat (first | exact Pick.here | apply Pick.there)) rfl rfl ?_
    refine oLenS rfl rfl ?_
    refine oGeq rfl rfl ?_
    refine oAssign rfl ?_
    refine oNil ?_
    refine thn_n ?_
    first | refine wCond rfl (fun h7 => ?_) (fun h7 => ?_) | refine wCondB rfl (fun h7 => ?_) (fun h7 => ?_)
    ·
      refine wSeq ?_
      refine wRegion' ?_
      refine oAssign rfl ?_
      refine oNil ?_
      refine thn_n ?_
      refine wRet ?_
      refine blk_r ?_
      refine thn_r ?_
      refine fin_r ?_
      refine ⟨rfl, _, (ResL.cons (ResR.tmp rfl) ResL.nil), ?_⟩
      exact ⟨(), trivial, by unfold slotF; rw [if_pos (by omega)]; rfl, (Leads.has (by repeat' (first | exact Has.nil | exact Pick.here | apply Has.cons | apply Pick.there)))⟩
    ·
      refine wSeq ?_
      refine wRegion' ?_
      refine oMove rfl ?_
      obtain ⟨n, rfl⟩ := Int.eq_ofNat_of_zero_le (show 0 ≤ at_ by omega)
      refine oPtr rfl ?_
      refine oFld (n := 0) (m := 0) rfl rfl rfl ?_
      refine oFld (n := 1) (m := 1) rfl rfl rfl ?_
      refine oLd rfl (by repeat (first | exact Pick.here | apply Pick.there)) rfl rfl ?_
      refine oMove rfl ?_
      refine oIdx rfl rfl (g0) rfl (by omega) rfl rfl (fun e25 u25 cs25 hu25 hk25 hc25 => ?_)
      obtain rfl := hk25
      first | refine oLdX rfl hc25 rfl rfl ?_ | refine oLdXA rfl hc25 rfl (by repeat (first | exact SubL.done | apply SubL.take | apply SubL.drop)) ?_ | (refine oLdR1 rfl (by repeat (first | exact Pick.here | apply Pick.there)) (by omega) rfl (fun u26 hu26 => ?_))
      refine oMove rfl ?_
      refine oNeq rfl rfl ?_
      refine oAssign rfl ?_
      refine oNil ?_
      refine thn_n ?_
      first | refine wCond rfl (fun h18 => ?_) (fun h18 => ?_) | refine wCondB rfl (fun h18 => ?_) (fun h18 => ?_)
      ·
        refine wSeq ?_
        refine wRegion' ?_
        refine oAssign rfl ?_
        refine oNil ?_
        refine thn_n ?_
        refine wRet ?_
        refine blk_r ?_
        refine thn_r ?_
        refine fin_r ?_
        refine ⟨rfl, _, (ResL.cons (ResR.tmp rfl) ResL.nil), ?_⟩
        exact ⟨(), trivial, by unfold slotF; rw [if_neg (by omega), Int.toNat_natCast, getDat hu25, if_pos h18]; rfl, (Leads.has (by repeat' (first | exact Has.nil | exact Pick.here | apply Has.cons | apply Pick.there)))⟩
      ·
        refine wSkip ?_
        refine blk_n ?_
        refine thn_n ?_
        refine wSeq ?_
        refine wRegion' ?_
        refine oAssign rfl ?_
        refine oNil ?_
        refine thn_n ?_
        refine wRet ?_
        refine fin_r ?_
        refine ⟨rfl, _, (ResL.cons (ResR.tmp rfl) ResL.nil), ?_⟩
        exact ⟨(), trivial, by unfold slotF; rw [if_neg (by omega), Int.toNat_natCast, getDat hu25, if_neg h18]; rfl, (Leads.has (by repeat' (first | exact Has.nil | exact Pick.here | apply Has.cons | apply Pick.there)))⟩
set_option maxRecDepth 100000 in
theorem ck_number (hS : St B [ckR b f a x s k] w) (g0 : (Kd.int .i64).C B.e a.A0 f.fKinds) (at_ : Int) :
    CallsIn Fence.wide 0 Tryz.prog 143 #[.pointer (some ⟨b, 0, none⟩), .int .i64 at_] w (Ret B (fun _ : Unit => True) (fun _ => .int .i64 (slotF f.fKinds at_ 0)) (fun _ => [ckR b f a x s k])) := by
  (refine enter Tryz.func143 rfl rfl hS ?_; simp only [List.zipIdx_cons, List.zipIdx_nil, List.map_cons, List.map_nil, Nat.reduceAdd, Nat.zero_add])
  refine wSeq ?_
  refine wRegion' ?_
  refine oAssign rfl ?_
  refine oNil ?_
  refine thn_n ?_
  refine wSeq ?_
  refine wRegion' ?_
  refine oMove rfl ?_
  refine oMove rfl ?_
  (refine oCall rfl (by kernel_rfl) (fun w hS => frame hS (by repeat' (first | exact Split.nil | exact Pick.here | apply Split.cons | apply Pick.there)) (fun B' hB hS' => ck_slot hS' (Kd.C_grow hB g0) at_ 0)) ?_; rintro ⟨⟩ -)
  refine oAssign rfl ?_
  refine oNil ?_
  refine thn_n ?_
  refine wRet ?_
  refine fin_r ?_
  refine ⟨rfl, _, (ResL.cons (ResR.tmp rfl) ResL.nil), ?_⟩
  exact ⟨(), trivial, rfl, (Leads.has (by repeat' (first | exact Has.nil | exact Pick.here | apply Has.cons | apply Pick.there)))⟩
set_option maxRecDepth 100000 in
theorem ck_function (hS : St B [ckR b f a x s k] w) (g0 : (Kd.int .i64).C B.e a.A0 f.fKinds) (at_ : Int) :
    CallsIn Fence.wide 0 Tryz.prog 144 #[.pointer (some ⟨b, 0, none⟩), .int .i64 at_] w (Ret B (fun _ : Unit => True) (fun _ => .int .i64 (slotF f.fKinds at_ (IntKind.i64.wrap (1 + k)))) (fun _ => [ckR b f a x s k])) := by
  generalize hz : IntKind.i64.wrap (1 + k) = z
  (refine enter Tryz.func144 rfl rfl hS ?_; simp only [List.zipIdx_cons, List.zipIdx_nil, List.map_cons, List.map_nil, Nat.reduceAdd, Nat.zero_add])
  refine wSeq ?_
  refine wRegion' ?_
  refine oAssign rfl ?_
  refine oNil ?_
  refine thn_n ?_
  refine wSeq ?_
  refine wRegion' ?_
  refine oMove rfl ?_
  refine oMove rfl ?_
  refine oMove rfl ?_
  refine oPtr rfl ?_
  refine oFld (n := 19) (m := 19) rfl rfl rfl ?_
  refine oLd rfl (by repeat (first | exact Pick.here | apply Pick.there)) rfl rfl ?_
  refine oAddW rfl rfl ?_
  rw [hz]
  (refine oCall rfl (by kernel_rfl) (fun w hS => frame hS (by repeat' (first | exact Split.nil | exact Pick.here | apply Split.cons | apply Pick.there)) (fun B' hB hS' => ck_slot hS' (Kd.C_grow hB g0) at_ z)) ?_; rintro ⟨⟩ -)
  refine oAssign rfl ?_
  refine oNil ?_
  refine thn_n ?_
  refine wRet ?_
  refine fin_r ?_
  refine ⟨rfl, _, (ResL.cons (ResR.tmp rfl) ResL.nil), ?_⟩
  exact ⟨(), trivial, rfl, (Leads.has (by repeat' (first | exact Has.nil | exact Pick.here | apply Has.cons | apply Pick.there)))⟩
set_option maxRecDepth 100000 in
theorem ck_nothing (hS : St B [] w) (v : Value) (at_ : Int) :
    CallsIn Fence.wide 0 Tryz.prog 172 #[v, .int .i64 at_] w (Ret B (fun _ : Unit => True) (fun _ => .int .i64 (zeroF at_)) (fun _ => [])) := by
  (refine enter Tryz.func172 rfl rfl hS ?_; simp only [List.zipIdx_cons, List.zipIdx_nil, List.map_cons, List.map_nil, Nat.reduceAdd, Nat.zero_add])
  refine wSeq ?_
  refine wRegion' ?_
  refine oAssign rfl ?_
  refine oNil ?_
  refine thn_n ?_
  refine wSeq ?_
  refine wSeq ?_
  refine wRegion' ?_
  refine oMove rfl ?_
  refine oNeq rfl rfl ?_
  refine oNil ?_
  refine thn_n ?_
  first | refine wCond rfl (fun h6 => ?_) (fun h6 => ?_) | refine wCondB rfl (fun h6 => ?_) (fun h6 => ?_)
  ·
    refine wSeq ?_
    refine wRegion' ?_
    refine oAssign rfl ?_
    refine oNil ?_
    refine thn_n ?_
    refine wRet ?_
    refine thn_r ?_
    refine fin_r ?_
    refine ⟨rfl, _, (ResL.cons (ResR.tmp rfl) ResL.nil), ?_⟩
    exact ⟨(), trivial, by unfold zeroF; rw [if_pos h6]; rfl, (Leads.has (by repeat' (first | exact Has.nil | exact Pick.here | apply Has.cons | apply Pick.there)))⟩
  ·
    refine wSkip ?_
    refine thn_n ?_
    refine wSeq ?_
    refine wRegion' ?_
    refine oAssign rfl ?_
    refine oNil ?_
    refine thn_n ?_
    refine wRet ?_
    refine fin_r ?_
    refine ⟨rfl, _, (ResL.cons (ResR.tmp rfl) ResL.nil), ?_⟩
    exact ⟨(), trivial, by unfold zeroF; rw [if_neg h6]; rfl, (Leads.has (by repeat' (first | exact Has.nil | exact Pick.here | apply Has.cons | apply Pick.there)))⟩
set_option maxRecDepth 100000 in
theorem ck_fineR (hS : St B [ckR b f a x s k] w) (at_ : Int) :
    CallsIn Fence.wide 0 Tryz.prog 148 #[.pointer (some ⟨b, 0, none⟩), .int .i64 at_] w (Ret B (fun _ : Unit => True) (fun _ => .int .i64 0) (fun _ => [ckR b f a x s k])) := by
  (refine enter Tryz.func148 rfl rfl hS ?_; simp only [List.zipIdx_cons, List.zipIdx_nil, List.map_cons, List.map_nil, Nat.reduceAdd, Nat.zero_add])
  refine wSeq ?_
  refine wRegion' ?_
  refine oAssign rfl ?_
  refine oNil ?_
  refine thn_n ?_
  refine wSeq ?_
  refine wRegion' ?_
  refine oAssign rfl ?_
  refine oNil ?_
  refine thn_n ?_
  refine wRet ?_
  refine fin_r ?_
  refine ⟨rfl, _, (ResL.cons (ResR.tmp rfl) ResL.nil), ?_⟩
  exact ⟨(), trivial, rfl, (Leads.has (by repeat' (first | exact Has.nil | exact Pick.here | apply Has.cons | apply Pick.there)))⟩
set_option maxRecDepth 100000 in
theorem ck_later (hS : St B [ckR b f a x s k] w) (g0 : (Kd.int .i64).C B.e a.A0 f.fKinds) (at_ : Int) :
    CallsIn Fence.wide 0 Tryz.prog 146 #[.pointer (some ⟨b, 0, none⟩), .int .i64 at_] w (Ret B (fun _ : Unit => True) (fun _ => .int .i64 (lateF f.fKinds k at_)) (fun _ => [ckR b f a x s k])) := by
  (refine enter Tryz.func146 rfl rfl hS ?_; simp only [List.zipIdx_cons, List.zipIdx_nil, List.map_cons, List.map_nil, Nat.reduceAdd, Nat.zero_add])
  refine wSeq ?_
  refine wRegion' ?_
  refine oAssign rfl ?_
  refine oNil ?_
  refine thn_n ?_
  refine wSeq ?_
  refine wSeq ?_
  refine wRegion' ?_
  refine oMove rfl ?_
  refine oPtr rfl ?_
  refine oFld (n := 19) (m := 19) rfl rfl rfl ?_
  refine oLd rfl (by repeat (first | exact Pick.here | apply Pick.there)) rfl rfl ?_
  (refine oCall rfl (by kernel_rfl) (fun w hS => frame hS (by repeat' (first | exact Split.nil | exact Pick.here | apply Split.cons | apply Pick.there)) (fun B' hB hS' => sig_Params hS' k)) ?_; rintro ⟨⟩ -)
  refine oEql rfl rfl ?_
  refine oNil ?_
  refine thn_n ?_
  first | refine wCond rfl (fun h10 => ?_) (fun h10 => ?_) | refine wCondB rfl (fun h10 => ?_) (fun h10 => ?_)
  ·
    refine wSeq ?_
    refine wRegion' ?_
    refine oMove rfl ?_
    refine oMove rfl ?_
    (refine oCall rfl (by kernel_rfl) (fun w hS => frame hS (by repeat' (first | exact Split.nil | exact Pick.here | apply Split.cons | apply Pick.there)) (fun B' hB hS' => ck_nothing hS' _ at_)) ?_; rintro ⟨⟩ -)
    refine oAssign rfl ?_
    refine oNil ?_
    refine thn_n ?_
    refine wRet ?_
    refine thn_r ?_
    refine fin_r ?_
    refine ⟨rfl, _, (ResL.cons (ResR.tmp rfl) ResL.nil), ?_⟩
    exact ⟨(), trivial, by unfold lateF; rw [if_pos h10]; rfl, (Leads.has (by repeat' (first | exact Has.nil | exact Pick.here | apply Has.cons | apply Pick.there)))⟩
  ·
    refine wSkip ?_
    refine thn_n ?_
    refine wSeq ?_
    refine wRegion' ?_
    refine oMove rfl ?_
    refine oMove rfl ?_
    (refine oCall rfl (by kernel_rfl) (fun w hS => frame hS (by repeat' (first | exact Split.nil | exact Pick.here | apply Split.cons | apply Pick.there)) (fun B' hB hS' => ck_number hS' (Kd.C_grow hB g0) at_)) ?_; rintro ⟨⟩ -)
    refine oAssign rfl ?_
    refine oNil ?_
    refine thn_n ?_
    refine wRet ?_
    refine fin_r ?_
    refine ⟨rfl, _, (ResL.cons (ResR.tmp rfl) ResL.nil), ?_⟩
    exact ⟨(), trivial, by unfold lateF; rw [if_neg h10]; rfl, (Leads.has (by repeat' (first | exact Has.nil | exact Pick.here | apply Has.cons | apply Pick.there)))⟩
set_option maxRecDepth 100000 in
theorem ck_answer (hS : St B [ckR b f a x s k] w) (g0 : (Kd.int .i64).C B.e a.A0 f.fKinds) (at_ : Int) :
    CallsIn Fence.wide 0 Tryz.prog 147 #[.pointer (some ⟨b, 0, none⟩), .int .i64 at_] w (Ret B (fun _ : Unit => True) (fun _ => .int .i64 (answF f.fKinds f.fClass at_)) (fun _ => [ckR b f a x s k])) := by
  (refine enter Tryz.func147 rfl rfl hS ?_; simp only [List.zipIdx_cons, List.zipIdx_nil, List.map_cons, List.map_nil, Nat.reduceAdd, Nat.zero_add])
  refine wSeq ?_
  refine wRegion' ?_
  refine oAssign rfl ?_
  refine oNil ?_
  refine thn_n ?_
  refine wSeq ?_
  refine wSeq ?_
  refine wRegion' ?_
  refine oMove rfl ?_
  refine oPtr rfl ?_
  refine oFld (n := 0) (m := 0) rfl rfl rfl ?_
  refine oFld (n := 0) (m := 0) rfl rfl rfl ?_
  refine oLd rfl (by repeat (first | exact Pick.here | apply Pick.there)) rfl rfl ?_
  (refine oCall rfl (by kernel_rfl) (fun w hS => frame hS (by repeat' (first | exact Split.nil | exact Pick.here | apply Split.cons | apply Pick.there)) (fun B' hB hS' => sig_Answers hS' f.fClass)) ?_; rintro ⟨⟩ -)
  first | refine oNot rfl ?_ | refine oNotB rfl ?_
  refine oNil ?_
  refine thn_n ?_
  first | refine wCond rfl (fun h11 => ?_) (fun h11 => ?_) | refine wCondB rfl (fun h11 => ?_) (fun h11 => ?_)
  ·
    refine wSeq ?_
    refine wRegion' ?_
    refine oMove rfl ?_
    refine oMove rfl ?_
    (refine oCall rfl (by kernel_rfl) (fun w hS => frame hS (by repeat' (first | exact Split.nil | exact Pick.here | apply Split.cons | apply Pick.there)) (fun B' hB hS' => ck_nothing hS' _ at_)) ?_; rintro ⟨⟩ -)
    refine oAssign rfl ?_
    refine oNil ?_
    refine thn_n ?_
    refine wRet ?_
    refine thn_r ?_
    refine fin_r ?_
    refine ⟨rfl, _, (ResL.cons (ResR.tmp rfl) ResL.nil), ?_⟩
    exact ⟨(), trivial, by unfold answF; rw [if_neg (by simpa using h11)]; rfl, (Leads.has (by repeat' (first | exact Has.nil | exact Pick.here | apply Has.cons | apply Pick.there)))⟩
  ·
    refine wSkip ?_
    refine thn_n ?_
    refine wSeq ?_
    refine wRegion' ?_
    refine oMove rfl ?_
    refine oMove rfl ?_
    (refine oCall rfl (by kernel_rfl) (fun w hS => frame hS (by repeat' (first | exact Split.nil | exact Pick.here | apply Split.cons | apply Pick.there)) (fun B' hB hS' => ck_number hS' (Kd.C_grow hB g0) at_)) ?_; rintro ⟨⟩ -)
    refine oAssign rfl ?_
    refine oNil ?_
    refine thn_n ?_
    refine wRet ?_
    refine fin_r ?_
    refine ⟨rfl, _, (ResL.cons (ResR.tmp rfl) ResL.nil), ?_⟩
    exact ⟨(), trivial, by unfold answF; rw [if_pos (by simpa using h11)]; rfl, (Leads.has (by repeat' (first | exact Has.nil | exact Pick.here | apply Has.cons | apply Pick.there)))⟩
set_option maxRecDepth 100000 in
theorem ck_call (hS : St B [ckR b f a x s k] w) (g0 : (Kd.int .i64).C B.e a.A0 f.fKinds) (at_ : Int) :
    CallsIn Fence.wide 0 Tryz.prog 145 #[.pointer (some ⟨b, 0, none⟩), .int .i64 at_] w (Ret B (fun _ : Unit => True) (fun _ => .int .i64 (callF f.fKinds k at_)) (fun _ => [ckR b f a x s k])) := by
  have hn := nCall_in k
  have hml : ((List.range (nCall k).toNat).map fun i : Nat => slotF f.fKinds (IntKind.i64.wrap (at_ + (i : Int))) 0).length = (nCall k).toNat := by simp
  (refine enter Tryz.func145 rfl rfl hS ?_; simp only [List.zipIdx_cons, List.zipIdx_nil, List.map_cons, List.map_nil, Nat.reduceAdd, Nat.zero_add])
  refine wSeq ?_
  refine wRegion' ?_
  refine oAssign rfl ?_
  refine oNil ?_
  refine thn_n ?_
  refine wSeq ?_
  refine wRegion' ?_
  refine oMove rfl ?_
  refine oPtr rfl ?_
  refine oFld (n := 19) (m := 19) rfl rfl rfl ?_
  refine oLd rfl (by repeat (first | exact Pick.here | apply Pick.there)) rfl rfl ?_
  (refine oCall rfl (by kernel_rfl) (fun w hS => frame hS (by repeat' (first | exact Split.nil | exact Pick.here | apply Split.cons | apply Pick.there)) (fun B' hB hS' => sig_Params hS' k)) ?_; rintro ⟨⟩ -)
  refine oAssign rfl ?_
  refine oNil ?_
  refine thn_n ?_
  refine wSeq ?_
  refine wSeq ?_
  refine wRegion' ?_
  refine oMove rfl ?_
  refine oEql rfl rfl ?_
  refine oMove rfl ?_
  first | refine oSplit (t := 15) rfl (fun h15 => ?_) (fun h15 => ?_) | refine oSplitB (t := 15) rfl (fun h15 => ?_) (fun h15 => ?_)
  ·
    refine oWant rfl rfl ?_
    refine oMove rfl ?_
    refine oWant rfl rfl ?_
    refine oPtr rfl ?_
    refine oWant rfl rfl ?_
    refine oFld (n := 19) (m := 19) rfl rfl rfl ?_
    refine oWant rfl rfl ?_
    refine oLd rfl (by repeat (first | exact Pick.here | apply Pick.there)) rfl rfl ?_
    refine oWant rfl rfl ?_
    (refine oCall rfl (by kernel_rfl) (fun w hS => frame hS (by repeat' (first | exact Split.nil | exact Pick.here | apply Split.cons | apply Pick.there)) (fun B' hB hS' => sig_Answers hS' k)) ?_; rintro ⟨⟩ -)
    refine oPickT rfl rfl ?_
    refine oNil ?_
    refine thn_n ?_
    first | refine wCond rfl (fun h21 => ?_) (fun h21 => ?_) | refine wCondB rfl (fun h21 => ?_) (fun h21 => ?_)
    ·
      refine wRegion' ?_
      refine oAssign rfl ?_
      refine oNil ?_
      refine thn_n ?_
      refine wSeq ?_
      refine wSeq ?_
      refine wRegion' ?_
      refine oMove rfl ?_
      refine oSet (t := 5) (v' := .int .i64 (nCall k)) rfl (by unfold nCall; rw [if_pos (by simp_all)]) ?_
      refine oSet (t := 22) (v' := .int .i64 (nCall k)) rfl (by unfold nCall; rw [if_pos (by simp_all)]) ?_
      refine oEql rfl rfl ?_
      refine oNil ?_
      refine thn_n ?_
      first | refine wCond rfl (fun h23 => ?_) (fun h23 => ?_) | refine wCondB rfl (fun h23 => ?_) (fun h23 => ?_)
      ·
        refine wSeq ?_
        refine wRegion' ?_
        refine oMove rfl ?_
        refine oMove rfl ?_
        (refine oCall rfl (by kernel_rfl) (fun w hS => frame hS (by repeat' (first | exact Split.nil | exact Pick.here | apply Split.cons | apply Pick.there)) (fun B' hB hS' => ck_nothing hS' _ at_)) ?_; rintro ⟨⟩ -)
        refine oAssign rfl ?_
        refine oNil ?_
        refine thn_n ?_
        refine wRet ?_
        refine thn_r ?_
        refine fin_r ?_
        refine ⟨rfl, _, (ResL.cons (ResR.tmp rfl) ResL.nil), ?_⟩
        exact ⟨(), trivial, by unfold callF; rw [if_pos h23]; rfl, (Leads.has (by repeat' (first | exact Has.nil | exact Pick.here | apply Has.cons | apply Pick.there)))⟩
      ·
        have h23 := h23
        refine wSkip ?_
        refine thn_n ?_
        refine wSeq ?_
        refine wSeq ?_
        refine wRegion' ?_
        refine oMove rfl ?_
        refine oMove rfl ?_
        refine oNil ?_
        refine thn_n ?_
        refine wBlock ?_
        refine wLoop (ι := Nat) (fun i => [(0, .pointer (some ⟨b, 0, none⟩)), (1, .int .i64 at_), (27, .int .i64 (nCall k)), (28, .int .i64 (i : Int))]) (fun i => [ckR b f a x s k]) (fun i => i ≤ (nCall k).toNat ∧ fstE (((List.range (nCall k).toNat).map fun i : Nat => slotF f.fKinds (IntKind.i64.wrap (at_ + (i : Int))) 0).take i) = 0) (fun i => (nCall k).toNat - i) 0 ?_ (by repeat (first | exact trivial | refine And.intro rfl ?_)) (Leads.has (by repeat' (first | exact Has.nil | exact Pick.here | apply Has.cons | apply Pick.there))) ?_
        ·
          exact ⟨Nat.zero_le _, rfl⟩
        ·
          rintro i ⟨hi, hs⟩
          try dsimp only
          refine wSeq ?_
          refine wRegion' ?_
          refine oLss rfl rfl ?_
          refine oNil ?_
          refine thn_n ?_
          refine wSeq ?_
          first | refine wCond rfl (fun h29 => ?_) (fun h29 => ?_) | refine wCondB rfl (fun h29 => ?_) (fun h29 => ?_)
          ·
            have hxe : ((List.range (nCall k).toNat).map fun i : Nat => slotF f.fKinds (IntKind.i64.wrap (at_ + (i : Int))) 0)[i]? = some (slotF f.fKinds (IntKind.i64.wrap (at_ + (i : Int))) 0) := by rw [List.getElem?_map, List.getElem?_range (by omega)]; rfl
            refine wSkip ?_
            refine thn_n ?_
            refine wSeq ?_
            refine wBlock ?_
            refine wSeq ?_
            refine wRegion' ?_
            refine oMove rfl ?_
            refine oAssign rfl ?_
            refine oNil ?_
            refine thn_n ?_
            refine wSeq ?_
            refine wRegion' ?_
            refine oMove rfl ?_
            refine oMove rfl ?_
            refine oMove rfl ?_
            refine oAddW rfl rfl ?_
            (refine oCall rfl (by kernel_rfl) (fun w hS => frame hS (by repeat' (first | exact Split.nil | exact Pick.here | apply Split.cons | apply Pick.there)) (fun B' hB hS' => ck_number hS' (Kd.C_grow hB g0) (IntKind.i64.wrap (at_ + (i : Int))))) ?_; rintro ⟨⟩ -)
            refine oAssign rfl ?_
            refine oNil ?_
            refine thn_n ?_
            refine wSeq ?_
            refine wRegion' ?_
            refine oMove rfl ?_
            refine oNeq rfl rfl ?_
            refine oNil ?_
            refine thn_n ?_
            first | refine wCond rfl (fun h37 => ?_) (fun h37 => ?_) | refine wCondB rfl (fun h37 => ?_) (fun h37 => ?_)
            ·
              refine wSeq ?_
              refine wRegion' ?_
              refine oMove rfl ?_
              refine oAssign rfl ?_
              refine oNil ?_
              refine thn_n ?_
              refine wRet ?_
              refine blk_r ?_
              refine thn_r ?_
              refine thn_r ?_
              refine blk_r ?_
              refine thn_r ?_
              refine fin_r ?_
              refine ⟨rfl, _, (ResL.cons (ResR.tmp rfl) ResL.nil), ?_⟩
              exact ⟨(), trivial, by unfold callF; rw [if_neg h23, fstE_stop hs hxe h37]; rfl, (Leads.has (by repeat' (first | exact Has.nil | exact Pick.here | apply Has.cons | apply Pick.there)))⟩
            ·
              refine wSkip ?_
              refine blk_n ?_
              refine thn_n ?_
              refine wRegion' ?_
              refine oSucc rfl rfl (by omega) ?_
              refine oMove rfl ?_
              refine oNil ?_
              refine thn_n ?_
              exact ⟨rfl, i + 1, ⟨by omega, fstE_next hs hxe (Classical.not_not.1 h37)⟩, by omega, (by repeat (first | exact trivial | refine And.intro rfl ?_)), (Leads.has (by repeat' (first | exact Has.nil | exact Pick.here | apply Has.cons | apply Pick.there)))⟩
          ·
            refine wExit ?_
            refine thn_x ?_
            refine thn_x ?_
            refine blk_x ?_
            refine thn_n ?_
            refine wSeq ?_
            refine wRegion' ?_
            refine oAssign rfl ?_
            refine oNil ?_
            refine thn_n ?_
            refine wRet ?_
            refine fin_r ?_
            refine ⟨rfl, _, (ResL.cons (ResR.tmp rfl) ResL.nil), ?_⟩
            obtain rfl : i = (nCall k).toNat := by omega
            rw [List.take_of_length_le (by rw [hml]; exact Nat.le_refl _)] at hs
            exact ⟨(), trivial, by unfold callF; rw [if_neg h23, hs]; rfl, (Leads.has (by repeat' (first | exact Has.nil | exact Pick.here | apply Has.cons | apply Pick.there)))⟩
    ·
      refine wSkip ?_
      refine thn_n ?_
      refine wSeq ?_
      refine wSeq ?_
      refine wRegion' ?_
      refine oMove rfl ?_
      refine oSet (t := 5) (v' := .int .i64 (nCall k)) rfl (by unfold nCall; rw [if_neg (by simp_all)]) ?_
      refine oSet (t := 22) (v' := .int .i64 (nCall k)) rfl (by unfold nCall; rw [if_neg (by simp_all)]) ?_
      refine oEql rfl rfl ?_
      refine oNil ?_
      refine thn_n ?_
      first | refine wCond rfl (fun h23 => ?_) (fun h23 => ?_) | refine wCondB rfl (fun h23 => ?_) (fun h23 => ?_)
      ·
        refine wSeq ?_
        refine wRegion' ?_
        refine oMove rfl ?_
        refine oMove rfl ?_
        (refine oCall rfl (by kernel_rfl) (fun w hS => frame hS (by repeat' (first | exact Split.nil | exact Pick.here | apply Split.cons | apply Pick.there)) (fun B' hB hS' => ck_nothing hS' _ at_)) ?_; rintro ⟨⟩ -)
        refine oAssign rfl ?_
        refine oNil ?_
        refine thn_n ?_
        refine wRet ?_
        refine thn_r ?_
        refine fin_r ?_
        refine ⟨rfl, _, (ResL.cons (ResR.tmp rfl) ResL.nil), ?_⟩
        exact ⟨(), trivial, by unfold callF; rw [if_pos h23]; rfl, (Leads.has (by repeat' (first | exact Has.nil | exact Pick.here | apply Has.cons | apply Pick.there)))⟩
      ·
        have h23 := h23
        refine wSkip ?_
        refine thn_n ?_
        refine wSeq ?_
        refine wSeq ?_
        refine wRegion' ?_
        refine oMove rfl ?_
        refine oMove rfl ?_
        refine oNil ?_
        refine thn_n ?_
        refine wBlock ?_
        refine wLoop (ι := Nat) (fun i => [(0, .pointer (some ⟨b, 0, none⟩)), (1, .int .i64 at_), (27, .int .i64 (nCall k)), (28, .int .i64 (i : Int))]) (fun i => [ckR b f a x s k]) (fun i => i ≤ (nCall k).toNat ∧ fstE (((List.range (nCall k).toNat).map fun i : Nat => slotF f.fKinds (IntKind.i64.wrap (at_ + (i : Int))) 0).take i) = 0) (fun i => (nCall k).toNat - i) 0 ?_ (by repeat (first | exact trivial | refine And.intro rfl ?_)) (Leads.has (by repeat' (first | exact Has.nil | exact Pick.here | apply Has.cons | apply Pick.there))) ?_
        ·
          exact ⟨Nat.zero_le _, rfl⟩
        ·
          rintro i ⟨hi, hs⟩
          try dsimp only
          refine wSeq ?_
          refine wRegion' ?_
          refine oLss rfl rfl ?_
          refine oNil ?_
          refine thn_n ?_
          refine wSeq ?_
          first | refine wCond rfl (fun h29 => ?_) (fun h29 => ?_) | refine wCondB rfl (fun h29 => ?_) (fun h29 => ?_)
          ·
            have hxe : ((List.range (nCall k).toNat).map fun i : Nat => slotF f.fKinds (IntKind.i64.wrap (at_ + (i : Int))) 0)[i]? = some (slotF f.fKinds (IntKind.i64.wrap (at_ + (i : Int))) 0) := by rw [List.getElem?_map, List.getElem?_range (by omega)]; rfl
            refine wSkip ?_
            refine thn_n ?_
            refine wSeq ?_
            refine wBlock ?_
            refine wSeq ?_
            refine wRegion' ?_
            refine oMove rfl ?_
            refine oAssign rfl ?_
            refine oNil ?_
            refine thn_n ?_
            refine wSeq ?_
            refine wRegion' ?_
            refine oMove rfl ?_
            refine oMove rfl ?_
            refine oMove rfl ?_
            refine oAddW rfl rfl ?_
            (refine oCall rfl (by kernel_rfl) (fun w hS => frame hS (by repeat' (first | exact Split.nil | exact Pick.here | apply Split.cons | apply Pick.there)) (fun B' hB hS' => ck_number hS' (Kd.C_grow hB g0) (IntKind.i64.wrap (at_ + (i : Int))))) ?_; rintro ⟨⟩ -)
            refine oAssign rfl ?_
            refine oNil ?_
            refine thn_n ?_
            refine wSeq ?_
            refine wRegion' ?_
            refine oMove rfl ?_
            refine oNeq rfl rfl ?_
            refine oNil ?_
            refine thn_n ?_
            first | refine wCond rfl (fun h37 => ?_) (fun h37 => ?_) | refine wCondB rfl (fun h37 => ?_) (fun h37 => ?_)
            ·
              refine wSeq ?_
              refine wRegion' ?_
              refine oMove rfl ?_
              refine oAssign rfl ?_
              refine oNil ?_
              refine thn_n ?_
              refine wRet ?_
              refine blk_r ?_
              refine thn_r ?_
              refine thn_r ?_
              refine blk_r ?_
              refine thn_r ?_
              refine fin_r ?_
              refine ⟨rfl, _, (ResL.cons (ResR.tmp rfl) ResL.nil), ?_⟩
              exact ⟨(), trivial, by unfold callF; rw [if_neg h23, fstE_stop hs hxe h37]; rfl, (Leads.has (by repeat' (first | exact Has.nil | exact Pick.here | apply Has.cons | apply Pick.there)))⟩
            ·
              refine wSkip ?_
              refine blk_n ?_
              refine thn_n ?_
              refine wRegion' ?_
              refine oSucc rfl rfl (by omega) ?_
              refine oMove rfl ?_
              refine oNil ?_
              refine thn_n ?_
              exact ⟨rfl, i + 1, ⟨by omega, fstE_next hs hxe (Classical.not_not.1 h37)⟩, by omega, (by repeat (first | exact trivial | refine And.intro rfl ?_)), (Leads.has (by repeat' (first | exact Has.nil | exact Pick.here | apply Has.cons | apply Pick.there)))⟩
          ·
            refine wExit ?_
            refine thn_x ?_
            refine thn_x ?_
            refine blk_x ?_
            refine thn_n ?_
            refine wSeq ?_
            refine wRegion' ?_
            refine oAssign rfl ?_
            refine oNil ?_
            refine thn_n ?_
            refine wRet ?_
            refine fin_r ?_
            refine ⟨rfl, _, (ResL.cons (ResR.tmp rfl) ResL.nil), ?_⟩
            obtain rfl : i = (nCall k).toNat := by omega
            rw [List.take_of_length_le (by rw [hml]; exact Nat.le_refl _)] at hs
            exact ⟨(), trivial, by unfold callF; rw [if_neg h23, hs]; rfl, (Leads.has (by repeat' (first | exact Has.nil | exact Pick.here | apply Has.cons | apply Pick.there)))⟩
  ·
    refine oSkip rfl rfl rfl rfl ?_
    refine oSkip rfl rfl rfl rfl ?_
    refine oSkip rfl rfl rfl rfl ?_
    refine oSkip rfl rfl rfl rfl ?_
    refine oSkip rfl rfl rfl rfl ?_
    refine oPickF rfl rfl ?_
    refine oNil ?_
    refine thn_n ?_
    first | refine wCondF rfl ?_ | refine wCondFd h21 rfl ?_ | refine wCondFb h21 rfl ?_
    refine wSkip ?_
    refine thn_n ?_
    refine wSeq ?_
    refine wSeq ?_
    refine wRegion' ?_
    refine oMove rfl ?_
    refine oSet (t := 5) (v' := .int .i64 (nCall k)) rfl (by unfold nCall; rw [if_neg (by simp_all)]) ?_
    refine oSet (t := 22) (v' := .int .i64 (nCall k)) rfl (by unfold nCall; rw [if_neg (by simp_all)]) ?_
    refine oEql rfl rfl ?_
    refine oNil ?_
    refine thn_n ?_
    first | refine wCond rfl (fun h23 => ?_) (fun h23 => ?_) | refine wCondB rfl (fun h23 => ?_) (fun h23 => ?_)
    ·
      refine wSeq ?_
      refine wRegion' ?_
      refine oMove rfl ?_
      refine oMove rfl ?_
      (refine oCall rfl (by kernel_rfl) (fun w hS => frame hS (by repeat' (first | exact Split.nil | exact Pick.here | apply Split.cons | apply Pick.there)) (fun B' hB hS' => ck_nothing hS' _ at_)) ?_; rintro ⟨⟩ -)
      refine oAssign rfl ?_
      refine oNil ?_
      refine thn_n ?_
      refine wRet ?_
      refine thn_r ?_
      refine fin_r ?_
      refine ⟨rfl, _, (ResL.cons (ResR.tmp rfl) ResL.nil), ?_⟩
      exact ⟨(), trivial, by unfold callF; rw [if_pos h23]; rfl, (Leads.has (by repeat' (first | exact Has.nil | exact Pick.here | apply Has.cons | apply Pick.there)))⟩
    ·
      have h23 := h23
      refine wSkip ?_
      refine thn_n ?_
      refine wSeq ?_
      refine wSeq ?_
      refine wRegion' ?_
      refine oMove rfl ?_
      refine oMove rfl ?_
      refine oNil ?_
      refine thn_n ?_
      refine wBlock ?_
      refine wLoop (ι := Nat) (fun i => [(0, .pointer (some ⟨b, 0, none⟩)), (1, .int .i64 at_), (27, .int .i64 (nCall k)), (28, .int .i64 (i : Int))]) (fun i => [ckR b f a x s k]) (fun i => i ≤ (nCall k).toNat ∧ fstE (((List.range (nCall k).toNat).map fun i : Nat => slotF f.fKinds (IntKind.i64.wrap (at_ + (i : Int))) 0).take i) = 0) (fun i => (nCall k).toNat - i) 0 ?_ (by repeat (first | exact trivial | refine And.intro rfl ?_)) (Leads.has (by repeat' (first | exact Has.nil | exact Pick.here | apply Has.cons | apply Pick.there))) ?_
      ·
        exact ⟨Nat.zero_le _, rfl⟩
      ·
        rintro i ⟨hi, hs⟩
        try dsimp only
        refine wSeq ?_
        refine wRegion' ?_
        refine oLss rfl rfl ?_
        refine oNil ?_
        refine thn_n ?_
        refine wSeq ?_
        first | refine wCond rfl (fun h29 => ?_) (fun h29 => ?_) | refine wCondB rfl (fun h29 => ?_) (fun h29 => ?_)
        ·
          have hxe : ((List.range (nCall k).toNat).map fun i : Nat => slotF f.fKinds (IntKind.i64.wrap (at_ + (i : Int))) 0)[i]? = some (slotF f.fKinds (IntKind.i64.wrap (at_ + (i : Int))) 0) := by rw [List.getElem?_map, List.getElem?_range (by omega)]; rfl
          refine wSkip ?_
          refine thn_n ?_
          refine wSeq ?_
          refine wBlock ?_
          refine wSeq ?_
          refine wRegion' ?_
          refine oMove rfl ?_
          refine oAssign rfl ?_
          refine oNil ?_
          refine thn_n ?_
          refine wSeq ?_
          refine wRegion' ?_
          refine oMove rfl ?_
          refine oMove rfl ?_
          refine oMove rfl ?_
          refine oAddW rfl rfl ?_
          (refine oCall rfl (by kernel_rfl) (fun w hS => frame hS (by repeat' (first | exact Split.nil | exact Pick.here | apply Split.cons | apply Pick.there)) (fun B' hB hS' => ck_number hS' (Kd.C_grow hB g0) (IntKind.i64.wrap (at_ + (i : Int))))) ?_; rintro ⟨⟩ -)
          refine oAssign rfl ?_
          refine oNil ?_
          refine thn_n ?_
          refine wSeq ?_
          refine wRegion' ?_
          refine oMove rfl ?_
          refine oNeq rfl rfl ?_
          refine oNil ?_
          refine thn_n ?_
          first | refine wCond rfl (fun h37 => ?_) (fun h37 => ?_) | refine wCondB rfl (fun h37 => ?_) (fun h37 => ?_)
          ·
            refine wSeq ?_
            refine wRegion' ?_
            refine oMove rfl ?_
            refine oAssign rfl ?_
            refine oNil ?_
            refine thn_n ?_
            refine wRet ?_
            refine blk_r ?_
            refine thn_r ?_
            refine thn_r ?_
            refine blk_r ?_
            refine thn_r ?_
            refine fin_r ?_
            refine ⟨rfl, _, (ResL.cons (ResR.tmp rfl) ResL.nil), ?_⟩
            exact ⟨(), trivial, by unfold callF; rw [if_neg h23, fstE_stop hs hxe h37]; rfl, (Leads.has (by repeat' (first | exact Has.nil | exact Pick.here | apply Has.cons | apply Pick.there)))⟩
          ·
            refine wSkip ?_
            refine blk_n ?_
            refine thn_n ?_
            refine wRegion' ?_
            refine oSucc rfl rfl (by omega) ?_
            refine oMove rfl ?_
            refine oNil ?_
            refine thn_n ?_
            exact ⟨rfl, i + 1, ⟨by omega, fstE_next hs hxe (Classical.not_not.1 h37)⟩, by omega, (by repeat (first | exact trivial | refine And.intro rfl ?_)), (Leads.has (by repeat' (first | exact Has.nil | exact Pick.here | apply Has.cons | apply Pick.there)))⟩
        ·
          refine wExit ?_
          refine thn_x ?_
          refine thn_x ?_
          refine blk_x ?_
          refine thn_n ?_
          refine wSeq ?_
          refine wRegion' ?_
          refine oAssign rfl ?_
          refine oNil ?_
          refine thn_n ?_
          refine wRet ?_
          refine fin_r ?_
          refine ⟨rfl, _, (ResL.cons (ResR.tmp rfl) ResL.nil), ?_⟩
          obtain rfl : i = (nCall k).toNat := by omega
          rw [List.take_of_length_le (by rw [hml]; exact Nat.le_refl _)] at hs
          exact ⟨(), trivial, by unfold callF; rw [if_neg h23, hs]; rfl, (Leads.has (by repeat' (first | exact Has.nil | exact Pick.here | apply Has.cons | apply Pick.there)))⟩
end
/-! ### looks -/
def kLook : Kd (ByteArray × Nat) where
  sz := 2
  K := fun _ x cs => cs = [.string x.1, .func (.func x.2) #[] #[]]
  K_len := by rintro w x cs rfl; rfl
  K_one := by
    rintro w x cs rfl u hu
    rcases List.mem_cons.1 hu with rfl | hu
    · rfl
    · obtain rfl := List.mem_singleton.1 hu; rfl
  K_grow := fun _ h => h
def looksL : List (ByteArray × Nat) := [(⟨#[119, 114]⟩, 143), (⟨#[103, 102]⟩, 144), (⟨#[99]⟩, 145), (⟨#[100]⟩, 146), (⟨#[118]⟩, 147), (⟨#[116, 110, 107, 45]⟩, 148)]
abbrev looksC : List Value := [.string ⟨#[119, 114]⟩, .func (.func 143) #[] #[], .string ⟨#[103, 102]⟩, .func (.func 144) #[] #[], .string ⟨#[99]⟩, .func (.func 145) #[] #[], .string ⟨#[100]⟩, .func (.func 146) #[] #[], .string ⟨#[118]⟩, .func (.func 147) #[] #[], .string ⟨#[116, 110, 107, 45]⟩, .func (.func 148) #[] #[]]
theorem cat_looks (w : World) : Cat kLook w looksL looksC := ⟨[_, _], _, rfl, rfl, [_, _], _, rfl, rfl, [_, _], _, rfl, rfl, [_, _], _, rfl, rfl, [_, _], _, rfl, rfl, [_, _], _, rfl, rfl, rfl⟩
set_option maxRecDepth 100000 in
theorem verify_looks {B : Base} {w : World} (hS : St B [] w) :
    CallsIn Fence.wide 0 Tryz.prog 105 #[] w (Ret B (fun _ : Nat => True) (fun b => .slice (some ⟨b, 0, none⟩) 6 6) (fun b => [blk b 133 looksC])) := by
  (refine enter Tryz.func105 rfl rfl hS ?_; simp only [List.zipIdx_cons, List.zipIdx_nil, List.map_cons, List.map_nil, Nat.reduceAdd, Nat.zero_add])
  refine wSeq ?_
  refine wRegion' ?_
  refine oAssign rfl ?_
  refine oNil ?_
  refine thn_n ?_
  refine wSeq ?_
  refine wRegion' ?_
  refine oBuild (Parts.cons rfl (Parts.cons rfl Parts.nil)) rfl rfl (Built.cons (off := 0) (s := 1) rfl (by first | exact CellsOf.agg | exact CellsOf.one rfl) rfl (by repeat (first | exact PutL.done | apply PutL.put | apply PutL.skip)) (Built.cons (off := 1) (s := 1) rfl (by first | exact CellsOf.agg | exact CellsOf.one rfl) rfl (by repeat (first | exact PutL.done | apply PutL.put | apply PutL.skip)) Built.nil)) ?_
  refine oBuild (Parts.cons rfl (Parts.cons rfl Parts.nil)) rfl rfl (Built.cons (off := 0) (s := 1) rfl (by first | exact CellsOf.agg | exact CellsOf.one rfl) rfl (by repeat (first | exact PutL.done | apply PutL.put | apply PutL.skip)) (Built.cons (off := 1) (s := 1) rfl (by first | exact CellsOf.agg | exact CellsOf.one rfl) rfl (by repeat (first | exact PutL.done | apply PutL.put | apply PutL.skip)) Built.nil)) ?_
  refine oBuild (Parts.cons rfl (Parts.cons rfl Parts.nil)) rfl rfl (Built.cons (off := 0) (s := 1) rfl (by first | exact CellsOf.agg | exact CellsOf.one rfl) rfl (by repeat (first | exact PutL.done | apply PutL.put | apply PutL.skip)) (Built.cons (off := 1) (s := 1) rfl (by first | exact CellsOf.agg | exact CellsOf.one rfl) rfl (by repeat (first | exact PutL.done | apply PutL.put | apply PutL.skip)) Built.nil)) ?_
  refine oBuild (Parts.cons rfl (Parts.cons rfl Parts.nil)) rfl rfl (Built.cons (off := 0) (s := 1) rfl (by first | exact CellsOf.agg | exact CellsOf.one rfl) rfl (by repeat (first | exact PutL.done | apply PutL.put | apply PutL.skip)) (Built.cons (off := 1) (s := 1) rfl (by first | exact CellsOf.agg | exact CellsOf.one rfl) rfl (by repeat (first | exact PutL.done | apply PutL.put | apply PutL.skip)) Built.nil)) ?_
  refine oBuild (Parts.cons rfl (Parts.cons rfl Parts.nil)) rfl rfl (Built.cons (off := 0) (s := 1) rfl (by first | exact CellsOf.agg | exact CellsOf.one rfl) rfl (by repeat (first | exact PutL.done | apply PutL.put | apply PutL.skip)) (Built.cons (off := 1) (s := 1) rfl (by first | exact CellsOf.agg | exact CellsOf.one rfl) rfl (by repeat (first | exact PutL.done | apply PutL.put | apply PutL.skip)) Built.nil)) ?_
  refine oBuild (Parts.cons rfl (Parts.cons rfl Parts.nil)) rfl rfl (Built.cons (off := 0) (s := 1) rfl (by first | exact CellsOf.agg | exact CellsOf.one rfl) rfl (by repeat (first | exact PutL.done | apply PutL.put | apply PutL.skip)) (Built.cons (off := 1) (s := 1) rfl (by first | exact CellsOf.agg | exact CellsOf.one rfl) rfl (by repeat (first | exact PutL.done | apply PutL.put | apply PutL.skip)) Built.nil)) ?_
  refine oBuildSliceF (Parts.cons rfl (Parts.cons rfl (Parts.cons rfl (Parts.cons rfl (Parts.cons rfl (Parts.cons rfl Parts.nil)))))) rfl rfl rfl rfl rfl (Fulls.cons (by first | exact CellsOf.agg | exact CellsOf.one rfl) rfl (Fulls.cons (by first | exact CellsOf.agg | exact CellsOf.one rfl) rfl (Fulls.cons (by first | exact CellsOf.agg | exact CellsOf.one rfl) rfl (Fulls.cons (by first | exact CellsOf.agg | exact CellsOf.one rfl) rfl (Fulls.cons (by first | exact CellsOf.agg | exact CellsOf.one rfl) rfl (Fulls.cons (by first | exact CellsOf.agg | exact CellsOf.one rfl) rfl Fulls.nil (by repeat (first | exact AppL.nil | apply AppL.cons))) (by repeat (first | exact AppL.nil | apply AppL.cons))) (by repeat (first | exact AppL.nil | apply AppL.cons))) (by repeat (first | exact AppL.nil | apply AppL.cons))) (by repeat (first | exact AppL.nil | apply AppL.cons))) (by repeat (first | exact AppL.nil | apply AppL.cons))) (fun b7 => ?_)
  refine oAssign rfl ?_
  refine oNil ?_
  refine thn_n ?_
  refine wRet ?_
  refine fin_r ?_
  refine ⟨rfl, _, (ResL.cons (ResR.tmp rfl) ResL.nil), ?_⟩
  exact ⟨b7, trivial, rfl, (Leads.has (by repeat' (first | exact Has.nil | exact Pick.here | apply Has.cons | apply Pick.there)))⟩
def lookV (f : ApiFunc) (k n : Int) (j : Nat) : Int := [slotF f.fKinds n 0, slotF f.fKinds n (IntKind.i64.wrap (1 + k)), callF f.fKinds k n, lateF f.fKinds k n, answF f.fKinds f.fClass n, 0].getD j 0
theorem look_any {B : Base} {w : World} {b : Nat} {f : ApiFunc} {a : FunA} {x : ApiInstr} {s : ApiSymbol} {k : Int} (hS : St B [ckR b f a x s k] w) (g0 : (Kd.int .i64).C B.e a.A0 f.fKinds) (n : Int) (j : Nat) (lk : ByteArray × Nat) (hj : looksL[j]? = some lk) :
    CallsIn Fence.wide 0 Tryz.prog lk.2 #[.pointer (some ⟨b, 0, none⟩), .int .i64 n] w (Ret B (fun _ : Unit => True) (fun _ => .int .i64 (lookV f k n j)) (fun _ => [ckR b f a x s k])) := by
  match j, hj with
  | 0, hj => obtain rfl := Option.some.inj hj; exact ck_number hS g0 n
  | 1, hj => obtain rfl := Option.some.inj hj; exact ck_function hS g0 n
  | 2, hj => obtain rfl := Option.some.inj hj; exact ck_call hS g0 n
  | 3, hj => obtain rfl := Option.some.inj hj; exact ck_later hS g0 n
  | 4, hj => obtain rfl := Option.some.inj hj; exact ck_answer hS g0 n
  | 5, hj => obtain rfl := Option.some.inj hj; exact ck_fineR hS n
  | j + 6, hj => cases hj
theorem look_good0 : goodF Tryz.prog 143 = true := by kernel_rfl
theorem look_good1 : goodF Tryz.prog 144 = true := by kernel_rfl
theorem look_good2 : goodF Tryz.prog 145 = true := by kernel_rfl
theorem look_good3 : goodF Tryz.prog 146 = true := by kernel_rfl
theorem look_good4 : goodF Tryz.prog 147 = true := by kernel_rfl
theorem look_good5 : goodF Tryz.prog 148 = true := by kernel_rfl
theorem look_good (j : Nat) (lk : ByteArray × Nat) (hj : looksL[j]? = some lk) : goodF Tryz.prog lk.2 = true := by
  match j, hj with
  | 0, hj => obtain rfl := Option.some.inj hj; exact look_good0
  | 1, hj => obtain rfl := Option.some.inj hj; exact look_good1
  | 2, hj => obtain rfl := Option.some.inj hj; exact look_good2
  | 3, hj => obtain rfl := Option.some.inj hj; exact look_good3
  | 4, hj => obtain rfl := Option.some.inj hj; exact look_good4
  | 5, hj => obtain rfl := Option.some.inj hj; exact look_good5
  | j + 6, hj => cases hj
end Go.Proofs.YtcacohoanlljhaaGreatV
