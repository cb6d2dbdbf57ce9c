/-
  Part 2 of the proof of ElideTells: contracts of functions, and what follows from them; without conditions.
-/
import Derived.Test.YtogaiijhicfoaaaGreatElideTells1
import Derived.Test.YtogaiijhicfoaaaGreatProg
import Derived.Shelf.Lays
import Derived.Shelf.Lays2
set_option linter.unusedVariables false
set_option linter.unusedSimpArgs false
set_option linter.defProp false
namespace Go.Proofs.YtogaiijhicfoaaaGreatK
open Go.RowKit

def stepL (F:Fence) (n:Nat) (P:Program) (ops:Array Oper) (Q:Exit→Act→World→Prop) (K:Act→World→Prop):List Oper→Act→World→Prop
  | [],a,w=>K a w
  | o :: rest,a,w=>
    if Region.wanted o (yielded ops a.tmps) then o.wpIn F n P a w (stepL F n P ops Q K rest) Q
    else (∀ f,o.about P w a.eval=some f→F.fn f)∧stepL F n P ops Q K rest (a.put o.dst undef) w
def Me.step (c:Cx) (ops:Array Oper) (Q:Post) (K:Act→World→Prop):Me c where
  X:=stepL c.F 0 c.P ops (lift c Q) K
  ops:=ops
  calm o rest a w v hw hp hr hK:=by
    simp only [stepL,hw,if_true]
    exact ⟨fun f _=>c.fn f,by rw [semAt_plain' _ _ _ hp,hr];exact hK⟩
  skip o rest a w hw hK:=by
    simp only [stepL,hw]
    exact ⟨fun f _=>c.fn f,hK⟩
  want dst op ty pos af g rest a w hw h:=by
    simp only [stepL] at h ⊢
    rw [if_pos hw]
    rw [if_pos (show Region.wanted { dst:=dst,op:=op,type:=ty,pos:=pos,after:=af,guard:=none } (yielded ops a.tmps)=true from rfl)] at h
    exact h
  eff o rest a w v w' hw hp hr hK:=by
    simp only [stepL]
    rw [if_pos (show Region.wanted o (yielded ops a.tmps)=true from hw)]
    exact ⟨fun f _=>c.fn f,by rw [semAt_plain' _ _ _ hp,hr];exact hK⟩
  effs o rest a w w' hw hp hr hK:=by
    simp only [stepL]
    rw [if_pos (show Region.wanted o (yielded ops a.tmps)=true from hw)]
    exact ⟨fun f _=>c.fn f,by rw [semAt_plain' _ _ _ hp,hr];exact hK⟩
  enter o rest a w g args w1 hw hp hr hK:=by
    simp only [stepL]
    rw [if_pos (show Region.wanted o (yielded ops a.tmps)=true from hw)]
    refine ⟨fun f _=>c.fn f,?_⟩
    rw [semAt_plain' _ _ _ hp,hr]
    refine ⟨fun h=>absurd h (by rw [c.dp];simp),(c.call hK).mono ?_⟩
    rintro e w2 ⟨v,rfl,hx⟩
    exact hx
def AN (c:Cx) (ops:Array Oper) (Q:Post) (f:Nat) (listed:Array Bool) (E:Env) (D:List Deferred) (H:List Res):Prop:=∀ a w,Ok c.N E D a→St c.B H w→wpAnyIn c.F 0 c.P .any ops (lift c Q) f listed a w
inductive AllN (c:Cx) (ops:Array Oper) (Q:Post) (f:Nat) (listed:Array Bool) (E:Env) (D:List Deferred) (H:List Res):List Nat→Prop
  | nil:AllN c ops Q f listed E D H []
  | cons {i:Nat}{o:Oper}{rs:List Nat}(ho:ops[i]?=some o) (h:O (Me.step c ops Q (wpAnyIn c.F 0 c.P .any ops (lift c Q) f (listed.setIfInBounds i true))).toMd [o] E D H) (k:AllN c ops Q f listed E D H rs):AllN c ops Q f listed E D H (i :: rs)
section
variable {c : Cx} {Q : Post} {ops : Array Oper} {E : Env} {D : List Deferred} {H : List Res} {f : Nat} {listed : Array Bool}
theorem AllN.get {rs:List Nat}(h:AllN c ops Q f listed E D H rs):∀ i ∈ rs,∀ a w,Ok c.N E D a→St c.B H w→wpOpIn c.F 0 c.P ops (lift c Q) i (wpAnyIn c.F 0 c.P .any ops (lift c Q) f (listed.setIfInBounds i true)) a w:=by
 induction h with
 | nil=>intro i hi;cases hi
 | @cons j o rs ho h k ih=>
  intro i hi a w ha hw
  rcases List.mem_cons.1 hi with rfl | hi
  · have:=h a w ha hw
    simp only [Me.step,stepL] at this
    unfold wpOpIn
    rw [ho]
    exact this
  · exact ih i hi a w ha hw
theorem anMk {i:Nat}{rs:List Nat}(hr:Region.ready .any ops listed=i :: rs) (h:AllN c ops Q f listed E D H (i :: rs)):AN c ops Q (f+1) listed E D H:=fun a w ha hw=>by
 refine ⟨fun h0=>?_,fun j hj=>?_⟩
 · rw [hr] at h0;cases h0
 · rw [hr] at hj;exact h.get j hj a w ha hw
theorem anNil (hr:Region.ready .any ops listed=[]) (h:Q .normal E D H):AN c ops Q 0 listed E D H:=fun a w ha hw=>⟨hr,E,D,H,ha,hw,h,trivial⟩
theorem oStepEnd {listed':Array Bool}(h:AN c ops Q f listed' E D H):O (Me.step c ops Q (wpAnyIn c.F 0 c.P .any ops (lift c Q) f listed')).toMd [] E D H:=fun a w ha hw=>h a w ha hw
theorem wDrawN (hm:c.P.follows .mixedOrders=true) {id:Nat}{l:List Oper}{n:Nat}(hn:l.length=n) (h:AN c l.toArray Q n (Array.replicate n false) E D H):W c (.region id l.toArray true) Q E D H:=fun a w ha hw=>by
 subst hn
 refine wpIn_region_any hm ?_
 exact h a w.drew ha hw.drew
end
def isSl (P:Program) (t:TypeId):Bool:=match P.underlying t with
  | some (.slice _)=>true
  | _=>false
theorem run_sliceEq {P:Program}{t:TypeId}(ht:isSl P t=true) (A:Option Addr) (n cp:Nat) (w:World):(Op.equal t (.slice A n cp) (.slice none 0 0)).run P w=.ok (decide (A=none)) w:=by
 unfold isSl at ht
 cases hu:P.underlying t with
 | none=>rw [hu] at ht;cases ht
 | some u=>
  rw [hu] at ht
  cases u <;> simp only [reduceCtorEq,Bool.false_eq_true] at ht
  simp only [Op.equal,Op.maxDepth]
  rw [Op.equalIn.eq_def]
  cases A <;> simp [run_underlying hu]
section
variable {c : Cx} {N : Md c} {M : Me c} {d : Nat} {ty t t' : TypeId} {pos : String} {af : Array Edge} {rest : List Oper} {E : Env} {D : List Deferred} {H H' : List Res} {x y : Operand}
theorem oEqlS {A:Option Addr}{n cp:Nat}(hx:E.op x=some (.slice A n cp)) (hy:E.op y=some (.slice none 0 0)) (ht:isSl c.P t=true) (h:O N rest ((d,.bool (decide (A=none))) :: E) D H) (hN:Nat.blt d c.N=true:=by rfl):O N (⟨some d,.binOp .eql t x y t',ty,pos,af,none⟩ :: rest) E D H:=
 oC _ rfl hN (fun a w ha hw=>by
  have h1:(eqGuard .eql t x y (.slice A n cp) (.slice none 0 0)).run c.P w=.ok () w:=by unfold eqGuard;simp
  have h2:(binOp .eql t (.slice A n cp) (.slice none 0 0)).run c.P w=.ok (.bool (decide (A=none))) w:=by simp [binOp,run_sliceEq ht]
  simp [execOp,ha.op hx,ha.op hy,h1,h2]) h
theorem oCapS {A:Option Addr}{n cp:Nat}{e:TypeId}{s:Nat}(hx:E.op x=some (.slice A n cp)) (ht:elemT c.P t=some (e,s)) (h:O N rest ((d,.int .i64 (cp:Int)) :: E) D H) (hN:Nat.blt d c.N=true:=by rfl):O N (⟨some d,.call { callee:=.builtin .cap,args:=#[x],argTypes:=#[t] },ty,pos,af,none⟩ :: rest) E D H:=
 oC _ rfl hN (fun u w ha hw=>by
  obtain ⟨h1,_⟩:=run_elemT ht
  simp [execOp,resolve,ha.op hx,invoke,builtin,Builtin.cap_,run_underlying h1,goInt]) h
theorem oBuildSlice0 {α:Type}(kd:Kd α) (W:World) {e:TypeId}{s:Nat}(ht:elemT c.P t=some (e,s)) (h:∀ b,O M.toMd rest ((d,.slice (some ⟨b,0,none⟩) 0 0) :: E) D (row kd W e (.slice (some ⟨b,0,none⟩) 0 0) [] :: H)) (hN:Nat.blt d c.N=true:=by rfl):O M.toMd (⟨some d,.buildSlice t 0 #[],ty,pos,af,none⟩ :: rest) E D H:=
 oEff rfl hN fun a w ha hw=>by
  obtain ⟨ht1,inf,hi1,hs⟩:=run_elemT ht
  refine ⟨_,w.alloc (.cells #[] e),_,?_,?_,h w.heap.size⟩
  · simp [execOp,Instr.buildSlice,run_underlying ht1,sizeOf,typeInfo,hi1,hs,Instr.fill,newRow]
    rw [show Array.map (fun _=>(default:Value)) (Array.range 0)=#[] from Array.eq_empty_of_size_eq_zero (by simp)]
  · exact hw.add (Chg.alloc _ _ _) ⟨[], World.ownsRow_made w #[] 0 (Nat.zero_le _) (by decide) (by simp), rfl⟩ (fun k hk => by
     have hk:some w.heap.size=some k:=hk
     injection hk with hk;omega)
theorem oSliceV {k:IntKind}{A:Option Addr}{n cp m s:Nat}{e':TypeId}(hx:E.op x=some (.slice A n cp)) (hy:E.op y=some (.int k (m:Int))) (hm:m≤n) (hnc:n≤cp) (ht:elemT c.P t=some (e',s))
 (h:O N rest ((d,.slice (if cp=m then A else A.map (·.add (m * s))) (n-m) (cp-m)) :: E) D H) (hN:Nat.blt d c.N=true:=by rfl):O N (⟨some d,.slice t x (some y) none none,ty,pos,af,none⟩ :: rest) E D H:=
 oC _ rfl hN (fun a w ha hw=>by
  obtain ⟨h1,inf,h2,h3⟩:=run_elemT ht
  simp [execOp,ha.op hx,ha.op hy,Instr.sliceAt,Instr.slice,run_underlying h1,Instr.sliceBounds,Instr.sliceBound,asIntOf,hm,sizeOf,typeInfo,h2,h3]) h
theorem zeroCells_rep (z:Value) (n:Nat):(Builtin.zeroCells #[z] n).toList=List.replicate n z:=by
 apply List.ext_getElem?
 intro j
 by_cases hj:j<n
 · simp [Builtin.zeroCells,List.getElem?_replicate,List.getElem?_range,hj,Nat.mod_one]
 · simp [Builtin.zeroCells,List.getElem?_replicate,List.getElem?_eq_none,Nat.not_lt.1 hj,hj]
theorem oClear {α:Type}{enc:α→Value}{h1:∀ x,(enc x).oneCell'=true}{W:World}{e:TypeId}{zv:Value}{by_:Nat}{A:Option Addr}{n cp m:Nat}{xs:List α}(u:α) (hx:E.op x=some (.slice (if cp=m then A else A.map (·.add (m * 1))) (n-m) (cp-m))) (hm:m≤n) (ht:elemI c.P t=some (e,zv,1,by_)) (hz:zv.cells=#[enc u])
 (hp:Pick H (row (Kd.scalar enc h1) W e (.slice A n cp) xs) H') (h:O M.toMd rest E D (row (Kd.scalar enc h1) W e (.slice A n cp) (xs.take m++List.replicate (n-m) u) :: H')):O M.toMd (⟨none,.call { callee:=.builtin .clear,args:=#[x],argTypes:=#[t] },ty,pos,af,none⟩ :: rest) E D H:=by
 intro a w ha hw
 obtain ⟨ht1,i0,hi,hz0,hz1,hz2,hzs,hsp⟩:=elemI_spec ht
 obtain ⟨cs0,⟨hl,ho⟩,hr⟩:(row (Kd.scalar enc h1) W e (.slice A n cp) xs).q w:=hw.get hp
 have hcs:=Cat.scal.1 hr
 have es:(Kd.scalar enc h1).sz=1:=rfl
 rw [es] at hl ho
 have key:∃ w',(Builtin.clear_ #[t] ty #[.slice (if cp=m then A else A.map (·.add (m * 1))) (n-m) (cp-m)]).run c.P w=.ok (.tuple #[]) w'∧St c.B (row (Kd.scalar enc h1) W e (.slice A n cp) (xs.take m++List.replicate (n-m) u) :: H') w':=by
  by_cases hnm:n=m
  · subst hnm
    refine ⟨w,?_,?_⟩
    · rw [Nat.sub_self]
      simp only [Builtin.clear_,Sem.run_bind]
      cases (if cp=n then A else A.map (·.add (n * 1))) <;> simp [run_underlying ht1]
    · have hn : xs.length = n := by
       rcases ho with ⟨e1,e2⟩ | ⟨g,cap,cur,e1,_⟩
       · injection e1 with _ e1 _;omega
       · injection e1 with _ e1 _;omega
      rw [Nat.sub_self,List.replicate_zero,List.append_nil,List.take_of_length_le (by omega)]
      exact hw.perm hp.perm
  · rcases ho with ⟨e1,e2⟩ | ⟨g,cap,cur,e1,_,hb,g2,g3,g4,g5⟩
    · injection e1 with _ e1 _;omega
    · injection e1 with e1 e2 e3
      subst e1 e2 e3
      rw [Nat.mul_one] at g4 g5 hl
      rw [if_neg (show ¬ cp=m by omega)]
      have hb':w.heap[g]?=some (.cells cur.toList.toArray e (0,0)):=by simpa using hb
      have hcl:cur.toList.length=cp:=by simpa using g4
      have had:(⟨g,0,none⟩:Addr).add (m * 1)=⟨g,m,none⟩:=by rw [add_at];simp
      have hrun := run_storeCells_cells (P := c.P) g m (List.replicate (xs.length - m) (enc u)) 0 w (fun j hj => by
       rw [List.length_replicate] at hj
       rw [cell_of hb',List.getElem?_eq_getElem (by omega)];rfl) (fun j hj=>frozen_of hb) (fun v hv=>by rw [(List.mem_replicate.1 hv).2];exact h1 _)
      refine ⟨w.setCells g m (List.replicate (xs.length-m) (enc u)),?_,?_⟩
      · have h3:∃ k,xs.length-m=k+1:=⟨xs.length-m-1,by omega⟩
        obtain ⟨k,hk⟩:=h3
        rw [hk] at hrun
        have had':(⟨g,0,none⟩:Addr).add m=⟨g,m,none⟩:=by rw [add_at];simp
        simp [Builtin.clear_,run_underlying ht1,had',hk,zeroValue,typeInfo,hi,hz0,hz,zeroCells_rep,hrun]
      · have hL:(xs.take m++List.replicate (xs.length-m) u).length=xs.length:=by rw [List.length_append,List.length_take,List.length_replicate];omega
        refine hw.upd' hp ((setCells_chg _ _ _).mono (fun k hk=>by subst hk;rfl)) ⟨(xs.take m++List.replicate (xs.length-m) u).map enc,⟨by rw [es,List.length_map,Nat.mul_one],.inr ⟨g,cp,_,by rw [hL],Nat.zero_le _,setCells_heap _ m w _ hb',by rw [hL];omega,g3,?_,?_⟩⟩,Cat.scal.2 rfl⟩ (fun k hk=>.inl hk)
        · rw [setL_eq _ _ _ (by rw [List.length_replicate];omega)];simp [es];omega
        · rw [es,Nat.mul_one,hL]
          show (setL cur.toList m (List.replicate (xs.length-m) (enc u))).take xs.length=_
          rw [setL_eq _ _ _ (by rw [List.length_replicate];omega),List.map_append,List.map_replicate,List.map_take,← hcs,← g5,List.take_take,Nat.min_eq_left hm]
          rw [List.take_append_of_le_length (by rw [List.length_append,List.length_take,List.length_replicate];omega),List.take_of_length_le (by rw [List.length_append,List.length_take,List.length_replicate];omega)]
 obtain ⟨w',hrun,hS'⟩:=key
 simp only [Nat.mul_one] at hrun hx
 exact M.eff _ _ _ _ (.tuple #[]) w' rfl rfl (by simp [execOp,resolve,invoke,builtin,ha.fit.op hx,hrun]) (h _ _ ha hS')
set_option maxRecDepth 100000 in
theorem oAppZ {α:Type}{kd:Kd α}{W:World}{e:TypeId}{zv zc:Value}{by_ n:Nat}{k:IntKind}(u:α) (hx:E.op x=some (.slice none 0 0)) (hy:E.op y=some (.int .i64 (n:Int))) (h0:0<n) (ht:elemI c.P t=some (e,zv,1,by_)) (hk:c.P.underlying t'=some (.int k)) (hsz:kd.sz=1) (hzc:zv.cells=#[zc]) (hK:kd.K W u [zc]) (hl:n≤1000000000) (hby:Nat.ble by_ 140000=true)
 (h:∀ g cp,O M.toMd rest ((d,.slice (some ⟨g,0,none⟩) n cp) :: E) D (row kd W e (.slice (some ⟨g,0,none⟩) n cp) (List.replicate n u) :: H)) (hN:Nat.blt d c.N=true:=by rfl) :
 O M.toMd (⟨some d,.call { callee:=.builtin .append,args:=#[x,y],argTypes:=#[t,t'] },ty,pos,af,none⟩ :: rest) E D H:=
 oEff rfl hN fun a w ha hw=>by
  obtain ⟨ht1,i0,hi,hz0,hz1,hz2,hzs,hsp⟩:=elemI_spec ht
  have hb2:by_≤140000:=Nat.le_of_ble_eq_true hby
  have hlb:n * i0.bytes≤140737488355328:=by
   rw [hz2]
   exact Nat.le_trans (Nat.mul_le_mul hl hb2) (by decide)
  have hml:maxLen=9223372036854775807:=rfl
  have hn0:n≠0:=by omega
  have hw64:IntKind.i64.wrap (n:Int)=(n:Int):=wrap_in ⟨by omega,by omega⟩
  have h48:¬ (281474976710656<(n:Int) * (i0.bytes:Int)):=by
   rw [← Int.natCast_mul];omega
  have h48':¬ (281474976710656<Builtin.nextslicecap n 0 * i0.bytes):=by rw [nextslicecap_zero h0];omega
  have h63':¬ (9223372036854775807<(n:Int)):=by omega
  have hneg:¬ ((n:Int)<0):=by omega
  have hrun:(Builtin.append_ #[t,t'] ty #[.slice none 0 0,.int .i64 (n:Int)]).run c.P w=.ok (.slice (some ⟨w.heap.size,0,none⟩) n (grownCap w n 0 e)) (w.drew.alloc (.cells (Builtin.zeroCells zv.cells n++Builtin.zeroCells zv.cells (grownCap w n 0 e-n)) e)):=by
   simp [Builtin.append_,run_underlying ht1,run_underlying hk,sizeOf,typeInfo,zeroValue,hi,hz0,hz1,asInt,asIntOf,hw64,hneg,h48,hn0,h63',h48',Question.forced,run_firstCells_none,newRow,grownCap]
  obtain ⟨hc1,hc2⟩:n≤grownCap w n 0 e∧grownCap w n 0 e≤maxLen:=⟨grownCap_ge _ _ _ _,grownCap_le_maxLen _ _ _ _ (by omega)⟩
  refine ⟨_,w.drew.alloc (.cells (Builtin.zeroCells zv.cells n++Builtin.zeroCells zv.cells (grownCap w n 0 e-n)) e),_,?_,?_,h w.heap.size (grownCap w n 0 e)⟩
  · simp [execOp,resolve,invoke,builtin,ha.op hx,ha.op hy,hrun]
  · have hzl:∀ m,(Builtin.zeroCells zv.cells m).toList=List.replicate m zc:=fun m=>by rw [hzc];exact zeroCells_rep zc m
    have hzs2:∀ m,(Builtin.zeroCells zv.cells m).size=m:=fun m=>by rw [← Array.length_toList,hzl,List.length_replicate]
    refine hw.drew.add (Chg.alloc _ _ _) ⟨List.replicate n zc,⟨by rw [List.length_replicate,List.length_replicate,hsz,Nat.mul_one],.inr ⟨w.heap.size,grownCap w n 0 e,_,by rw [List.length_replicate],Nat.zero_le _,World.alloc_heap_new w.drew _,by rw [List.length_replicate];exact hc1,hc2,by rw [hsz,Nat.mul_one,Array.size_append,hzs2,hzs2];omega,?_⟩⟩,Cat.reps hK n⟩ ?_
    · rw [hsz,Nat.mul_one,List.length_replicate,Array.toList_append,hzl,hzl,List.take_append_of_le_length (by rw [List.length_replicate];exact Nat.le_refl _),List.take_of_length_le (by rw [List.length_replicate];exact Nat.le_refl _)]
    · intro k hk
      have hk:some w.heap.size=some k:=hk
      injection hk with hk
      show w.drew.heap.size≤k
      rw [← hk];exact Nat.le_refl _
end
end Go.Proofs.YtogaiijhicfoaaaGreatK
namespace Go.Proofs.YtogaiijhicfoaaaGreatK
open Go.RowKit
def Z7:=@oStepEnd
def ZA:=@AllN.cons
def ZB:=@AllN.nil
def ZM:=@anMk
end Go.Proofs.YtogaiijhicfoaaaGreatK
namespace Go.Proofs.YtogaiijhicfoaaaGreatT
open Go.RowKit Go.Proofs.YtogaiijhicfoaaaGreatK Go.ChangeShapes Go.WideShapes
structure ApiLine where
  fAt:Int
  fLine:Int
instance:Inhabited ApiLine:=⟨⟨0,0⟩⟩
def kApiLine:Kd ApiLine:=Kd.iso (Kd.pair (Kd.int .i64) (Kd.int .i64)) (fun x=>(x.fAt,x.fLine))
theorem kApiLine_open {w:World}{x:ApiLine}{cs:List Value}(h:kApiLine.K w x cs):cs=[.int .i64 x.fAt,.int .i64 x.fLine]:=by
 obtain ⟨_,_,rfl,rfl,rfl⟩:=h
 exact rfl
def vApiLine (x:ApiLine):Prop:=in64 x.fAt∧in64 x.fLine
set_option maxRecDepth 100000 in
theorem opApiLine:Opens Tryz.prog 268 kApiLine vApiLine:=Opens.weak (opens_struct (fun p=>(⟨p.1,p.2⟩:ApiLine)) (fun _=>rfl) Tryz.underlying268 (opensF_cons (opens_i64 rfl) rfl (opensF_one (opens_i64 rfl) rfl rfl))) (fun _ h=>h)
structure ApiInstr where
  fOp:Int
  fA:Int
  fB:Int
  fC:Int
  fN:Int
instance:Inhabited ApiInstr:=⟨⟨0,0,0,0,0⟩⟩
def kApiInstr:Kd ApiInstr:=Kd.iso (Kd.pair (Kd.int .i64) (Kd.pair (Kd.int .i64) (Kd.pair (Kd.int .i64) (Kd.pair (Kd.int .i64) (Kd.int .i64))))) (fun x=>(x.fOp,x.fA,x.fB,x.fC,x.fN))
theorem kApiInstr_open {w:World}{x:ApiInstr}{cs:List Value}(h:kApiInstr.K w x cs):cs=[.int .i64 x.fOp,.int .i64 x.fA,.int .i64 x.fB,.int .i64 x.fC,.int .i64 x.fN]:=by
 obtain ⟨_,_,rfl,rfl,⟨_,_,rfl,rfl,⟨_,_,rfl,rfl,⟨_,_,rfl,rfl,rfl⟩⟩⟩⟩:=h
 exact rfl
theorem kApiInstr_mk (w:World) (x:ApiInstr):kApiInstr.K w x [.int .i64 x.fOp,.int .i64 x.fA,.int .i64 x.fB,.int .i64 x.fC,.int .i64 x.fN]:=⟨_,_,rfl,rfl,⟨_,_,rfl,rfl,⟨_,_,rfl,rfl,⟨_,_,rfl,rfl,rfl⟩⟩⟩⟩
def vApiInstr (x:ApiInstr):Prop:=in64 x.fOp∧in64 x.fA∧in64 x.fB∧in64 x.fC∧in64 x.fN
set_option maxRecDepth 100000 in
theorem opApiInstr:Opens Tryz.prog 51 kApiInstr vApiInstr:=Opens.weak (opens_struct (fun p=>(⟨p.1,p.2.1,p.2.2.1,p.2.2.2.1,p.2.2.2.2⟩:ApiInstr)) (fun _=>rfl) Tryz.underlying51 (opensF_cons (opens_i64 rfl) rfl (opensF_cons (opens_i64 rfl) rfl (opensF_cons (opens_i64 rfl) rfl (opensF_cons (opens_i64 rfl) rfl (opensF_one (opens_i64 rfl) rfl rfl)))))) (fun _ h=>h)
structure ApiReloc where
  fAt:Int
  fSym:Int
  fWide:Bool
instance:Inhabited ApiReloc:=⟨⟨0,0,false⟩⟩
def kApiReloc:Kd ApiReloc:=Kd.iso (Kd.pair (Kd.int .i64) (Kd.pair (Kd.int .i64) Kd.bool)) (fun x=>(x.fAt,x.fSym,x.fWide))
theorem kApiReloc_open {w:World}{x:ApiReloc}{cs:List Value}(h:kApiReloc.K w x cs):cs=[.int .i64 x.fAt,.int .i64 x.fSym,.bool x.fWide]:=by
 obtain ⟨_,_,rfl,rfl,⟨_,_,rfl,rfl,rfl⟩⟩:=h
 exact rfl
theorem kApiReloc_mk (w:World) (x:ApiReloc):kApiReloc.K w x [.int .i64 x.fAt,.int .i64 x.fSym,.bool x.fWide]:=⟨_,_,rfl,rfl,⟨_,_,rfl,rfl,rfl⟩⟩
def vApiReloc (x:ApiReloc):Prop:=in64 x.fAt∧in64 x.fSym∧True
set_option maxRecDepth 100000 in
theorem opApiReloc:Opens Tryz.prog 147 kApiReloc vApiReloc:=Opens.weak (opens_struct (fun p=>(⟨p.1,p.2.1,p.2.2⟩:ApiReloc)) (fun _=>rfl) Tryz.underlying147 (opensF_cons (opens_i64 rfl) rfl (opensF_cons (opens_i64 rfl) rfl (opensF_one (opens_bool rfl) rfl rfl)))) (fun _ h=>h)
structure ApiFunc where
  fClass:Int
  fKinds:List Int
  fPad:Int
  fNosplit:Bool
  fFrom:Int
  fTo:Int
  fLines:List ApiLine
  fCode:List ApiInstr
  fRelocs:List ApiReloc
instance:Inhabited ApiFunc:=⟨⟨0,[],0,false,0,0,[],[],[]⟩⟩
def kApiFunc:Kd ApiFunc:=Kd.iso (Kd.pair (Kd.int .i64) (Kd.pair (Kd.slice (Kd.int .i64)) (Kd.pair (Kd.int .i64) (Kd.pair Kd.bool (Kd.pair (Kd.int .i64) (Kd.pair (Kd.int .i64) (Kd.pair (Kd.slice kApiLine) (Kd.pair (Kd.slice kApiInstr) (Kd.slice kApiReloc))))))))) (fun x=>(x.fClass,x.fKinds,x.fPad,x.fNosplit,x.fFrom,x.fTo,x.fLines,x.fCode,x.fRelocs))
theorem kApiFunc_open {w:World}{x:ApiFunc}{cs:List Value}(h:kApiFunc.K w x cs):∃ A0 c0 A1 c1 A2 c2 A3 c3,cs=[.int .i64 x.fClass,.slice A0 x.fKinds.length c0,.int .i64 x.fPad,.bool x.fNosplit,.int .i64 x.fFrom,.int .i64 x.fTo,.slice A1 x.fLines.length c1,.slice A2 x.fCode.length c2,.slice A3 x.fRelocs.length c3]∧x.fKinds.length≤c0∧(Kd.int .i64).C w A0 x.fKinds∧x.fLines.length≤c1∧kApiLine.C w A1 x.fLines∧x.fCode.length≤c2∧kApiInstr.C w A2 x.fCode∧x.fRelocs.length≤c3∧kApiReloc.C w A3 x.fRelocs:=by
 obtain ⟨_,_,rfl,rfl,⟨_,_,rfl,⟨A0,c0,rfl,l0,g0⟩,⟨_,_,rfl,rfl,⟨_,_,rfl,rfl,⟨_,_,rfl,rfl,⟨_,_,rfl,rfl,⟨_,_,rfl,⟨A1,c1,rfl,l1,g1⟩,⟨_,_,rfl,⟨A2,c2,rfl,l2,g2⟩,⟨A3,c3,rfl,l3,g3⟩⟩⟩⟩⟩⟩⟩⟩⟩:=h
 exact ⟨A0,c0,A1,c1,A2,c2,A3,c3,rfl,l0,g0,l1,g1,l2,g2,l3,g3⟩
theorem kApiFunc_mk (w:World) (x:ApiFunc) {A0 A1 A2 A3:Option Addr}{c0 c1 c2 c3:Nat}(l0:x.fKinds.length≤c0) (g0:(Kd.int .i64).C w A0 x.fKinds) (l1:x.fLines.length≤c1) (g1:kApiLine.C w A1 x.fLines) (l2:x.fCode.length≤c2) (g2:kApiInstr.C w A2 x.fCode) (l3:x.fRelocs.length≤c3) (g3:kApiReloc.C w A3 x.fRelocs):kApiFunc.K w x [.int .i64 x.fClass,.slice A0 x.fKinds.length c0,.int .i64 x.fPad,.bool x.fNosplit,.int .i64 x.fFrom,.int .i64 x.fTo,.slice A1 x.fLines.length c1,.slice A2 x.fCode.length c2,.slice A3 x.fRelocs.length c3]:=⟨_,_,rfl,rfl,⟨_,_,rfl,⟨A0,c0,rfl,l0,g0⟩,⟨_,_,rfl,rfl,⟨_,_,rfl,rfl,⟨_,_,rfl,rfl,⟨_,_,rfl,rfl,⟨_,_,rfl,⟨A1,c1,rfl,l1,g1⟩,⟨_,_,rfl,⟨A2,c2,rfl,l2,g2⟩,⟨A3,c3,rfl,l3,g3⟩⟩⟩⟩⟩⟩⟩⟩⟩
def vApiFunc (x:ApiFunc):Prop:=in64 x.fClass∧(x.fKinds.length≤maxLen∧∀ y ∈ x.fKinds,in64 y)∧in64 x.fPad∧True∧in64 x.fFrom∧in64 x.fTo∧(x.fLines.length≤maxLen∧∀ y ∈ x.fLines,vApiLine y)∧(x.fCode.length≤maxLen∧∀ y ∈ x.fCode,vApiInstr y)∧(x.fRelocs.length≤maxLen∧∀ y ∈ x.fRelocs,vApiReloc y)
set_option maxRecDepth 100000 in
theorem opApiFunc:Opens Tryz.prog 47 kApiFunc vApiFunc:=Opens.weak (opens_struct (fun p=>(⟨p.1,p.2.1,p.2.2.1,p.2.2.2.1,p.2.2.2.2.1,p.2.2.2.2.2.1,p.2.2.2.2.2.2.1,p.2.2.2.2.2.2.2.1,p.2.2.2.2.2.2.2.2⟩:ApiFunc)) (fun _=>rfl) Tryz.underlying47 (opensF_cons (opens_i64 rfl) rfl (opensF_cons (opens_slice rfl rfl (opens_i64 rfl)) rfl (opensF_cons (opens_i64 rfl) rfl (opensF_cons (opens_bool rfl) rfl (opensF_cons (opens_i64 rfl) rfl (opensF_cons (opens_i64 rfl) rfl (opensF_cons (opens_slice rfl rfl opApiLine) rfl (opensF_cons (opens_slice rfl rfl opApiInstr) rfl (opensF_one (opens_slice rfl rfl opApiReloc) rfl rfl)))))))))) (fun _ h=>h)
structure ApiFun where
  fFile:Int
  fItem:Int
  fName:ByteArray
  fF:ApiFunc
  fRefs:List Int
instance:Inhabited ApiFun:=⟨⟨0,0,ByteArray.empty,default,[]⟩⟩
def kApiFun:Kd ApiFun:=Kd.iso (Kd.pair (Kd.int .i64) (Kd.pair (Kd.int .i64) (Kd.pair Kd.string (Kd.pair kApiFunc (Kd.slice (Kd.int .i64)))))) (fun x=>(x.fFile,x.fItem,x.fName,x.fF,x.fRefs))
theorem kApiFun_open {w:World}{x:ApiFun}{cs:List Value}(h:kApiFun.K w x cs):∃ A0 c0 A1 c1 A2 c2 A3 c3 A4 c4,cs=[.int .i64 x.fFile,.int .i64 x.fItem,.string x.fName,.int .i64 x.fF.fClass,.slice A0 x.fF.fKinds.length c0,.int .i64 x.fF.fPad,.bool x.fF.fNosplit,.int .i64 x.fF.fFrom,.int .i64 x.fF.fTo,.slice A1 x.fF.fLines.length c1,.slice A2 x.fF.fCode.length c2,.slice A3 x.fF.fRelocs.length c3,.slice A4 x.fRefs.length c4]∧x.fF.fKinds.length≤c0∧(Kd.int .i64).C w A0 x.fF.fKinds∧x.fF.fLines.length≤c1∧kApiLine.C w A1 x.fF.fLines∧x.fF.fCode.length≤c2∧kApiInstr.C w A2 x.fF.fCode∧x.fF.fRelocs.length≤c3∧kApiReloc.C w A3 x.fF.fRelocs∧x.fRefs.length≤c4∧(Kd.int .i64).C w A4 x.fRefs:=by
 obtain ⟨_,_,rfl,rfl,⟨_,_,rfl,rfl,⟨_,_,rfl,rfl,⟨_,_,rfl,h3,⟨A4,c4,rfl,l4,g4⟩⟩⟩⟩⟩:=h
 obtain ⟨A0,c0,A1,c1,A2,c2,A3,c3,rfl,l0,g0,l1,g1,l2,g2,l3,g3⟩:=kApiFunc_open h3
 exact ⟨A0,c0,A1,c1,A2,c2,A3,c3,A4,c4,rfl,l0,g0,l1,g1,l2,g2,l3,g3,l4,g4⟩
theorem kApiFun_mk (w:World) (x:ApiFun) {A0 A1 A2 A3 A4:Option Addr}{c0 c1 c2 c3 c4:Nat}(l0:x.fF.fKinds.length≤c0) (g0:(Kd.int .i64).C w A0 x.fF.fKinds) (l1:x.fF.fLines.length≤c1) (g1:kApiLine.C w A1 x.fF.fLines) (l2:x.fF.fCode.length≤c2) (g2:kApiInstr.C w A2 x.fF.fCode) (l3:x.fF.fRelocs.length≤c3) (g3:kApiReloc.C w A3 x.fF.fRelocs) (l4:x.fRefs.length≤c4) (g4:(Kd.int .i64).C w A4 x.fRefs):kApiFun.K w x [.int .i64 x.fFile,.int .i64 x.fItem,.string x.fName,.int .i64 x.fF.fClass,.slice A0 x.fF.fKinds.length c0,.int .i64 x.fF.fPad,.bool x.fF.fNosplit,.int .i64 x.fF.fFrom,.int .i64 x.fF.fTo,.slice A1 x.fF.fLines.length c1,.slice A2 x.fF.fCode.length c2,.slice A3 x.fF.fRelocs.length c3,.slice A4 x.fRefs.length c4]:=⟨_,_,rfl,rfl,⟨_,_,rfl,rfl,⟨_,_,rfl,rfl,⟨_,_,rfl,⟨_,_,rfl,rfl,⟨_,_,rfl,⟨A0,c0,rfl,l0,g0⟩,⟨_,_,rfl,rfl,⟨_,_,rfl,rfl,⟨_,_,rfl,rfl,⟨_,_,rfl,rfl,⟨_,_,rfl,⟨A1,c1,rfl,l1,g1⟩,⟨_,_,rfl,⟨A2,c2,rfl,l2,g2⟩,⟨A3,c3,rfl,l3,g3⟩⟩⟩⟩⟩⟩⟩⟩⟩,⟨A4,c4,rfl,l4,g4⟩⟩⟩⟩⟩
structure ApiData where
  fKind:Int
  fWords:List Int
  fRelocs:List ApiReloc
instance:Inhabited ApiData:=⟨⟨0,[],[]⟩⟩
def kApiData:Kd ApiData:=Kd.iso (Kd.pair (Kd.int .i64) (Kd.pair (Kd.slice (Kd.int .i64)) (Kd.slice kApiReloc))) (fun x=>(x.fKind,x.fWords,x.fRelocs))
theorem kApiData_open {w:World}{x:ApiData}{cs:List Value}(h:kApiData.K w x cs):∃ A0 c0 A1 c1,cs=[.int .i64 x.fKind,.slice A0 x.fWords.length c0,.slice A1 x.fRelocs.length c1]∧x.fWords.length≤c0∧(Kd.int .i64).C w A0 x.fWords∧x.fRelocs.length≤c1∧kApiReloc.C w A1 x.fRelocs:=by
 obtain ⟨_,_,rfl,rfl,⟨_,_,rfl,⟨A0,c0,rfl,l0,g0⟩,⟨A1,c1,rfl,l1,g1⟩⟩⟩:=h
 exact ⟨A0,c0,A1,c1,rfl,l0,g0,l1,g1⟩
theorem kApiData_mk (w:World) (x:ApiData) {A0 A1:Option Addr}{c0 c1:Nat}(l0:x.fWords.length≤c0) (g0:(Kd.int .i64).C w A0 x.fWords) (l1:x.fRelocs.length≤c1) (g1:kApiReloc.C w A1 x.fRelocs):kApiData.K w x [.int .i64 x.fKind,.slice A0 x.fWords.length c0,.slice A1 x.fRelocs.length c1]:=⟨_,_,rfl,rfl,⟨_,_,rfl,⟨A0,c0,rfl,l0,g0⟩,⟨A1,c1,rfl,l1,g1⟩⟩⟩
def vApiData (x:ApiData):Prop:=in64 x.fKind∧(x.fWords.length≤maxLen∧∀ y ∈ x.fWords,in64 y)∧(x.fRelocs.length≤maxLen∧∀ y ∈ x.fRelocs,vApiReloc y)
set_option maxRecDepth 100000 in
theorem opApiData:Opens Tryz.prog 96 kApiData vApiData:=Opens.weak (opens_struct (fun p=>(⟨p.1,p.2.1,p.2.2⟩:ApiData)) (fun _=>rfl) Tryz.underlying96 (opensF_cons (opens_i64 rfl) rfl (opensF_cons (opens_slice rfl rfl (opens_i64 rfl)) rfl (opensF_one (opens_slice rfl rfl opApiReloc) rfl rfl)))) (fun _ h=>h)
structure ApiDat where
  fFile:Int
  fItem:Int
  fName:ByteArray
  fD:ApiData
  fRefs:List Int
instance:Inhabited ApiDat:=⟨⟨0,0,ByteArray.empty,default,[]⟩⟩
def kApiDat:Kd ApiDat:=Kd.iso (Kd.pair (Kd.int .i64) (Kd.pair (Kd.int .i64) (Kd.pair Kd.string (Kd.pair kApiData (Kd.slice (Kd.int .i64)))))) (fun x=>(x.fFile,x.fItem,x.fName,x.fD,x.fRefs))
theorem kApiDat_open {w:World}{x:ApiDat}{cs:List Value}(h:kApiDat.K w x cs):∃ A0 c0 A1 c1 A2 c2,cs=[.int .i64 x.fFile,.int .i64 x.fItem,.string x.fName,.int .i64 x.fD.fKind,.slice A0 x.fD.fWords.length c0,.slice A1 x.fD.fRelocs.length c1,.slice A2 x.fRefs.length c2]∧x.fD.fWords.length≤c0∧(Kd.int .i64).C w A0 x.fD.fWords∧x.fD.fRelocs.length≤c1∧kApiReloc.C w A1 x.fD.fRelocs∧x.fRefs.length≤c2∧(Kd.int .i64).C w A2 x.fRefs:=by
 obtain ⟨_,_,rfl,rfl,⟨_,_,rfl,rfl,⟨_,_,rfl,rfl,⟨_,_,rfl,h3,⟨A2,c2,rfl,l2,g2⟩⟩⟩⟩⟩:=h
 obtain ⟨A0,c0,A1,c1,rfl,l0,g0,l1,g1⟩:=kApiData_open h3
 exact ⟨A0,c0,A1,c1,A2,c2,rfl,l0,g0,l1,g1,l2,g2⟩
structure ApiProgram where
  fFuns:List ApiFun
  fDats:List ApiDat
  fEntry:Int
instance:Inhabited ApiProgram:=⟨⟨[],[],0⟩⟩
def kApiProgram:Kd ApiProgram:=Kd.iso (Kd.pair (Kd.slice kApiFun) (Kd.pair (Kd.slice kApiDat) (Kd.int .i64))) (fun x=>(x.fFuns,x.fDats,x.fEntry))
theorem kApiProgram_open {w:World}{x:ApiProgram}{cs:List Value}(h:kApiProgram.K w x cs):∃ A0 c0 A1 c1,cs=[.slice A0 x.fFuns.length c0,.slice A1 x.fDats.length c1,.int .i64 x.fEntry]∧x.fFuns.length≤c0∧kApiFun.C w A0 x.fFuns∧x.fDats.length≤c1∧kApiDat.C w A1 x.fDats:=by
 obtain ⟨_,_,rfl,⟨A0,c0,rfl,l0,g0⟩,⟨_,_,rfl,⟨A1,c1,rfl,l1,g1⟩,rfl⟩⟩:=h
 exact ⟨A0,c0,A1,c1,rfl,l0,g0,l1,g1⟩
theorem kApiProgram_mk (w:World) (x:ApiProgram) {A0 A1:Option Addr}{c0 c1:Nat}(l0:x.fFuns.length≤c0) (g0:kApiFun.C w A0 x.fFuns) (l1:x.fDats.length≤c1) (g1:kApiDat.C w A1 x.fDats):kApiProgram.K w x [.slice A0 x.fFuns.length c0,.slice A1 x.fDats.length c1,.int .i64 x.fEntry]:=⟨_,_,rfl,⟨A0,c0,rfl,l0,g0⟩,⟨_,_,rfl,⟨A1,c1,rfl,l1,g1⟩,rfl⟩⟩
structure ApiSymbol where
  fName:ByteArray
  fLocal:Bool
  fSort:Int
  fKind:Int
  fDef:Int
instance:Inhabited ApiSymbol:=⟨⟨ByteArray.empty,false,0,0,0⟩⟩
def kApiSymbol:Kd ApiSymbol:=Kd.iso (Kd.pair Kd.string (Kd.pair Kd.bool (Kd.pair (Kd.int .i64) (Kd.pair (Kd.int .i64) (Kd.int .i64))))) (fun x=>(x.fName,x.fLocal,x.fSort,x.fKind,x.fDef))
theorem kApiSymbol_open {w:World}{x:ApiSymbol}{cs:List Value}(h:kApiSymbol.K w x cs):cs=[.string x.fName,.bool x.fLocal,.int .i64 x.fSort,.int .i64 x.fKind,.int .i64 x.fDef]:=by
 obtain ⟨_,_,rfl,rfl,⟨_,_,rfl,rfl,⟨_,_,rfl,rfl,⟨_,_,rfl,rfl,rfl⟩⟩⟩⟩:=h
 exact rfl
theorem kApiSymbol_mk (w:World) (x:ApiSymbol):kApiSymbol.K w x [.string x.fName,.bool x.fLocal,.int .i64 x.fSort,.int .i64 x.fKind,.int .i64 x.fDef]:=⟨_,_,rfl,rfl,⟨_,_,rfl,rfl,⟨_,_,rfl,rfl,⟨_,_,rfl,rfl,rfl⟩⟩⟩⟩
def vApiSymbol (x:ApiSymbol):Prop:=x.fName.size≤maxLen∧True∧in64 x.fSort∧in64 x.fKind∧in64 x.fDef
set_option maxRecDepth 100000 in
theorem opApiSymbol:Opens Tryz.prog 91 kApiSymbol vApiSymbol:=Opens.weak (opens_struct (fun p=>(⟨p.1,p.2.1,p.2.2.1,p.2.2.2.1,p.2.2.2.2⟩:ApiSymbol)) (fun _=>rfl) Tryz.underlying91 (opensF_cons (opens_string rfl) rfl (opensF_cons (opens_bool rfl) rfl (opensF_cons (opens_i64 rfl) rfl (opensF_cons (opens_i64 rfl) rfl (opensF_one (opens_i64 rfl) rfl rfl)))))) (fun _ h=>h)
structure ApiObject where
  fSymbols:List ApiSymbol
  fFuncs:List ApiFunc
  fDatas:List ApiData
instance:Inhabited ApiObject:=⟨⟨[],[],[]⟩⟩
def kApiObject:Kd ApiObject:=Kd.iso (Kd.pair (Kd.slice kApiSymbol) (Kd.pair (Kd.slice kApiFunc) (Kd.slice kApiData))) (fun x=>(x.fSymbols,x.fFuncs,x.fDatas))
theorem kApiObject_open {w:World}{x:ApiObject}{cs:List Value}(h:kApiObject.K w x cs):∃ A0 c0 A1 c1 A2 c2,cs=[.slice A0 x.fSymbols.length c0,.slice A1 x.fFuncs.length c1,.slice A2 x.fDatas.length c2]∧x.fSymbols.length≤c0∧kApiSymbol.C w A0 x.fSymbols∧x.fFuncs.length≤c1∧kApiFunc.C w A1 x.fFuncs∧x.fDatas.length≤c2∧kApiData.C w A2 x.fDatas:=by
 obtain ⟨_,_,rfl,⟨A0,c0,rfl,l0,g0⟩,⟨_,_,rfl,⟨A1,c1,rfl,l1,g1⟩,⟨A2,c2,rfl,l2,g2⟩⟩⟩:=h
 exact ⟨A0,c0,A1,c1,A2,c2,rfl,l0,g0,l1,g1,l2,g2⟩
theorem kApiObject_mk (w:World) (x:ApiObject) {A0 A1 A2:Option Addr}{c0 c1 c2:Nat}(l0:x.fSymbols.length≤c0) (g0:kApiSymbol.C w A0 x.fSymbols) (l1:x.fFuncs.length≤c1) (g1:kApiFunc.C w A1 x.fFuncs) (l2:x.fDatas.length≤c2) (g2:kApiData.C w A2 x.fDatas):kApiObject.K w x [.slice A0 x.fSymbols.length c0,.slice A1 x.fFuncs.length c1,.slice A2 x.fDatas.length c2]:=⟨_,_,rfl,⟨A0,c0,rfl,l0,g0⟩,⟨_,_,rfl,⟨A1,c1,rfl,l1,g1⟩,⟨A2,c2,rfl,l2,g2⟩⟩⟩
def vApiObject (x:ApiObject):Prop:=(x.fSymbols.length≤maxLen∧∀ y ∈ x.fSymbols,vApiSymbol y)∧(x.fFuncs.length≤maxLen∧∀ y ∈ x.fFuncs,vApiFunc y)∧(x.fDatas.length≤maxLen∧∀ y ∈ x.fDatas,vApiData y)
set_option maxRecDepth 100000 in
theorem opApiObject:Opens Tryz.prog 79 kApiObject vApiObject:=Opens.weak (opens_struct (fun p=>(⟨p.1,p.2.1,p.2.2⟩:ApiObject)) (fun _=>rfl) Tryz.underlying79 (opensF_cons (opens_slice rfl rfl opApiSymbol) rfl (opensF_cons (opens_slice rfl rfl opApiFunc) rfl (opensF_one (opens_slice rfl rfl opApiData) rfl rfl)))) (fun _ h=>h)
end Go.Proofs.YtogaiijhicfoaaaGreatT
namespace Go.Proofs.YtogaiijhicfoaaaGreatK
open Go.RowKit Go.Proofs.YtogaiijhicfoaaaGreatT
abbrev tT:=true
abbrev fF:=false
noncomputable abbrev CW:=CallsIn Fence.wide 0 Tryz.prog
theorem gPg {w w':World}{x:ApiProgram}{cs:List Value}(hB:Grow w w') (h:kApiProgram.K w x cs):kApiProgram.K w' x cs:=kApiProgram.K_grow hB h
abbrev pcL (p:ApiProgram) (A0:Option Addr) (c0:Nat) (A1:Option Addr) (c1:Nat):List Value:=[.slice A0 p.fFuns.length c0,.slice A1 p.fDats.length c1,.int .i64 p.fEntry]
abbrev pcA (p:ApiProgram) (A0:Option Addr) (c0:Nat) (A1:Option Addr) (c1:Nat):Array Value:=#[.slice A0 p.fFuns.length c0,.slice A1 p.fDats.length c1,.int .i64 p.fEntry]
end Go.Proofs.YtogaiijhicfoaaaGreatK
namespace Go.Proofs.YtogaiijhicfoaaaGreatL
set_option maxRecDepth 100000
open Go.Shelf Go.Proofs
def laysn189_ren:Go.Shelf.Ren:=⟨fun | 125=>193 | 128=>230 | 129=>231 | 189=>144 | 215=>269 | 216=>227 | 257=>192 | 294=>221 | 295=>222 | 296=>223 | 297=>224 | 298=>225 | 299=>226 | 300=>228 | 301=>229 | 328=>264 | 329=>265 | 330=>266 | 331=>267 | 332=>268 | 343=>299 | n=>n,fun | 0=>0 | 1=>1 | 2=>2 | 3=>3 | 4=>4 | 5=>5 | 6=>6 | 7=>7 | 8=>8 | 9=>9 | 10=>10 | 11=>11 | 12=>12 | 13=>13 | 14=>14 | 15=>15 | 16=>16 | 17=>17 | 18=>18 | 19=>19 | 20=>20 | 21=>21 | 28=>42 | 29=>160 | 30=>202 | 31=>243 | 34=>60 | 35=>159 | 37=>252 | 43=>172 | 46=>201 | 47=>200 | 51=>239 | 52=>238 | 53=>241 | 54=>240 | 73=>264 | 80=>294 | 81=>185 | 83=>196 | 111=>124 | 112=>129 | 114=>161 | 127=>303 | 131=>226 | 132=>227 | 134=>199 | 164=>308 | 181=>231 | 182=>232 | 183=>233 | 184=>234 | 185=>235 | 186=>236 | 187=>237 | 218=>257 | 219=>258 | 220=>259 | 221=>260 | 222=>261 | 223=>262 | 228=>280 | 229=>281 | 230=>282 | 238=>295 | 239=>296 | 240=>297 | 241=>298 | 242=>299 | 243=>300 | 244=>301 | 245=>302 | 246=>304 | 247=>305 | 248=>306 | 249=>307 | n=>n,fun n=>n⟩
theorem laysn189_at:Go.Proofs.Lays.n189 Tryz.prog laysn189_ren:={
 mixed:=by kernel_rfl
 f125:=Tryz.func193.trans (congrArg some (by kernel_rfl))
 f128:=Tryz.func230.trans (congrArg some (by kernel_rfl))
 f129:=Tryz.func231.trans (congrArg some (by kernel_rfl))
 f189:=Tryz.func144.trans (congrArg some (by kernel_rfl))
 f215:=Tryz.func269.trans (congrArg some (by kernel_rfl))
 f216:=Tryz.func227.trans (congrArg some (by kernel_rfl))
 f257:=Tryz.func192.trans (congrArg some (by kernel_rfl))
 f294:=Tryz.func221.trans (congrArg some (by kernel_rfl))
 f295:=Tryz.func222.trans (congrArg some (by kernel_rfl))
 f296:=Tryz.func223.trans (congrArg some (by kernel_rfl))
 f297:=Tryz.func224.trans (congrArg some (by kernel_rfl))
 f298:=Tryz.func225.trans (congrArg some (by kernel_rfl))
 f299:=Tryz.func226.trans (congrArg some (by kernel_rfl))
 f300:=Tryz.func228.trans (congrArg some (by kernel_rfl))
 f301:=Tryz.func229.trans (congrArg some (by kernel_rfl))
 f328:=Tryz.func264.trans (congrArg some (by kernel_rfl))
 f329:=Tryz.func265.trans (congrArg some (by kernel_rfl))
 f330:=Tryz.func266.trans (congrArg some (by kernel_rfl))
 f331:=Tryz.func267.trans (congrArg some (by kernel_rfl))
 f332:=Tryz.func268.trans (congrArg some (by kernel_rfl))
 f343:=Tryz.func299.trans (congrArg some (by kernel_rfl))
 t0:=Tryz.underlying0
 a0:=Tryz.isAgg0
 z0:=Tryz.sizeOf0
 v0:=Tryz.zeroValue0
 t3:=Tryz.underlying3
 a3:=Tryz.isAgg3
 z3:=Tryz.sizeOf3
 v3:=Tryz.zeroValue3
 t4:=Tryz.underlying4
 a4:=Tryz.isAgg4
 z4:=Tryz.sizeOf4
 v4:=Tryz.zeroValue4
 t5:=Tryz.underlying5
 a5:=Tryz.isAgg5
 z5:=Tryz.sizeOf5
 v5:=Tryz.zeroValue5
 t9:=Tryz.underlying9
 a9:=Tryz.isAgg9
 z9:=Tryz.sizeOf9
 v9:=Tryz.zeroValue9
 t28:=Tryz.underlying42
 a28:=Tryz.isAgg42
 z28:=Tryz.sizeOf42
 v28:=Tryz.zeroValue42
 t46:=Tryz.underlying201
 a46:=Tryz.isAgg201
 z46:=Tryz.sizeOf201
 v46:=Tryz.zeroValue201
 t51:=Tryz.underlying239
 a51:=Tryz.isAgg239
 z51:=Tryz.sizeOf239
 v51:=Tryz.zeroValue239
 t53:=Tryz.underlying241
 a53:=Tryz.isAgg241
 z53:=Tryz.sizeOf241
 v53:=Tryz.zeroValue241
 t131:=Tryz.underlying226
 a131:=Tryz.isAgg226
 z131:=Tryz.sizeOf226
 v131:=Tryz.zeroValue226
 t182:=Tryz.underlying232
 a182:=Tryz.isAgg232
 z182:=Tryz.sizeOf232
 v182:=Tryz.zeroValue232
 t183:=Tryz.underlying233
 a183:=Tryz.isAgg233
 z183:=Tryz.sizeOf233
 v183:=Tryz.zeroValue233
 t218:=Tryz.underlying257
 a218:=Tryz.isAgg257
 z218:=Tryz.sizeOf257
 v218:=Tryz.zeroValue257
 t222:=Tryz.underlying261
 a222:=Tryz.isAgg261
 z222:=Tryz.sizeOf261
 v222:=Tryz.zeroValue261
 t228:=Tryz.underlying280
 a228:=Tryz.isAgg280
 z228:=Tryz.sizeOf280
 v228:=Tryz.zeroValue280
 t229:=Tryz.underlying281
 a229:=Tryz.isAgg281
 z229:=Tryz.sizeOf281
 v229:=Tryz.zeroValue281 }
def lays2n20_ren:Go.Shelf.Ren:=⟨fun | 20=>145 | n=>n,fun | 0=>0 | 1=>1 | 2=>2 | 3=>3 | 4=>4 | 5=>5 | 6=>6 | 7=>7 | 8=>8 | 9=>9 | 10=>10 | 11=>11 | 12=>12 | 13=>13 | 14=>14 | 15=>15 | 16=>16 | 17=>17 | 18=>18 | 19=>19 | 20=>20 | 21=>21 | 22=>42 | 23=>158 | 24=>243 | 33=>226 | 36=>60 | 40=>201 | 41=>129 | 42=>124 | 45=>159 | 46=>294 | 47=>295 | 48=>296 | 49=>297 | 50=>298 | 51=>299 | 52=>185 | 53=>239 | 54=>300 | 55=>301 | 56=>302 | 57=>303 | 58=>304 | 59=>305 | 60=>306 | 61=>307 | 62=>308 | n=>n,fun n=>n⟩
theorem lays2n20_at:Go.Proofs.Lays2.n20 Tryz.prog lays2n20_ren:={
 mixed:=by kernel_rfl
 f20:=Tryz.func145.trans (congrArg some (by kernel_rfl))
 t0:=Tryz.underlying0
 a0:=Tryz.isAgg0
 z0:=Tryz.sizeOf0
 v0:=Tryz.zeroValue0
 t3:=Tryz.underlying3
 a3:=Tryz.isAgg3
 z3:=Tryz.sizeOf3
 v3:=Tryz.zeroValue3
 t4:=Tryz.underlying4
 a4:=Tryz.isAgg4
 z4:=Tryz.sizeOf4
 v4:=Tryz.zeroValue4
 t22:=Tryz.underlying42
 a22:=Tryz.isAgg42
 z22:=Tryz.sizeOf42
 v22:=Tryz.zeroValue42
 i3:=by kernel_rfl }
end Go.Proofs.YtogaiijhicfoaaaGreatL
namespace Go.Proofs.YtogaiijhicfoaaaGreatV
set_option maxRecDepth 100000
set_option maxHeartbeats 4000000
open Go.RowKit Go.Proofs.YtogaiijhicfoaaaGreatK Go.Proofs.YtogaiijhicfoaaaGreatT Go.Proofs.YtogaiijhicfoaaaGreatL

def isC (c:Int):Bool:=decide (0≤c) && decide (c<8)
def parF (c:Int):Int:=if isC c then c / 2 else 0
def ansF (c:Int):Bool:=isC c && decide (c % 2=1)
def latF (c:Int):Bool:=isC c && !ansF c && decide (parF c≤1)
theorem isC_iff {c:Int} : isC c=true↔0≤c∧c<8:=by simp [isC]
theorem parF_in (c:Int):0≤parF c∧parF c≤3:=by
 unfold parF
 split
 · next h=>have:=isC_iff.1 h;omega
 · omega
def textsL:List ByteArray:=[⟨#[110]⟩,⟨#[102,48]⟩,⟨#[102,48,114]⟩,⟨#[102,49]⟩,⟨#[102,49,114]⟩,⟨#[102,50]⟩,⟨#[102,50,114]⟩,⟨#[102,51]⟩,⟨#[102,51,114]⟩]
def textF (k:Int):ByteArray:=if 0≤k∧k<9 then textsL.getD k.toNat ByteArray.empty else ByteArray.empty
theorem textF_no {k:Int} : textF k=ByteArray.empty↔¬ (0≤k∧k<9):=by
 unfold textF
 by_cases h:0≤k∧k<9
 · rw [if_pos h]
   obtain ⟨n,rfl⟩:=Int.eq_ofNat_of_zero_le h.1
   have:∀ n,n<9→textsL.getD n ByteArray.empty≠ByteArray.empty:=by decide
   rw [Int.toNat_natCast]
   constructor
   · intro e;exact absurd e (this n ZO)
   · intro e;exact absurd h e
 · rw [if_neg h];simp [h]
def ownF (o:Int):Bool:=decide (1≤o) && decide (o≤24)
theorem ownF_iff {o:Int} : ownF o=true↔1≤o∧o≤24:=by simp [ownF]
def needF (o:Int):Int:=if o=19 then 1 else if o=17 then 2 else if o=15∨o=16 then 3 else if o=18 then 4 else if o=21 then 5 else 0
def endsF (o:Int):Bool:=decide (o=11∨o=22∨o=24)
def shapesL:List ByteArray:=[⟨#[45,45,45,45]⟩,⟨#[119,45,45,110]⟩,⟨#[119,114,45,45]⟩,⟨#[119,114,114,45]⟩,⟨#[119,114,114,45]⟩,⟨#[119,114,114,45]⟩,⟨#[119,114,114,45]⟩,⟨#[119,114,114,45]⟩,⟨#[119,114,114,45]⟩,⟨#[119,114,114,45]⟩,⟨#[45,45,45,116]⟩,⟨#[114,45,45,116]⟩,⟨#[119,45,45,45]⟩,⟨#[114,45,45,45]⟩,⟨#[119,114,45,45]⟩,⟨#[114,114,45,45]⟩,⟨#[103,45,45,45]⟩,⟨#[103,114,45,45]⟩,⟨#[99,45,45,45]⟩,⟨#[99,102,107,45]⟩,⟨#[100,45,45,45]⟩,⟨#[114,45,45,45]⟩,⟨#[119,119,45,45]⟩,⟨#[118,45,45,45]⟩]
def namesL:List ByteArray:=[⟨#[110,111,112]⟩,⟨#[115,101,116]⟩,⟨#[109,111,118,101]⟩,⟨#[97,100,100]⟩,⟨#[115,117,98]⟩,⟨#[109,117,108]⟩,⟨#[100,105,118]⟩,⟨#[109,111,100]⟩,⟨#[108,101,115,115]⟩,⟨#[115,97,109,101]⟩,⟨#[106,117,109,112]⟩,⟨#[122,101,114,111]⟩,⟨#[105,110]⟩,⟨#[111,117,116]⟩,⟨#[108,111,97,100]⟩,⟨#[115,116,111,114,101]⟩,⟨#[102,117,110,99]⟩,⟨#[112,105,99,107]⟩,⟨#[99,97,108,108]⟩,⟨#[118,105,97]⟩,⟨#[100,101,102,101,114]⟩,⟨#[112,97,110,105,99]⟩,⟨#[114,101,99,111,118,101,114]⟩,⟨#[114,101,116,117,114,110]⟩,⟨#[99,104,101,99,107]⟩,⟨#[101,110,116,101,114]⟩,⟨#[98,111,116,116,111,109]⟩,⟨#[100,114,105,118,101,114]⟩]
def shapeF (o:Int):ByteArray:=if ownF o then shapesL.getD (o-1).toNat ByteArray.empty else ByteArray.empty
def nameF (o:Int):ByteArray:=if 1≤o∧o≤28 then namesL.getD (o-1).toNat ByteArray.empty else ByteArray.empty
theorem shapeF_size (o:Int):(shapeF o).size=if ownF o then 4 else 0:=by
 unfold shapeF
 by_cases h:ownF o=true
 · rw [if_pos h,if_pos h]
   have h2:=ownF_iff.1 h
   have:∀ n,n<24→(shapesL.getD n ByteArray.empty).size=4:=by decide
   exact this _ ZO
 · rw [if_neg h,if_neg h];rfl
theorem op_Need {B:Base}{w:World}(hS:St B [] w) (o:Int) :
 CW 148 #[.int .i64 o] w (Ret B (fun _:Unit=>True) (fun _=>.int .i64 (needF o)) (fun _=>[])):=by
 refine ZX Tryz.func148 hS ?_
 refine Zh (Zi (Zp J (Zn (Za (Zh (Zh (Zi (Zo J (Zn (Za (Zk (Zh (Zi (Zy J J (Zp J (Zn (Za (wC (fun h4=>?_) (fun h4=>?_)))))))))))))))))))
 refine Zh (Zi (Zzs ?_))
 exact ⟨(),trivial,by simp_all [resVal,needF],Lh⟩
 refine Zh (Zi (Zy J J (Zp J (Zn (Za (wC (fun h6=>?_) (fun h6=>?_)))))))
 refine Zh (Zi (Zzs ?_))
 exact ⟨(),trivial,by simp_all [resVal,needF],Lh⟩
 refine Zh (Zh (Zi (Zy J J (Zp J (Zn (Za (wC (fun h8=>?_) (fun h8=>?_))))))))
 refine Zj (Za (ZY h8 ?_))
 refine Zh (Zi (Zzs ?_))
 exact ⟨(),trivial,by simp_all [resVal,needF],Lh⟩
 refine Zi (Zy J J (Zp J (Zn (Za (wC (fun h8=>?_) (fun h8=>?_))))))
 refine Zh (Zi (Zzs ?_))
 exact ⟨(),trivial,by simp_all [resVal,needF],Lh⟩
 refine Zh (Zi (Zy J J (Zp J (Zn (Za (wC (fun h11=>?_) (fun h11=>?_)))))))
 refine Zh (Zi (Zzs ?_))
 exact ⟨(),trivial,by simp_all [resVal,needF],Lh⟩
 refine Zh (Zi (Zy J J (Zp J (Zn (Za (wC (fun h13=>?_) (fun h13=>?_)))))))
 refine Zh (Zi (Zzs ?_))
 exact ⟨(),trivial,by simp_all [resVal,needF],Lh⟩
 refine Zj (Zd (Za (Zh (Zi (Zza ?_)))))
 exact ⟨(),trivial,by simp_all [resVal,needF],Lh⟩
theorem any_T {n j:Nat}{p:Nat→Bool}(hj:j<n) (h:p j=true):(List.range n).any p=true:=List.any_eq_true.2 ⟨j,List.mem_range.2 hj,h⟩
theorem any_F {n:Nat}{p:Nat→Bool}(h:∀ j,j<n→p j=false):(List.range n).any p=false:=List.any_eq_false.2 (fun j hj=>by rw [h j (List.mem_range.1 hj)];simp)
def fstE:List Int→Int
  | []=>0
  | e :: l=>if e≠0 then e else fstE l
theorem fstE_app {l l':List Int}(h:fstE l=0):fstE (l++l')=fstE l':=by
 induction l with
 | nil=>rfl
 | cons e l ih=>
  unfold fstE at h
  split at h
  · next k=>exact absurd h k
  · next k=>show (if e≠0 then e else fstE (l++l'))=_;rw [if_neg k];exact ih h
theorem fstE_stop {l:List Int}{i:Nat}{e:Int}(h:fstE (l.take i)=0) (hi:l[i]?=some e) (he:e≠0):fstE l=e:=by
 obtain ⟨hl,he0⟩:=List.getElem?_eq_some_iff.1 hi
 have h1:l=l.take i++(e :: l.drop (i+1)):=by rw [← he0,← List.drop_eq_getElem_cons hl,List.take_append_drop]
 have h2:fstE (l.take i++(e :: l.drop (i+1)))=e:=by
  rw [fstE_app h]
  show (if e≠0 then e else _)=_
  rw [if_pos he]
 rw [← h1] at h2
 exact h2
theorem fstE_next {l:List Int}{i:Nat}{e:Int}(h:fstE (l.take i)=0) (hi:l[i]?=some e) (he:e=0):fstE (l.take (i+1))=0:=by
 rw [List.take_add_one,hi,fstE_app h]
 subst he;rfl
theorem fstE_zero {l:List Int} : fstE l=0↔∀ e ∈ l,e=0:=by
  induction l with
  | nil=>simp [fstE]
  | cons e l ih=>
    unfold fstE
    split
    · next k => constructor
                · intro h;exact absurd h k
                · intro h;exact absurd (h e List.mem_cons_self) k
    · next k => rw [ih]; constructor
                · intro h x hx
                  rcases List.mem_cons.1 hx with rfl | hx
                  · omega
                  · exact h x hx
                · intro h x hx;exact h x (List.mem_cons_of_mem _ hx)
def numsL (x:ApiInstr):List Int:=[x.fOp,x.fA,x.fB,x.fC,x.fN]
def opdF (x:ApiInstr) (i:Int):Int:=if i<0∨3<i then 0 else (numsL x).getD (1+i.toNat) 0
def badA (x:ApiInstr) (j:Nat):Bool:=decide ((numsL x).getD (1+j) 0<0∨255<(numsL x).getD (1+j) 0)
def badS (x:ApiInstr) (j:Nat):Bool:=decide (byteAt (shapeF x.fOp) j=45) && decide ((numsL x).getD (1+j) 0≠0)
def icF (x:ApiInstr):Int:=if nameF x.fOp=ByteArray.empty then 8 else if (List.range 3).any (badA x) then 9 else if x.fN < -2147483648∨2147483647<x.fN then 9 else if (List.range (shapeF x.fOp).size).any (badS x) then 2 else 0
def risF (n last:Int):List Int→Bool
  | []=>true
  | a :: l=>if a≤last∨n≤a then false else risF n a l
abbrev kII:Kd (List Int):=Kd.slice (Kd.int .i64)
def idxI {α:Type}(p:α→Bool) (l:List α):Int:=if l.any p then (l.findIdx p:Int) else -1
theorem idxI_stop {α:Type}{p:α→Bool}{l:List α}{i:Nat}{x:α}(h:∀ y ∈ l.take i,p y=false) (hi:l[i]?=some x) (hp:p x=true):idxI p l=(i:Int):=by
 obtain ⟨hl,rfl⟩:=List.getElem?_eq_some_iff.1 hi
 unfold idxI
 rw [if_pos (List.any_eq_true.2 ⟨_,List.getElem_mem hl,hp⟩)]
 rw [(List.findIdx_eq hl).2 ⟨hp,fun j hj=>h _ (List.mem_take_iff_getElem.2 ⟨j,by omega,rfl⟩)⟩]
theorem idxI_none {α:Type}{p:α→Bool}{l:List α}(h:∀ y ∈ l,p y=false):idxI p l = -1:=by
 unfold idxI
 rw [if_neg]
 intro k
 obtain ⟨x,hx,hp⟩:=List.any_eq_true.1 k
 rw [h x hx] at hp;cases hp
theorem take_not {α:Type}{p:α→Bool}{l:List α}{i:Nat}{x:α}(h:∀ y ∈ l.take i,p y=false) (hi:l[i]?=some x) (hp:p x=false):∀ y ∈ l.take (i+1),p y=false:=by
 intro y hy
 rw [List.take_add_one,hi] at hy
 rcases List.mem_append.1 hy with k | k
 · exact h y k
 · obtain rfl:y=x:=by simpa using k
   exact hp
theorem idxI_iff {α:Type}{p:α→Bool}{l:List α} : 0≤idxI p l↔l.any p=true:=by
 unfold idxI
 split
 · next h=>simp [h] <;> omega
 · next h=>simp [h] <;> omega
theorem idxI_at {α:Type}{p:α→Bool}{l:List α}(h:0≤idxI p l):∃ (k:Nat) (x:α),idxI p l=(k:Int)∧l[k]?=some x∧p x=true:=by
 have ha:=idxI_iff.1 h
 unfold idxI
 rw [if_pos ha]
 have hl:l.findIdx p<l.length:=List.findIdx_lt_length_of_exists (by simpa using ha)
 exact ⟨_,_,rfl,List.getElem?_eq_getElem hl,List.findIdx_getElem⟩
theorem indexFunc_int {B:Base}{w:World}{R:Res}(hS:St B [R] w) (l:List Int) (A:Option Addr) (cp:Nat) (hC:(Kd.int .i64).C B.e A l) (gf:Nat) (lb:Array Value) (p:Int→Bool) (hg:goodF Tryz.prog gf=true)
 (hh:∀ B' w (x:Int),Grow B.e B'.e→x ∈ l→St B' [R] w→CW gf (#[]++[Value.int .i64 x].toArray++lb) w (Ret B' (fun _:Unit=>True) (fun _=>.bool (p x)) (fun _=>[R]))) :
 CW 191 #[.slice A l.length cp,.func (.func gf) #[] lb] w (Ret B (fun _:Unit=>True) (fun _=>.int .i64 (idxI p l)) (fun _=>[R])):=by
 have hl:=hC.1
 refine ZX Tryz.func191 hS ?_
 refine Zh (Zi (Zp J (Zn (Za (Zh (Zh (Zi (Zo J (Zv J J (Zo J (Zn (Za (Zk (wLoop (ι:=Nat) (fun i=>[(0,.slice A l.length cp),(1,.func (.func gf) #[] lb),(7,.int .i64 (l.length:Int)),(8,.int .i64 (i:Int))]) (fun i=>[R]) (fun i=>i≤l.length∧∀ y ∈ l.take i,p y=false) (fun i=>l.length-i) 0 ?_ cv Lh ?_))))))))))))))
 exact ⟨Nat.zero_le _,by simp⟩
 rintro i ⟨hi,hs⟩
 try dsimp only
 refine Zh (Zi (Zx J J (Zn (Za (Zh (wC (fun h9=>?_) (fun h9=>?_)))))))
 refine Zj (Za (Zh (Zk (Zh (Zi (Zo J (Zp J (Zn (Za (Zh (Zi (Zo J (Zo J (Zo J (oIdx J J (hC) J ZO J J (fun e14 u14 cs14 hu14 hk14 hc14=>?_))))))))))))))))
 obtain rfl:=hk14
 refine Zlx hc14 ?_
 (refine oCallV rfl rfl rfl hg (fun w hS=>frame hS ZQ (fun B' hB hS'=>hh B' w u14 hB (List.mem_of_getElem? hu14) hS')) ?_;rintro ⟨⟩ -)
 refine Zn (Za (wC (fun h16=>?_) (fun h16=>?_)))
 refine Zh (Zi (Zo J (Zzb ?_)))
 exact ⟨(),trivial,by rw [idxI_stop hs hu14 (by simpa using h16)];rfl,Lh⟩
 refine Zj (Zzi ?_)
 refine Zo J (Zn (Za ?_))
 exact ⟨rfl,i+1,⟨by omega,take_not hs hu14 (by simpa using h16)⟩,by omega,cv,Lh⟩
 refine Zm (Zzj ?_)
 obtain rfl:i=l.length:=by omega
 rw [List.take_length] at hs
 exact ⟨(),trivial,by rw [idxI_none hs];rfl,Lh⟩
def nextR (x:ApiInstr) (i:Int):List Int:=if x.fOp=12 then [i+1,x.fN] else if x.fOp=11 then [x.fN] else if endsF x.fOp then [] else [i+1]
def nextL (x:ApiInstr) (i:Int):List Int:=Lib.compact ((nextR x i).mergeSort leI)
def nextF (code:List ApiInstr) (i:Int):List Int:=if i<0∨(code.length:Int)≤i then [] else nextL (code.getD i.toNat default) i
def graphF (code:List ApiInstr):List (List Int):=(List.range code.length).map fun i:Nat=>nextF code (i:Int)
theorem graphF_len (code:List ApiInstr):(graphF code).length=code.length:=by simp [graphF]
def outF (n:Nat) (to:Int):Bool:=decide (to<0∨(n:Int)≤to)
def flowF (code:List ApiInstr):Int:=if code.length=0 then 3 else if 64<code.length then 6 else if (graphF code).any (fun l=>l.any (outF code.length)) then 10 else 0
end Go.Proofs.YtogaiijhicfoaaaGreatV
namespace Go.Proofs.YtogaiijhicfoaaaGreatU
set_option maxRecDepth 100000
set_option maxHeartbeats 4000000
open Go.RowKit Go.Proofs.YtogaiijhicfoaaaGreatK Go.Proofs.YtogaiijhicfoaaaGreatT Go.Proofs.YtogaiijhicfoaaaGreatL Go.Proofs.YtogaiijhicfoaaaGreatV

theorem idxI_mem {l:List Int}{v:Int} : 0≤idxI (fun y=>decide (v=y)) l↔v ∈ l:=by
 rw [idxI_iff,List.any_eq_true]
 constructor
 · rintro ⟨x,hx,h⟩;rw [of_decide_eq_true h];exact hx
 · intro h;exact ⟨v,h,decide_eq_true rfl⟩
theorem src_Cs {α:Type}{enc:α→Value}{h1:∀ x,(enc x).oneCell'=true}{W W' w:World}{A:Option Addr}{xs:List α}(hC:(Kd.scalar enc h1).C W' A xs) (g:Grow W' w):Src (Kd.scalar enc h1) W w A xs:=by
 obtain ⟨s1,s2⟩:=src_C hC g
 refine ⟨s1,fun ad e=>?_⟩
 obtain ⟨news,hc,hn⟩:=s2 ad e
 exact ⟨news,cat_scalar.2 (cat_scalar.1 hc),hn⟩
theorem idxI_two {α:Type}(p:α→Bool) (l:List α):0≤idxI p l∨idxI p l = -1:=by
 by_cases h:l.any p=true
 · exact .inl (idxI_iff.2 h)
 · right;unfold idxI;rw [if_neg h]
theorem idxI_pre {α:Type}{p:α→Bool}{l:List α}{i:Nat}(h:idxI p l=(i:Int)):∀ y ∈ l.take i,p y=false:=by
 have ha:l.any p=true:=idxI_iff.1 ZO
 unfold idxI at h
 rw [if_pos ha] at h
 intro y hy
 obtain ⟨j,hj,rfl⟩:=List.mem_take_iff_getElem.1 hy
 have:=List.not_of_lt_findIdx (p:=p) (xs:=l) (i:=j) ZO
 simpa using this
theorem index_int {B:Base}{w:World}(hS:St B [] w) (l:List Int) (A:Option Addr) (cp:Nat) (hC:(Kd.int .i64).C B.e A l) (v:Int) :
 CW 194 #[.slice A l.length cp,.int .i64 v] w (Ret B (fun _:Unit=>True) (fun _=>.int .i64 (idxI (fun y=>decide (v=y)) l)) (fun _=>[])):=by
 have hl:=hC.1
 refine ZX Tryz.func194 hS ?_
 refine Zh (Zi (Zp J (Zn (Za (Zh (Zh (Zi (Zo J (Zv J J (Zo J (Zn (Za (Zk (wLoop (ι:=Nat) (fun i=>[(0,.slice A l.length cp),(1,.int .i64 v),(7,.int .i64 (l.length:Int)),(8,.int .i64 (i:Int))]) (fun i=>[]) (fun i=>i≤l.length∧∀ y ∈ l.take i,decide (v=y)=false) (fun i=>l.length-i) 0 ?_ cv Lh ?_))))))))))))))
 exact ⟨Nat.zero_le _,by simp⟩
 rintro i ⟨hi,hs⟩
 try dsimp only
 refine Zh (Zi (Zx J J (Zn (Za (Zh (wC (fun h9=>?_) (fun h9=>?_)))))))
 obtain ⟨x,hx⟩:∃ x,l[i]?=some x:=⟨_,List.getElem?_eq_getElem ZO⟩
 obtain ⟨e1,cs1,hE⟩:=hC.elm hx
 obtain rfl:=(show cs1=[Value.int .i64 x] from hE.K)
 refine Zj (Za (Zh (Zk (Zh (Zi (Zo J (Zp J (Zn (Za (Zh (Zi (Zo J (Zo J (Zo J (oIdxE J J (hE) ZO J J ?_)))))))))))))))
 have hc14:=(hE).cell
 refine Zlx hc14 ?_
 refine Zy J J (Zn (Za (wC (fun h16=>?_) (fun h16=>?_))))
 refine Zh (Zi (Zo J (Zzb ?_)))
 exact ⟨(),trivial,by rw [idxI_stop (p:=fun y=>decide (v=y)) hs hx (decide_eq_true h16)];rfl,Lh⟩
 refine Zj (Zzi ?_)
 refine Zo J (Zn (Za ?_))
 exact ⟨rfl,i+1,⟨by omega,take_not (p:=fun y=>decide (v=y)) hs hx (decide_eq_false h16)⟩,by omega,cv,Lh⟩
 refine Zm (Zzj ?_)
 obtain rfl:i=l.length:=by omega
 rw [List.take_length] at hs
 exact ⟨(),trivial,by rw [idxI_none hs];rfl,Lh⟩
theorem contains_int {B:Base}{w:World}(hS:St B [] w) (l:List Int) (A:Option Addr) (cp:Nat) (hC:(Kd.int .i64).C B.e A l) (v:Int) :
 CW 147 #[.slice A l.length cp,.int .i64 v] w (Ret B (fun _:Unit=>True) (fun _=>.bool (decide (v ∈ l))) (fun _=>[])):=by
 refine ZX Tryz.func147 hS ?_
 refine Zh (Zi (Zp J (Zn (Za (Zzu ?_)))))
 (refine ZC0 rfl ZK (fun w hS=>frame hS ZQ (fun B' hB hS'=>index_int hS' l A cp (Kd.C_grow hB hC) v)) ?_;rintro ⟨⟩ -)
 refine Z2 J J (Zza ?_)
 exact ⟨(),trivial,by rw [show decide (v ∈ l)=decide (0≤idxI (fun y=>decide (v=y)) l) from decide_eq_decide.2 idxI_mem.symm];rfl,Lh⟩
theorem clone_int {B:Base}{w:World}(hS:St B [] w) (l:List Int) (A:Option Addr) (cp:Nat) (hC:(Kd.int .i64).C B.e A l) (hl:l.length≤1000000) (W0:World) :
 CW 142 #[.slice A l.length cp] w (Ret B (fun _:Option Addr×Nat=>True) (fun z=>.slice z.1 l.length z.2) (fun z=>[row (Kd.int .i64) W0 3 (.slice z.1 l.length z.2) l])):=by
 refine ZX Tryz.func142 hS ?_
 refine Zh (Zi (Zp J (Zn (Za (Zh (Zh (Zi (Zo J (oEqlS J J J (Zn (Za (wC (fun h4=>?_) (fun h4=>?_)))))))))))))
 refine Zh (Zi (Zze ?_))
 have hl0:l=[]:=by
  cases l with
  | nil=>rfl
  | cons x t=>obtain ⟨ad,e,_⟩:=hC.2 (by simp);rw [h4] at e;cases e
 subst hl0
 exact ⟨(none,0),trivial,rfl,(Leads.nilrow.trans Lh)⟩
 refine Zj (Za (Zh (Zi (oBuildSlice0 (Kd.int .i64) W0 J (fun b5=>?_)))))
 refine Zo J ?_
 refine oAppA (kd:=Kd.int .i64) (W:=W0) (xs:=[]) (ys:=l) J J J J ZP J (fun w hw=>src_Cs hC (Base.grow hw.ok)) (by simp;omega) J (fun A7 c7 hc7=>?_)
 refine ZS0 (t:=7) (v':=.slice A7 l.length c7) J (by simp) ?_
 rw [List.length_nil,Nat.zero_add,List.nil_append]
 refine Zp J (Zzx ?_)
 exact ⟨(A7,c7),trivial,rfl,Lh⟩
def leftL (p:Int→Bool) (l:List Int):List Int:=l.filter fun x=>!p x
theorem left_none {p:Int→Bool}{l:List Int}(h:∀ y ∈ l,p y=false):leftL p l=l:=by
 unfold leftL
 rw [List.filter_eq_self]
 intro a ha;rw [h a ha];rfl
theorem left_succ {p:Int→Bool}{l:List Int}{j:Nat}{x:Int}(h:l[j]?=some x):leftL p (l.take (j+1))=leftL p (l.take j)++(if p x=true then [] else [x]):=by
 unfold leftL
 rw [List.take_add_one,h,List.filter_append]
 congr 1
 show List.filter _ [x]=_
 cases hp:p x <;> simp [hp]
theorem left_le (p:Int→Bool) (l:List Int):(leftL p l).length≤l.length:=List.length_filter_le _ _
structure Part (p:Int→Bool) (l xs:List Int) (j:Nat):Prop where
  len:xs.length=l.length
  fst:xs.take (leftL p (l.take j)).length=leftL p (l.take j)
  rest:∀ k,j≤k→xs[k]?=l[k]?
theorem Part.start {p:Int→Bool}{l:List Int}{i:Nat}{x:Int}(h:∀ y ∈ l.take i,p y=false) (hi:l[i]?=some x) (hp:p x=true):(leftL p (l.take (i+1))).length=i∧Part p l l (i+1):=by
 have hl:=(List.getElem?_eq_some_iff.1 hi).1
 have e:leftL p (l.take (i+1))=l.take i:=by rw [left_succ hi,if_pos hp,List.append_nil,left_none h]
 have en:(leftL p (l.take (i+1))).length=i:=by rw [e,List.length_take];omega
 refine ⟨en,rfl,by rw [en,e],fun k hk=>rfl⟩
theorem Part.out {p:Int→Bool}{l xs:List Int}{j:Nat}{x:Int}(h:Part p l xs j) (hx:l[j]?=some x) (hp:p x=true):leftL p (l.take (j+1))=leftL p (l.take j)∧Part p l xs (j+1):=by
 have e:leftL p (l.take (j+1))=leftL p (l.take j):=by rw [left_succ hx,if_pos hp,List.append_nil]
 exact ⟨e,h.len,by rw [e];exact h.fst,fun k hk=>h.rest k ZO⟩
theorem Part.put {p:Int→Bool}{l xs:List Int}{j:Nat}{x:Int}(h:Part p l xs j) (hx:l[j]?=some x) (hp:p x=false):(leftL p (l.take (j+1))).length=(leftL p (l.take j)).length+1∧Part p l (xs.set (leftL p (l.take j)).length x) (j+1):=by
 have hjl:=(List.getElem?_eq_some_iff.1 hx).1
 have e:leftL p (l.take (j+1))=leftL p (l.take j)++[x]:=by rw [left_succ hx,if_neg (by rw [hp];simp)]
 have hn:(leftL p (l.take j)).length≤j:=Nat.le_trans (left_le _ _) (by rw [List.length_take];omega)
 have en:(leftL p (l.take (j+1))).length=(leftL p (l.take j)).length+1:=by rw [e,List.length_append];rfl
 refine ⟨en,by rw [List.length_set,h.len],?_,fun k hk=>?_⟩
 · rw [en,List.take_add_one,List.take_set_of_le (Nat.le_refl _),h.fst,List.getElem?_set_self (by rw [h.len];omega),e];rfl
 · rw [List.getElem?_set_ne ZO,h.rest k ZO]
theorem deleteFunc_int {B:Base}{w:World}{R:Res}{W0:World}(l:List Int) (A:Option Addr) (cp:Nat) (hS:St B [row (Kd.int .i64) W0 3 (.slice A l.length cp) l,R] w) (hl:l.length≤1000000) (gf:Nat) (lb:Array Value) (p:Int→Bool) (hg:goodF Tryz.prog gf=true)
 (hh:∀ B' w (x:Int),Grow B.e B'.e→x ∈ l→St B' [R] w→CW gf (#[]++[Value.int .i64 x].toArray++lb) w (Ret B' (fun _:Unit=>True) (fun _=>.bool (p x)) (fun _=>[R]))) :
 CW 141 #[.slice A l.length cp,.func (.func gf) #[] lb] w (Ret B (fun _:Unit=>True) (fun _=>.slice A (leftL p l).length cp) (fun _=>[row (Kd.int .i64) W0 3 (.slice A (leftL p l).length cp) (leftL p l),R])):=by
 refine ZX Tryz.func141 hS ?_
 refine Zh (Zi (Zp J (Zn (Za (Zzu ?_)))))
 (refine ZC0 rfl ZK (fun w hS=>frame' hS (Ψ:=[R]) ZQ (fun B' hB hR hS'=>indexFunc_int hS' l A cp (row_Cs (W:=W0) (e:=3) (n:=l.length) (cp:=cp) (hR _ _ ZP)) gf lb p hg (fun B2 w2 x hg2 hx hS2=>hh B2 w2 x (hB.trans hg2) hx hS2))) ?_;rintro ⟨⟩ -)
 refine Zp J (Zn (Za (Zh (Zh (Zi (Zo J (Zy J J (Zn (Za (wC (fun h12=>?_) (fun h12=>?_)))))))))))
 refine Zh (Zi (Zo J (Zze ?_)))
 have hno:∀ y ∈ l,p y=false:=by
  intro y hy
  cases hp:p y with
  | false=>rfl
  | true=>have:=idxI_iff.2 (List.any_eq_true.2 ⟨y,hy,hp⟩);omega
 exact ⟨(),trivial,by rw [left_none hno];rfl,by rw [left_none hno];exact (Leads.has ZQ)⟩
 obtain ⟨i,x,hi,hx,hp⟩:=idxI_at (show 0≤idxI p l by have:=idxI_two p l;omega)
 have hpre:=idxI_pre hi
 have hil:=(List.getElem?_eq_some_iff.1 hx).1
 rw [hi]
 obtain ⟨hn0,hP0⟩:=Part.start hpre hx hp
 refine Zj (Za (Zh (Zh (Zi (Zo J (Zsu ?_))))))
 refine ZS0 (t:=5) (v':=.int .i64 ((leftL p (l.take (i+1))).length:Int)) rfl (by rw [hn0]) ?_
 refine Zp J (Zn (Za (Zk (wLoop (ι:=Nat×List Int) (fun z=>[(0,.slice A l.length cp),(1,.func (.func gf) #[] lb),(5,.int .i64 ((leftL p (l.take z.1)).length:Int)),(6,.int .i64 (z.1:Int))]) (fun z=>[row (Kd.int .i64) W0 3 (.slice A l.length cp) z.2,R]) (fun z=>z.1≤l.length∧Part p l z.2 z.1) (fun z=>l.length-z.1) (i+1,l) ?_ cv Lh ?_))))
 exact ⟨by omega,hP0⟩
 rintro ⟨j,xs⟩ ⟨hj,hP⟩
 dsimp only at hj hP
 have hxl:=hP.len
 have hle:=left_le p (l.take j)
 rw [List.length_take] at hle
 try dsimp only
 refine Zh (Zh (Zi (Zo J (Zo J (Zv J J (Zx J J (Zn (Za (wC (fun h19=>?_) (fun h19=>?_))))))))))
 obtain ⟨y,hy⟩:∃ y,l[j]?=some y:=⟨_,List.getElem?_eq_getElem ZO⟩
 refine Zj (Za (Zh (Zk (Zh (Zi (Zo J (Zo J (ZR J J ZP ZO J J (fun g24 hg24=>?_)))))))))
 first | subst hg24 | (injection hg24 with hg24;injection hg24 with hg24;subst hg24)
 refine ZR1 J ZP ZO J (fun u25 hu25=>?_)
 obtain rfl:y=u25:=by rw [hP.rest j (Nat.le_refl _),hy] at hu25;exact Option.some.inj hu25
 refine Zp J (Zn (Za (Zzu ?_)))
 (refine oCallV rfl rfl rfl hg (fun w hS=>frame hS ZQ (fun B' hB hS'=>hh B' w y hB (List.mem_of_getElem? hy) hS')) ?_;rintro ⟨⟩ -)
 refine Zno ?_
 refine Zn (Za (wC (fun h29=>?_) (fun h29=>?_)))
 obtain ⟨hn2,hP2⟩:=hP.put hy (by simpa using h29)
 refine Zh (Zi (Zo J (Zo J (Zo J (ZR J J ZP ZO J J (fun g33 hg33=>?_))))))
 first | subst hg33 | (injection hg33 with hg33;injection hg33 with hg33;subst hg33)
 refine oStR _ J J J J ZP (by first | omega | (simp only [List.length_set];omega)) ?_
 refine Zn (Za (Zi (Zo J (Zsu ?_))))
 rw [← hn2]
 refine Zp J (Zn (Zzd ?_))
 refine Zp J (Zn (Za ?_))
 exact ⟨rfl,(j+1,xs.set (leftL p (l.take j)).length y),⟨by show j+1≤_;omega,hP2⟩,by show l.length-(j+1)<l.length-j;omega,cv,Lh⟩
 obtain ⟨hn2,hP2⟩:=hP.out hy (by simpa using h29)
 refine Zj (Zzd ?_)
 refine Zp J (Zn (Za ?_))
 exact ⟨rfl,(j+1,xs),⟨by show j+1≤_;omega,hP2⟩,by show l.length-(j+1)<l.length-j;omega,by dsimp only;rw [hn2];exact cv,Lh⟩
 obtain rfl:j=l.length:=by omega
 have hfst:=hP.fst
 have hle2:=left_le p l
 rw [List.take_length] at hfst
 rw [show l.take l.length=l from List.take_length]
 refine Zm (Zb (Zb (Ze (Za (Zh (Zi (Zo J (Zo J (oRoom ZP (fun _ hcp=>?_))))))))))
 refine oSliceV J J hle2 hcp J (oClear (u:=(0:Int)) J hle2 J J ZP ?_)
 refine Zn (Za (Zh (Zi (Zo J (Zo J (oSliceTo (kd:=Kd.int .i64) J J hle2 J ZP ?_))))))
 rw [List.take_append_of_le_length (by rw [List.length_take];omega),List.take_take,Nat.min_self,hfst]
 refine Zp J (Zzx ?_)
 exact ⟨(),trivial,rfl,Lh⟩
theorem grow_nil {B:Base}{w:World}(hS:St B [] w) (n:Nat) (hn:n≤1000000) (W0:World) :
 CW 146 #[.slice none 0 0,.int .i64 (n:Int)] w (Ret B (fun _:Option Addr×Nat=>True) (fun z=>.slice z.1 0 z.2) (fun z=>[row (Kd.int .i64) W0 3 (.slice z.1 0 z.2) []])):=by
 refine ZX Tryz.func146 hS ?_
 refine Zh (Zi (Zp J (Zn (Za (Zh (Zh (Zi (Zo J (Zx J J (Zn (Za (wC (fun h6=>?_) (fun h6=>?_)))))))))))))
 omega
 refine Zj (Za (Zh (Zh (Zi (Zo J (Zo J (oCapS J J (Zo J (Zv J J ?_)))))))))
 first | refine oSub rfl rfl ZO ?_ | refine oSubW rfl rfl ?_
 refine oSub J J ZO ?_
 refine ZS0 (t:=14) (v':=.int .i64 (n:Int)) J (by congr 1 <;> omega) ?_
 refine Zp J (Zn (Za (Zh (Zi (Zo J (Z1 J J (Zn (Za (wC (fun h16=>?_) (fun h16=>?_))))))))))
 refine Zi (Zo J (Zo J (oCapS J J (oConv (Leads.nilrow (kd:=Kd.int .i64) (W:=W0) (e:=3)) (oSliceTo (kd:=Kd.int .i64) (W:=W0) (e:=3) (A:=none) (n:=0) (cp:=0) (m:=0) (xs:=[]) J J (Nat.le_refl _) J ZP ?_)))))
 refine Zo J (oAppZ (kd:=Kd.int .i64) (W:=W0) (0:Int) J J ZO J J J J J ZO J (fun g22 c22=>?_))
 refine Zo J (Zv J J (oSliceTo (kd:=Kd.int .i64) (W:=W0) (e:=3) (A:=some ⟨g22,0,none⟩) (n:=n) (cp:=c22) (m:=0) (xs:=List.replicate n 0) J J (Nat.zero_le _) J ZP ?_))
 rw [List.take_zero]
 refine Zp J (Zn (Za (Zh (Zi (Zo J (Zza ?_))))))
 exact ⟨(some ⟨g22,0,none⟩,c22),trivial,rfl,Lh⟩
 refine Zj (Za (Zh (Zi (Zo J (Zza ?_)))))
 exact ⟨(none,0),trivial,rfl,(Leads.nilrow.trans Lh)⟩
theorem flat_succ {α:Type}{ll:List (List α)}{i:Nat}{x:List α}(h:ll[i]?=some x):(ll.take (i+1)).flatten=(ll.take i).flatten++x:=by
 rw [List.take_add_one,h];simp
theorem flat_le {α:Type}(ll:List (List α)):∀ i,(ll.take i).flatten.length≤ll.flatten.length:=fun i=>by
  conv=>rhs;rw [← List.take_append_drop i ll,List.flatten_append,List.length_append]
  omega
theorem concat_int {B:Base}{w:World}(hS:St B [] w) (ll:List (List Int)) (A:Option Addr) (cp:Nat) (hC:(Kd.slice (Kd.int .i64)).C B.e A ll) (hl:ll.flatten.length≤1000000) (W0:World) :
 CW 86 #[.slice A ll.length cp] w (Ret B (fun _:Option Addr×Nat=>True) (fun z=>.slice z.1 ll.flatten.length z.2) (fun z=>[row (Kd.int .i64) W0 3 (.slice z.1 ll.flatten.length z.2) ll.flatten])):=by
 have hll:=hC.1
 refine ZX Tryz.func86 hS ?_
 refine Zh (Zi (Zp J (Zn (Za (Zh (Zi (Zp J (Zn (Za (Zh (Zh (Zi (Zo J (Zv J J (Zo J (Zn (Za (Zk (wLoop (ι:=Nat) (fun i=>[(0,.slice A ll.length cp),(3,.int .i64 ((ll.take i).flatten.length:Int)),(9,.slice A ll.length cp),(10,.int .i64 (ll.length:Int)),(11,.int .i64 (i:Int))]) (fun i=>[]) (fun i=>i≤ll.length) (fun i=>ll.length-i) 0 ?_ cv Lh ?_)))))))))))))))))))
 exact Nat.zero_le _
 rintro i hi
 have hfl:=flat_le ll i
 have hfl2:=flat_le ll (i+1)
 try dsimp only
 refine Zh (Zi (Zx J J (Zn (Za (Zh (wC (fun h12=>?_) (fun h12=>?_)))))))
 obtain ⟨x,hx⟩:∃ x,ll[i]?=some x:=⟨_,List.getElem?_eq_getElem ZO⟩
 obtain ⟨e1,cs1,hE⟩:=hC.elm hx
 obtain ⟨A1,c1,rfl,hc1,hC1⟩:=hE.K
 have hfs:=flat_succ hx
 rw [hfs,List.length_append] at hfl2
 refine Zj (Za (Zh (Zk (Zh (Zi (oIdxE J J (hE) ZO J J ?_))))))
 have hc13:=(hE).cell
 refine Zlx hc13 ?_
 refine Zp J (Zn (Za (Zh (Zi (Zo J (Zo J (Zv J J (oAdd J J ZO ?_))))))))
 refine ZS0 (t:=18) (v':=.int .i64 ((ll.take (i+1)).flatten.length:Int)) rfl (by rw [hfs,List.length_append];rfl) ?_
 refine Zp J (Zn (Za (Zh (Zi (Zo J (Zx J J (Zn (Za (wC (fun h20=>?_) (fun h20=>?_))))))))))
 omega
 refine Zj (Zzi ?_)
 refine Zo J (Zn (Za ?_))
 exact ⟨rfl,i+1,by omega,by omega,cv,Lh⟩
 obtain rfl:i=ll.length:=by omega
 rw [List.take_length]
 refine Zm (Zb (Zb (Ze (Zzn ?_))))
 (refine ZC0 rfl ZK (fun w hS=>frame hS ZQ (fun B' hB hS'=>grow_nil hS' ll.flatten.length hl W0)) ?_;rintro ⟨A24,c24⟩ -)
 refine Zp J (Zn (Za (Zh (Zh (Zi (Zo J (Zv J J (Zo J (Zn (Za (Zk (wLoop (ι:=Nat×Option Addr×Nat) (fun z=>[(0,.slice A ll.length cp),(6,.slice z.2.1 (ll.take z.1).flatten.length z.2.2),(25,.slice A ll.length cp),(26,.int .i64 (ll.length:Int)),(27,.int .i64 (z.1:Int))]) (fun z=>[row (Kd.int .i64) W0 3 (.slice z.2.1 (ll.take z.1).flatten.length z.2.2) (ll.take z.1).flatten]) (fun z=>z.1≤ll.length) (fun z=>ll.length-z.1) (0,A24,c24) ?_ cv Lh ?_))))))))))))
 exact Nat.zero_le _
 rintro ⟨i,A2,c2⟩ hi
 dsimp only at hi
 have hfl2:=flat_le ll (i+1)
 try dsimp only
 refine Zh (Zi (Zx J J (Zn (Za (Zh (wC (fun h28=>?_) (fun h28=>?_)))))))
 obtain ⟨x,hx⟩:∃ x,ll[i]?=some x:=⟨_,List.getElem?_eq_getElem ZO⟩
 obtain ⟨e2,cs2,hE2⟩:=hC.elm hx
 obtain ⟨A1,c1,rfl,hc1,hC1⟩:=hE2.K
 have hfs:=flat_succ hx
 rw [hfs,List.length_append] at hfl2
 refine Zj (Za (Zh (Zk (Zh (Zi (oIdxE J J (hE2) ZO J J ?_))))))
 have hc29:=(hE2).cell
 refine Zlx hc29 ?_
 refine Zp J (Zn (Za (Zi (Zo J (Zo J (oAppA (kd:=Kd.int .i64) (W:=W0) (xs:=(ll.take i).flatten) (ys:=x) J J J J ZP J (fun w hw=>src_Cs hC1 (Base.grow hw.ok)) ZO J (fun A33 c33 hc33=>?_)))))))
 rw [show (ll.take i).flatten.length+x.length=(ll.take (i+1)).flatten.length by rw [hfs,List.length_append],← hfs]
 refine Zp J (Zn (Zzi ?_))
 refine Zo J (Zn (Za ?_))
 exact ⟨rfl,(i+1,A33,c33),by show i+1≤_;omega,by show ll.length-(i+1)<ll.length-i;omega,cv,Lh⟩
 obtain rfl:i=ll.length:=by omega
 rw [List.take_length]
 refine Zm (Zzf ?_)
 exact ⟨(A2,c2),trivial,rfl,Lh⟩
end Go.Proofs.YtogaiijhicfoaaaGreatU
/-
  Package digraph: ends and its iterator; the library's AppendSeq and Collect over it.
-/
namespace Go.Proofs.YtogaiijhicfoaaaGreatG
set_option maxRecDepth 100000
set_option maxHeartbeats 4000000
open Go.RowKit Go.Proofs.YtogaiijhicfoaaaGreatK Go.Proofs.YtogaiijhicfoaaaGreatT

abbrev kII:Kd (List Int):=Kd.slice (Kd.int .i64)
abbrev Graph:=List (List Int)
def inG (g:Graph) (x:Int):Bool:=decide (0≤x) && decide (x<(g.length:Int))
def endsOf (g:Graph) (a:Nat):List Int:=(g.getD a []).filter (inG g)
def intV (x:Int):List Value:=[.int .i64 x]
theorem getD_at {α:Type}{l:List α}{i:Nat}{o d:α}(h:l[i]?=some o):l.getD i d=o:=by rw [List.getD_eq_getElem?_getD,h];rfl
theorem filter_drop {u:List Int}{i:Nat}{x:Int}{P:Int→Bool}(h:u[i]?=some x):(u.drop i).filter P=if P x=true then x :: (u.drop (i+1)).filter P else (u.drop (i+1)).filter P:=by
 obtain ⟨hi,rfl⟩:=List.getElem?_eq_some_iff.1 h
 rw [List.drop_eq_getElem_cons hi,List.filter_cons]
theorem drop_cons {α:Type}{l:List α}{j:Nat}{y:α}{r:List α}(h:l.drop j=y :: r):∃ hj:j<l.length,l[j]=y∧l.drop (j+1)=r:=by
 have hj:j<l.length:=by
  rcases Nat.lt_or_ge j l.length with hj | hj
  · exact hj
  · rw [List.drop_of_length_le hj] at h;cases h
 rw [List.drop_eq_getElem_cons hj] at h
 injection h with h1 h2
 exact ⟨hj,h1,h2⟩

theorem ends_any {B:Base}{w:World}(hS:St B [] w) (A:Option Addr) (n cp:Nat) (a:Int) :
 CW 149 #[.slice A n cp,.int .i64 a] w (Ret B (fun _:Nat×Nat=>True) (fun p=>.func (.func 195) #[] #[.pointer (some ⟨p.1,0,none⟩),.pointer (some ⟨p.2,0,none⟩)]) (fun p=>[blk p.1 38 [.slice A n cp],blk p.2 3 [.int .i64 a]])):=by
 refine ZX Tryz.func149 hS ?_
 refine Zh (Zi (oBox J ZP (fun b2=>?_)))
 refine oBox J ZP (fun b3=>?_)
 refine Zp J (Zn (Za (Zh (Zi (oMakeFunc J (Zza ?_))))))
 exact ⟨(b2,b3),trivial,rfl,Lh⟩

theorem ends1 {B:Base}(g:Graph) (A:Option Addr) (cp a p2 p3:Nat) (hC:kII.C B.e A g) (ha:a<g.length) :
 IterC Tryz.prog 195 #[.pointer (some ⟨p2,0,none⟩),.pointer (some ⟨p3,0,none⟩)] B ((endsOf g a).map intV) [blk p2 38 [.slice A g.length cp],blk p3 3 [.int .i64 (a:Int)]]:=by
 intro lp AI Ax r0 w hbody hA hS
 have hl1:=hC.1
 show CW 195 #[.func (.yield lp) #[] #[],.pointer (some ⟨p2,0,none⟩),.pointer (some ⟨p3,0,none⟩)] w _
 refine ZX Tryz.func195 hS ?_
 refine Zh (Zi (Zld ?_))
 refine Zld ?_
 refine oIdx J J (hC) J ZO J J (fun e8 u8 cs8 hu8 hk8 hc8=>?_)
 obtain ⟨A0,c0,rfl,hle8,g0⟩:=hk8
 have hbig8:=g0.1
 have hends:endsOf g a=u8.filter (inG g):=by unfold endsOf;rw [getD_at hu8]
 refine Zlx hc8 ?_
 refine Zv J J (Zo J (Zn (Za (Zk (wLoop (ι:=Nat×Nat×Res) (fun z=>[(0,.func (.yield lp) #[] #[]),(1,.pointer (some ⟨p2,0,none⟩)),(9,.slice A0 u8.length c0),(10,.int .i64 (u8.length:Int)),(11,.int .i64 (z.1:Int))]) (fun z=>[z.2.2,blk p2 38 [.slice A g.length cp],blk p3 3 [.int .i64 (a:Int)]]) (fun z=>z.1≤u8.length∧z.2.1≤(endsOf g a).length∧AI z.2.1 z.2.2∧(endsOf g a).drop z.2.1=(u8.drop z.1).filter (inG g)) (fun z=>u8.length-z.1) (0,0,r0) ?_ cv Lh ?_)))))
 exact ⟨Nat.zero_le _,Nat.zero_le _,hA,hends⟩
 rintro ⟨i,j,r⟩ ⟨hi,hj,hA,hd⟩
 dsimp only at hi hj hA hd
 try dsimp only
 refine Zh (Zi (Zx J J (Zn (Za (Zh (wC (fun h12=>?_) (fun h12=>?_)))))))
 refine Zj (Za (Zh (Zk (Zh (Zi (oIdx J J (g0) J ZO J J (fun e13 u13 cs13 hu13 hk13 hc13=>?_)))))))
 obtain rfl:=hk13
 have hfd:=filter_drop (P:=inG g) hu13
 refine Zlx hc13 ?_
 refine Zp J (Zn (Za (Zh (Zi (Zo J (Z2 J J (Zo J (ZS (ZT 17) (fun h17=>?_) (fun h17=>?_)))))))))
 refine Zq J J (Zo J (Zzg ?_))
 refine Zq J J (Zv J J (Zq J J (Zx J J (Zt J J (Zo J (ZS (ZT 23) (fun h23=>?_) (fun h23=>?_)))))))
 rw [if_pos (by simp [inG];omega)] at hfd
 obtain ⟨hjlt,hjg,hjd⟩:=drop_cons (hd.trans hfd)
 have hY:∀ Fr W1,St B (r :: Fr) W1→YieldAt Fence.wide 0 Tryz.prog lp (intV u13).toArray W1 (YEnd B j AI Ax Fr):=by
  intro Fr W1 h1
  have:=hbody j (by simpa using hjlt) r Fr W1 hA h1
  rwa [List.getElem_map,hjg] at this
 refine Zq J J (Zo J (Zq J J (Zo J (Zq J J (oYield J J J (fun w hS=>hY _ w (hS.perm (Pick.perm ZP))) ?_)))))
 rintro ⟨bb,r'⟩ hr'
 dsimp only at hr' ⊢
 refine Zq J J (Zno ?_)
 refine Zt J J (Zn (Za (wC (fun h28=>?_) (fun h28=>?_))))
 refine Zl (Zf (Zc (Zc (Zf (Zw ?_)))))
 refine ⟨rfl,_,ResL.nil,?_⟩
 exact ⟨r',.inr ⟨j,by simpa using hjlt,by rw [if_neg (by simpa using h28)] at hr';exact hr'⟩,rfl,Lh⟩
 refine Zj (Zzi ?_)
 refine Zo J (Zn (Za ?_))
 exact ⟨rfl,(i+1,j+1,r'),⟨by show i+1≤_;omega,hjlt,by rw [if_pos (by simpa using h28)] at hr';exact hr',hjd⟩,by show u8.length-(i+1)<u8.length-i;omega,cv,Lh⟩
 refine Zr J J J J (Zr J J J J (Zr J J J J (Zr J J J J (Zu J J (Zn (Za (wCondF J (Zj (Zzi ?_)))))))))
 refine Zo J (Zn (Za ?_))
 exact ⟨rfl,(i+1,j,r),⟨by show i+1≤_;omega,hj,hA,by rw [hd,hfd,if_neg (by simp [inG];omega)]⟩,by show u8.length-(i+1)<u8.length-i;omega,cv,Lh⟩
 refine Zr J J J J (Zr J J J J (Zr J J J J (Zr J J J J (Zu J J (Zo J (Zr J J J J (Zr J J J J (Zr J J J J (Zr J J J J (Zu J J (Zn (Za (wCondF J (Zj (Zzi ?_)))))))))))))))
 refine Zo J (Zn (Za ?_))
 exact ⟨rfl,(i+1,j,r),⟨by show i+1≤_;omega,hj,hA,by rw [hd,hfd,if_neg (by simp [inG];omega)]⟩,by show u8.length-(i+1)<u8.length-i;omega,cv,Lh⟩
 refine Zm (Zb (Zb (Ze (fin_n ?_))))
 refine ⟨rfl,_,ResL.nil,?_⟩
 have hj:j=((endsOf g a).map intV).length:=by
  obtain rfl:i=u8.length:=by omega
  rw [List.drop_length] at hd
  have:=List.drop_eq_nil_iff.1 hd
  rw [List.length_map];omega
 exact ⟨r,.inl (hj ▸ hA),rfl,Lh⟩

theorem appendSeq_any {B:Base}{w:World}(g:Graph) (A:Option Addr) (cp a p2 p3:Nat) (hS:St B [blk p2 38 [.slice A g.length cp],blk p3 3 [.int .i64 (a:Int)]] w) (hC:kII.C B.e A g) (ha:a<g.length) (hsm:(endsOf g a).length≤1000000) (W0:World) :
 CW 232 #[.slice none 0 0,.func (.func 195) #[] #[.pointer (some ⟨p2,0,none⟩),.pointer (some ⟨p3,0,none⟩)]] w
  (Ret B (fun _:Option Addr×Nat=>True) (fun z=>.slice z.1 (endsOf g a).length z.2) (fun z=>[row (Kd.int .i64) W0 3 (.slice z.1 (endsOf g a).length z.2) (endsOf g a)])):=by
 (refine enterM Tryz.func232 J J hS ?_;simp only [List.zipIdx_cons,List.zipIdx_nil,List.map_cons,List.map_nil,Nat.reduceAdd,Nat.zero_add])
 refine Zh (Zi (oBox J ZP (fun b2=>?_)))
 refine Zp J (Zn (Za (Zh (Zh (Zi (Zo J (Zn (Za (Zk ?_)))))))))
 refine wRange rfl rfl ZK (ends1 g A cp a p2 p3 hC ha) (by rintro _ h;obtain ⟨y,_,rfl⟩:=List.mem_map.1 h;rfl) rfl (ι:=Nat×Option Addr×Nat) (κ:=Unit) (fun j z=>z.1=j) (fun z=>[blk b2 42 [.slice z.2.1 z.1 z.2.2],row (Kd.int .i64) W0 3 (.slice z.2.1 z.1 z.2.2) ((endsOf g a).take z.1)]) (fun x z=>False) (fun x z=>[]) (0,none,0) rfl (Leads.nilrow.trans Lh) ?_ ?_ ?_
 intro lp0 B' R1 R2 j hj
 rintro ⟨i,A2,c2⟩ hB rfl
 dsimp only
 have hj':i<(endsOf g a).length:=by simpa using hj
 have hlt:((endsOf g a).take i).length=i:=by simp;omega
 have htk:(endsOf g a).take i++[(endsOf g a)[i]]=(endsOf g a).take (i+1):=(List.take_succ_eq_append_getElem hj').symm
 rw [List.getElem_map]
 generalize (endsOf g a)[i]=x at *
 dsimp only [hand,intV]
 refine Zi (Zp J (Zn (aq_n ZP ?_)))
 refine Zk (Zi (Zld ?_))
 refine Zo J (oBuildSlice1 J J J J J ZP J (fun b10=>?_))
 refine oApp1 x J J J J ZP ZP J ZO J (fun g11 cp11=>?_)
 rw [hlt,htk]
 refine Zst ?_
 refine Zn (Zd (rq_n ?_))
 exact ⟨(i+1,some ⟨g11,0,none⟩,cp11),rfl,Lh⟩
 rintro ⟨i,A2,c2⟩ Dm0 h
 dsimp only at h
 rw [List.length_map] at h
 subst h
 dsimp only
 rw [List.take_length]
 try dsimp only
 refine Zd (Za (Zh (Zi (Zld ?_))))
 refine Zp J (Zn (Za (Zl (finM_r (Ds:=[Dm0]) J ZQ (ResL.cons (ResR.tmp J) ResL.nil) ?_))))
 exact ⟨(A2,c2),trivial,rfl,Lh⟩
 rintro _ _ _ h;exact h.elim
theorem collect_any {B:Base}{w:World}(g:Graph) (A:Option Addr) (cp a p2 p3:Nat) (hS:St B [blk p2 38 [.slice A g.length cp],blk p3 3 [.int .i64 (a:Int)]] w) (hC:kII.C B.e A g) (ha:a<g.length) (hsm:(endsOf g a).length≤1000000) (W0:World) :
 CW 196 #[.func (.func 195) #[] #[.pointer (some ⟨p2,0,none⟩),.pointer (some ⟨p3,0,none⟩)]] w
  (Ret B (fun _:Option Addr×Nat=>True) (fun z=>.slice z.1 (endsOf g a).length z.2) (fun z=>[row (Kd.int .i64) W0 3 (.slice z.1 (endsOf g a).length z.2) (endsOf g a)])):=by
 refine ZX Tryz.func196 hS ?_
 refine Zh (Zi (Zp J (Zn (Zzn ?_))))
 (refine ZC0 rfl ZK (fun w hS=>frame hS ZQ (fun B' hB hS'=>appendSeq_any g A cp a p2 p3 hS' (Kd.C_grow hB hC) ha hsm W0)) ?_;rintro ⟨A1,c1⟩ -)
 refine Zp J (Zzx ?_)
 exact ⟨(A1,c1),trivial,rfl,Lh⟩
end Go.Proofs.YtogaiijhicfoaaaGreatG


/-
  Package digraph: Clean; the library's Sorted.
-/
namespace Go.Proofs.YtogaiijhicfoaaaGreatG
set_option maxRecDepth 100000
set_option maxHeartbeats 4000000
open Go.RowKit Go.Proofs.YtogaiijhicfoaaaGreatK Go.Proofs.YtogaiijhicfoaaaGreatT Go.Proofs.YtogaiijhicfoaaaGreatL

def SmallG (g:Graph):Prop:=g.length≤1000∧∀ l ∈ g,l.length≤1000
theorem ends_le {g:Graph}(h:SmallG g) (a:Nat):(endsOf g a).length≤1000:=by
 unfold endsOf
 refine Nat.le_trans (List.length_filter_le _ _) ?_
 by_cases ha:a<g.length
 · rw [getD_at (List.getElem?_eq_getElem ha)]
   exact h.2 _ (List.getElem_mem ha)
 · rw [List.getD_eq_getElem?_getD,List.getElem?_eq_none ZO];simp
def cl (g:Graph) (a:Nat):List Int:=Lib.compact ((endsOf g a).mergeSort leI)
def cleanTo (g:Graph) (a:Nat):Graph:=(List.range g.length).map fun i=>if i<a then cl g i else []
def cleanG (g:Graph):Graph:=(List.range g.length).map (cl g)
theorem cleanTo_zero (g:Graph):cleanTo g 0=List.replicate g.length []:=by
 unfold cleanTo
 apply List.ext_getElem?
 intro i
 rw [List.getElem?_map,List.getElem?_replicate]
 by_cases h:i<g.length
 · simp [h]
 · simp [h]
theorem cleanTo_all (g:Graph):cleanTo g g.length=cleanG g:=by
 unfold cleanTo cleanG
 apply List.map_congr_left
 intro i hi
 rw [if_pos (List.mem_range.1 hi)]
theorem cleanTo_len (g:Graph) (a:Nat):(cleanTo g a).length=g.length:=by simp [cleanTo]
theorem cleanG_len (g:Graph):(cleanG g).length=g.length:=by simp [cleanG]
theorem cleanTo_at {g:Graph}{a:Nat}(h:a<g.length):(cleanTo g a)[a]?=some []:=by simp [cleanTo,h]
theorem cleanTo_succ {g:Graph}{a:Nat}(h:a<g.length):(cleanTo g a).set a (cl g a)=cleanTo g (a+1):=by
 apply List.ext_getElem?
 intro i
 rw [List.getElem?_set]
 by_cases e:a=i
 · subst e;simp [cleanTo,h]
 · rw [if_neg e]
   unfold cleanTo
   rw [List.getElem?_map,List.getElem?_map]
   cases hr:(List.range g.length)[i]? with
   | none=>rfl
   | some j=>
    obtain ⟨hi,rfl⟩:=List.getElem?_eq_some_iff.1 hr
    simp only [List.getElem_range,Option.map_some,Option.some.injEq]
    by_cases h1:i<a
    · rw [if_pos h1,if_pos ZO]
    · rw [if_neg h1,if_neg ZO]

theorem sorted_any {B:Base}{w:World}(g:Graph) (A:Option Addr) (cp a p2 p3:Nat) (hS:St B [blk p2 38 [.slice A g.length cp],blk p3 3 [.int .i64 (a:Int)]] w) (hC:kII.C B.e A g) (ha:a<g.length) (hsm:(endsOf g a).length≤1000) (W0:World) :
 CW 151 #[.func (.func 195) #[] #[.pointer (some ⟨p2,0,none⟩),.pointer (some ⟨p3,0,none⟩)]] w
  (Ret B (fun _:Option Addr×Nat=>True) (fun z=>.slice z.1 (endsOf g a).length z.2) (fun z=>[row (Kd.int .i64) W0 3 (.slice z.1 (endsOf g a).length z.2) ((endsOf g a).mergeSort leI)])):=by
 refine ZX Tryz.func151 hS ?_
 refine Zh (Zi (Zp J (Zn (Zzn ?_))))
 (refine ZC0 rfl ZK (fun w hS=>frame hS ZQ (fun B' hB hS'=>collect_any g A cp a p2 p3 hS' (Kd.C_grow hB hC) ha ZO W0)) ?_;rintro ⟨A1,c1⟩ -)
 refine Zp J (Zn (Zzn ?_))
 (refine ZC0 rfl ZK (fun w hS=>frame hS ZQ (fun B' hB hS'=>sort_int laysn189_at hS' ZO)) ?_;rintro ⟨⟩ -)
 refine Zn (Za (Zh (Zi (Zo J (Zza ?_)))))
 exact ⟨(A1,c1),trivial,rfl,Lh⟩
theorem clean_any {B:Base}{w:World}(hS:St B [] w) (g:Graph) (A:Option Addr) (cp:Nat) (hC:kII.C B.e A g) (hsm:SmallG g) (W0:World) :
 CW 93 #[.slice A g.length cp] w
  (Ret B (fun z:Option Addr×Nat×List Hdr=>z.2.2.length=g.length) (fun z=>.slice z.1 g.length z.2.1) (fun z=>[row kHdr W0 42 (.slice z.1 g.length z.2.1) z.2.2,bun (rws (Kd.int .i64) W0 3 z.2.2 (cleanG g))])):=by
 have hn:=hsm.1
 refine ZX Tryz.func93 hS ?_
 refine Zh (Zi (Zp J (Zn (Za (Zh (Zi (Zo J (Zv J J (oMake (kd:=kHdr) (W:=W0) ((none,0,0):Hdr) J J J J J J ZO J (fun g7=>?_))))))))))
 refine oConv (rws_new (kd:=Kd.int .i64) (W:=W0) (ei:=3) g.length) (Zp J (Zn (Za (Zh (Zh (Zi (Zo J (Zv J J (Zo J (Zn (Za (Zk ?_))))))))))))
 refine wLoop (ι:=Nat×List Hdr) (fun z=>[(0,.slice A g.length cp),(3,.slice (some ⟨g7,0,none⟩) g.length g.length),(9,.int .i64 (g.length:Int)),(10,.int .i64 (z.1:Int))]) (fun z=>[row kHdr W0 42 (.slice (some ⟨g7,0,none⟩) g.length g.length) z.2,bun (rws (Kd.int .i64) W0 3 z.2 (cleanTo g z.1))]) (fun z=>z.1≤g.length∧z.2.length=g.length) (fun z=>g.length-z.1) (0,List.replicate g.length (none,0,0)) ?_ cv (by rw [cleanTo_zero];exact (Leads.has ZQ)) ?_
 exact ⟨Nat.zero_le _,by simp⟩
 rintro ⟨a,hs⟩ ⟨ha,hl⟩
 dsimp only at ha hl
 try dsimp only
 refine Zh (Zi (Zx J J (Zn (Za (Zh (wC (fun h11=>?_) (fun h11=>?_)))))))
 refine Zj (Za (Zh (Zk (Zh (Zi (Zo J (Zp J (Zn (Za (Zi (Zo J (Zo J (Zo J (Zo J ?_))))))))))))))
 (refine ZC0 rfl ZK (fun w hS=>frame hS ZQ (fun B' hB hS'=>ends_any hS' A g.length cp (a:Int))) ?_;rintro ⟨p2,p3⟩ -)
 (refine ZC0 rfl ZK (fun w hS=>frame hS ZQ (fun B' hB hS'=>sorted_any g A cp a p2 p3 hS' (Kd.C_grow hB hC) ZO (ends_le hsm a) W0)) ?_;rintro ⟨A18,c18⟩ -)
 (refine ZC0 rfl ZK (fun w hS=>frame hS ZQ (fun B' hB hS'=>compact_int lays2n20_at hS' (by rw [List.length_mergeSort];have:=ends_le hsm a;omega))) ?_;rintro ⟨⟩ -)
 refine oFocus (i:=a) ZP (List.getElem?_eq_getElem ZO) (cleanTo_at ZO) ?_
 refine oBack (kd:=Kd.int .i64) (W:=W0) (ei:=3) (hs:=hs) (xss:=cleanTo g a) (i:=a) (u:=(A18,(cl g a).length,c18)) (xs:=cl g a) ZP ZP ZO (by rw [cleanTo_len];exact hl) ?_
 rw [cleanTo_succ ZO]
 refine ZR J J ZP ZO J J (fun g20 hg20=>?_)
 first | subst hg20 | (injection hg20 with hg20;injection hg20 with hg20;subst hg20)
 refine oStR (enc:=hV) (A18,(cl g a).length,c18) J J J J ZP ZO ?_
 refine Zn (Zzi ?_)
 refine Zo J (Zn (Za ?_))
 exact ⟨rfl,(a+1,hs.set a (A18,(cl g a).length,c18)),⟨by show a+1≤_;omega,by show (hs.set _ _).length=_;rw [List.length_set];exact hl⟩,by show g.length-(a+1)<g.length-a;omega,cv,Lh⟩
 obtain rfl:a=g.length:=by omega
 rw [cleanTo_all]
 refine Zm (Zzf ?_)
 exact ⟨(some ⟨g7,0,none⟩,g.length,hs),hl,rfl,Lh⟩
end Go.Proofs.YtogaiijhicfoaaaGreatG


/-
  Package digraph: Reach.
-/
namespace Go.Proofs.YtogaiijhicfoaaaGreatG
set_option maxRecDepth 100000
set_option maxHeartbeats 4000000
open Go.RowKit Go.Proofs.YtogaiijhicfoaaaGreatK Go.Proofs.YtogaiijhicfoaaaGreatT Go.Proofs.YtogaiijhicfoaaaGreatL

inductive RP (g:Graph) (from_:List Int):Int→Prop
  | start {a:Int} : a ∈ from_→inG g a=true→RP g from_ a
  | step {a:Nat}{b:Int} : RP g from_ (a:Int)→b ∈ endsOf g a→RP g from_ b
theorem inG_iff {g:Graph}{x:Int} : inG g x=true↔0≤x∧x<(g.length:Int):=by simp [inG]
theorem ends_in {g:Graph}{a:Nat}{b:Int}(h:b ∈ endsOf g a):inG g b=true:=(List.mem_filter.1 h).2
theorem RP.inG {g:Graph}{f:List Int}{x:Int}(h:RP g f x):inG g x=true:=by
 cases h with
 | start _ h=>exact h
 | step _ h=>exact ends_in h
structure RS (g:Graph) (from_:List Int) (out:List Bool) (wait:List Int):Prop where
  len:out.length=g.length
  sound:∀ i:Nat,out[i]?=some true→RP g from_ (i:Int)
  waits:∀ x ∈ wait,RP g from_ x
  starts:∀ x ∈ from_,inG g x=true→out[x.toNat]?=some true∨x ∈ wait
  closed:∀ i:Nat,out[i]?=some true→∀ b ∈ endsOf g i,out[b.toNat]?=some true∨b ∈ wait
theorem RS.done {g:Graph}{f:List Int}{out:List Bool}(h:RS g f out []):∀ x,RP g f x→out[x.toNat]?=some true:=by
 intro x hx
 induction hx with
 | start h1 h2=>
  rcases h.starts _ h1 h2 with h | h
  · exact h
  · cases h
 | step h1 h2 ih=>
  rcases h.closed _ (by simpa using ih) _ h2 with h | h
  · exact h
  · cases h
theorem RS.skip {g:Graph}{f:List Int}{out:List Bool}{wait:List Int}{x:Int}(h:RS g f out (wait++[x])) (hx:out[x.toNat]?=some true):RS g f out wait:=by
 refine ⟨h.len,h.sound,fun y hy=>h.waits y (List.mem_append_left _ hy),fun y hy hi=>?_,fun i hi b hb=>?_⟩
 · rcases h.starts y hy hi with h | h
   · exact .inl h
   · rcases List.mem_append.1 h with h | h
     · exact .inr h
     · rw [List.mem_singleton.1 h];exact .inl hx
 · rcases h.closed i hi b hb with h | h
   · exact .inl h
   · rcases List.mem_append.1 h with h | h
     · exact .inr h
     · rw [List.mem_singleton.1 h];exact .inl hx
theorem RS.take {g:Graph}{f:List Int}{out:List Bool}{wait:List Int}{a:Nat}(h:RS g f out (wait++[(a:Int)])) (ha:a<out.length):RS g f (out.set a true) (wait++endsOf g a):=by
 have hR:RP g f (a:Int):=h.waits _ (by simp)
 have hset:∀ i:Nat,out[i]?=some true→(out.set a true)[i]?=some true:=fun i hi=>by
  rw [List.getElem?_set]
  split
  · rename_i e;subst e;simp [ha]
  · exact hi
 have haa:(out.set a true)[a]?=some true:=by simp [ha]
 refine ⟨by rw [List.length_set];exact h.len,fun i hi=>?_,fun x hx=>?_,fun x hx hi=>?_,fun i hi b hb=>?_⟩
 · rw [List.getElem?_set] at hi
   split at hi
   · rename_i e;subst e;exact hR
   · exact h.sound i hi
 · rcases List.mem_append.1 hx with hx | hx
   · exact h.waits x (List.mem_append_left _ hx)
   · exact .step hR hx
 · rcases h.starts x hx hi with h | h
   · exact .inl (hset _ h)
   · rcases List.mem_append.1 h with h | h
     · exact .inr (List.mem_append_left _ h)
     · rw [List.mem_singleton.1 h];exact .inl (by simpa using haa)
 · by_cases e:i=a
   · subst e;exact .inr (List.mem_append_right _ hb)
   · have hi':out[i]?=some true:=by rw [List.getElem?_set,if_neg (fun h=>e h.symm)] at hi;exact hi
     rcases h.closed i hi' b hb with h | h
     · exact .inl (hset _ h)
     · rcases List.mem_append.1 h with h | h
       · exact .inr (List.mem_append_left _ h)
       · rw [List.mem_singleton.1 h];exact .inl (by simpa using haa)
theorem RS.init (g:Graph) (f:List Int):RS g f (List.replicate g.length false) (f.filter (inG g)):=by
 refine ⟨by simp,fun i h=>?_,fun x hx=>?_,fun x hx hi=>.inr (List.mem_filter.2 ⟨hx,hi⟩),fun i h=>?_⟩
 · rw [List.getElem?_replicate] at h;split at h <;> simp at h
 · obtain ⟨h1,h2⟩:=List.mem_filter.1 hx;exact .start h1 h2
 · rw [List.getElem?_replicate] at h;split at h <;> simp at h
def falses (out:List Bool):Nat:=(out.filter (fun b=>!b)).length
theorem falses_set {out:List Bool}{a:Nat}(h:out[a]?=some false):falses (out.set a true)+1=falses out:=by
 unfold falses
 induction out generalizing a with
 | nil=>simp at h
 | cons b out ih=>
  cases a with
  | zero=>simp at h;subst h;simp
  | succ a=>
   have:=ih (a:=a) (by simpa using h)
   cases b <;> simp_all <;> omega
theorem falses_le (out:List Bool):falses out≤out.length:=List.length_filter_le _ _
theorem filter_take {u:List Int}{i:Nat}{x:Int}{P:Int→Bool}(h:u[i]?=some x):(u.take (i+1)).filter P=(u.take i).filter P++(if P x=true then [x] else []):=by
 obtain ⟨hi,rfl⟩:=List.getElem?_eq_some_iff.1 h
 rw [List.take_succ_eq_append_getElem hi,List.filter_append,List.filter_cons,List.filter_nil]

theorem reach_any {B:Base}{w:World}(hS:St B [] w) (g:Graph) (A:Option Addr) (cp:Nat) (hC:kII.C B.e A g) (hsm:SmallG g) (from_:List Int) (A1:Option Addr) (cp1:Nat) (hC1:(Kd.int .i64).C B.e A1 from_) (hf:from_.length≤1000) (W0:World) :
 CW 90 #[.slice A g.length cp,.slice A1 from_.length cp1] w
  (Ret B (fun z:Option Addr×Nat×List Bool=>z.2.2.length=g.length∧∀ i:Nat,z.2.2[i]?=some true↔RP g from_ (i:Int)) (fun z=>.slice z.1 g.length z.2.1) (fun z=>[row Kd.bool W0 4 (.slice z.1 g.length z.2.1) z.2.2])):=by
 have hn:=hsm.1
 (refine enterM Tryz.func90 J J hS ?_;simp only [List.zipIdx_cons,List.zipIdx_nil,List.map_cons,List.map_nil,Nat.reduceAdd,Nat.zero_add])
 refine Zh (Zi (Zp J (Zn (Za (Zh (Zi (Zo J (Zv J J (oMake (kd:=Kd.bool) (W:=W0) false J J J J J J ZO J (fun g13=>?_))))))))))
 refine Zp J (Zn (Za (Zh (Zi (oAlloc J ZP (fun b6=>?_))))))
 refine Zn (Za (Zh (Zh (Zi (Zo J (Zv J J (Zo J (Zn (Za (Zk (wLoop (ι:=Nat×Option Addr×Nat) (fun z=>[(0,.slice A g.length cp),(5,.slice (some ⟨g13,0,none⟩) g.length g.length),(6,.pointer (some ⟨b6,0,none⟩)),(14,.slice A1 from_.length cp1),(15,.int .i64 (from_.length:Int)),(16,.int .i64 (z.1:Int))]) (fun z=>[row Kd.bool W0 4 (.slice (some ⟨g13,0,none⟩) g.length g.length) (List.replicate g.length false),blk b6 42 [.slice z.2.1 ((from_.take z.1).filter (inG g)).length z.2.2],row (Kd.int .i64) W0 3 (.slice z.2.1 ((from_.take z.1).filter (inG g)).length z.2.2) ((from_.take z.1).filter (inG g))]) (fun z=>z.1≤from_.length) (fun z=>from_.length-z.1) (0,none,0) ?_ cv (Leads.nilrow.trans Lh) ?_)))))))))))
 exact Nat.zero_le _
 rintro ⟨i,A2,c2⟩ hi
 dsimp only at hi
 have hle:((from_.take i).filter (inG g)).length≤1000:=Nat.le_trans (List.length_filter_le _ _) (by rw [List.length_take];omega)
 try dsimp only
 refine Zh (Zi (Zx J J (Zn (Za (Zh (wC (fun h17=>?_) (fun h17=>?_)))))))
 refine Zj (Za (Zh (Zk (Zh (Zi (oIdx J J (hC1) J ZO J J (fun e18 u18 cs18 hu18 hk18 hc18=>?_)))))))
 obtain rfl:=hk18
 have hft:=filter_take (P:=inG g) hu18
 refine Zlx hc18 ?_
 refine Zp J (Zn (Za (Zh (Zi (Zo J (Z2 J J (Zo J (ZS (ZT 22) (fun h22=>?_) (fun h22=>?_)))))))))
 refine Zq J J (Zo J (Zq J J (Zo J (Zq J J (Zv J J (Zq J J (Zx J J (Zt J J (Zn (Za (wC (fun h27=>?_) (fun h27=>?_))))))))))))
 refine Zi (Zld ?_)
 refine Zo J (oBuildSlice1 J J J J J ZP J (fun b30=>?_))
 refine oApp1 u18 J J J J ZP ZP J ZO J (fun g31 cp31=>?_)
 rw [if_pos (by simp [inG];omega)] at hft
 rw [show ((from_.take i).filter (inG g)).length+1=((from_.take (i+1)).filter (inG g)).length by rw [hft,List.length_append];rfl,← hft]
 refine Zst ?_
 refine Zn (Zzi ?_)
 refine Zo J (Zn (Za ?_))
 exact ⟨rfl,(i+1,some ⟨g31,0,none⟩,cp31),by show i+1≤_;omega,by show from_.length-(i+1)<from_.length-i;omega,cv,Lh⟩
 refine Zj (Zzi ?_)
 refine Zo J (Zn (Za ?_))
 rw [show (if inG g u18=true then [u18] else [])=[] by rw [if_neg];simp [inG];omega,List.append_nil] at hft
 exact ⟨rfl,(i+1,A2,c2),by show i+1≤_;omega,by show from_.length-(i+1)<from_.length-i;omega,cv,by dsimp only;rw [hft];exact (Leads.has ZQ)⟩
 refine Zr J J J J (Zr J J J J (Zr J J J J (Zr J J J J (Zu J J (Zn (Za (wCondF J (Zj (Zzi ?_)))))))))
 refine Zo J (Zn (Za ?_))
 rw [show (if inG g u18=true then [u18] else [])=[] by rw [if_neg];simp [inG];omega,List.append_nil] at hft
 exact ⟨rfl,(i+1,A2,c2),by show i+1≤_;omega,by show from_.length-(i+1)<from_.length-i;omega,cv,by dsimp only;rw [hft];exact (Leads.has ZQ)⟩
 obtain rfl:i=from_.length:=by omega
 rw [List.take_length]
 refine Zm (Zb (Zb (Ze (Za (Zh (Zk (wLoopM (ι:=List Bool×List Int×Option Addr×Nat) (fun z=>[(0,.slice A g.length cp),(5,.slice (some ⟨g13,0,none⟩) g.length g.length),(6,.pointer (some ⟨b6,0,none⟩))]) (fun z=>[row Kd.bool W0 4 (.slice (some ⟨g13,0,none⟩) g.length g.length) z.1,blk b6 42 [.slice z.2.2.1 z.2.1.length z.2.2.2],row (Kd.int .i64) W0 3 (.slice z.2.2.1 z.2.1.length z.2.2.2) z.2.1]) (fun z=>RS g from_ z.1 z.2.1∧z.2.1.length+falses z.1 * 1000≤2000000) (fun z=>falses z.1 * 1001+z.2.1.length) (List.replicate g.length false,from_.filter (inG g),A2,c2) ?_ cv [] J (marks_nil.trans Lh) ?_)))))))
 exact ⟨RS.init g from_,by have h1:falses (List.replicate g.length false)≤g.length:=Nat.le_trans (falses_le _) (by simp);have h2:(from_.filter (inG g)).length≤from_.length:=List.length_filter_le _ _;show (from_.filter (inG g)).length+falses (List.replicate g.length false) * 1000≤2000000;omega⟩
 rintro ⟨out,wait,A3,c3⟩ Ms ⟨hrs,hbd⟩
 dsimp only at hrs hbd
 have hol:=hrs.len
 try dsimp only
 refine Zh (Zh (Zi (Zld ?_)))
 refine Zv J J (Z1 J J (Zn (Za (wC (fun h35=>?_) (fun h35=>?_)))))
 refine Zj (Za (Zk (Zh (Zi (Zld ?_)))))
 refine Zld ?_
 refine Zv J J ?_
 first | refine oSub rfl rfl ZO ?_ | refine oSubW rfl rfl ?_
 refine ZS0 (t:=39) (v':=.int .i64 ((wait.length-1:Nat):Int)) J (by congr 1;omega) ?_
 refine ZR J J ZP ZO J J (fun g40 hg40=>?_)
 first | subst hg40 | (injection hg40 with hg40;injection hg40 with hg40;subst hg40)
 refine ZR1 J ZP ZO J (fun u41 hu41=>?_)
 have hW:(wait.take (wait.length-1)).length=wait.length-1:=by simp
 have hw:wait=wait.take (wait.length-1)++[u41]:=by
  have h1:wait.length-1<wait.length:=by omega
  have h2:=(List.getElem?_eq_some_iff.1 hu41).2
  rw [← h2,← List.take_succ_eq_append_getElem h1,show wait.length-1+1=wait.length by omega,List.take_length]
 have hin:=inG_iff.1 (hrs.waits u41 (by rw [hw];simp)).inG
 obtain ⟨a,rfl⟩:=Int.eq_ofNat_of_zero_le hin.1
 have ha:a<g.length:=by omega
 have hel:=ends_le hsm a
 have hrs':RS g from_ out (wait.take (wait.length-1)++[(a:Int)]):=by rw [← hw];exact hrs
 refine Zp J (Zn (Za (Zh (Zi (Zld ?_)))))
 refine Zld ?_
 refine Zv J J ?_
 first | refine oSub rfl rfl ZO ?_ | refine oSubW rfl rfl ?_
 refine ZS0 (t:=45) (v':=.int .i64 ((wait.length-1:Nat):Int)) J (by congr 1;omega) ?_
 refine oSliceTo J J ZO J ZP ?_
 refine Zst ?_
 refine Zn (Za (Zh (Zh (Zi (Zo J (Zo J (ZR J J ZP ZO J J (fun g49 hg49=>?_))))))))
 first | subst hg49 | (injection hg49 with hg49;injection hg49 with hg49;subst hg49)
 refine ZR1 J ZP ZO J (fun u50 hu50=>?_)
 refine Zn (Za (wC (fun h50=>?_) (fun h50=>?_)))
 refine Zm (Zb (Ze (Za ?_)))
 exact ⟨Ms,rfl,(out,wait.take (wait.length-1),some ⟨g40,0,none⟩,c3),⟨hrs'.skip (by rw [Int.toNat_natCast,hu50,h50]),by show (wait.take (wait.length-1)).length+falses out * 1000≤2000000;rw [hW];omega⟩,by show falses out * 1001+(wait.take (wait.length-1)).length<falses out * 1001+wait.length;rw [hW];omega,cv,by (try dsimp only);rw [hW];exact (Leads.has ZQ)⟩
 have hfs:=falses_set (out:=out) (a:=a) (by rw [hu50,h50])
 refine Zj (Za (Zh (Zi (Zo J (Zo J (ZR J J ZP ZO J J (fun g53 hg53=>?_)))))))
 first | subst hg53 | (injection hg53 with hg53;injection hg53 with hg53;subst hg53)
 refine oStR _ J J J J ZP (by first | omega | (simp only [List.length_set];omega)) ?_
 refine Zn (Za (Zzu ?_))
 (refine ZC0 rfl ZK (fun w hS=>frame hS ZQ (fun B' hB hS'=>ends_any hS' A g.length cp (a:Int))) ?_;rintro ⟨p2,p3⟩ -)
 refine Zn (Za (Zk ?_))
 refine wRange rfl rfl ZK (ends1 g A cp a p2 p3 hC ha) (by rintro _ h;obtain ⟨y,_,rfl⟩:=List.mem_map.1 h;rfl) rfl (ι:=Nat×Option Addr×Nat) (κ:=Unit) (fun j z=>z.1=j) (fun z=>[marksR Ms,row Kd.bool W0 4 (.slice (some ⟨g13,0,none⟩) g.length g.length) (out.set a true),blk b6 42 [.slice z.2.1 (wait.length-1+z.1) z.2.2],row (Kd.int .i64) W0 3 (.slice z.2.1 (wait.length-1+z.1) z.2.2) (wait.take (wait.length-1)++(endsOf g a).take z.1)]) (fun x z=>False) (fun x z=>[]) (0,some ⟨g40,0,none⟩,c3) rfl (by dsimp only;rw [List.take_zero,List.append_nil,Nat.add_zero];exact (Leads.has ZQ)) ?_ ?_ ?_
 intro lp4 B' R1 R2 j hj
 rintro ⟨i,A2,c2⟩ hB rfl
 dsimp only
 have hj':i<(endsOf g a).length:=by simpa using hj
 have hlt:(wait.take (wait.length-1)++(endsOf g a).take i).length=wait.length-1+i:=by rw [List.length_append,hW,List.length_take];omega
 have htk:wait.take (wait.length-1)++(endsOf g a).take i++[(endsOf g a)[i]]=wait.take (wait.length-1)++(endsOf g a).take (i+1):=by rw [List.append_assoc,List.take_succ_eq_append_getElem hj']
 rw [List.getElem_map]
 generalize (endsOf g a)[i]=x at *
 dsimp only [hand,intV]
 refine Zi (Zp J (Zn (aq_n ZP ?_)))
 refine Zk (Zi (Zld ?_))
 refine Zo J (oBuildSlice1 J J J J J ZP J (fun b60=>?_))
 refine oApp1 x J J J J ZP ZP J ZO J (fun g61 cp61=>?_)
 rw [hlt,htk]
 refine Zst ?_
 refine Zn (Zd (rq_n ?_))
 exact ⟨(i+1,some ⟨g61,0,none⟩,cp61),rfl,Lh⟩
 rintro ⟨i,A2,c2⟩ Dm4 h
 dsimp only at h
 rw [List.length_map] at h
 subst h
 dsimp only
 rw [List.take_length]
 try dsimp only
 refine Zd (Zd (Za ?_))
 exact ⟨Dm4 :: Ms,rfl,(out.set a true,wait.take (wait.length-1)++endsOf g a,A2,c2),⟨hrs'.take ZO,by show (wait.take (wait.length-1)++endsOf g a).length+falses (out.set a true) * 1000≤2000000;rw [List.length_append,hW];omega⟩,by show falses (out.set a true) * 1001+(wait.take (wait.length-1)++endsOf g a).length<falses out * 1001+wait.length;rw [List.length_append,hW];omega,cv,by (try dsimp only);rw [List.length_append,hW];exact (marks_push ZP ZP).trans Lh⟩
 rintro _ _ _ h;exact h.elim
 refine Zm (Zb (Zb (Ze (Za (Zh (Zi (Zo J (Zp J (Zn (Za (Zl (finMb_r (Ds:=Ms) J ZP (ResL.cons (ResR.tmp J) ResL.nil) ?_))))))))))))
 have hw0:wait=[]:=List.eq_nil_of_length_eq_zero ZO
 subst hw0
 exact ⟨(some ⟨g13,0,none⟩,g.length,out),⟨hrs.len,fun i=>⟨hrs.sound i,fun h=>by simpa using hrs.done _ h⟩⟩,rfl,Lh⟩
end Go.Proofs.YtogaiijhicfoaaaGreatG


/-
  The references' small ones: Few, Edge, Ints, In, Member.
-/
namespace Go.Proofs.YtogaiijhicfoaaaGreatG
set_option maxRecDepth 100000
set_option maxHeartbeats 4000000
open Go.RowKit Go.Proofs.YtogaiijhicfoaaaGreatK Go.Proofs.YtogaiijhicfoaaaGreatT Go.Proofs.YtogaiijhicfoaaaGreatL

def edgeF (g:Graph) (a b:Int):Bool:=decide (0≤a) && decide (a<(g.length:Int)) && decide (0≤b) && decide (b<(g.length:Int)) && decide (b ∈ g.getD a.toNat [])
theorem in_any {B:Base}{w:World}(hS:St B [] w) (A:Option Addr) (cp:Nat) (l:List Int) (hC:(Kd.int .i64).C B.e A l) (b:Int) :
 CW 152 #[.slice A l.length cp,.int .i64 b] w (Ret B (fun _:Unit=>True) (fun _=>.bool (decide (b ∈ l))) (fun _=>[])):=by
 have m0:=hC.1
 refine ZX Tryz.func152 hS ?_
 refine Zh (Zi (Zp J (Zn (Za (Zh (Zh (Zi (Zp J (Zn (Za (Zk (wLoop (ι:=Nat) (fun i=>[(0,.slice A l.length cp),(1,.int .i64 b),(5,.int .i64 (i:Int))]) (fun i=>[]) (fun i=>i≤l.length∧∀ j,j<i→l[j]?≠some b) (fun i=>l.length-i) 0 ?_ cv Lh ?_))))))))))))
 exact ⟨Nat.zero_le _,fun j hj=>by omega⟩
 rintro i ⟨hi,hs⟩
 try dsimp only
 refine Zh (Zh (Zi (Zo J (Zo J (Zv J J (Zx J J (Zn (Za (wC (fun h9=>?_) (fun h9=>?_))))))))))
 refine Zj (Za (Zh (Zk (Zh (Zi (Zo J (Zo J (oIdx J J (hC) J ZO J J (fun e14 u14 cs14 hu14 hk14 hc14=>?_)))))))))
 obtain rfl:=hk14
 refine Zlx hc14 ?_
 refine Zo J (Zy J J (Zn (Za (wC (fun h17=>?_) (fun h17=>?_)))))
 refine Zh (Zi (Zzb ?_))
 exact ⟨(),trivial,by rw [decide_eq_true (show b ∈ l by rw [← h17];exact List.mem_of_getElem? hu14)];rfl,Lh⟩
 refine Zj (Zzd ?_)
 refine Zp J (Zn (Za ?_))
 exact ⟨rfl,i+1,⟨by omega,fun j hj=>by
 by_cases e:j=i
 · subst e;rw [hu14];intro h;exact h17 (Option.some.inj h)
 · exact hs j ZO⟩,by omega,cv,Lh⟩
 refine Zm (Zzj ?_)
 exact ⟨(),trivial,by rw [decide_eq_false (show ¬ b ∈ l by intro h;obtain ⟨j,hj⟩:=List.mem_iff_getElem?.1 h;exact hs j (by have:=(List.getElem?_eq_some_iff.1 hj).1;omega) hj)];rfl,Lh⟩
theorem ints_any {B:Base}{w:World}(hS:St B [] w) (A:Option Addr) (cp:Nat) (l:List Int) (hC:(Kd.int .i64).C B.e A l) (A1:Option Addr) (cp1:Nat) (k:List Int) (hC1:(Kd.int .i64).C B.e A1 k) :
 CW 43 #[.slice A l.length cp,.slice A1 k.length cp1] w (Ret B (fun _:Unit=>True) (fun _=>.bool (decide (l=k))) (fun _=>[])):=by
 have m0:=hC.1
 have m1:=hC1.1
 refine ZX Tryz.func43 hS ?_
 refine Zh (Zi (Zp J (Zn (Za (Zh (Zh (Zi (Zo J (Zv J J (Zo J (Zv J J (Z0 J J (Zn (Za (wC (fun h10=>?_) (fun h10=>?_))))))))))))))))
 refine Zh (Zi (Zze ?_))
 exact ⟨(),trivial,by rw [decide_eq_false (show ¬ l=k by rintro rfl;exact h10 rfl)];rfl,Lh⟩
 refine Zj (Za (Zh (Zh (Zi (Zp J (Zn (Za (Zk (wLoop (ι:=Nat) (fun i=>[(0,.slice A l.length cp),(1,.slice A1 k.length cp1),(5,.int .i64 (i:Int))]) (fun i=>[]) (fun i=>i≤l.length∧∀ j,j<i→l[j]?=k[j]?) (fun i=>l.length-i) 0 ?_ cv Lh ?_)))))))))
 exact ⟨Nat.zero_le _,fun j hj=>by omega⟩
 rintro i ⟨hi,hs⟩
 try dsimp only
 refine Zh (Zh (Zi (Zo J (Zo J (Zv J J (Zx J J (Zn (Za (wC (fun h14=>?_) (fun h14=>?_))))))))))
 refine Zj (Za (Zh (Zk (Zh (wDraw2 J J [0,1,4,5] [2,3,6,7] 8 ZK J J J (fun w0=>?_))))))
 refine oIdx J J (hC) J ZO J J (fun e19 u19 cs19 hu19 hk19 hc19=>?_)
 obtain rfl:=hk19
 refine Zlx hc19 ?_
 refine oIdx J J (hC1) J ZO J J (fun e23 u23 cs23 hu23 hk23 hc23=>?_)
 obtain rfl:=hk23
 refine Zlx hc23 ?_
 refine oHead (Z0 J J (oNilT (Za (wC (fun h25=>?_) (fun h25=>?_)))))
 refine Zh (Zi (Zzb ?_))
 exact ⟨(),trivial,by rw [decide_eq_false (show ¬ l=k by rintro rfl;rw [hu19] at hu23;exact h25 (Option.some.inj hu23))];rfl,Lh⟩
 refine Zj (Zzd ?_)
 refine Zp J (Zn (Za ?_))
 exact ⟨rfl,i+1,⟨by omega,fun j hj=>by
 by_cases e:j=i
 · subst e;rw [hu19,hu23];congr 1;omega
 · exact hs j ZO⟩,by omega,cv,Lh⟩
 refine Zm (Zzj ?_)
 have hlk:l=k:=by
  apply List.ext_getElem?
  intro j
  rcases Nat.lt_or_ge j i with h | h
  · exact hs j h
  · rw [List.getElem?_eq_none ZO,List.getElem?_eq_none ZO]
 exact ⟨(),trivial,by rw [decide_eq_true hlk];rfl,Lh⟩
def memF (g:Graph) (ib:List Bool) (a:Int):Bool:=decide (0≤a) && decide (a<(g.length:Int)) && decide (a<(ib.length:Int)) && ib.getD a.toNat false
theorem member_any {B:Base}{w:World}(hS:St B [] w) (A:Option Addr) (cp:Nat) (g:Graph) (A1:Option Addr) (cp1:Nat) (ib:List Bool) (hC1:Kd.bool.C B.e A1 ib) (a:Int) :
 CW 161 #[.slice A g.length cp,.slice A1 ib.length cp1,.int .i64 a] w (Ret B (fun _:Unit=>True) (fun _=>.bool (memF g ib a)) (fun _=>[])):=by
 refine ZX Tryz.func161 hS ?_
 refine Zh (Zi (Zp J (Zn (Za (Zh (Zi (Zo J (Z2 J J (Zo J (ZS (ZT 9) (fun h9=>?_) (fun h9=>?_)))))))))))
 refine Zq J J (Zo J (Zq J J (Zo J (Zq J J (Zv J J (Zq J J (Zx J J (Zt J J (Zo J (ZS (ZT 15) (fun h15=>?_) (fun h15=>?_)))))))))))
 refine Zq J J (Zo J (Zq J J (Zo J (Zq J J (Zv J J (Zq J J (Zx J J (Zt J J (Zo J (ZS (ZT 21) (fun h21=>?_) (fun h21=>?_)))))))))))
 obtain ⟨a,rfl⟩:=Int.eq_ofNat_of_zero_le (show 0≤a by omega)
 refine Zq J J (Zo J (Zq J J (Zo J (Zq J J (oIdx J J (hC1) J ZO J J (fun e24 u24 cs24 hu24 hk24 hc24=>?_))))))
 obtain rfl:=hk24
 refine Zq J J (Zlx hc24 ?_)
 refine Zt J J (Zza ?_)
 exact ⟨(),trivial,by simp only [resVal,memF];congr 1;rw [Int.toNat_natCast,getD_at hu24,decide_eq_true (show (0:Int)≤a by omega),decide_eq_true ZO,decide_eq_true ZO];rfl,Lh⟩
 refine Zr J J J J (Zzp ?_)
 exact ⟨(),trivial,by simp [memF,resVal];omega,Lh⟩
 refine Zr J J J J (Zr J J J J (Zr J J J J (Zr J J J J (Zu J J (Zo J (Zr J J J J (Zzp ?_)))))))
 exact ⟨(),trivial,by simp [memF,resVal];omega,Lh⟩
 refine Zr J J J J (Zr J J J J (Zr J J J J (Zr J J J J (Zu J J (Zo J (Zr J J J J (Zr J J J J (Zr J J J J (Zr J J J J (Zu J J (Zo J (Zr J J J J (Zzp ?_)))))))))))))
 exact ⟨(),trivial,by simp [memF,resVal];omega,Lh⟩
end Go.Proofs.YtogaiijhicfoaaaGreatG


/-
  The reference's Reach.
-/
namespace Go.Proofs.YtogaiijhicfoaaaGreatG
set_option maxRecDepth 100000
set_option maxHeartbeats 4000000
open Go.RowKit Go.Proofs.YtogaiijhicfoaaaGreatK Go.Proofs.YtogaiijhicfoaaaGreatT Go.Proofs.YtogaiijhicfoaaaGreatL

def Tr (out:List Bool) (i:Nat):Prop:=out[i]?=some true
theorem Tr.set {out:List Bool}{i j:Nat}(h:Tr out i):Tr (out.set j true) i:=by
 unfold Tr at *
 rw [List.getElem?_set]
 split
 · rename_i e;subst e;have:=(List.getElem?_eq_some_iff.1 h).1;simp [this]
 · exact h
theorem Tr.self {out:List Bool}{j:Nat}(h:j<out.length):Tr (out.set j true) j:=by unfold Tr;simp [h]
theorem Tr.of_set {out:List Bool}{i j:Nat}(h:Tr (out.set j true) i):Tr out i∨i=j:=by
 unfold Tr at *
 rw [List.getElem?_set] at h
 split at h
 · rename_i e;exact .inr e.symm
 · exact .inl h
theorem Tr.set_same {out:List Bool}{j:Nat}(h:Tr out j):out.set j true=out:=by
 obtain ⟨hj,he⟩:=List.getElem?_eq_some_iff.1 h
 rw [← he];exact List.set_getElem_self hj
def Closed (g:Graph) (out:List Bool):Prop:=∀ a,Tr out a→∀ b ∈ endsOf g a,Tr out b.toNat
theorem falses_mono:∀ {old out:List Bool},old.length=out.length→(∀ i,Tr old i→Tr out i)→falses out≤falses old∧(∀ i,old[i]?=some false→Tr out i→falses out<falses old)
 | [],[],_,_=>⟨Nat.le_refl _,fun i h=>by simp at h⟩
 | a :: old,b :: out,hl,h=>by
  obtain ⟨h1,h2⟩:=falses_mono (old:=old) (out:=out) (by simpa using hl) (fun i hi=>by simpa [Tr] using h (i+1) (by simpa [Tr] using hi))
  have h0:=h 0
  simp only [Tr,List.getElem?_cons_zero,Option.some.injEq] at h0
  have e1:falses (a :: old)=falses old+(if a then 0 else 1):=by unfold falses;cases a <;> simp
  have e2:falses (b :: out)=falses out+(if b then 0 else 1):=by unfold falses;cases b <;> simp
  rw [e1,e2]
  refine ⟨?_,fun i hi ht=>?_⟩
  · cases a <;> cases b <;> simp_all <;> omega
  · cases i with
    | zero=>
     simp only [List.getElem?_cons_zero,Option.some.injEq,Tr] at hi ht
     subst hi ht
     simp;omega
    | succ i=>
     have:=h2 i (by simpa using hi) (by simpa [Tr] using ht)
     cases a <;> cases b <;> simp_all <;> omega
structure RI (g:Graph) (f:List Int) (out:List Bool):Prop where
  len:out.length=g.length
  sound:∀ i,Tr out i→RP g f (i:Int)
theorem RI.set {g:Graph}{f:List Int}{out:List Bool}{j:Nat}(h:RI g f out) (hj:RP g f (j:Int)):RI g f (out.set j true):=
 ⟨by rw [List.length_set];exact h.len,fun i hi=>by
  rcases hi.of_set with hi | rfl
  · exact h.sound i hi
  · exact hj⟩
def Starts (g:Graph) (f:List Int) (out:List Bool) (n:Nat):Prop:=∀ j x,j<n→f[j]?=some x→inG g x=true→Tr out x.toNat
theorem closed_of_none {g:Graph}{out:List Bool}(hl:out.length=g.length) (h:falses out=0):Closed g out:=by
 intro a _ b hb
 have hin:=inG_iff.1 (ends_in hb)
 unfold Tr
 rw [List.getElem?_eq_getElem (show b.toNat<out.length by omega)]
 congr 1
 unfold falses at h
 have:=List.filter_eq_nil_iff.1 (List.eq_nil_of_length_eq_zero h) _ (List.getElem_mem (show b.toNat<out.length by omega))
 simpa using this
theorem reach_iff {g:Graph}{f:List Int}{out:List Bool}(h:RI g f out) (hs:Starts g f out f.length) (hc:Closed g out):∀ i:Nat,Tr out i↔RP g f (i:Int):=by
 have key:∀ x,RP g f x→Tr out x.toNat:=by
  intro x hx
  induction hx with
  | start h1 h2=>
   obtain ⟨j,hj⟩:=List.mem_iff_getElem?.1 h1
   exact hs j _ (List.getElem?_eq_some_iff.1 hj).1 hj h2
  | step h1 h2 ih=>exact hc _ (by simpa using ih) _ h2
 exact fun i=>⟨h.sound i,fun hx=>by simpa using key _ hx⟩
structure Rd (g:Graph) (f:List Int) (old out:List Bool) (a:Nat):Prop where
  ri:RI g f out
  mono:∀ i,Tr old i→Tr out i
  done:∀ a',a'<a→Tr old a'→∀ b ∈ endsOf g a',Tr out b.toNat
  same:Closed g old→out=old
theorem Rd.set {g:Graph}{f:List Int}{old out:List Bool}{a:Nat}{x:Int}(h:Rd g f old out a) (ha:Tr out a) (hx:x ∈ endsOf g a):Rd g f old (out.set x.toNat true) a:=by
 have hin:=inG_iff.1 (ends_in hx)
 refine ⟨h.ri.set ?_,fun i hi=>(h.mono i hi).set,fun a' h1 h2 b hb=>(h.done a' h1 h2 b hb).set,fun hc=>?_⟩
 · rw [Int.toNat_of_nonneg hin.1];exact .step (h.ri.sound a ha) hx
 · have e:=h.same hc
   subst e
   exact Tr.set_same (hc a ha x hx)
theorem Rd.next {g:Graph}{f:List Int}{old out:List Bool}{a:Nat}(h:Rd g f old out a) (hd:¬ Tr out a∨∀ b ∈ endsOf g a,Tr out b.toNat):Rd g f old out (a+1):=by
 refine ⟨h.ri,h.mono,fun a' h1 h2 b hb=>?_,h.same⟩
 by_cases e:a'=a
 · subst e
   rcases hd with hd | hd
   · exact absurd (h.mono _ h2) hd
   · exact hd b hb
 · exact h.done a' ZO h2 b hb
theorem Rd.end {g:Graph}{f:List Int}{old out:List Bool}{n:Nat}(h:Rd g f old out g.length) (hl:old.length=g.length) (hr:Closed g old∨falses old+n≤g.length):Closed g out∨falses out+(n+1)≤g.length:=by
 by_cases hc:Closed g old
 · rw [h.same hc];exact .inl hc
 · right
   rcases hr with hr | hr
   · exact absurd hr hc
   · obtain ⟨a, ha, b, hb, hn⟩ : ∃ a, Tr old a ∧ ∃ b, b ∈ endsOf g a ∧ ¬ Tr old b.toNat := by
      apply Classical.byContradiction
      intro hne
      apply hc
      intro a ha b hb
      apply Classical.byContradiction
      intro hn
      exact hne ⟨a,ha,b,hb,hn⟩
     have hin:=inG_iff.1 (ends_in hb)
     have hal:a<g.length:=by rw [← hl];exact (List.getElem?_eq_some_iff.1 ha).1
     have hbl:b.toNat<old.length:=by omega
     have hbf:old[b.toNat]?=some false:=by
      unfold Tr at hn
      rw [List.getElem?_eq_getElem hbl] at hn ⊢
      cases hv:old[b.toNat] with
      | true=>rw [hv] at hn;exact absurd rfl hn
      | false=>rfl
     have:=(falses_mono (by rw [hl,h.ri.len]) h.mono).2 _ hbf (h.done a hal ha b hb)
     omega
theorem refReach {B:Base}{w:World}(hS:St B [] w) (g:Graph) (A:Option Addr) (cp:Nat) (hC:kII.C B.e A g) (hsm:SmallG g) (f:List Int) (A1:Option Addr) (cp1:Nat) (hC1:(Kd.int .i64).C B.e A1 f) (W0:World) :
 CW 91 #[.slice A g.length cp,.slice A1 f.length cp1] w
  (Ret B (fun z:Option Addr×Nat×List Bool=>z.2.2.length=g.length∧∀ i:Nat,z.2.2[i]?=some true↔RP g f (i:Int)) (fun z=>.slice z.1 g.length z.2.1) (fun z=>[row Kd.bool W0 4 (.slice z.1 g.length z.2.1) z.2.2])):=by
 have hn:=hsm.1
 have m1:=hC1.1
 refine ZX Tryz.func91 hS ?_
 refine Zh (Zi (Zp J (Zn (Za (Zh (Zi (Zo J (Zv J J (oMake (kd:=Kd.bool) (W:=W0) false J J J J J J ZO J (fun g12=>?_))))))))))
 refine Zp J (Zn (Za (Zh (Zh (Zi (Zp J (Zn (Za (Zk (wLoop (ι:=Nat×List Bool) (fun z=>[(0,.slice A g.length cp),(1,.slice A1 f.length cp1),(5,.slice (some ⟨g12,0,none⟩) g.length g.length),(6,.int .i64 (z.1:Int))]) (fun z=>[row Kd.bool W0 4 (.slice (some ⟨g12,0,none⟩) g.length g.length) z.2]) (fun z=>z.1≤f.length∧RI g f z.2∧Starts g f z.2 z.1) (fun z=>f.length-z.1) (0,List.replicate g.length false) ?_ cv Lh ?_))))))))))
 exact ⟨Nat.zero_le _,⟨by simp,fun i h=>by unfold Tr at h;rw [List.getElem?_replicate] at h;split at h <;> simp at h⟩,fun j x h=>by omega⟩
 rintro ⟨i,out⟩ ⟨hi,hri,hst⟩
 dsimp only at hi hri hst
 have hol:=hri.len
 try dsimp only
 refine Zh (Zh (Zi (Zo J (Zo J (Zv J J (Zx J J (Zn (Za (wC (fun h16=>?_) (fun h16=>?_))))))))))
 refine Zj (Za (Zh (Zk (Zh (Zi (Zo J (Zo J (oIdx J J (hC1) J ZO J J (fun e21 u21 cs21 hu21 hk21 hc21=>?_)))))))))
 obtain rfl:=hk21
 refine Zlx hc21 ?_
 refine Z2 J J (Zo J (ZS (ZT 24) (fun h24=>?_) (fun h24=>?_)))
 refine Zq J J (Zo J (Zq J J (Zo J (Zq J J (oIdx J J (hC1) J ZO J J (fun e27 u27 cs27 hu27 hk27 hc27=>?_))))))
 obtain rfl:=hk27
 obtain rfl:=Option.some.inj (hu21.symm.trans hu27)
 refine Zq J J (Zlx hc27 ?_)
 refine Zq J J (Zo J (Zq J J (Zv J J (Zq J J (Zx J J (Zt J J (Zn (Za (wC (fun h32=>?_) (fun h32=>?_))))))))))
 refine Zi (Zo J (Zo J (Zo J (oIdx J J (hC1) J ZO J J (fun e36 u36 cs36 hu36 hk36 hc36=>?_)))))
 obtain rfl:=hk36
 obtain rfl:=Option.some.inj (hu21.symm.trans hu36)
 refine Zlx hc36 ?_
 refine ZS0 (t:=37) (v':=.int .i64 ((u21.toNat:Nat):Int)) rfl (by rw [Int.toNat_of_nonneg h24]) ?_
 refine ZR J J ZP ZO J J (fun g38 hg38=>?_)
 first | subst hg38 | (injection hg38 with hg38;injection hg38 with hg38;subst hg38)
 refine oStR _ J J J J ZP (by first | omega | (simp only [List.length_set];omega)) ?_
 refine Zn (Zzd ?_)
 refine Zp J (Zn (Za ?_))
 exact ⟨rfl,(i+1,out.set u21.toNat true),⟨by show i+1≤_;omega,hri.set (by rw [Int.toNat_of_nonneg h24];exact .start (List.mem_of_getElem? hu21) (by simp [inG];omega)),fun j x hj hx hin=>by
 by_cases e:j=i
 · subst e;obtain rfl:=Option.some.inj (hu21.symm.trans hx);exact Tr.self ZO
 · exact (hst j x ZO hx hin).set⟩,by show f.length-(i+1)<f.length-i;omega,cv,Lh⟩
 refine Zj (Zzd ?_)
 refine Zp J (Zn (Za ?_))
 exact ⟨rfl,(i+1,out),⟨by show i+1≤_;omega,hri,fun j x hj hx hin=>by
 by_cases e:j=i
 · subst e;obtain rfl:=Option.some.inj (hu21.symm.trans hx);rw [inG_iff] at hin;omega
 · exact hst j x ZO hx hin⟩,by show f.length-(i+1)<f.length-i;omega,cv,Lh⟩
 refine Zr J J J J (Zr J J J J (Zr J J J J (Zr J J J J (Zr J J J J (Zr J J J J (Zr J J J J (Zu J J (Zn (Za (wCondF J (Zj (Zzd ?_))))))))))))
 refine Zp J (Zn (Za ?_))
 exact ⟨rfl,(i+1,out),⟨by show i+1≤_;omega,hri,fun j x hj hx hin=>by
 by_cases e:j=i
 · subst e;obtain rfl:=Option.some.inj (hu21.symm.trans hx);rw [inG_iff] at hin;omega
 · exact hst j x ZO hx hin⟩,by show f.length-(i+1)<f.length-i;omega,cv,Lh⟩
 obtain rfl:i=f.length:=by omega
 refine Zm (Zb (Zb (Ze (Za (Zh (Zh (Zi (Zp J (Zn (Za (Zk (wLoop (ι:=Nat×List Bool) (fun z=>[(0,.slice A g.length cp),(5,.slice (some ⟨g12,0,none⟩) g.length g.length),(7,.int .i64 (z.1:Int))]) (fun z=>[row Kd.bool W0 4 (.slice (some ⟨g12,0,none⟩) g.length g.length) z.2]) (fun z=>z.1≤g.length∧RI g f z.2∧Starts g f z.2 f.length∧(Closed g z.2∨falses z.2+z.1≤g.length)) (fun z=>g.length-z.1) (0,out) ?_ cv Lh ?_))))))))))))
 exact ⟨Nat.zero_le _,hri,hst,.inr (by have:=falses_le out;show falses out+0≤_;omega)⟩
 rintro ⟨r,old⟩ ⟨hr,hri2,hst2,hcl⟩
 dsimp only at hr hri2 hst2 hcl
 try dsimp only
 refine Zh (Zh (Zi (Zo J (Zo J (Zv J J (Zx J J (Zn (Za (wC (fun h42=>?_) (fun h42=>?_))))))))))
 refine Zj (Za (Zh (Zk (Zh (Zi (Zp J (Zn (Za (Zk (wLoop (ι:=Nat×List Bool) (fun z=>[(0,.slice A g.length cp),(5,.slice (some ⟨g12,0,none⟩) g.length g.length),(7,.int .i64 (r:Int)),(8,.int .i64 (z.1:Int))]) (fun z=>[row Kd.bool W0 4 (.slice (some ⟨g12,0,none⟩) g.length g.length) z.2]) (fun z=>z.1≤g.length∧Rd g f old z.2 z.1) (fun z=>g.length-z.1) (0,old) ?_ cv Lh ?_))))))))))
 exact ⟨Nat.zero_le _,hri2,fun _ h=>h,fun a' h=>by omega,fun _=>rfl⟩
 rintro ⟨a,out4⟩ ⟨ha,hrd⟩
 dsimp only at ha hrd
 try dsimp only
 refine Zh (Zh (Zi (Zo J (Zo J (Zv J J (Zx J J (Zn (Za (wC (fun h48=>?_) (fun h48=>?_))))))))))
 refine Zj (Za (Zh (Zk (Zh (Zi (Zp J (Zn (Za (Zk (wLoop (ι:=Nat×List Bool) (fun z=>[(0,.slice A g.length cp),(5,.slice (some ⟨g12,0,none⟩) g.length g.length),(7,.int .i64 (r:Int)),(8,.int .i64 (a:Int)),(9,.int .i64 (z.1:Int))]) (fun z=>[row Kd.bool W0 4 (.slice (some ⟨g12,0,none⟩) g.length g.length) z.2]) (fun z=>z.1≤(g.getD a []).length∧Rd g f old z.2 a∧∀ j x,j<z.1→(g.getD a [])[j]?=some x→inG g x=true→Tr z.2 x.toNat) (fun z=>(g.getD a []).length-z.1) (0,out4) ?_ cv Lh ?_))))))))))
 exact ⟨Nat.zero_le _,hrd,fun j x h=>by omega⟩
 rintro ⟨i,out6⟩ ⟨hi6,hrd6,hds⟩
 dsimp only at hi6 hrd6 hds
 have hol:=hrd6.ri.len
 try dsimp only
 refine Zh (Zh (Zi (Zo J (Zo J (ZR J J ZP ZO J J (fun g53 hg53=>?_))))))
 first | subst hg53 | (injection hg53 with hg53;injection hg53 with hg53;subst hg53)
 refine ZR1 J ZP ZO J (fun u54 hu54=>?_)
 refine Zo J (ZS (ZT 55) (fun h55=>?_) (fun h55=>?_))
 refine Zq J J (Zo J (Zq J J (Zo J (Zq J J (Zo J (Zq J J (oIdx J J (hC) J ZO J J (fun e59 u59 cs59 hu59 hk59 hc59=>?_))))))))
 obtain ⟨A0,c0,rfl,hle59,g0⟩:=hk59
 have hbig:=g0.1
 refine Zq J J (Zlx hc59 ?_)
 refine Zq J J (Zv J J (Zq J J (Zx J J (Zt J J (Zn (Za (wC (fun h63=>?_) (fun h63=>?_))))))))
 refine Zj (Za (Zh (Zk (Zh (Zi (Zo J (Zo J (oIdx J J (hC) J ZO J J (fun e68 u68 cs68 hu68 hk68 hc68=>?_)))))))))
 obtain ⟨A0,c0,rfl,hle68,g0⟩:=hk68
 have hbig:=g0.1
 obtain rfl:=Option.some.inj (hu59.symm.trans hu68)
 refine Zlx hc68 ?_
 refine Zo J (oIdx J J (g0) J ZO J J (fun e71 u71 cs71 hu71 hk71 hc71=>?_))
 obtain rfl:=hk71
 refine Zlx hc71 ?_
 refine Z2 J J (Zo J (ZS (ZT 74) (fun h74=>?_) (fun h74=>?_)))
 refine Zq J J (Zo J (Zq J J (Zo J (Zq J J (oIdx J J (hC) J ZO J J (fun e77 u77 cs77 hu77 hk77 hc77=>?_))))))
 obtain ⟨A0,c0,rfl,hle77,g0⟩:=hk77
 have hbig:=g0.1
 obtain rfl:=Option.some.inj (hu59.symm.trans hu77)
 refine Zq J J (Zlx hc77 ?_)
 refine Zq J J (Zo J (Zq J J (oIdx J J (g0) J ZO J J (fun e80 u80 cs80 hu80 hk80 hc80=>?_))))
 obtain rfl:=hk80
 obtain rfl:=Option.some.inj (hu71.symm.trans hu80)
 refine Zq J J (Zlx hc80 ?_)
 refine Zq J J (Zo J (Zq J J (Zv J J (Zq J J (Zx J J (Zt J J (Zn (Za (wC (fun h85=>?_) (fun h85=>?_))))))))))
 refine Zi (Zo J (Zo J (Zo J (oIdx J J (hC) J ZO J J (fun e89 u89 cs89 hu89 hk89 hc89=>?_)))))
 obtain ⟨A0,c0,rfl,hle89,g0⟩:=hk89
 have hbig:=g0.1
 obtain rfl:=Option.some.inj (hu59.symm.trans hu89)
 refine Zlx hc89 ?_
 refine Zo J (oIdx J J (g0) J ZO J J (fun e92 u92 cs92 hu92 hk92 hc92=>?_))
 obtain rfl:=hk92
 obtain rfl:=Option.some.inj (hu71.symm.trans hu92)
 refine Zlx hc92 ?_
 refine ZS0 (t:=93) (v':=.int .i64 ((u71.toNat:Nat):Int)) rfl (by rw [Int.toNat_of_nonneg h74]) ?_
 refine ZR J J ZP ZO J J (fun g94 hg94=>?_)
 first | subst hg94 | (injection hg94 with hg94;injection hg94 with hg94;subst hg94)
 refine oStR _ J J J J ZP (by first | omega | (simp only [List.length_set];omega)) ?_
 refine Zn (Zzd ?_)
 refine Zp J (Zn (Za ?_))
 have hmem:u71 ∈ endsOf g a:=by unfold endsOf;rw [getD_at hu59];exact List.mem_filter.2 ⟨List.mem_of_getElem? hu71,by simp [inG];omega⟩
 have hta:Tr out6 a:=by unfold Tr;rw [hu54,h55]
 exact ⟨rfl,(i+1,out6.set u71.toNat true),⟨by rw [getD_at hu59];show i+1≤_;omega,hrd6.set hta hmem,fun j x hj hx hin=>by
 rw [getD_at hu59] at hx
 by_cases e:j=i
 · subst e;obtain rfl:=Option.some.inj (hu71.symm.trans hx);exact Tr.self ZO
 · exact (hds j x ZO (by rw [getD_at hu59];exact hx) hin).set⟩,by rw [getD_at hu59];show u59.length-(i+1)<u59.length-i;omega,cv,Lh⟩
 refine Zj (Zzd ?_)
 refine Zp J (Zn (Za ?_))
 exact ⟨rfl,(i+1,out6),⟨by rw [getD_at hu59];show i+1≤_;omega,hrd6,fun j x hj hx hin=>by
 rw [getD_at hu59] at hx
 by_cases e:j=i
 · subst e;obtain rfl:=Option.some.inj (hu71.symm.trans hx);rw [inG_iff] at hin;omega
 · exact hds j x ZO (by rw [getD_at hu59];exact hx) hin⟩,by rw [getD_at hu59];show u59.length-(i+1)<u59.length-i;omega,cv,Lh⟩
 refine Zr J J J J (Zr J J J J (Zr J J J J (Zr J J J J (Zr J J J J (Zr J J J J (Zr J J J J (Zr J J J J (Zr J J J J (Zr J J J J (Zu J J (Zn (Za (wCondF J (Zj (Zzd ?_)))))))))))))))
 refine Zp J (Zn (Za ?_))
 exact ⟨rfl,(i+1,out6),⟨by rw [getD_at hu59];show i+1≤_;omega,hrd6,fun j x hj hx hin=>by
 rw [getD_at hu59] at hx
 by_cases e:j=i
 · subst e;obtain rfl:=Option.some.inj (hu71.symm.trans hx);rw [inG_iff] at hin;omega
 · exact hds j x ZO (by rw [getD_at hu59];exact hx) hin⟩,by rw [getD_at hu59];show u59.length-(i+1)<u59.length-i;omega,cv,Lh⟩
 refine Zm (Zb (Zb (Ze (Zzd ?_))))
 refine Zp J (Zn (Za ?_))
 exact ⟨rfl,(a+1,out6),⟨by show a+1≤_;omega,hrd6.next (.inr fun b hb=>by
 have hb':=List.mem_filter.1 hb
 rw [getD_at hu59] at hb'
 obtain ⟨j,hj⟩:=List.mem_iff_getElem?.1 hb'.1
 exact hds j b (by have:=(List.getElem?_eq_some_iff.1 hj).1;omega) (by rw [getD_at hu59];exact hj) hb'.2)⟩,by show g.length-(a+1)<g.length-a;omega,cv,Lh⟩
 refine Zr J J J J (Zr J J J J (Zr J J J J (Zr J J J J (Zr J J J J (Zr J J J J (Zr J J J J (Zu J J (Zn (Za (wCondF J (Zm (Zb (Zb (Ze (Zzd ?_)))))))))))))))
 refine Zp J (Zn (Za ?_))
 exact ⟨rfl,(a+1,out6),⟨by show a+1≤_;omega,hrd6.next (.inl fun h=>by have:=h.symm.trans hu54;simp_all)⟩,by show g.length-(a+1)<g.length-a;omega,cv,Lh⟩
 obtain rfl:a=g.length:=by omega
 refine Zm (Zb (Zb (Ze (Zzd ?_))))
 refine Zp J (Zn (Za ?_))
 exact ⟨rfl,(r+1,out4),⟨by show r+1≤_;omega,hrd.ri,fun j x hj hx hin=>hrd.mono _ (hst2 j x hj hx hin),hrd.end hri2.len hcl⟩,by show g.length-(r+1)<g.length-r;omega,cv,Lh⟩
 obtain rfl:r=g.length:=by omega
 refine Zm (Zzf ?_)
 have hcl':Closed g old:=by
  rcases hcl with h | h
  · exact h
  · exact closed_of_none hri2.len ZO
 exact ⟨(some ⟨g12,0,none⟩,g.length,old),⟨hri2.len,reach_iff hri2 hst2 hcl'⟩,rfl,Lh⟩
end Go.Proofs.YtogaiijhicfoaaaGreatG


/-
  Graphs within members: the reference's Within and On.
-/
namespace Go.Proofs.YtogaiijhicfoaaaGreatG
set_option maxRecDepth 100000
set_option maxHeartbeats 4000000
open Go.RowKit Go.Proofs.YtogaiijhicfoaaaGreatK Go.Proofs.YtogaiijhicfoaaaGreatT Go.Proofs.YtogaiijhicfoaaaGreatL

def inP (g:Graph) (ib:List Bool) (a:Nat) (x:Int):Bool:=memF g ib (a:Int) && memF g ib x
def withinR (g:Graph) (ib:List Bool):Graph:=(List.range g.length).map fun a=>(g.getD a []).filter (inP g ib a)
theorem withinR_len (g:Graph) (ib:List Bool):(withinR g ib).length=g.length:=by simp [withinR]
theorem withinR_at {g:Graph}{ib:List Bool}{a:Nat}{u:List Int}(hu:g[a]?=some u):(withinR g ib)[a]?=some (u.filter (inP g ib a)):=by
 have ha:=(List.getElem?_eq_some_iff.1 hu).1
 simp [withinR,ha]
 rw [(List.getElem?_eq_some_iff.1 hu).2]
theorem take_at {α:Type}{l:List α}{a:Nat}{u:α}(hu:l[a]?=some u):l.take a++[u]=l.take (a+1):=by
 obtain ⟨ha,rfl⟩:=List.getElem?_eq_some_iff.1 hu
 exact (List.take_succ_eq_append_getElem ha).symm
theorem withinR_small {g:Graph}{ib:List Bool}(h:SmallG g):SmallG (withinR g ib):=by
 refine ⟨by rw [withinR_len];exact h.1,fun l hl=>?_⟩
 obtain ⟨a,ha,rfl⟩:=List.mem_map.1 hl
 refine Nat.le_trans (List.length_filter_le _ _) ?_
 have ha:=List.mem_range.1 ha
 rw [getD_at (List.getElem?_eq_getElem ha)]
 exact h.2 _ (List.getElem_mem ha)

theorem refWithin {B:Base}{w:World}(hS:St B [] w) (g:Graph) (A:Option Addr) (cp:Nat) (hC:kII.C B.e A g) (hsm:SmallG g) (ib:List Bool) (A1:Option Addr) (cp1:Nat) (hC1:Kd.bool.C B.e A1 ib) (W0:World) :
 CW 160 #[.slice A g.length cp,.slice A1 ib.length cp1] w
  (Ret B (fun z:Option Addr×Nat×List Hdr=>z.2.2.length=g.length) (fun z=>.slice z.1 g.length z.2.1) (fun z=>[row kHdr W0 42 (.slice z.1 g.length z.2.1) z.2.2,bun (rws (Kd.int .i64) W0 3 z.2.2 (withinR g ib))])):=by
 have hn:=hsm.1
 refine ZX Tryz.func160 hS ?_
 refine Zh (Zi (Zp J (Zn (Za (Zh (Zi (Zp J (Zn (Za (Zh (Zh (Zi (Zp J (Zn (Za (Zk (wLoop (ι:=Nat×List Hdr×Option Addr×Nat) (fun z=>[(0,.slice A g.length cp),(1,.slice A1 ib.length cp1),(5,.slice z.2.2.1 z.1 z.2.2.2),(6,.int .i64 (z.1:Int))]) (fun z=>[row kHdr W0 42 (.slice z.2.2.1 z.1 z.2.2.2) z.2.1,bun (rws (Kd.int .i64) W0 3 z.2.1 ((withinR g ib).take z.1))]) (fun z=>z.1≤g.length∧z.2.1.length=z.1) (fun z=>g.length-z.1) (0,[],none,0) ?_ cv (Leads.nilrow.trans (bun_nil.trans Lh)) ?_)))))))))))))))))
 exact ⟨Nat.zero_le _,rfl⟩
 rintro ⟨a,hs,A5,c5⟩ ⟨ha,hl⟩
 dsimp only at ha hl
 have hxl:((withinR g ib).take a).length=a:=by rw [List.length_take,withinR_len];omega
 try dsimp only
 refine Zh (Zh (Zi (Zo J (Zo J (Zv J J (Zx J J (Zn (Za (wC (fun h12=>?_) (fun h12=>?_))))))))))
 refine Zj (Za (Zh (Zk (Zh (Zi (Zp J (Zn (Za (Zh (Zh (Zi (Zp J (Zn (Za (Zk (wLoop (ι:=Nat×Option Addr×Nat) (fun z=>[(0,.slice A g.length cp),(1,.slice A1 ib.length cp1),(5,.slice A5 a c5),(6,.int .i64 (a:Int)),(7,.slice z.2.1 (((g.getD a []).take z.1).filter (inP g ib a)).length z.2.2),(8,.int .i64 (z.1:Int))]) (fun z=>[row kHdr W0 42 (.slice A5 a c5) hs,bun (rws (Kd.int .i64) W0 3 hs ((withinR g ib).take a)),row (Kd.int .i64) W0 3 (.slice z.2.1 (((g.getD a []).take z.1).filter (inP g ib a)).length z.2.2) (((g.getD a []).take z.1).filter (inP g ib a))]) (fun z=>z.1≤(g.getD a []).length) (fun z=>(g.getD a []).length-z.1) (0,none,0) ?_ cv (Leads.nilrow.trans Lh) ?_))))))))))))))))
 exact Nat.zero_le _
 rintro ⟨i,A7,c7⟩ hi
 dsimp only at hi
 try dsimp only
 refine Zh (Zh (Zi (Zo J (Zo J (Zo J (oIdx J J (hC) J ZO J J (fun e18 u18 cs18 hu18 hk18 hc18=>?_)))))))
 obtain ⟨A0,c0,rfl,hle18,g0⟩:=hk18
 have hbig:=hsm.2 _ (List.mem_of_getElem? hu18)
 rw [getD_at hu18] at hi ⊢
 have hfl:((u18.take i).filter (inP g ib a)).length≤1000:=Nat.le_trans (List.length_filter_le _ _) (by rw [List.length_take];omega)
 refine Zlx hc18 ?_
 refine Zv J J (Zx J J (Zn (Za (wC (fun h21=>?_) (fun h21=>?_)))))
 have hft:=filter_take (P:=inP g ib a) (List.getElem?_eq_getElem (show i<u18.length by omega))
 refine Zj (Za (Zh (Zk (Zzv ?_))))
 (refine ZC0 rfl ZK (fun w hS=>frame hS ZQ (fun B' hB hS'=>member_any hS' A cp g A1 cp1 ib (Kd.C_grow hB hC1) (a:Int))) ?_;rintro ⟨⟩ -)
 refine Zo J (ZS (ZT 28) (fun h28=>?_) (fun h28=>?_))
 refine Zq J J (Zo J (Zq J J (Zo J (Zq J J (Zo J (Zq J J (Zo J (Zq J J (oIdx J J (hC) J ZO J J (fun e33 u33 cs33 hu33 hk33 hc33=>?_))))))))))
 obtain ⟨A0,c0,rfl,hle33,g0⟩:=hk33
 have hbig:=hsm.2 _ (List.mem_of_getElem? hu33)
 obtain rfl:=Option.some.inj (hu18.symm.trans hu33)
 refine Zq J J (Zlx hc33 ?_)
 refine Zq J J (Zo J (Zq J J (oIdx J J (g0) J ZO J J (fun e36 u36 cs36 hu36 hk36 hc36=>?_))))
 obtain rfl:=hk36
 refine Zq J J (Zlx hc36 ?_)
 refine Zq J J ?_
 (refine ZC0 rfl ZK (fun w hS=>frame hS ZQ (fun B' hB hS'=>member_any hS' A cp g A1 cp1 ib (Kd.C_grow hB hC1) u36)) ?_;rintro ⟨⟩ -)
 refine Zt J J (Zn (Za (wC (fun h39=>?_) (fun h39=>?_))))
 refine Zi (Zo J (Zo J (Zo J (oIdx J J (hC) J ZO J J (fun e43 u43 cs43 hu43 hk43 hc43=>?_)))))
 obtain ⟨A0,c0,rfl,hle43,g0⟩:=hk43
 have hbig:=hsm.2 _ (List.mem_of_getElem? hu43)
 obtain rfl:=Option.some.inj (hu18.symm.trans hu43)
 refine Zlx hc43 ?_
 refine Zo J (oIdx J J (g0) J ZO J J (fun e46 u46 cs46 hu46 hk46 hc46=>?_))
 obtain rfl:=hk46
 obtain rfl:=Option.some.inj (hu36.symm.trans hu46)
 rw [if_pos (by rw [(List.getElem?_eq_some_iff.1 hu36).2];simp [inP,h28,h39]),(List.getElem?_eq_some_iff.1 hu36).2] at hft
 refine Zlx hc46 ?_
 refine oBuildSlice1 J J J J J ZP J (fun b48=>?_)
 refine oApp1 u36 J J J J ZP ZP J ZO J (fun g49 cp49=>?_)
 rw [show ((u18.take i).filter (inP g ib a)).length+1=((u18.take (i+1)).filter (inP g ib a)).length by rw [hft,List.length_append];rfl,← hft]
 refine Zp J (Zn (Zzd ?_))
 refine Zp J (Zn (Za ?_))
 exact ⟨rfl,(i+1,some ⟨g49,0,none⟩,cp49),by show i+1≤_;omega,by show u18.length-(i+1)<u18.length-i;omega,cv,Lh⟩
 have hft':(u18.take (i+1)).filter (inP g ib a)=(u18.take i).filter (inP g ib a):=by rw [hft,if_neg (by rw [(List.getElem?_eq_some_iff.1 hu36).2];simp [inP,h39]),List.append_nil]
 refine Zj (Zzd ?_)
 refine Zp J (Zn (Za ?_))
 exact ⟨rfl,(i+1,A7,c7),by show i+1≤_;omega,by show u18.length-(i+1)<u18.length-i;omega,by dsimp only;rw [hft'];exact cv,by dsimp only;rw [hft'];exact (Leads.has ZQ)⟩
 have hft':(u18.take (i+1)).filter (inP g ib a)=(u18.take i).filter (inP g ib a):=by rw [hft,if_neg (by simp [inP,h28]),List.append_nil]
 refine Zr J J J J (Zr J J J J (Zr J J J J (Zr J J J J (Zr J J J J (Zr J J J J (Zr J J J J (Zr J J J J (Zr J J J J (Zr J J J J (Zu J J (Zn (Za (wCondF J (Zj (Zzd ?_)))))))))))))))
 refine Zp J (Zn (Za ?_))
 exact ⟨rfl,(i+1,A7,c7),by show i+1≤_;omega,by show u18.length-(i+1)<u18.length-i;omega,by dsimp only;rw [hft'];exact cv,by dsimp only;rw [hft'];exact (Leads.has ZQ)⟩
 obtain rfl:i=u18.length:=by omega
 rw [List.take_length]
 refine Zm (Zb (Zb (Ze (Za (Zi (Zo J (Zo J (oBuildSlice1 J J J J J ZP J (fun b52=>?_)))))))))
 refine oApp1 (kd:=kHdr) ((A7,(u18.filter (inP g ib a)).length,c7):Hdr) J J J J ZP ZP J ZO J (fun g53 cp53=>?_)
 refine oSnoc (kd:=Kd.int .i64) (W:=W0) (ei:=3) (u:=(A7,(u18.filter (inP g ib a)).length,c7)) (l:=u18.filter (inP g ib a)) (hs:=hs) (xss:=(withinR g ib).take a) ZP ZP ZO ?_
 rw [take_at (withinR_at hu18),hl]
 refine Zp J (Zn (Zzd ?_))
 refine Zp J (Zn (Za ?_))
 exact ⟨rfl,(a+1,hs++[(A7,(u18.filter (inP g ib a)).length,c7)],some ⟨g53,0,none⟩,cp53),⟨by show a+1≤_;omega,by show (hs++_).length=a+1;rw [List.length_append,hl];rfl⟩,by show g.length-(a+1)<g.length-a;omega,cv,Lh⟩
 obtain rfl:a=g.length:=by omega
 rw [show (withinR g ib).take g.length=withinR g ib by rw [← withinR_len g ib,List.take_length]]
 refine Zm (Zzf ?_)
 exact ⟨(A5,c5,hs),hl,rfl,Lh⟩
end Go.Proofs.YtogaiijhicfoaaaGreatG


/-
  Package cycle: within.
-/
namespace Go.Proofs.YtogaiijhicfoaaaGreatG
set_option maxRecDepth 100000
set_option maxHeartbeats 4000000
open Go.RowKit Go.Proofs.YtogaiijhicfoaaaGreatK Go.Proofs.YtogaiijhicfoaaaGreatT Go.Proofs.YtogaiijhicfoaaaGreatL

def memL (g:Graph) (ib:List Bool):List Bool:=ib.take g.length++(List.replicate g.length false).drop ib.length
theorem memL_len (g:Graph) (ib:List Bool):(memL g ib).length=g.length:=by unfold memL;rw [List.length_append,List.length_take,List.length_drop,List.length_replicate];omega
theorem memL_at {g:Graph}{ib:List Bool}{a:Nat}{u:Bool}(hu:(memL g ib)[a]?=some u):u=memF g ib (a:Int):=by
 have ha:a<g.length:=by rw [← memL_len g ib];exact (List.getElem?_eq_some_iff.1 hu).1
 unfold memL at hu
 unfold memF
 rw [decide_eq_true (show (0:Int)≤a by omega),decide_eq_true (show (a:Int)<g.length by omega),Int.toNat_natCast]
 by_cases hb:a<ib.length
 · rw [List.getElem?_append_left (by rw [List.length_take];omega),List.getElem?_take,if_pos ha] at hu
   rw [decide_eq_true (show (a:Int)<ib.length by omega),getD_at hu];rfl
 · rw [List.getElem?_append_right (by rw [List.length_take];omega),List.getElem?_drop,List.getElem?_replicate] at hu
   rw [decide_eq_false (show ¬ (a:Int)<ib.length by omega)]
   split at hu
   · injection hu with hu;exact hu.symm
   · cases hu
def wp (g:Graph) (ib:List Bool) (a:Nat):List Int:=(cl g a).filter (inP g ib a)
def withinP (g:Graph) (ib:List Bool):Graph:=(List.range g.length).map (wp g ib)
def withinTo (g:Graph) (ib:List Bool) (a:Nat):Graph:=(List.range g.length).map fun i=>if i<a then wp g ib i else []
theorem withinP_len (g:Graph) (ib:List Bool):(withinP g ib).length=g.length:=by simp [withinP]
theorem withinTo_len (g:Graph) (ib:List Bool) (a:Nat):(withinTo g ib a).length=g.length:=by simp [withinTo]
theorem withinTo_zero (g:Graph) (ib:List Bool):withinTo g ib 0=List.replicate g.length []:=by
 apply List.ext_getElem?
 intro i
 unfold withinTo
 rw [List.getElem?_map,List.getElem?_replicate]
 by_cases h:i<g.length
 · simp [h]
 · simp [h]
theorem withinTo_all (g:Graph) (ib:List Bool):withinTo g ib g.length=withinP g ib:=by
 apply List.map_congr_left
 intro i hi
 rw [if_pos (List.mem_range.1 hi)]
theorem withinTo_at {g:Graph}{ib:List Bool}{a:Nat}(h:a<g.length):(withinTo g ib a)[a]?=some []:=by simp [withinTo,h]
theorem withinTo_succ {g:Graph}{ib:List Bool}{a:Nat}(h:a<g.length):(withinTo g ib a).set a (wp g ib a)=withinTo g ib (a+1):=by
 apply List.ext_getElem?
 intro i
 rw [List.getElem?_set]
 by_cases e:a=i
 · subst e;simp [withinTo,h]
 · rw [if_neg e]
   unfold withinTo
   rw [List.getElem?_map,List.getElem?_map]
   cases hr:(List.range g.length)[i]? with
   | none=>rfl
   | some j=>
    obtain ⟨hi,rfl⟩:=List.getElem?_eq_some_iff.1 hr
    simp only [List.getElem_range,Option.map_some,Option.some.injEq]
    by_cases h1:i<a
    · rw [if_pos h1,if_pos ZO]
    · rw [if_neg h1,if_neg ZO]
theorem set_nil {α:Type}{l:List (List α)}{a:Nat}(h:l[a]?=some []):l.set a []=l:=by
 obtain ⟨hj,he⟩:=List.getElem?_eq_some_iff.1 h
 rw [← he];exact List.set_getElem_self hj
theorem cl_at {g:Graph}{a:Nat}{u:List Int}(hu:(cleanG g)[a]?=some u):u=cl g a:=by
 have ha:a<g.length:=by rw [← cleanG_len g];exact (List.getElem?_eq_some_iff.1 hu).1
 unfold cleanG at hu
 rw [List.getElem?_map,List.getElem?_range ha] at hu
 exact (Option.some.inj hu).symm
theorem cl_mem {g:Graph}{a:Nat}{x:Int} : x ∈ cl g a↔x ∈ endsOf g a:=(sorted_spec _).2 x
theorem cl_len {g:Graph}(h:SmallG g) (a:Nat):(cl g a).length≤1000:=by
 unfold cl Lib.compact Lib.compactUpTo
 rw [List.length_map]
 refine Nat.le_trans (List.length_filter_le _ _) ?_
 rw [List.length_range,List.length_mergeSort]
 exact ends_le h a

theorem within_any {B:Base}{w:World}(hS:St B [] w) (g:Graph) (A:Option Addr) (cp:Nat) (hC:kII.C B.e A g) (hsm:SmallG g) (ib:List Bool) (A1:Option Addr) (cp1:Nat) (hC1:Kd.bool.C B.e A1 ib) (hib:ib.length≤1000) (W0:World) :
 CW 157 #[.slice A g.length cp,.slice A1 ib.length cp1] w
  (Ret B (fun z:(Option Addr×Nat×List Hdr)×(Option Addr×Nat)=>z.1.2.2.length=g.length) (fun z=>.tuple #[.slice z.1.1 g.length z.1.2.1,.slice z.2.1 g.length z.2.2])
   (fun z=>[row kHdr W0 42 (.slice z.1.1 g.length z.1.2.1) z.1.2.2,bun (rws (Kd.int .i64) W0 3 z.1.2.2 (withinP g ib)),row Kd.bool W0 4 (.slice z.2.1 g.length z.2.2) (memL g ib)])):=by
 have hn:=hsm.1
 have hm:=memL_len g ib
 refine ZX Tryz.func157 hS ?_
 refine Zh (Zi (Zp J (Zp J (Zn (Za (Zh (Zi (Zo J (Zv J J (oMake (kd:=Kd.bool) (W:=W0) false J J J J J J ZO J (fun g14=>?_)))))))))))
 refine Zp J (Zn (Za (Zh (Zi (Zo J (Zo J (oCopy (enc:=Value.bool) (ys:=ib) J J J ZP J hC1 ?_)))))))
 rw [show ib.take g.length++(List.replicate g.length false).drop ib.length=memL g ib from rfl]
 dsimp only
 refine Zn (Za (Zh (Zi (Zo J (Zv J J (oMake (kd:=kHdr) (W:=W0) ((none,0,0):Hdr) J J J J J J ZO J (fun g20=>?_)))))))
 refine oConv (rws_new (kd:=Kd.int .i64) (W:=W0) (ei:=3) g.length) (Zp J (Zn (Za (Zh (Zh (Zi (Zo J ?_)))))))
 (refine ZC0 rfl ZK (fun w hS=>frame hS ZQ (fun B' hB hS'=>clean_any hS' g A cp (Kd.C_grow hB hC) hsm B.e)) ?_;rintro ⟨A22,c22,hs22⟩ hl22)
 dsimp only at hl22
 refine ZS0 (t:=22) (v':=.slice A22 (cleanG g).length c22) rfl (by rw [cleanG_len]) ?_
 refine Zv J J (Zo J (Zn (Za (wFreeze [row kHdr B.e 42 (.slice A22 g.length c22) hs22,bun (rws (Kd.int .i64) B.e 3 hs22 (cleanG g))] ZQ (fun B1 hB1 hq1=>?_)))))
 have hC22:=grid_C (hq1 _ _ ZP) (hq1 _ _ ZP) (by rw [cleanG_len];exact hl22) hB1
 refine Zk ?_
 refine wLoop (ι:=Nat×List Hdr) (fun z=>[(6,.slice (some ⟨g14,0,none⟩) g.length g.length),(7,.slice (some ⟨g20,0,none⟩) g.length g.length),(22,.slice A22 (cleanG g).length c22),(23,.int .i64 ((cleanG g).length:Int)),(24,.int .i64 (z.1:Int))]) (fun z=>[row Kd.bool W0 4 (.slice (some ⟨g14,0,none⟩) g.length g.length) (memL g ib),row kHdr W0 42 (.slice (some ⟨g20,0,none⟩) g.length g.length) z.2,bun (rws (Kd.int .i64) W0 3 z.2 (withinTo g ib z.1))]) (fun z=>z.1≤(cleanG g).length∧z.2.length=g.length) (fun z=>(cleanG g).length-z.1) (0,List.replicate g.length (none,0,0)) ?_ cv (by rw [withinTo_zero];exact (Leads.has ZQ)) ?_
 exact ⟨Nat.zero_le _,by simp⟩
 rintro ⟨a,hs⟩ ⟨ha,hl⟩
 dsimp only at ha hl
 rw [cleanG_len] at ha
 have hgl:=cleanG_len g
 try dsimp only
 refine Zh (Zi (Zx J J (Zn (Za (Zh (wC (fun h25=>?_) (fun h25=>?_)))))))
 refine Zj (Za (Zh (Zk (Zh (Zi (Zo J (oIdx J J (hC22) J ZO J J (fun e27 u27 cs27 hu27 hk27 hc27=>?_))))))))
 obtain ⟨A0,c0,rfl,hle27,g0⟩:=hk27
 obtain rfl:=cl_at hu27
 have hC29:=g0
 have hcll:=cl_len hsm a
 refine Zlx hc27 ?_
 refine Zp J (Zp J (Zn (Za (Zh (Zi (Zo J (Zv J J (Zo J (Zn (Za (Zk ?_)))))))))))
 refine wLoop (ι:=Nat×List Hdr) (fun z=>[(6,.slice (some ⟨g14,0,none⟩) g.length g.length),(7,.slice (some ⟨g20,0,none⟩) g.length g.length),(22,.slice A22 (cleanG g).length c22),(23,.int .i64 ((cleanG g).length:Int)),(24,.int .i64 (a:Int)),(8,.int .i64 (a:Int)),(29,.slice A0 (cl g a).length c0),(30,.int .i64 ((cl g a).length:Int)),(31,.int .i64 (z.1:Int))]) (fun z=>[row Kd.bool W0 4 (.slice (some ⟨g14,0,none⟩) g.length g.length) (memL g ib),row kHdr W0 42 (.slice (some ⟨g20,0,none⟩) g.length g.length) z.2,bun (rws (Kd.int .i64) W0 3 z.2 ((withinTo g ib a).set a (((cl g a).take z.1).filter (inP g ib a))))]) (fun z=>z.1≤(cl g a).length∧z.2.length=g.length) (fun z=>(cl g a).length-z.1) (0,hs) ?_ cv (by rw [List.take_zero,List.filter_nil,set_nil (withinTo_at ZO)];exact (Leads.has ZQ)) ?_
 exact ⟨Nat.zero_le _,hl⟩
 rintro ⟨i,hsi⟩ ⟨hi,hli⟩
 dsimp only at hi hli
 try dsimp only
 refine Zh (Zi (Zx J J (Zn (Za (Zh (wC (fun h32=>?_) (fun h32=>?_)))))))
 refine Zj (Za (Zh (Zk (Zh (Zi (oIdx J J (hC29) J ZO J J (fun e33 u33 cs33 hu33 hk33 hc33=>?_)))))))
 obtain rfl:=hk33
 have hft:=filter_take (P:=inP g ib a) hu33
 have hin:=inG_iff.1 (ends_in (cl_mem.1 (List.mem_of_getElem? hu33)))
 obtain ⟨x,rfl⟩:=Int.eq_ofNat_of_zero_le hin.1
 have hfl:(((cl g a).take i).filter (inP g ib a)).length≤1000:=Nat.le_trans (List.length_filter_le _ _) (by rw [List.length_take];omega)
 refine Zlx hc33 ?_
 refine Zp J (Zn (Za (Zh (Zi (Zo J (Zo J (ZR J J ZP ZO J J (fun g37 hg37=>?_))))))))
 first | subst hg37 | (injection hg37 with hg37;injection hg37 with hg37;subst hg37)
 refine ZR1 J ZP ZO J (fun u38 hu38=>?_)
 have hm38:=memL_at hu38
 refine Zo J (ZS (ZT 39) (fun h39=>?_) (fun h39=>?_))
 refine Zq J J (Zo J (Zq J J (Zo J (Zq J J (ZR J J ZP ZO J J (fun g42 hg42=>?_))))))
 first | subst hg42 | (injection hg42 with hg42;injection hg42 with hg42;subst hg42)
 refine Zq J J (ZR1 J ZP ZO J (fun u43 hu43=>?_))
 have hm43:=memL_at hu43
 refine Zt J J (Zn (Za (wC (fun h44=>?_) (fun h44=>?_))))
 refine Zi (Zo J (Zo J (Zo J (Zo J (ZR J J ZP ZO J J (fun g49 hg49=>?_))))))
 first | subst hg49 | (injection hg49 with hg49;injection hg49 with hg49;subst hg49)
 refine ZR1 J ZP ZO J (fun u50 hu50=>?_)
 refine Zo J (oBuildSlice1 J J J J J ZP J (fun b52=>?_))
 refine oFocus (i:=a) (xs:=((cl g a).take i).filter (inP g ib a)) ZP hu50 (by rw [List.getElem?_set,if_pos rfl,if_pos (by rw [withinTo_len];omega)]) ?_
 refine oApp1 (x:Int) J J J J ZP ZP J ZO J (fun g53 cp53=>?_)
 rw [if_pos (by simp [inP,← hm38,← hm43,h39,h44])] at hft
 refine oBack (kd:=Kd.int .i64) (W:=W0) (ei:=3) (hs:=hsi) (xss:=(withinTo g ib a).set a (((cl g a).take i).filter (inP g ib a))) (i:=a) (u:=(some ⟨g53,0,none⟩,(((cl g a).take i).filter (inP g ib a)).length+1,cp53)) (xs:=((cl g a).take i).filter (inP g ib a)++[(x:Int)]) ZP ZP ZO (by rw [List.length_set,withinTo_len];exact hli) ?_
 rw [List.set_set,← hft]
 refine ZR J J ZP ZO J J (fun g54 hg54=>?_)
 first | subst hg54 | (injection hg54 with hg54;injection hg54 with hg54;subst hg54)
 refine oStR (enc:=hV) (some ⟨g53,0,none⟩,(((cl g a).take i).filter (inP g ib a)).length+1,cp53) J J J J ZP ZO ?_
 refine Zn (Zzi ?_)
 refine Zo J (Zn (Za ?_))
 exact ⟨rfl,(i+1,hsi.set a (some ⟨g53,0,none⟩,(((cl g a).take i).filter (inP g ib a)).length+1,cp53)),⟨by show i+1≤_;omega,by show (hsi.set _ _).length=_;rw [List.length_set];exact hli⟩,by show (cl g a).length-(i+1)<(cl g a).length-i;omega,cv,Lh⟩
 refine Zj (Zzi ?_)
 refine Zo J (Zn (Za ?_))
 exact ⟨rfl,(i+1,hsi),⟨by show i+1≤_;omega,hli⟩,by show (cl g a).length-(i+1)<(cl g a).length-i;omega,cv,by dsimp only;rw [hft,if_neg (by simp [inP,← hm38,← hm43,h44]),List.append_nil];exact (Leads.has ZQ)⟩
 refine Zr J J J J (Zr J J J J (Zr J J J J (Zr J J J J (Zu J J (Zn (Za (wCondF J (Zj (Zzi ?_)))))))))
 refine Zo J (Zn (Za ?_))
 exact ⟨rfl,(i+1,hsi),⟨by show i+1≤_;omega,hli⟩,by show (cl g a).length-(i+1)<(cl g a).length-i;omega,cv,by dsimp only;rw [hft,if_neg (by simp [inP,← hm38,h39]),List.append_nil];exact (Leads.has ZQ)⟩
 obtain rfl:i=(cl g a).length:=by omega
 rw [List.take_length,show (cl g a).filter (inP g ib a)=wp g ib a from rfl,withinTo_succ ZO]
 refine Zm (Zb (Zb (Ze (Zzi ?_))))
 refine Zo J (Zn (Za ?_))
 exact ⟨rfl,(a+1,hsi),⟨by rw [cleanG_len];show a+1≤_;omega,hli⟩,by rw [cleanG_len];show g.length-(a+1)<g.length-a;omega,cv,Lh⟩
 obtain rfl:a=g.length:=by omega
 rw [withinTo_all]
 refine Zm (Zb (Zb (Ze (Za (Zh (Zi (Zo J (Zo J (Zp J (Zp J (Zn (Za (Zl (Zw ?_))))))))))))))
 refine ⟨rfl,_,(ResL.cons (ResR.tmp rfl) (ResL.cons (ResR.tmp rfl) ResL.nil)),?_⟩
 exact ⟨((some ⟨g20,0,none⟩,g.length,hs),(some ⟨g14,0,none⟩,g.length)),hl,rfl,Lh⟩
end Go.Proofs.YtogaiijhicfoaaaGreatG
namespace Go.Proofs.YtogaiijhicfoaaaGreatU
set_option maxRecDepth 100000
set_option maxHeartbeats 4000000
open Go.RowKit Go.Proofs.YtogaiijhicfoaaaGreatK Go.Proofs.YtogaiijhicfoaaaGreatT Go.Proofs.YtogaiijhicfoaaaGreatL Go.Proofs.YtogaiijhicfoaaaGreatV Go.Proofs.YtogaiijhicfoaaaGreatG

def badM (m x:Int):Bool:=decide (x<0) || decide (m≤x)
def ris (l:List Int) (m:Nat):List Int:=((List.range m).filter fun i:Nat=>decide ((i:Int) ∈ l)).map fun i:Nat=>(i:Int)
theorem mem_ris {l:List Int}{m:Nat}{x:Int} : x ∈ ris l m↔x ∈ l∧0≤x∧x<(m:Int):=by
 unfold ris
 simp only [List.mem_map,List.mem_filter,List.mem_range,decide_eq_true_eq]
 constructor
 · rintro ⟨i,⟨h1,h2⟩,rfl⟩;exact ⟨h2,by omega,by omega⟩
 · rintro ⟨h1,h2,h3⟩
   obtain ⟨i,rfl⟩:=Int.eq_ofNat_of_zero_le h2
   exact ⟨i,⟨by omega,h1⟩,rfl⟩
theorem ris_len (l:List Int) (m:Nat):(ris l m).length≤m:=by
 unfold ris
 rw [List.length_map]
 exact Nat.le_trans (List.length_filter_le _ _) (by simp)
theorem ris_rises (l:List Int) (m:Nat):(ris l m).Pairwise (·<·):=by
 unfold ris
 rw [List.pairwise_map]
 exact (List.Pairwise.filter _ List.pairwise_lt_range).imp (fun h=>by omega)
theorem ris_eq (l:List Int) (m:Nat):Lib.compact ((leftL (badM m) l).mergeSort leI)=ris l m:=by
 obtain ⟨h1,h2⟩:=sorted_spec (leftL (badM m) l)
 refine rising_eq h1 (ris_rises l m) (fun x=>?_)
 rw [h2,mem_ris]
 unfold leftL badM
 rw [List.mem_filter]
 simp
theorem rising1 {B:Base}{w:World}{b:Nat}{m:Int}(hS:St B [blk b 3 [.int .i64 m]] w) (x:Int) :
 CW 143 #[.int .i64 x,.pointer (some ⟨b,0,none⟩)] w (Ret B (fun _:Unit=>True) (fun _=>.bool (badM m x)) (fun _=>[blk b 3 [.int .i64 m]])):=by
 refine ZX Tryz.func143 hS ?_
 refine Zh (Zi (Zp J (Zn (Za (Zh (Zi (Zo J (Zx J J (Zo J (ZS (ZT 6) (fun h6=>?_) (fun h6=>?_)))))))))))
 refine Zr J J J J (Zr J J J J (Zr J J J J (Zt J J (Zza ?_))))
 exact ⟨(),trivial,by simp [resVal,badM,h6],Lh⟩
 refine Zq J J (Zo J (Zzg ?_))
 refine Zq J J (Z2 J J (Zu J J (Zza ?_)))
 exact ⟨(),trivial,by simp [resVal,badM,h6],Lh⟩
theorem calls_rising {B:Base}{w:World}(hS:St B [] w) (l:List Int) (A:Option Addr) (cp:Nat) (hC:(Kd.int .i64).C B.e A l) (hl:l.length≤1000000) (m:Nat) (W0:World) :
 CW 85 #[.slice A l.length cp,.int .i64 (m:Int)] w (Ret B (fun _:Option Addr×Nat=>True) (fun z=>.slice z.1 (ris l m).length z.2) (fun z=>[row (Kd.int .i64) W0 3 (.slice z.1 (ris l m).length z.2) (ris l m)])):=by
 have hle:=left_le (badM m) l
 refine ZX Tryz.func85 hS ?_
 refine Zh (Zi (oBox J ZP (fun b3=>?_)))
 refine Zp J (Zn (Zzn ?_))
 (refine ZC0 rfl ZK (fun w hS=>frame hS ZQ (fun B' hB hS'=>clone_int hS' l A cp (Kd.C_grow hB hC) hl W0)) ?_;rintro ⟨A7,c7⟩ -)
 refine oMakeFunc J ?_
 (refine ZC0 rfl ZK (fun w hS=>frame hS (Ψ:=[row (Kd.int .i64) W0 3 (.slice A7 l.length c7) l,blk b3 3 [.int .i64 (m:Int)]]) ZQ (fun B' hB hS'=>deleteFunc_int l A7 c7 hS' hl 143 _ (badM m) ZK (fun B2 w2 x hg hx hS2=>rising1 hS2 x))) ?_;rintro ⟨⟩ -)
 refine Zp J (Zn (Zzn ?_))
 (refine ZC0 rfl ZK (fun w hS=>frame hS ZQ (fun B' hB hS'=>sort_int laysn189_at hS' ZO)) ?_;rintro ⟨⟩ -)
 refine Zn (Zzn ?_)
 (refine ZC0 rfl ZK (fun w hS=>frame hS ZQ (fun B' hB hS'=>compact_int lays2n20_at hS' (by rw [List.length_mergeSort];omega))) ?_;rintro ⟨⟩ -)
 rw [ris_eq]
 refine Zp J (Zzx ?_)
 exact ⟨(A7,c7),trivial,rfl,Lh⟩
def selP (needs:List Int) (q:ApiInstr×Int):Bool:=decide (needF q.1.fOp ∈ needs)
def refsTo (f:ApiFun) (needs:List Int) (n:Nat):List Int:=(((f.fF.fCode.zip f.fRefs).take n).filter (selP needs)).map (·.2)
def refsC (f:ApiFun) (needs:List Int):List Int:=((f.fF.fCode.zip f.fRefs).filter (selP needs)).map (·.2)
theorem refsTo_succ {f:ApiFun}{needs:List Int}{i:Nat}{x:ApiInstr}{r:Int}(hx:f.fF.fCode[i]?=some x) (hr:f.fRefs[i]?=some r):refsTo f needs (i+1)=refsTo f needs i++(if needF x.fOp ∈ needs then [r] else []):=by
 have h:(f.fF.fCode.zip f.fRefs)[i]?=some (x,r):=by rw [List.getElem?_zip_eq_some];exact ⟨hx,hr⟩
 unfold refsTo
 rw [List.take_add_one,h,List.filter_append,List.map_append]
 congr 1
 show List.map _ (List.filter _ [(x,r)])=_
 unfold selP
 by_cases hn:needF x.fOp ∈ needs
 · rw [if_pos hn];simp [hn]
 · rw [if_neg hn];simp [hn]
theorem refsTo_over {f:ApiFun}{needs:List Int}{i:Nat}(h:f.fRefs.length≤i):refsTo f needs (i+1)=refsTo f needs i:=by
 unfold refsTo
 rw [List.take_of_length_le (by rw [List.length_zip];omega),List.take_of_length_le (by rw [List.length_zip];omega)]
theorem refsTo_all {f:ApiFun}{needs:List Int}{i:Nat}(h:f.fF.fCode.length≤i∨f.fRefs.length≤i):refsTo f needs i=refsC f needs:=by
 unfold refsTo refsC
 rw [List.take_of_length_le (by rw [List.length_zip];omega)]
theorem refsTo_len (f:ApiFun) (needs:List Int) (n:Nat):(refsTo f needs n).length≤f.fRefs.length:=by
 unfold refsTo
 rw [List.length_map]
 refine Nat.le_trans (List.length_filter_le _ _) ?_
 rw [List.length_take,List.length_zip];omega
theorem refsC_len (f:ApiFun) (needs:List Int):(refsC f needs).length≤f.fRefs.length:=by
 rw [← refsTo_all (Or.inl (Nat.le_refl _))];exact refsTo_len _ _ _
theorem calls_refs {B:Base}{w:World}(hS:St B [] w) (f:ApiFun) (fc:List Value) (hf:kApiFun.K B.e f fc) (hl:f.fRefs.length≤1000) (needs:List Int) (A:Option Addr) (cp:Nat) (hC:(Kd.int .i64).C B.e A needs) (W0:World) :
 CW 89 #[.agg fc.toArray,.slice A needs.length cp] w (Ret B (fun _:Option Addr×Nat=>True) (fun z=>.slice z.1 (refsC f needs).length z.2) (fun z=>[row (Kd.int .i64) W0 3 (.slice z.1 (refsC f needs).length z.2) (refsC f needs)])):=by
 obtain ⟨A0,c0,A1,c1,A2,c2,A3,c3,A4,c4,rfl,l0,g0,l1,g1,l2,g2,l3,g3,l4,g4⟩:=kApiFun_open hf
 have hcl:=g2.1
 refine ZX Tryz.func89 hS ?_
 refine Zh (Zi (oBox J ZP (fun b2=>?_)))
 refine Zp J (Zn (Za (Zh (Zi (Zp J (Zn (Za (Zh (Zh (Zi (Zz (n:=3) (m:=3) J J J (Zz (n:=7) (m:=10) J J J (Zld ?_)))))))))))))
 refine Zv J J (Zo J (Zn (Za (Zk (wLoop (ι:=Nat×Option Addr×Nat) (fun z=>[(1,.slice A needs.length cp),(2,.pointer (some ⟨b2,0,none⟩)),(5,.slice z.2.1 (refsTo f needs z.1).length z.2.2),(10,.slice A2 f.fF.fCode.length c2),(11,.int .i64 (f.fF.fCode.length:Int)),(12,.int .i64 (z.1:Int))]) (fun z=>[blk b2 49 [.int .i64 f.fFile,.int .i64 f.fItem,.string f.fName,.int .i64 f.fF.fClass,.slice A0 f.fF.fKinds.length c0,.int .i64 f.fF.fPad,.bool f.fF.fNosplit,.int .i64 f.fF.fFrom,.int .i64 f.fF.fTo,.slice A1 f.fF.fLines.length c1,.slice A2 f.fF.fCode.length c2,.slice A3 f.fF.fRelocs.length c3,.slice A4 f.fRefs.length c4],row (Kd.int .i64) W0 3 (.slice z.2.1 (refsTo f needs z.1).length z.2.2) (refsTo f needs z.1)]) (fun z=>z.1≤f.fF.fCode.length) (fun z=>f.fF.fCode.length-z.1) (0,none,0) ?_ cv (Leads.nilrow.trans Lh) ?_)))))
 exact Nat.zero_le _
 rintro ⟨i,A5,c5⟩ hi
 dsimp only at hi
 have hle:=refsTo_len f needs i
 try dsimp only
 refine Zh (Zi (Zx J J (Zn (Za (Zh (wC (fun h13=>?_) (fun h13=>?_)))))))
 obtain ⟨x,hx⟩:∃ x,f.fF.fCode[i]?=some x:=⟨_,List.getElem?_eq_getElem ZO⟩
 obtain ⟨e1,cs1,hE⟩:=g2.elm hx
 obtain rfl:=kApiInstr_open hE.K
 refine Zj (Za (Zh (Zk (Zh (Zi (Zo J (oIdxE J J (hE) ZO J J ?_)))))))
 have hc15:=(hE).cell
 refine Zlx hc15 ?_
 refine oAlloc J ZP (fun b7=>?_)
 refine Zp J (Zsa ?_)
 refine Zn (Za (Zh (Zi (Zo J (Zz (n:=12) (m:=12) J J J (Zld ?_))))))
 refine Zv J J (Zx J J (Zo J (ZS (ZT 22) (fun h22=>?_) (fun h22=>?_))))
 obtain ⟨r,hr⟩:∃ r,f.fRefs[i]?=some r:=⟨_,List.getElem?_eq_getElem ZO⟩
 obtain ⟨e2,cs2,hE2⟩:=g4.elm hr
 obtain rfl:=(show cs2=[Value.int .i64 r] from hE2.K)
 have hrs:=refsTo_succ (needs:=needs) hx hr
 refine Zq J J (Zo J (Zq J J (Zz (n:=0) (m:=0) J J J (Zzg ?_))))
 refine Zq J J ?_
 (refine ZC0 rfl ZK (fun w hS=>frame hS ZQ (fun B' hB hS'=>op_Need hS' x.fOp)) ?_;rintro ⟨⟩ -)
 refine Zq J J ?_
 (refine ZC0 rfl ZK (fun w hS=>frame hS ZQ (fun B' hB hS'=>contains_int hS' needs A cp (Kd.C_grow hB hC) (needF x.fOp))) ?_;rintro ⟨⟩ -)
 refine Zt J J (Zn (Za (wC (fun h28=>?_) (fun h28=>?_))))
 refine Zi (Zo J (Zz (n:=12) (m:=12) J J J (Zld ?_)))
 refine Zo J (oIdxE J J (hE2) ZO J J ?_)
 have hc33:=(hE2).cell
 refine Zlx hc33 ?_
 refine oBuildSlice1 J J J J J ZP J (fun b35=>?_)
 refine oApp1 r J J J J ZP ZP J ZO J (fun g36 cp36=>?_)
 rw [if_pos (by simpa using h28)] at hrs
 rw [show (refsTo f needs i).length+1=(refsTo f needs (i+1)).length by rw [hrs,List.length_append];rfl,← hrs]
 refine Zp J (Zn (Zzi ?_))
 refine Zo J (Zn (Za ?_))
 exact ⟨rfl,(i+1,some ⟨g36,0,none⟩,cp36),by show i+1≤_;omega,by show f.fF.fCode.length-(i+1)<f.fF.fCode.length-i;omega,cv,Lh⟩
 refine Zj (Zzi ?_)
 refine Zo J (Zn (Za ?_))
 exact ⟨rfl,(i+1,A5,c5),by show i+1≤_;omega,by show f.fF.fCode.length-(i+1)<f.fF.fCode.length-i;omega,by dsimp only;rw [hrs,if_neg (by simpa using h28),List.append_nil];exact cv,by dsimp only;rw [hrs,if_neg (by simpa using h28),List.append_nil];exact (Leads.has ZQ)⟩
 refine Zr J J J J (Zr J J J J (Zr J J J J (Zr J J J J (Zr J J J J (Zu J J (Zn (Za (wCondF J (Zj (Zzi ?_))))))))))
 refine Zo J (Zn (Za ?_))
 exact ⟨rfl,(i+1,A5,c5),by show i+1≤_;omega,by show f.fF.fCode.length-(i+1)<f.fF.fCode.length-i;omega,by dsimp only;rw [refsTo_over ZO];exact cv,by dsimp only;rw [refsTo_over ZO];exact (Leads.has ZQ)⟩
 obtain rfl:i=f.fF.fCode.length:=by omega
 rw [refsTo_all (Or.inl (Nat.le_refl _))]
 refine Zm (Zzf ?_)
 exact ⟨(A5,c5),trivial,rfl,Lh⟩
structure SmallP (p:ApiProgram):Prop where
  funs:p.fFuns.length≤24
  dats:p.fDats.length≤24
  fn:∀ f ∈ p.fFuns,f.fF.fCode.length≤80∧f.fRefs.length≤80∧f.fF.fKinds.length≤80∧f.fF.fRelocs.length≤80∧f.fF.fLines.length≤80
  dt:∀ d ∈ p.fDats,d.fD.fWords.length≤80∧d.fRefs.length≤80∧d.fD.fRelocs.length≤80
theorem map_take_succ {α β:Type}(F:α→β) {l:List α}{i:Nat}{x:α}(h:l[i]?=some x):(l.map F).take i++[F x]=(l.map F).take (i+1):=by
 rw [List.take_add_one,List.getElem?_map,h];rfl
theorem calls_each {B:Base}{w:World}{R:Res}(hS:St B [R] w) (p:ApiProgram) (pc:List Value) (hp:kApiProgram.K B.e p pc) (hn:p.fFuns.length≤1000) (gf:Nat) (lb:Array Value) (F:ApiFun→List Int) (hg:goodF Tryz.prog gf=true) (W0:World)
 (hh:∀ B' w f fc,Grow B.e B'.e→f ∈ p.fFuns→kApiFun.K B'.e f fc→St B' [R] w→CW gf (#[]++[Value.agg fc.toArray].toArray++lb) w (Ret B' (fun _:Option Addr×Nat=>True) (fun z=>.slice z.1 (F f).length z.2) (fun z=>[R,row (Kd.int .i64) W0 3 (.slice z.1 (F f).length z.2) (F f)]))) :
 CW 74 #[.agg pc.toArray,.func (.func gf) #[] lb] w (Ret B (fun z:Option Addr×Nat×List Hdr=>z.2.2.length=p.fFuns.length) (fun z=>.slice z.1 p.fFuns.length z.2.1) (fun z=>[R,row kHdr W0 42 (.slice z.1 p.fFuns.length z.2.1) z.2.2,bun (rws (Kd.int .i64) W0 3 z.2.2 (p.fFuns.map F))])):=by
 obtain ⟨A0,c0,A1,c1,rfl,l0,g0,l1,g1⟩:=kApiProgram_open hp
 refine ZX Tryz.func74 hS ?_
 refine Zh (Zi (oBox J ZP (fun b2=>?_)))
 refine Zp J (Zn (Za (Zh (Zi (Zp J (Zn (Za (Zh (Zh (Zi (Zz (n:=0) (m:=0) J J J (Zld ?_))))))))))))
 refine Zv J J (Zo J (Zn (Za (Zk (wLoop (ι:=Nat×List Hdr×Option Addr×Nat) (fun z=>[(1,.func (.func gf) #[] lb),(5,.slice z.2.2.1 z.1 z.2.2.2),(9,.slice A0 p.fFuns.length c0),(10,.int .i64 (p.fFuns.length:Int)),(11,.int .i64 (z.1:Int))]) (fun z=>[R,row kHdr W0 42 (.slice z.2.2.1 z.1 z.2.2.2) z.2.1,bun (rws (Kd.int .i64) W0 3 z.2.1 ((p.fFuns.map F).take z.1))]) (fun z=>z.1≤p.fFuns.length∧z.2.1.length=z.1) (fun z=>p.fFuns.length-z.1) (0,[],none,0) ?_ cv (Leads.nilrow.trans (bun_nil.trans Lh)) ?_)))))
 exact ⟨Nat.zero_le _,rfl⟩
 rintro ⟨i,hs,A5,c5⟩ ⟨hi,hl⟩
 dsimp only at hi hl
 have hxl:((p.fFuns.map F).take i).length=i:=by rw [List.length_take,List.length_map];omega
 try dsimp only
 refine Zh (Zi (Zx J J (Zn (Za (Zh (wC (fun h12=>?_) (fun h12=>?_)))))))
 obtain ⟨f,hf⟩:∃ f,p.fFuns[i]?=some f:=⟨_,List.getElem?_eq_getElem ZO⟩
 obtain ⟨e1,cs1,hE⟩:=g0.elm hf
 obtain ⟨D0,d0,D1,d1,D2,d2,D3,d3,D4,d4,rfl,m0,q0,m1,q1,m2,q2,m3,q3,m4,q4⟩:=kApiFun_open hE.K
 refine Zj (Za (Zh (Zk (Zh (Zi (oIdxE J J (hE) ZO J J ?_))))))
 have hc13:=(hE).cell
 refine Zlx hc13 ?_
 refine oAlloc J ZP (fun b7=>?_)
 refine Zsa ?_
 refine Zn (Za (Zi (Zo J (Zo J (Zla ?_)))))
 (refine oCallV rfl rfl rfl hg (fun w hS=>frame hS (Ψ:=[R]) ZQ (fun B' hB hS'=>hh B' w f _ hB (List.mem_of_getElem? hf) (kApiFun_mk _ f m0 (Kd.C_grow hB q0) m1 (Kd.C_grow hB q1) m2 (Kd.C_grow hB q2) m3 (Kd.C_grow hB q3) m4 (Kd.C_grow hB q4)) hS')) ?_;rintro ⟨A18,c18⟩ -)
 refine oBuildSlice1 J J J J J ZP J (fun b19=>?_)
 refine oApp1 (kd:=kHdr) ((A18,(F f).length,c18):Hdr) J J J J ZP ZP J ZO J (fun g20 cp20=>?_)
 refine oSnoc (kd:=Kd.int .i64) (W:=W0) (ei:=3) (u:=(A18,(F f).length,c18)) (l:=F f) (hs:=hs) (xss:=(p.fFuns.map F).take i) ZP ZP ZO ?_
 rw [map_take_succ F hf,hl]
 refine Zp J (Zn (Zzi ?_))
 refine Zo J (Zn (Za ?_))
 exact ⟨rfl,(i+1,hs++[(A18,(F f).length,c18)],some ⟨g20,0,none⟩,cp20),⟨by show i+1≤_;omega,by show (hs++_).length=i+1;rw [List.length_append,hl];rfl⟩,by show p.fFuns.length-(i+1)<p.fFuns.length-i;omega,cv,Lh⟩
 obtain rfl:i=p.fFuns.length:=by omega
 rw [show (p.fFuns.map F).take p.fFuns.length=p.fFuns.map F from List.take_of_length_le (by simp)]
 refine Zm (Zzf ?_)
 exact ⟨(A5,c5,hs),hl,rfl,Lh⟩
def directF (p:ApiProgram) (f:ApiFun):List Int:=ris (refsC f [1,5]) p.fFuns.length
def tblF (p:ApiProgram) (t:Int):List Int:=(p.fDats.getD t.toNat default).fRefs
def tablesF (p:ApiProgram) (f:ApiFun):List Int:=ris (refsC f [4]) p.fDats.length
def takenTo (p:ApiProgram) (f:ApiFun) (n:Nat):List Int:=refsC f [2]++(((tablesF p f).take n).map (tblF p)).flatten
def takenF (p:ApiProgram) (f:ApiFun):List Int:=refsC f [2]++((tablesF p f).map (tblF p)).flatten
def valuesF (p:ApiProgram) (f:ApiFun):List Int:=ris (takenF p f) p.fFuns.length
def refersF (p:ApiProgram) (f:ApiFun):List Int:=ris (directF p f++valuesF p f) p.fFuns.length
def datasF (p:ApiProgram) (f:ApiFun):List Int:=ris (refsC f [3,4]) p.fDats.length
def viaP (x:ApiInstr):Bool:=decide (x.fOp=20)
def viaTo (f:ApiFun) (n:Nat):List Int:=((f.fF.fCode.take n).filter viaP).map (·.fC)
def viasF (f:ApiFun):List Int:=ris ((f.fF.fCode.filter viaP).map (·.fC)) 8
theorem flat_bound {α:Type}{c:Nat} : ∀ {ll:List (List α)},(∀ x ∈ ll,x.length≤c)→ll.flatten.length≤c * ll.length
 | [],_=>by simp
 | x :: ll,h=>by
  have h1:=h x List.mem_cons_self
  have h2:=flat_bound (ll:=ll) (fun y hy=>h y (List.mem_cons_of_mem _ hy))
  rw [List.flatten_cons,List.length_append,List.length_cons,Nat.mul_succ];omega
theorem tbl_le {p:ApiProgram}(hsm:SmallP p) (t:Int):(tblF p t).length≤80:=by
 unfold tblF
 rw [List.getD_eq_getElem?_getD]
 cases h:p.fDats[t.toNat]? with
 | none=>exact Nat.zero_le _
 | some d=>exact (hsm.dt d (List.mem_of_getElem? h)).2.1
theorem takenTo_le {p:ApiProgram}(hsm:SmallP p) {f:ApiFun}(hf:f.fRefs.length≤80) (n:Nat):(takenTo p f n).length≤2000:=by
 unfold takenTo
 have h1:=refsC_len f [2]
 have h2:=flat_bound (c:=80) (ll:=((tablesF p f).take n).map (tblF p)) (fun x hx=>by obtain ⟨t,_,rfl⟩:=List.mem_map.1 hx;exact tbl_le hsm t)
 have h3:(tablesF p f).length≤p.fDats.length:=ris_len _ _
 have h4:=hsm.dats
 rw [List.length_map,List.length_take] at h2
 rw [List.length_append]
 have:80 * min n (tablesF p f).length≤80 * 24:=Nat.mul_le_mul_left _ ZO
 omega
theorem takenTo_all (p:ApiProgram) (f:ApiFun):takenTo p f (tablesF p f).length=takenF p f:=by unfold takenTo takenF;rw [List.take_length]
theorem takenTo_succ {p:ApiProgram}{f:ApiFun}{i:Nat}{t:Int}(h:(tablesF p f)[i]?=some t):takenTo p f (i+1)=takenTo p f i++tblF p t:=by
 unfold takenTo
 rw [List.take_add_one,h,List.map_append,List.flatten_append,List.append_assoc]
 simp
theorem tbl_at {p:ApiProgram}{k:Nat}{d:ApiDat}(h:p.fDats[k]?=some d):tblF p (k:Int)=d.fRefs:=by unfold tblF;rw [Int.toNat_natCast,List.getD_eq_getElem?_getD,h];rfl
theorem calls_direct {B:Base}{w:World}(hS:St B [] w) (p:ApiProgram) (pc:List Value) (hp:kApiProgram.K B.e p pc) (hsm:SmallP p) (f:ApiFun) (hfm:f ∈ p.fFuns) (fc:List Value) (hf:kApiFun.K B.e f fc) (W0:World) :
 CW 76 #[.agg pc.toArray,.agg fc.toArray] w (Ret B (fun _:Option Addr×Nat=>True) (fun z=>.slice z.1 (directF p f).length z.2) (fun z=>[row (Kd.int .i64) W0 3 (.slice z.1 (directF p f).length z.2) (directF p f)])):=by
 obtain ⟨A0,c0,A1,c1,rfl,l0,g0,l1,g1⟩:=kApiProgram_open hp
 obtain ⟨D0,d0,D1,d1,D2,d2,D3,d3,D4,d4,rfl,m0,q0,m1,q1,m2,q2,m3,q3,m4,q4⟩:=kApiFun_open hf
 have hfs:=hsm.fn f hfm
 have hrl:=refsC_len f [1,5]
 refine ZX Tryz.func76 hS ?_
 refine Zh (Zi (oBox J ZP (fun b2=>?_)))
 refine oBox J ZP (fun b3=>?_)
 refine Zp J (Zn (Za (Zh (wDrawG J [0,3,4,5] [(1,[0,3,4,5],[]),(2,[3,4,5],[]),(6,[],[])] [7] 24 ZK J J (fun w0=>?_)))))
 refine Zla ?_
 refine Zz (n:=0) (m:=0) J J J (Zld ?_)
 refine Zv J J (Z4 (Z5 J ?_))
 refine oBuildSliceF (Parts.cons J (Parts.cons J Parts.nil)) J J J J J (Fulls.cons ZP J (Fulls.cons ZP J Fulls.nil ap) ap) (fun b6=>?_)
 refine oConv (blk_row (enc:=Value.int .i64) (h1:=fun _=>J) (W:=B.e) (xs:=([1,5]:List Int)) (n:=2) ZP J J (by decide)) ?_
 refine ZG ?_ J (fun w0=>?_)
 refine Z8 J J J J (fun w0=>?_) ?_
 refine Zla ?_
 exact Z9 rfl
 refine Z8 J J J J (fun w0=>?_) ?_
 refine Zz (n:=0) (m:=0) J J J ?_
 exact Z9 rfl
 refine Z8 J J J J (fun w0=>?_) ?_
 refine Zld ?_
 exact Z9 rfl
 refine Z8 J J J J (fun w0=>?_) ?_
 refine Zv J J ?_
 exact Z9 rfl
 exact AgainG.nil
 refine Z4 (Z5 J ?_)
 (refine ZD J (fun w B' hB hR hS'=>calls_refs hS' f _ (kApiFun.K_grow hB hf) ZO [1,5] (some ⟨b6,0,none⟩) 2 (row_Cs (W:=B.e) (e:=3) (n:=2) (cp:=2) (hR _ _ ZP)) B.e) ?_;rintro ⟨A7,c7⟩ -)
 refine ZG ?_ J (fun w0=>?_)
 refine Z8 J J J J (fun w0=>?_) ?_
 refine Zz (n:=0) (m:=0) J J J ?_
 exact Z9 rfl
 refine Z8 J J J J (fun w0=>?_) ?_
 refine Zld ?_
 exact Z9 rfl
 refine Z8 J J J J (fun w0=>?_) ?_
 refine Zv J J ?_
 exact Z9 rfl
 exact AgainG.nil
 refine Z4 (Z5 J ?_)
 (refine ZD J (fun w B' hB hR hS'=>calls_rising hS' (refsC f [1,5]) A7 c7 (row_Cs (W:=B.e) (e:=3) (n:=(refsC f [1,5]).length) (cp:=c7) (hR _ _ ZP)) ZO p.fFuns.length W0) ?_;rintro ⟨A11,c11⟩ -)
 refine ZG ?_ J (fun w0=>?_)
 exact AgainG.nil
 refine Z6 (Zza ?_)
 exact ⟨(A11,c11),trivial,rfl,Lh⟩
theorem calls_values {B:Base}{w:World}(hS:St B [] w) (p:ApiProgram) (pc:List Value) (hp:kApiProgram.K B.e p pc) (hsm:SmallP p) (f:ApiFun) (hfm:f ∈ p.fFuns) (fc:List Value) (hf:kApiFun.K B.e f fc) (W0:World) :
 CW 83 #[.agg pc.toArray,.agg fc.toArray] w (Ret B (fun _:Option Addr×Nat=>True) (fun z=>.slice z.1 (valuesF p f).length z.2) (fun z=>[row (Kd.int .i64) W0 3 (.slice z.1 (valuesF p f).length z.2) (valuesF p f)])):=by
 obtain ⟨A0,c0,A1,c1,rfl,l0,g0,l1,g1⟩:=kApiProgram_open hp
 obtain ⟨D0,d0,D1,d1,D2,d2,D3,d3,D4,d4,rfl,m0,q0,m1,q1,m2,q2,m3,q3,m4,q4⟩:=kApiFun_open hf
 have hfs:=hsm.fn f hfm
 have hrl2:=refsC_len f [2]
 have hrl4:=refsC_len f [4]
 have htl:(tablesF p f).length≤p.fDats.length:=ris_len _ _
 have hdl:=hsm.dats
 refine ZX Tryz.func83 hS ?_
 refine Zh (Zi (oBox J ZP (fun b2=>?_)))
 refine oBox J ZP (fun b3=>?_)
 refine Zp J (Zn (Zzk ?_))
 refine oBuildSlice1 J J J J J ZP J (fun b9=>?_)
 refine oConv (blk_row (enc:=Value.int .i64) (h1:=fun _=>J) (W:=B.e) (xs:=([2]:List Int)) (n:=1) ZP J J (by decide)) ?_
 (refine ZD J (fun w B' hB hR hS'=>calls_refs hS' f _ (kApiFun.K_grow hB hf) ZO [2] (some ⟨b9,0,none⟩) 1 (row_Cs (W:=B.e) (e:=3) (n:=1) (cp:=1) (hR _ _ ZP)) B.e) ?_;rintro ⟨A10,c10⟩ -)
 refine Zp J (Zn (Za (Zh (Zh (wDrawG J [0,3,4,5,8] [(1,[0,3,4,5,8],[]),(2,[3,4,5,8],[]),(6,[8],[7])] [] 24 ZK J J (fun w0=>?_))))))
 refine Zla ?_
 refine Zz (n:=1) (m:=1) J J J (Zld ?_)
 refine Zv J J (Zo J (Z4 (Z5 J (oBuildSlice1 J J J J J ZP J (fun b12=>?_)))))
 refine oConv (blk_row (enc:=Value.int .i64) (h1:=fun _=>J) (W:=B.e) (xs:=([4]:List Int)) (n:=1) ZP J J (by decide)) ?_
 refine ZG ?_ J (fun w0=>?_)
 refine Z8 J J J J (fun w0=>?_) ?_
 refine Zla ?_
 exact Z9 rfl
 refine Z8 J J J J (fun w0=>?_) ?_
 refine Zz (n:=1) (m:=1) J J J ?_
 exact Z9 rfl
 refine Z8 J J J J (fun w0=>?_) ?_
 refine Zld ?_
 exact Z9 rfl
 refine Z8 J J J J (fun w0=>?_) ?_
 refine Zv J J ?_
 exact Z9 rfl
 refine Z8 J J J J (fun w0=>?_) ?_
 refine Zo J ?_
 exact Z9 rfl
 exact AgainG.nil
 refine Z4 (Z5 J ?_)
 (refine ZD J (fun w B' hB hR hS'=>calls_refs hS' f _ (kApiFun.K_grow hB hf) ZO [4] (some ⟨b12,0,none⟩) 1 (row_Cs (W:=B.e) (e:=3) (n:=1) (cp:=1) (hR _ _ ZP)) B.e) ?_;rintro ⟨A13,c13⟩ -)
 refine ZG ?_ J (fun w0=>?_)
 refine Z8 J J J J (fun w0=>?_) ?_
 refine Zz (n:=1) (m:=1) J J J ?_
 exact Z9 rfl
 refine Z8 J J J J (fun w0=>?_) ?_
 refine Zld ?_
 exact Z9 rfl
 refine Z8 J J J J (fun w0=>?_) ?_
 refine Zv J J ?_
 exact Z9 rfl
 refine Z8 J J J J (fun w0=>?_) ?_
 refine Zo J ?_
 exact Z9 rfl
 exact AgainG.nil
 refine Z4 (Z5 J ?_)
 (refine ZD J (fun w B' hB hR hS'=>calls_rising hS' (refsC f [4]) A13 c13 (row_Cs (W:=B.e) (e:=3) (n:=(refsC f [4]).length) (cp:=c13) (hR _ _ ZP)) ZO p.fDats.length B.e) ?_;rintro ⟨A17,c17⟩ -)
 refine ZG ?_ J (fun w0=>?_)
 refine Z8 J J J J (fun w0=>?_) ?_
 refine Zo J ?_
 exact Z9 rfl
 exact AgainG.nil
 refine Zv J J ?_
 have htk0:takenTo p f 0=refsC f [2]:=by unfold takenTo;simp
 refine ZS0 (t:=5) (v':=.slice A10 (takenTo p f 0).length c10) rfl (by rw [htk0]) ?_
 refine Z6 (Zn (Za (Zk ?_)))
 refine wLoop (ι:=Nat×Option Addr×Nat) (fun z=>[(2,.pointer (some ⟨b2,0,none⟩)),(5,.slice z.2.1 (takenTo p f z.1).length z.2.2),(17,.slice A17 (tablesF p f).length c17),(18,.int .i64 ((tablesF p f).length:Int)),(19,.int .i64 (z.1:Int))]) (fun z=>[blk b2 29 (pcL p A0 c0 A1 c1),row (Kd.int .i64) B.e 3 (.slice z.2.1 (takenTo p f z.1).length z.2.2) (takenTo p f z.1),row (Kd.int .i64) B.e 3 (.slice A17 (tablesF p f).length c17) (tablesF p f)]) (fun z=>z.1≤(tablesF p f).length) (fun z=>(tablesF p f).length-z.1) (0,A10,c10) ?_ cv (by rw [htk0];exact (Leads.has ZQ)) ?_
 exact Nat.zero_le _
 rintro ⟨i,A5,c5⟩ hi
 dsimp only at hi
 have hto:=takenTo_le hsm hfs.2.1 i
 try dsimp only
 refine Zh (Zi (Zx J J (Zn (Za (Zh (wC (fun h20=>?_) (fun h20=>?_)))))))
 refine Zj (Za (Zh (Zk (Zh (Zi (ZR J J ZP ZO J J (fun g21 hg21=>?_)))))))
 first | subst hg21 | (injection hg21 with hg21;injection hg21 with hg21;subst hg21)
 refine ZR1 J ZP ZO J (fun u22 hu22=>?_)
 obtain ⟨k,hk⟩:=Int.eq_ofNat_of_zero_le (show 0≤u22 from (mem_ris.1 (List.mem_of_getElem? hu22)).2.1)
 have hkl:=(mem_ris.1 (List.mem_of_getElem? hu22)).2.2
 obtain ⟨d,hd⟩:∃ d,p.fDats[k]?=some d:=⟨_,List.getElem?_eq_getElem ZO⟩
 have hts:=takenTo_succ hu22
 rw [hk,tbl_at hd] at hts
 obtain ⟨e2,cs2,hE2⟩:=g1.elm hd
 obtain ⟨G0,k0,G1,k1,G2,k2,rfl,n0,r0,n1,r1,n2,r2⟩:=kApiDat_open hE2.K
 have hdr:=(hsm.dt d (List.mem_of_getElem? hd)).2.1
 refine Zp J (Zn (Za (Zi (Zo J (Zz (n:=1) (m:=1) J J J (Zld ?_))))))
 refine Zo rfl (ZS0 (t:=26) (v':=.int .i64 (k:Int)) rfl (by rw [hk]) ?_)
 refine oIdxE J J (hE2) ZO J J ?_
 have hc27:=(hE2).cell
 refine ZF (ZT 6) (ZT 6) ?_
 refine Zlx hc27 ?_
 refine oAppA (kd:=Kd.int .i64) (W:=B.e) (xs:=takenTo p f i) (ys:=d.fRefs) J J J J ZP J (fun w hw=>src_Cs r2 (Base.grow hw.ok)) ZO J (fun A30 c30 hc30=>?_)
 rw [show (takenTo p f i).length+d.fRefs.length=(takenTo p f (i+1)).length by rw [hts,List.length_append],← hts]
 refine Zp J (Zn (Zzi ?_))
 refine Zo J (Zn (Za ?_))
 exact ⟨rfl,(i+1,A30,c30),by show i+1≤_;omega,by show (tablesF p f).length-(i+1)<(tablesF p f).length-i;omega,cv,Lh⟩
 obtain rfl:i=(tablesF p f).length:=by omega
 rw [takenTo_all] at *
 refine Zm (Zb (Zb (Ze (Za (Zh (Zi (Zo J (Zz (n:=0) (m:=0) J J J (Zld ?_)))))))))
 refine Zv J J ?_
 (refine ZD J (fun w B' hB hR hS'=>calls_rising hS' (takenF p f) A5 c5 (row_Cs (W:=B.e) (e:=3) (n:=(takenF p f).length) (cp:=c5) (hR _ _ ZP)) ZO p.fFuns.length W0) ?_;rintro ⟨A36,c36⟩ -)
 refine Zp J (Zzx ?_)
 exact ⟨(A36,c36),trivial,rfl,Lh⟩
theorem viaTo_succ {f:ApiFun}{i:Nat}{x:ApiInstr}(h:f.fF.fCode[i]?=some x):viaTo f (i+1)=viaTo f i++(if x.fOp=20 then [x.fC] else []):=by
 unfold viaTo
 rw [List.take_add_one,h,List.filter_append,List.map_append]
 congr 1
 show List.map _ (List.filter _ [x])=_
 unfold viaP
 by_cases hn:x.fOp=20
 · rw [if_pos hn];simp [hn]
 · rw [if_neg hn];simp [hn]
theorem viaTo_le (f:ApiFun) (i:Nat):(viaTo f i).length≤f.fF.fCode.length:=by
 unfold viaTo
 rw [List.length_map]
 refine Nat.le_trans (List.length_filter_le _ _) ?_
 rw [List.length_take];omega
theorem direct1 {B:Base}{w:World}{b:Nat}(p:ApiProgram) (pc:List Value) (hS:St B [blk b 29 pc] w) (hp:kApiProgram.K B.e p pc) (hsm:SmallP p) (f:ApiFun) (hfm:f ∈ p.fFuns) (fc:List Value) (hf:kApiFun.K B.e f fc) (W0:World) :
 CW 75 #[.agg fc.toArray,.pointer (some ⟨b,0,none⟩)] w (Ret B (fun _:Option Addr×Nat=>True) (fun z=>.slice z.1 (directF p f).length z.2) (fun z=>[blk b 29 pc,row (Kd.int .i64) W0 3 (.slice z.1 (directF p f).length z.2) (directF p f)])):=by
 obtain ⟨A0,c0,A1,c1,rfl,l0,g0,l1,g1⟩:=kApiProgram_open hp
 obtain ⟨D0,d0,D1,d1,D2,d2,D3,d3,D4,d4,rfl,m0,q0,m1,q1,m2,q2,m3,q3,m4,q4⟩:=kApiFun_open hf
 have hfs:=hsm.fn f hfm
 refine ZX Tryz.func75 hS ?_
 refine Zh (Zi (oBox J ZP (fun b2=>?_)))
 refine Zp J (Zn (Zzk ?_))
 refine Zla ?_
 (refine ZC0 rfl ZK (fun w hS=>frame hS ZQ (fun B' hB hS'=>calls_direct hS' p _ (gPg hB hp) hsm f hfm _ (kApiFun.K_grow hB hf) W0)) ?_;rintro ⟨A6,c6⟩ -)
 refine Zp J (Zzx ?_)
 exact ⟨(A6,c6),trivial,rfl,Lh⟩
theorem values1 {B:Base}{w:World}{b:Nat}(p:ApiProgram) (pc:List Value) (hS:St B [blk b 29 pc] w) (hp:kApiProgram.K B.e p pc) (hsm:SmallP p) (f:ApiFun) (hfm:f ∈ p.fFuns) (fc:List Value) (hf:kApiFun.K B.e f fc) (W0:World) :
 CW 82 #[.agg fc.toArray,.pointer (some ⟨b,0,none⟩)] w (Ret B (fun _:Option Addr×Nat=>True) (fun z=>.slice z.1 (valuesF p f).length z.2) (fun z=>[blk b 29 pc,row (Kd.int .i64) W0 3 (.slice z.1 (valuesF p f).length z.2) (valuesF p f)])):=by
 obtain ⟨A0,c0,A1,c1,rfl,l0,g0,l1,g1⟩:=kApiProgram_open hp
 obtain ⟨D0,d0,D1,d1,D2,d2,D3,d3,D4,d4,rfl,m0,q0,m1,q1,m2,q2,m3,q3,m4,q4⟩:=kApiFun_open hf
 have hfs:=hsm.fn f hfm
 refine ZX Tryz.func82 hS ?_
 refine Zh (Zi (oBox J ZP (fun b2=>?_)))
 refine Zp J (Zn (Zzk ?_))
 refine Zla ?_
 (refine ZC0 rfl ZK (fun w hS=>frame hS ZQ (fun B' hB hS'=>calls_values hS' p _ (gPg hB hp) hsm f hfm _ (kApiFun.K_grow hB hf) W0)) ?_;rintro ⟨A6,c6⟩ -)
 refine Zp J (Zzx ?_)
 exact ⟨(A6,c6),trivial,rfl,Lh⟩
theorem refers1 {B:Base}{w:World}{b:Nat}(p:ApiProgram) (pc:List Value) (hS:St B [blk b 29 pc] w) (hp:kApiProgram.K B.e p pc) (hsm:SmallP p) (f:ApiFun) (hfm:f ∈ p.fFuns) (fc:List Value) (hf:kApiFun.K B.e f fc) (W0:World) :
 CW 84 #[.agg fc.toArray,.pointer (some ⟨b,0,none⟩)] w (Ret B (fun _:Option Addr×Nat=>True) (fun z=>.slice z.1 (refersF p f).length z.2) (fun z=>[blk b 29 pc,row (Kd.int .i64) W0 3 (.slice z.1 (refersF p f).length z.2) (refersF p f)])):=by
 obtain ⟨A0,c0,A1,c1,rfl,l0,g0,l1,g1⟩:=kApiProgram_open hp
 obtain ⟨D0,d0,D1,d1,D2,d2,D3,d3,D4,d4,rfl,m0,q0,m1,q1,m2,q2,m3,q3,m4,q4⟩:=kApiFun_open hf
 have hfs:=hsm.fn f hfm
 have hd1:(directF p f).length≤p.fFuns.length:=ris_len _ _
 have hd2:(valuesF p f).length≤p.fFuns.length:=ris_len _ _
 have hd3:=hsm.funs
 have hcc : [directF p f,valuesF p f].flatten=directF p f++valuesF p f:=by simp
 refine ZX Tryz.func84 hS ?_
 refine Zh (Zi (oBox J ZP (fun b2=>?_)))
 refine Zp J (Zn (Za (Zh (wDrawG J [0,1,3,4,8,9,10] [(2,[3,4,8,9,10],[]),(5,[8,9,10],[]),(6,[8,9,10],[]),(7,[8,9,10],[]),(11,[],[])] [12] 24 ZK J J (fun w0=>?_)))))
 refine Zla ?_
 refine Zla ?_
 refine Zla ?_
 refine Zla ?_
 refine Zz (n:=0) (m:=0) J J J (Zld ?_)
 refine Zv J J (Z4 (Z5 J ?_))
 (refine ZC0 rfl ZK (fun w hS=>frame hS ZQ (fun B' hB hS'=>calls_direct hS' p _ (gPg hB hp) hsm f hfm _ (kApiFun.K_grow hB hf) B.e)) ?_;rintro ⟨A6,c6⟩ -)
 refine ZG ?_ J (fun w0=>?_)
 refine Z8 J J J J (fun w0=>?_) ?_
 refine Zla ?_
 exact Z9 rfl
 refine Z8 J J J J (fun w0=>?_) ?_
 refine Zla ?_
 exact Z9 rfl
 refine Z8 J J J J (fun w0=>?_) ?_
 refine Zz (n:=0) (m:=0) J J J ?_
 exact Z9 rfl
 refine Z8 J J J J (fun w0=>?_) ?_
 refine Zld ?_
 exact Z9 rfl
 refine Z8 J J J J (fun w0=>?_) ?_
 refine Zv J J ?_
 exact Z9 rfl
 exact AgainG.nil
 refine Z4 (Z5 J ?_)
 (refine ZC0 rfl ZK (fun w hS=>frame hS ZQ (fun B' hB hS'=>calls_values hS' p _ (gPg hB hp) hsm f hfm _ (kApiFun.K_grow hB hf) B.e)) ?_;rintro ⟨A9,c9⟩ -)
 refine ZG ?_ J (fun w0=>?_)
 refine Z8 J J J J (fun w0=>?_) ?_
 refine Zz (n:=0) (m:=0) J J J ?_
 exact Z9 rfl
 refine Z8 J J J J (fun w0=>?_) ?_
 refine Zld ?_
 exact Z9 rfl
 refine Z8 J J J J (fun w0=>?_) ?_
 refine Zv J J ?_
 exact Z9 rfl
 exact AgainG.nil
 refine Z4 (Z5 J ?_)
 refine oBuildSliceF (Parts.cons J (Parts.cons J Parts.nil)) J J J J J (Fulls.cons ZP J (Fulls.cons ZP J Fulls.nil ap) ap) (fun b10=>?_)
 refine oConv (blk_row (enc:=hV) (h1:=fun _=>J) (W:=B.e) (xs:=[(A6,(directF p f).length,c6),(A9,(valuesF p f).length,c9)]) (n:=2) ZP J J (by decide)) ?_
 refine oConv bun_nil (oSnoc (kd:=Kd.int .i64) (W:=B.e) (ei:=3) (u:=(A6,(directF p f).length,c6)) (l:=directF p f) (hs:=[]) (xss:=[]) ZP ZP J ?_)
 refine oSnoc (kd:=Kd.int .i64) (W:=B.e) (ei:=3) (u:=(A9,(valuesF p f).length,c9)) (l:=valuesF p f) (hs:=[(A6,(directF p f).length,c6)]) (xss:=[directF p f]) ZP ZP J ?_
 dsimp only [List.nil_append,List.cons_append]
 refine ZG ?_ J (fun w0=>?_)
 refine Z8 J J J J (fun w0=>?_) ?_
 refine Zz (n:=0) (m:=0) J J J ?_
 exact Z9 rfl
 refine Z8 J J J J (fun w0=>?_) ?_
 refine Zld ?_
 exact Z9 rfl
 refine Z8 J J J J (fun w0=>?_) ?_
 refine Zv J J ?_
 exact Z9 rfl
 exact AgainG.nil
 refine Z4 (Z5 J ?_)
 (refine ZD J (fun w B' hB hR hS'=>concat_int hS' [directF p f,valuesF p f] (some ⟨b10,0,none⟩) 2 (grid_C (kd:=Kd.int .i64) (W:=B.e) (ei:=3) (eo:=42) (W0:=B.e) (n:=2) (cp:=2) (hs:=[(A6,(directF p f).length,c6),(A9,(valuesF p f).length,c9)]) (hR _ _ ZP) (hR _ _ ZP) rfl hB) (by simp;omega) B.e) ?_;rintro ⟨A11,c11⟩ -)
 rw [hcc]
 refine ZG ?_ J (fun w0=>?_)
 refine Z8 J J J J (fun w0=>?_) ?_
 refine Zz (n:=0) (m:=0) J J J ?_
 exact Z9 rfl
 refine Z8 J J J J (fun w0=>?_) ?_
 refine Zld ?_
 exact Z9 rfl
 refine Z8 J J J J (fun w0=>?_) ?_
 refine Zv J J ?_
 exact Z9 rfl
 exact AgainG.nil
 refine Z4 (Z5 J ?_)
 (refine ZD J (fun w B' hB hR hS'=>calls_rising hS' (directF p f++valuesF p f) A11 c11 (row_Cs (W:=B.e) (e:=3) (n:=(directF p f++valuesF p f).length) (cp:=c11) (hR _ _ ZP)) (by simp;omega) p.fFuns.length W0) ?_;rintro ⟨A15,c15⟩ -)
 refine ZG ?_ J (fun w0=>?_)
 exact AgainG.nil
 refine Z6 (Zza ?_)
 exact ⟨(A15,c15),trivial,rfl,Lh⟩
theorem vias1 {B:Base}{w:World}(hS:St B [bun []] w) (f:ApiFun) (fc:List Value) (hf:kApiFun.K B.e f fc) (hcl:f.fF.fCode.length≤80) (W0:World) :
 CW 87 (#[]++[Value.agg fc.toArray].toArray++#[]) w (Ret B (fun _:Option Addr×Nat=>True) (fun z=>.slice z.1 (viasF f).length z.2) (fun z=>[bun [],row (Kd.int .i64) W0 3 (.slice z.1 (viasF f).length z.2) (viasF f)])):=by
 obtain ⟨D0,d0,D1,d1,D2,d2,D3,d3,D4,d4,rfl,m0,q0,m1,q1,m2,q2,m3,q3,m4,q4⟩:=kApiFun_open hf
 refine ZX Tryz.func87 hS ?_
 refine Zh (Zi (oBox J ZP (fun b1=>?_)))
 refine Zp J (Zn (Za (Zh (Zi (Zp J (Zn (Za (Zh (Zh (Zi (Zz (n:=3) (m:=3) J J J (Zz (n:=7) (m:=10) J J J (Zld ?_)))))))))))))
 refine Zv J J (Zo J (Zn (Za (Zk (wLoop (ι:=Nat×Option Addr×Nat) (fun z=>[(3,.slice z.2.1 (viaTo f z.1).length z.2.2),(8,.slice D2 f.fF.fCode.length d2),(9,.int .i64 (f.fF.fCode.length:Int)),(10,.int .i64 (z.1:Int))]) (fun z=>[bun [],row (Kd.int .i64) B.e 3 (.slice z.2.1 (viaTo f z.1).length z.2.2) (viaTo f z.1)]) (fun z=>z.1≤f.fF.fCode.length) (fun z=>f.fF.fCode.length-z.1) (0,none,0) ?_ cv (Leads.nilrow.trans Lh) ?_)))))
 exact Nat.zero_le _
 rintro ⟨i,A3,c3⟩ hi
 dsimp only at hi
 have hle:=viaTo_le f i
 try dsimp only
 refine Zh (Zi (Zx J J (Zn (Za (Zh (wC (fun h11=>?_) (fun h11=>?_)))))))
 obtain ⟨x,hx⟩:∃ x,f.fF.fCode[i]?=some x:=⟨_,List.getElem?_eq_getElem ZO⟩
 obtain ⟨e1,cs1,hE⟩:=q2.elm hx
 obtain rfl:=kApiInstr_open hE.K
 have hvs:=viaTo_succ hx
 refine Zj (Za (Zh (Zk (Zh (Zi (oIdxE J J (hE) ZO J J ?_))))))
 have hc12:=(hE).cell
 refine Zlx hc12 ?_
 refine oAlloc J ZP (fun b5=>?_)
 refine Zsa ?_
 refine Zn (Za (Zh (Zi (Zz (n:=0) (m:=0) J J J (Zld ?_)))))
 refine Zy J J (Zn (Za (wC (fun h16=>?_) (fun h16=>?_))))
 refine Zi (Zo J (Zz (n:=3) (m:=3) J J J (Zld ?_)))
 refine oBuildSlice1 J J J J J ZP J (fun b20=>?_)
 refine oApp1 x.fC J J J J ZP ZP J ZO J (fun g21 cp21=>?_)
 rw [if_pos h16] at hvs
 rw [show (viaTo f i).length+1=(viaTo f (i+1)).length by rw [hvs,List.length_append];rfl,← hvs]
 refine Zp J (Zn (Zzi ?_))
 refine Zo J (Zn (Za ?_))
 exact ⟨rfl,(i+1,some ⟨g21,0,none⟩,cp21),by show i+1≤_;omega,by show f.fF.fCode.length-(i+1)<f.fF.fCode.length-i;omega,cv,Lh⟩
 refine Zj (Zzi ?_)
 refine Zo J (Zn (Za ?_))
 exact ⟨rfl,(i+1,A3,c3),by show i+1≤_;omega,by show f.fF.fCode.length-(i+1)<f.fF.fCode.length-i;omega,by dsimp only;rw [hvs,if_neg h16,List.append_nil];exact cv,by dsimp only;rw [hvs,if_neg h16,List.append_nil];exact (Leads.has ZQ)⟩
 obtain rfl:i=f.fF.fCode.length:=by omega
 refine Zm (Zb (Zb (Ze (Zzn ?_))))
 (refine ZD J (fun w B' hB hR hS'=>calls_rising hS' (viaTo f f.fF.fCode.length) A3 c3 (row_Cs (W:=B.e) (e:=3) (n:=(viaTo f f.fF.fCode.length).length) (cp:=c3) (hR _ _ ZP)) ZO 8 W0) ?_;rintro ⟨A24,c24⟩ -)
 rw [show ris (viaTo f f.fF.fCode.length) 8=viasF f by unfold viaTo viasF;rw [List.take_length]]
 refine Zp J (Zzx ?_)
 exact ⟨(A24,c24),trivial,rfl,Lh⟩
theorem prog_Direct {B:Base}{w:World}(hS:St B [] w) (p:ApiProgram) (pc:List Value) (hp:kApiProgram.K B.e p pc) (hsm:SmallP p) (W0:World) :
 CW 21 #[.agg pc.toArray] w (Ret B (fun z:Option Addr×Nat×List Hdr=>z.2.2.length=p.fFuns.length) (fun z=>.slice z.1 p.fFuns.length z.2.1) (fun z=>[row kHdr W0 42 (.slice z.1 p.fFuns.length z.2.1) z.2.2,bun (rws (Kd.int .i64) W0 3 z.2.2 (p.fFuns.map (directF p)))])):=by
 obtain ⟨A0,c0,A1,c1,rfl,l0,g0,l1,g1⟩:=kApiProgram_open hp
 have hn:=hsm.funs
 refine ZX Tryz.func21 hS ?_
 refine Zh (Zi (oBox J ZP (fun b1=>?_)))
 refine Zp J (Zn (Zzk ?_))
 refine oMakeFunc J ?_
 (refine ZC0 rfl ZK (fun w hS=>frame hS (Ψ:=[blk b1 29 (pcL p A0 c0 A1 c1)]) ZQ (fun B' hB hS'=>calls_each hS' p _ (gPg hB hp) ZO 75 _ (directF p) ZK W0 (fun B2 w2 f fc hg hf hfK hS2=>direct1 p _ hS2 (kApiProgram.K_grow (hB.trans hg) hp) hsm f hf fc hfK W0))) ?_;rintro ⟨A5,c5,hs5⟩ hl5)
 refine Zp J (Zzx ?_)
 exact ⟨(A5,c5,hs5),hl5,rfl,Lh⟩
theorem prog_Values {B:Base}{w:World}(hS:St B [] w) (p:ApiProgram) (pc:List Value) (hp:kApiProgram.K B.e p pc) (hsm:SmallP p) (W0:World) :
 CW 23 #[.agg pc.toArray] w (Ret B (fun z:Option Addr×Nat×List Hdr=>z.2.2.length=p.fFuns.length) (fun z=>.slice z.1 p.fFuns.length z.2.1) (fun z=>[row kHdr W0 42 (.slice z.1 p.fFuns.length z.2.1) z.2.2,bun (rws (Kd.int .i64) W0 3 z.2.2 (p.fFuns.map (valuesF p)))])):=by
 obtain ⟨A0,c0,A1,c1,rfl,l0,g0,l1,g1⟩:=kApiProgram_open hp
 have hn:=hsm.funs
 refine ZX Tryz.func23 hS ?_
 refine Zh (Zi (oBox J ZP (fun b1=>?_)))
 refine Zp J (Zn (Zzk ?_))
 refine oMakeFunc J ?_
 (refine ZC0 rfl ZK (fun w hS=>frame hS (Ψ:=[blk b1 29 (pcL p A0 c0 A1 c1)]) ZQ (fun B' hB hS'=>calls_each hS' p _ (gPg hB hp) ZO 82 _ (valuesF p) ZK W0 (fun B2 w2 f fc hg hf hfK hS2=>values1 p _ hS2 (kApiProgram.K_grow (hB.trans hg) hp) hsm f hf fc hfK W0))) ?_;rintro ⟨A5,c5,hs5⟩ hl5)
 refine Zp J (Zzx ?_)
 exact ⟨(A5,c5,hs5),hl5,rfl,Lh⟩
theorem prog_Refers {B:Base}{w:World}(hS:St B [] w) (p:ApiProgram) (pc:List Value) (hp:kApiProgram.K B.e p pc) (hsm:SmallP p) (W0:World) :
 CW 24 #[.agg pc.toArray] w (Ret B (fun z:Option Addr×Nat×List Hdr=>z.2.2.length=p.fFuns.length) (fun z=>.slice z.1 p.fFuns.length z.2.1) (fun z=>[row kHdr W0 42 (.slice z.1 p.fFuns.length z.2.1) z.2.2,bun (rws (Kd.int .i64) W0 3 z.2.2 (p.fFuns.map (refersF p)))])):=by
 obtain ⟨A0,c0,A1,c1,rfl,l0,g0,l1,g1⟩:=kApiProgram_open hp
 have hn:=hsm.funs
 refine ZX Tryz.func24 hS ?_
 refine Zh (Zi (oBox J ZP (fun b1=>?_)))
 refine Zp J (Zn (Zzk ?_))
 refine oMakeFunc J ?_
 (refine ZC0 rfl ZK (fun w hS=>frame hS (Ψ:=[blk b1 29 (pcL p A0 c0 A1 c1)]) ZQ (fun B' hB hS'=>calls_each hS' p _ (gPg hB hp) ZO 84 _ (refersF p) ZK W0 (fun B2 w2 f fc hg hf hfK hS2=>refers1 p _ hS2 (kApiProgram.K_grow (hB.trans hg) hp) hsm f hf fc hfK W0))) ?_;rintro ⟨A5,c5,hs5⟩ hl5)
 refine Zp J (Zzx ?_)
 exact ⟨(A5,c5,hs5),hl5,rfl,Lh⟩
theorem prog_Vias {B:Base}{w:World}(hS:St B [] w) (p:ApiProgram) (pc:List Value) (hp:kApiProgram.K B.e p pc) (hsm:SmallP p) (W0:World) :
 CW 25 #[.agg pc.toArray] w (Ret B (fun z:Option Addr×Nat×List Hdr=>z.2.2.length=p.fFuns.length) (fun z=>.slice z.1 p.fFuns.length z.2.1) (fun z=>[row kHdr W0 42 (.slice z.1 p.fFuns.length z.2.1) z.2.2,bun (rws (Kd.int .i64) W0 3 z.2.2 (p.fFuns.map (viasF)))])):=by
 obtain ⟨A0,c0,A1,c1,rfl,l0,g0,l1,g1⟩:=kApiProgram_open hp
 have hn:=hsm.funs
 refine ZX Tryz.func25 hS ?_
 refine Zh (Zi (oBox J ZP (fun b1=>?_)))
 refine Zp J (Zn (Zzk ?_))
 refine oConv bun_nil ?_
 (refine ZC0 rfl ZK (fun w hS=>frame hS (Ψ:=[bun []]) ZQ (fun B' hB hS'=>calls_each hS' p _ (gPg hB hp) ZO 87 #[] (viasF) ZK W0 (fun B2 w2 f fc hg hf hfK hS2=>vias1 hS2 f fc hfK (hsm.fn f hf).1 W0))) ?_;rintro ⟨A5,c5,hs5⟩ hl5)
 refine Zp J (Zzx ?_)
 exact ⟨(A5,c5,hs5),hl5,rfl,Lh⟩
end Go.Proofs.YtogaiijhicfoaaaGreatU
namespace Go.Proofs.YtogaiijhicfoaaaGreatV
set_option maxRecDepth 100000
set_option maxHeartbeats 4000000
open Go.RowKit Go.Proofs.YtogaiijhicfoaaaGreatK Go.Proofs.YtogaiijhicfoaaaGreatT Go.Proofs.YtogaiijhicfoaaaGreatL

def kindBad (par:Int) (i:Nat) (k:Int):Bool:=decide (textF k=ByteArray.empty) || (decide ((i:Int)<par) && decide (k≠0))
def slotsF (f:ApiFunc):Int:=if isC f.fClass then (if 16<f.fKinds.length then 6 else if (f.fKinds.length:Int)<parF f.fClass then 2 else if (List.range f.fKinds.length).any (fun i=>kindBad (parF f.fClass) i (f.fKinds.getD i 0)) then 8 else 0) else 14
theorem getDat {α:Type}{l:List α}{i:Nat}{o d:α}(h:l[i]?=some o):l.getD i d=o:=by rw [List.getD_eq_getElem?_getD,h];rfl
def ceF (x:ApiInstr):Int:=if icF x≠0 then icF x else if ownF x.fOp then 0 else 8
def codeF (f:ApiFunc):Int:=if flowF f.fCode≠0 then flowF f.fCode else fstE (f.fCode.map ceF)
def lineBad (x:ApiLine):Bool:=decide (x.fLine<0∨65535<x.fLine)
def linesF (f:ApiFunc):Int:=if 16<f.fLines.length then 6 else if f.fLines.any lineBad then 9 else if (f.fLines.map (·.fAt)).getD 0 0≠0∨risF f.fCode.length (-1) (f.fLines.map (·.fAt))=false then 9 else 0
def relBad (x:ApiReloc):Bool:=decide (x.fSym<0∨32≤x.fSym)
def relocsF (f:ApiFunc):Int:=if f.fRelocs.any relBad then 11 else if risF f.fCode.length (-1) (f.fRelocs.map (·.fAt)) then 0 else 11
def funF (f:ApiFunc):Int:=if slotsF f≠0 then slotsF f else if f.fPad<0∨4096<f.fPad then 9 else if codeF f≠0 then codeF f else if f.fFrom<0∨f.fTo<f.fFrom∨(f.fCode.length:Int)<f.fTo then 9 else if linesF f≠0 then linesF f else relocsF f
structure FunA where
  A0:Option Addr
  c0:Nat
  A1:Option Addr
  c1:Nat
  A2:Option Addr
  c2:Nat
  A3:Option Addr
  c3:Nat
abbrev symL (s:ApiSymbol):List Value:=[.string s.fName,.bool s.fLocal,.int .i64 s.fSort,.int .i64 s.fKind,.int .i64 s.fDef]
def slotF (kinds:List Int) (at_ kind:Int):Int:=if at_<0∨(kinds.length:Int)≤at_ then 9 else if kinds.getD at_.toNat 0≠kind then 8 else 0
def zeroF (at_:Int):Int:=if at_≠0 then 2 else 0
def nCall (k:Int):Int:=if parF k=0∧ansF k=true then 1 else parF k
def callF (kinds:List Int) (k at_:Int):Int:=if nCall k=0 then zeroF at_ else fstE ((List.range (nCall k).toNat).map fun i:Nat=>slotF kinds (IntKind.i64.wrap (at_+(i:Int))) 0)
def lateF (kinds:List Int) (k at_:Int):Int:=if parF k=0 then zeroF at_ else slotF kinds at_ 0
def answF (kinds:List Int) (c at_:Int):Int:=if ansF c then slotF kinds at_ 0 else zeroF at_
theorem nCall_in (k:Int):0≤nCall k∧nCall k≤3:=by
 have:=parF_in k
 unfold nCall
 split <;> omega
section
variable {B : Base} {w : World} {b : Nat} {f : ApiFunc} {a : FunA} {x : ApiInstr} {s : ApiSymbol} {k : Int}
end
def looksL:List (ByteArray×Nat):=[(⟨#[119,114]⟩,306),(⟨#[103,102]⟩,307),(⟨#[99]⟩,308),(⟨#[100]⟩,309),(⟨#[118]⟩,310),(⟨#[116,110,107,45]⟩,311)]
def lookV (f:ApiFunc) (k n:Int) (j:Nat):Int:=[slotF f.fKinds n 0,slotF f.fKinds n (IntKind.i64.wrap (1+k)),callF f.fKinds k n,lateF f.fKinds k n,answF f.fKinds f.fClass n,0].getD j 0
def hasL (j:Nat) (letter:Int):Bool:=(runesL (looksL.getD j (ByteArray.empty,0)).1).any fun y=>decide (letter=y)
def lookE (f:ApiFunc) (k letter n:Int) (j:Nat):Int:=if hasL j letter then lookV f k n j else 0
def letE (f:ApiFunc) (k letter n:Int):Int:=fstE ((List.range 6).map (lookE f k letter n))
def opsE (f:ApiFunc) (x:ApiInstr) (k:Int) (i:Nat):Int:=letE f k (byteAt (shapeF x.fOp) i) (opdF x i)
def operF (f:ApiFunc) (x:ApiInstr) (k:Int):Int:=fstE ((List.range (shapeF x.fOp).size).map (opsE f x k))
theorem rmap_at {n i:Nat}{e:Nat→Int}(h:i<n):((List.range n).map e)[i]?=some (e i):=by rw [List.getElem?_map,List.getElem?_range h];rfl
theorem rmap_all {n:Nat}{e:Nat→Int} : ((List.range n).map e).take n=(List.range n).map e:=List.take_of_length_le (by simp)
def fitsF (need:Int) (s:ApiSymbol):Bool:=if need=3 then decide (s.fSort=2) && decide (s.fKind=0) else if need=4 then decide (s.fSort=2) && isC (IntKind.i64.wrap (s.fKind-1)) else decide (s.fSort=1)
abbrev atR (i:Int) (r:ApiReloc):Bool:=decide (r.fAt=i)
def markF (f:ApiFunc) (i:Int):Int:=idxI (atR i) f.fRelocs
def symF (f:ApiFunc) (i:Int):Int:=if markF f i<0 then -1 else (f.fRelocs.getD (markF f i).toNat default).fSym
def symAtF (f:ApiFunc) (l:List ApiSymbol) (i:Int):ApiSymbol:=l.getD (symF f i).toNat default
def codeAt (f:ApiFunc) (i:Int):ApiInstr:=f.fCode.getD i.toNat default
def refE (f:ApiFunc) (l:List ApiSymbol) (i:Int):Int:=if needF (codeAt f i).fOp=0∧markF f i<0 then 0 else if needF (codeAt f i).fOp=0∨markF f i<0∨symF f i<0∨(l.length:Int)≤symF f i then 11 else if fitsF (needF (codeAt f i).fOp) (symAtF f l i) then 0 else 8
def refS (f:ApiFunc) (l:List ApiSymbol) (i:Int):ApiSymbol:=if needF (codeAt f i).fOp=0∨refE f l i≠0 then default else symAtF f l i
def instrF (f:ApiFunc) (l:List ApiSymbol) (i:Int):Int:=if i<0∨(f.fCode.length:Int)≤i then 2 else if refE f l i≠0 then refE f l i else if (codeAt f i).fOp=20 then (if isC (codeAt f i).fC then operF f (codeAt f i) (codeAt f i).fC else 14) else if (codeAt f i).fOp=21 then (if latF (refS f l i).fKind then operF f (codeAt f i) (refS f l i).fKind else 14) else if (codeAt f i).fOp=18 then operF f (codeAt f i) (IntKind.i64.wrap ((refS f l i).fKind-1)) else operF f (codeAt f i) (refS f l i).fKind
def insL (f:ApiFunc) (l:List ApiSymbol):List Int:=(List.range f.fCode.length).map fun i:Nat=>instrF f l (i:Int)
abbrev non0 (e:Int):Bool:=decide (e≠0)
def chkE (f:ApiFunc) (l:List ApiSymbol):Int:=if funF f≠0 then funF f else fstE (insL f l)
def chkI (f:ApiFunc) (l:List ApiSymbol):Int:=if funF f≠0 then -1 else idxI non0 (insL f l)
theorem ref5_Is {B:Base}{w:World}(hS:St B [] w) (c:Int) :
 CW 184 #[.int .i64 c] w (Ret B (fun _:Unit=>True) (fun _=>.bool (isC c)) (fun _=>[])):=by
 refine ZX Tryz.func184 hS ?_
 refine Zh (Zi (Zp J (Zn (Za (Zh (Zi (Zo J (Z2 J J (Zo J (ZS (ZT 5) (fun h5=>?_) (fun h5=>?_)))))))))))
 refine Zq J J (Zo J (Zq J J (oLeq J J (Zt J J (Zza ?_)))))
 exact ⟨(),trivial,by simp_all [resVal,isC] <;> omega,Lh⟩
 refine Zr J J J J (Zr J J J J (Zu J J (Zza ?_)))
 exact ⟨(),trivial,by simp_all [resVal,isC] <;> omega,Lh⟩
theorem ref17_Sym {B:Base}{w:World}(hS:St B [] w) (f:ApiFunc) (fc:List Value) (hf:kApiFunc.K B.e f fc) (i:Int) :
 CW 135 #[.agg fc.toArray,.int .i64 i] w (Ret B (fun _:Unit=>True) (fun _=>.int .i64 (symF f i)) (fun _=>[])):=by
 obtain ⟨A0,c0,A1,c1,A2,c2,A3,c3,rfl,l0,g0,l1,g1,l2,g2,l3,g3⟩:=kApiFunc_open hf
 have hcl:=g3.1
 refine ZX Tryz.func135 hS ?_
 refine Zh (Zi (oBox J ZP (fun b2=>?_)))
 refine Zp J (Zn (Za (Zh (Zh (Zi (Zp J (Zn (Za (Zk (wLoop (ι:=Nat) (fun j=>[(1,.int .i64 i),(2,.pointer (some ⟨b2,0,none⟩)),(5,.int .i64 (j:Int))]) (fun j=>[blk b2 47 [.int .i64 f.fClass,.slice A0 f.fKinds.length c0,.int .i64 f.fPad,.bool f.fNosplit,.int .i64 f.fFrom,.int .i64 f.fTo,.slice A1 f.fLines.length c1,.slice A2 f.fCode.length c2,.slice A3 f.fRelocs.length c3]]) (fun j=>j≤f.fRelocs.length∧∀ y ∈ f.fRelocs.take j,atR i y=false) (fun j=>f.fRelocs.length-j) 0 ?_ cv Lh ?_))))))))))
 exact ⟨Nat.zero_le _,by simp⟩
 rintro j ⟨hj,hs⟩
 try dsimp only
 refine Zh (Zh (Zi (Zo J (Zz (n:=8) (m:=8) J J J (Zld ?_)))))
 refine Zv J J (Zx J J (Zn (Za (wC (fun h10=>?_) (fun h10=>?_)))))
 obtain ⟨x,hx⟩:∃ x,f.fRelocs[j]?=some x:=⟨_,List.getElem?_eq_getElem ZO⟩
 obtain ⟨e1,cs1,hE⟩:=g3.elm hx
 obtain rfl:=kApiReloc_open hE.K
 refine Zj (Za (Zh (Zk (Zh (Zi (Zz (n:=8) (m:=8) J J J (Zld ?_)))))))
 refine Zo J (oIdxE J J (hE) ZO J J ?_)
 have hc16:=(hE).cell
 refine ZF (ZT 0) (ZT 0) ?_
 refine Zlx hc16 ?_
 refine Zo J (Zy J J (Zn (Za (wC (fun h20=>?_) (fun h20=>?_)))))
 refine Zh (Zi (Zz (n:=8) (m:=8) J J J (Zld ?_)))
 refine Zo J (oIdxE J J (hE) ZO J J ?_)
 have hc24:=(hE).cell
 refine ZF (ZT 1) (ZT 1) ?_
 refine Zlx hc24 ?_
 refine Zp J (Zn (Za (Zl (Zf (Zc (Zc (Zf (Zc (Zw (fi1 J ?_))))))))))
 have hm:markF f i=(j:Int):=idxI_stop hs hx (decide_eq_true h20)
 have hsy:symF f i=x.fSym:=by unfold symF;rw [hm,if_neg ZO,Int.toNat_natCast,List.getD_eq_getElem?_getD,hx];rfl
 exact ⟨(),trivial,by rw [hsy];rfl,Lh⟩
 refine Zj (Zzd ?_)
 refine Zp J (Zn (Za ?_))
 exact ⟨rfl,j+1,⟨by omega,take_not hs hx (decide_eq_false h20)⟩,by omega,cv,Lh⟩
 refine Zm (Zzj ?_)
 obtain rfl:j=f.fRelocs.length:=by omega
 rw [List.take_length] at hs
 have hm:markF f i = -1:=idxI_none hs
 exact ⟨(),trivial,by unfold symF;rw [hm,if_pos (by decide)];rfl,Lh⟩
def digB (k:Int):Int:=48+((k.tmod 10).natAbs:Int)
def digS:Nat→Int→ByteArray→ByteArray
  | 0,_,s=>s
  | f+1,k,s=>if k=0 then s else digS f (k.tdiv 10) (bytesS [digB k]++s)
def decF (n:Int):ByteArray:=if n=0 then ⟨#[48]⟩ else if n<0 then ⟨#[45]⟩++digS 20 n ByteArray.empty else digS 20 n ByteArray.empty
theorem digB_in (k:Int):48≤digB k∧digB k≤57:=by
 unfold digB
 have h:(k.tmod 10).natAbs<10:=by
  rw [Int.natAbs_tmod]
  exact Nat.mod_lt _ (by decide)
 omega
theorem bytesS_size (xs:List Int):(bytesS xs).size=xs.length:=by simp [bytesS,ByteArray.size]
theorem digS_size:∀ (f:Nat) (k:Int) (s:ByteArray),(digS f k s).size≤f+s.size
 | 0,_,s=>by simp [digS]
 | f+1,k,s=>by
  unfold digS
  split
  · omega
  · have:=digS_size f (k.tdiv 10) (bytesS [digB k]++s)
    rw [ByteArray.size_append,bytesS_size] at this
    simp only [List.length_cons,List.length_nil] at this
    omega
theorem decF_size (n:Int):(decF n).size≤21:=by
 have h:=digS_size 20 n ByteArray.empty
 have h0:ByteArray.empty.size=0:=rfl
 unfold decF
 split
 · decide
 · split
   · rw [ByteArray.size_append]
     have:(⟨#[45]⟩:ByteArray).size=1:=rfl
     omega
   · omega
theorem wrap8 {n:Int}(h:48≤n∧n≤57):IntKind.u8.wrap n=n:=by
 obtain ⟨m,rfl⟩:=Int.eq_ofNat_of_zero_le (show 0≤n by omega)
 have:∀ m,m<58→IntKind.u8.wrap ((m:Nat):Int)=((m:Nat):Int):=by decide
 exact this m ZO
theorem in64_tdiv {k:Int}(h:in64 k):in64 (k.tdiv 10):=by
 have h1:(k.tdiv 10).natAbs≤k.natAbs / 10:=by rw [Int.natAbs_tdiv];exact Nat.le_refl _
 unfold in64 at *
 omega
theorem tdiv_small {k:Int}{m:Nat}(h:k.natAbs<10 * m):(k.tdiv 10).natAbs<m:=by
 rw [Int.natAbs_tdiv]
 exact Nat.div_lt_of_lt_mul (by simpa using h)
theorem ref_Digits {B:Base}{w:World}(hS:St B [] w) (n:Int) (hn:in64 n) :
 CW 214 #[.int .i64 n] w (Ret B (fun _:Unit=>True) (fun _=>.string (decF n)) (fun _=>[])):=by
 have hnn:n.natAbs<10 ^ 20:=by unfold in64 at hn;omega
 refine ZX Tryz.func214 hS ?_
 refine Zh (Zi (Zp J (Zn (Za (Zh (Zh (Zi (Zo J (Zy J J (Zn (Za (wC (fun h7=>?_) (fun h7=>?_)))))))))))))
 refine Zh (Zi (Zze ?_))
 exact ⟨(),trivial,by unfold decF;rw [if_pos h7];rfl,Lh⟩
 refine Zj (Za (Zh (Zi (Zp J (Zn (Za (Zh (Zh (Zi (Zo J (Zp J (Zn (Za (Zk (wLoop (ι:=Nat×Int×ByteArray) (fun z=>[(0,.int .i64 n),(3,.string z.2.2),(4,.int .i64 z.2.1)]) (fun z=>[]) (fun z=>in64 z.2.1∧z.1≤20∧z.2.1.natAbs<10 ^ z.1∧digS 20 n ByteArray.empty=digS z.1 z.2.1 z.2.2∧z.1+z.2.2.size≤20) (fun z=>z.1) (20,n,ByteArray.empty) ?_ cv Lh ?_)))))))))))))))
 exact ⟨hn,Nat.le_refl _,hnn,rfl,Nat.le_refl _⟩
 rintro ⟨f,k,s⟩ ⟨hk64,hf,hk,hd,hsz⟩
 dsimp only at hk64 hf hk hd hsz
 try dsimp only
 refine Zh (Zh (Zi (Zo J (Z0 J J (Zn (Za (wC (fun h10=>?_) (fun h10=>?_))))))))
 obtain ⟨f,rfl⟩:∃ f',f=f'+1:=⟨f-1,by cases f with | zero=>simp at hk;omega | succ f=>rfl⟩
 have hkb:k.natAbs<10 ^ 20:=Nat.lt_of_lt_of_le hk (Nat.pow_le_pow_right (by decide) hf)
 have hdb:=digB_in k
 have hk64':=hk64
 unfold in64 at hk64'
 have hq:∀ z,z=digB k→IntKind.u8.wrap z=digB k:=fun z hz=>by rw [hz];exact wrap8 hdb
 refine Zj (Za (Zh (Zk (Zh (Zi (Zo J (oRem J J (by decide) ?_)))))))
 refine Zp J (Zn (Za (Zh (Zh (Zi (Zo J (Zx J J (Zn (Za (wC (fun h16=>?_) (fun h16=>?_)))))))))))
 refine Zi (Zo J ?_)
 refine oSub J J (by have:=digB_in k;unfold digB at this;omega) ?_
 refine Zp J (Zn (Za (Zi (Zo J ?_))))
 refine oAdd J J (by have:=digB_in k;unfold digB at this;omega) ?_
 refine oConvInt (m:=digB k) J J J (hq _ (by unfold digB;omega)) ?_
 refine oBuildSlice1 J J J J J ZP J (fun b22=>?_)
 refine oConvBS (xs:=[digB k]) J J J J ZP J J (by intro v hv;obtain J:=List.mem_singleton.1 hv;omega) ?_
 refine Zo J ?_
 refine oAddStr rfl rfl (by rw [bytesS_size];simp only [List.length_cons,List.length_nil];omega) ?_
 refine Zp J (Zn (Zd (Za (Zi (Zo J (oQuo J J ZO ?_))))))
 refine Zp J (Zn (Za ?_))
 exact ⟨rfl,(f,k.tdiv 10,bytesS [digB k]++s),⟨in64_tdiv hk64,by show f≤20;omega,tdiv_small (by show k.natAbs<10 * 10 ^ f;rw [Nat.pow_succ] at hk;omega),by rw [hd];show (if k=0 then s else _)=_;rw [if_neg h10],by show f+(bytesS [digB k]++s).size≤20;rw [ByteArray.size_append,bytesS_size];simp only [List.length_cons,List.length_nil];omega⟩,by show f<f+1;omega,cv,Lh⟩
 refine Zj (Za (Zi (Zo J ?_)))
 refine oAdd J J (by have:=digB_in k;unfold digB at this;omega) ?_
 refine oConvInt (m:=digB k) J J J (hq _ (by unfold digB;omega)) ?_
 refine oBuildSlice1 J J J J J ZP J (fun b22=>?_)
 refine oConvBS (xs:=[digB k]) J J J J ZP J J (by intro v hv;obtain J:=List.mem_singleton.1 hv;omega) ?_
 refine Zo J ?_
 refine oAddStr rfl rfl (by rw [bytesS_size];simp only [List.length_cons,List.length_nil];omega) ?_
 refine Zp J (Zn (Zd (Za (Zi (Zo J (oQuo J J ZO ?_))))))
 refine Zp J (Zn (Za ?_))
 exact ⟨rfl,(f,k.tdiv 10,bytesS [digB k]++s),⟨in64_tdiv hk64,by show f≤20;omega,tdiv_small (by show k.natAbs<10 * 10 ^ f;rw [Nat.pow_succ] at hk;omega),by rw [hd];show (if k=0 then s else _)=_;rw [if_neg h10],by show f+(bytesS [digB k]++s).size≤20;rw [ByteArray.size_append,bytesS_size];simp only [List.length_cons,List.length_nil];omega⟩,by show f<f+1;omega,cv,Lh⟩
 obtain rfl:k=0:=by omega
 have hd0:digS 20 n ByteArray.empty=s:=by rw [hd];cases f with | zero=>rfl | succ f=>show (if (0:Int)=0 then s else _)=s;rw [if_pos rfl]
 refine Zm (Zb (Zb (Ze (Za (Zh (Zh (Zi (Zo J (Zx J J (Zn (Za (wC (fun h27=>?_) (fun h27=>?_)))))))))))))
 refine Zh (Zi (Zo J ?_))
 refine oAddStr J J (by show 1+_≤_;omega) ?_
 refine Zp J (Zn (Za (Zl (Zc (Zw (fi1 J ?_))))))
 exact ⟨(),trivial,by unfold decF;rw [if_neg h7,if_pos h27,hd0];rfl,Lh⟩
 refine Zj (Za (Zh (Zi (Zo J (Zza ?_)))))
 exact ⟨(),trivial,by unfold decF;rw [if_neg h7,if_neg h27,hd0];rfl,Lh⟩
theorem ref5_Params {B:Base}{w:World}(hS:St B [] w) (c:Int) :
 CW 288 #[.int .i64 c] w (Ret B (fun _:Unit=>True) (fun _=>.int .i64 (parF c)) (fun _=>[])):=by
 refine ZX Tryz.func288 hS ?_
 refine Zh (Zi (Zp J (Zn (Za (Zh (Zh (Zi (Zo J ?_))))))))
 (refine ZC0 rfl ZK (fun w hS=>frame hS ZQ (fun B' hB hS'=>ref5_Is hS' c)) ?_;rintro ⟨⟩ -)
 refine Zno ?_
 refine Zn (Za (wC (fun h5=>?_) (fun h5=>?_)))
 refine Zh (Zi (Zze ?_))
 exact ⟨(),trivial,by unfold parF;rw [if_neg (by simpa using h5)];rfl,Lh⟩
 have hc:=isC_iff.1 (show isC c=true by simpa using h5)
 refine Zj (Za (Zh (Zi (Zo J (oQuo J J ZO ?_)))))
 refine Zp J (Zzx ?_)
 exact ⟨(),trivial,by unfold parF;rw [if_pos (by simpa using h5),Int.tdiv_eq_ediv_of_nonneg hc.1];rfl,Lh⟩
theorem ref5_Answers {B:Base}{w:World}(hS:St B [] w) (c:Int) :
 CW 297 #[.int .i64 c] w (Ret B (fun _:Unit=>True) (fun _=>.bool (ansF c)) (fun _=>[])):=by
 refine ZX Tryz.func297 hS ?_
 refine Zh (Zi (Zp J (Zn (Zzn ?_))))
 (refine ZC0 rfl ZK (fun w hS=>frame hS ZQ (fun B' hB hS'=>ref5_Is hS' c)) ?_;rintro ⟨⟩ -)
 refine Zo J (ZS (ZT 5) (fun h5=>?_) (fun h5=>?_))
 have hc:=isC_iff.1 (show isC c=true by simpa using h5)
 refine Zq J J (Zo J (Zq J J (oRem J J (by decide) ?_)))
 rw [Int.tmod_eq_emod_of_nonneg hc.1]
 refine Zq J J (Zy J J (Zt J J (Zza ?_)))
 exact ⟨(),trivial,by simp_all [resVal,ansF],Lh⟩
 refine Zr J J J J (Zr J J J J (Zr J J J J (Zu J J (Zza ?_))))
 exact ⟨(),trivial,by simp_all [resVal,ansF],Lh⟩
theorem latF_eq (c:Int):latF c=decide (c=0∨c=2):=by
 by_cases h:0≤c∧c<8
 · have:∀ n,n<8→latF ((n:Nat):Int)=decide (((n:Nat):Int)=0∨((n:Nat):Int)=2):=by decide
   obtain ⟨n,rfl⟩:=Int.eq_ofNat_of_zero_le h.1
   exact this n ZO
 · have:isC c=false:=by unfold isC;rw [← Bool.decide_and];exact decide_eq_false h
   have h2:decide (c=0∨c=2)=false:=decide_eq_false ZO
   rw [h2]
   unfold latF
   rw [this];rfl
theorem ref5_Later {B:Base}{w:World}(hS:St B [] w) (c:Int) :
 CW 257 #[.int .i64 c] w (Ret B (fun _:Unit=>True) (fun _=>.bool (latF c)) (fun _=>[])):=by
 rw [latF_eq]
 refine ZX Tryz.func257 hS ?_
 refine Zh (Zi (Zp J (Zn (Za (Zh (Zi (Zo J (Zy J J (Zo J (ZS (ZT 5) (fun h5=>?_) (fun h5=>?_)))))))))))
 refine Zr J J J J (Zr J J J J (Zt J J (Zza ?_)))
 exact ⟨(),trivial,by simp_all [resVal],Lh⟩
 refine Zq J J (Zo J (Zq J J (Zy J J (Zu J J (Zza ?_)))))
 exact ⟨(),trivial,by simp_all [resVal],Lh⟩
theorem ref5_Class {B:Base}{w:World}(hS:St B [] w) (k:Int) :
 CW 213 #[.int .i64 k] w (Ret B (fun _:Unit=>True) (fun _=>.tuple #[.int .i64 (if isC (IntKind.i64.wrap (k-1)) then IntKind.i64.wrap (k-1) else 0),.bool (isC (IntKind.i64.wrap (k-1)))]) (fun _=>[])):=by
 generalize hz:IntKind.i64.wrap (k-1)=z
 refine ZX Tryz.func213 hS ?_
 refine Zh (Zi (Zp J (Zp J (Zn (Za (Zh (Zh (Zi (Zo J (oSubW J J ?_))))))))))
 rw [hz]
 (refine ZC0 rfl ZK (fun w hS=>frame hS ZQ (fun B' hB hS'=>ref5_Is hS' z)) ?_;rintro ⟨⟩ -)
 refine Zno ?_
 refine Zn (Za (wC (fun h7=>?_) (fun h7=>?_)))
 refine Zh (Zi (Zzo ?_))
 refine ⟨rfl,_,(ResL.cons (ResR.tmp rfl) (ResL.cons (ResR.tmp rfl) ResL.nil)),?_⟩
 exact ⟨(),trivial,by simp_all [resVal],Lh⟩
 refine Zj (Za (Zh (Zi (Zo J (oSubW J J ?_)))))
 rw [hz]
 refine Zp J (Zp J (Zn (Za (Zl (Zw ?_)))))
 refine ⟨rfl,_,(ResL.cons (ResR.tmp rfl) (ResL.cons (ResR.tmp rfl) ResL.nil)),?_⟩
 exact ⟨(),trivial,by simp_all [resVal],Lh⟩
theorem textF_some:∀ k:Nat,k<8→(⟨#[102]⟩++decF ((k / 2:Nat):Int))++(if k % 2=1 then (⟨#[114]⟩:ByteArray) else ByteArray.empty)=textF ((k+1:Nat):Int):=by decide
theorem emp_app (s:ByteArray):s++ByteArray.empty=s:=by simp
theorem ref5_Text {B:Base}{w:World}(hS:St B [] w) (k:Int) (hk:in64 k) :
 CW 185 #[.int .i64 k] w (Ret B (fun _:Unit=>True) (fun _=>.string (textF k)) (fun _=>[])):=by
 have hw:isC (IntKind.i64.wrap (k-1))=decide (1≤k∧k<9):=by
  unfold in64 at hk
  by_cases h : -9223372036854775808≤k-1
  · rw [wrap_in (by unfold in64;omega)];unfold isC;rw [← Bool.decide_and];exact decide_eq_decide.2 ZO
  · obtain rfl:k = -9223372036854775808:=by omega
    decide
 refine ZX Tryz.func185 hS ?_
 refine Zh (Zi (Zp J (Zn (Za (Zh (Zh (Zi (Zo J (Zy J J (Zn (Za (wC (fun h7=>?_) (fun h7=>?_)))))))))))))
 refine Zh (Zi (Zze ?_))
 exact ⟨(),trivial,by subst h7;rfl,Lh⟩
 refine Zj (Zzn ?_)
 (refine ZC0 rfl ZK (fun w hS=>frame hS ZQ (fun B' hB hS'=>ref5_Class hS' k)) ?_;rintro ⟨⟩ -)
 rw [hw]
 refine Zo J (oExt J ZP ?_)
 refine oExt J ZP ?_
 refine Zp J (Zp J (Zn (Za (Zh (Zh (Zi (Zo J (Zno ?_))))))))
 refine Zn (Za (wC (fun h14=>?_) (fun h14=>?_)))
 refine Zh (Zi (Zze ?_))
 exact ⟨(),trivial,by rw [textF_no.2 ZO];rfl,Lh⟩
 have hk9:1≤k∧k<9:=by omega
 rw [if_pos (by simpa using hk9),wrap_in (by unfold in64;omega)]
 obtain ⟨m,hm⟩:=Int.eq_ofNat_of_zero_le (show 0≤k-1 by omega)
 have htf:=textF_some m ZO
 rw [hm]
 refine Zj (Za (Zh (Zi (Zo J (oQuo J J ZO ?_)))))
 refine ZS0 (t:=16) (v':=.int .i64 ((m / 2:Nat):Int)) rfl (by rw [Int.tdiv_eq_ediv_of_nonneg ZO];rfl) ?_
 (refine ZC0 rfl ZK (fun w hS=>frame hS ZQ (fun B' hB hS'=>ref_Digits hS' ((m / 2:Nat):Int) (by unfold in64;omega))) ?_;rintro ⟨⟩ -)
 have hds:(decF ((m / 2:Nat):Int)).size≤21:=decF_size _
 refine oAddStr J J (by show 1+_≤_;omega) ?_
 refine Zp J (Zn (Za (Zh (Zh (Zi (Zo J (oRem J J (by decide) ?_)))))))
 rw [Int.tmod_eq_emod_of_nonneg ZO]
 refine Zy J J (Zn (Za (wC (fun h21=>?_) (fun h21=>?_))))
 refine Zi (Zo J ?_)
 refine oAddStr rfl rfl (by rw [ByteArray.size_append];show 1+_+1≤_;omega) ?_
 refine Zp J (Zn (Za (Zh (Zi (Zo J (Zza ?_))))))
 exact ⟨(),trivial,by rw [if_pos ZO] at htf;rw [show k=((m+1:Nat):Int) by omega,← htf];rfl,Lh⟩
 refine Zj (Za (Zh (Zi (Zo J (Zza ?_)))))
 exact ⟨(),trivial,by rw [if_neg ZO,emp_app] at htf;rw [show k=((m+1:Nat):Int) by omega,← htf];rfl,Lh⟩
theorem name_case {s:ByteArray}(n:Nat) (hn:∀ k,k<28→namesL.getD k ByteArray.empty=s→k=n) (hs:s≠ByteArray.empty) {o:Int}(h:nameF o=s):o=(n:Int)+1:=by
 unfold nameF at h
 split at h
 · next k=>have:=hn (o-1).toNat ZO h;omega
 · exact absurd h.symm hs
theorem name_not {s:ByteArray}(n:Nat) (hn:n<28) (hs:namesL.getD n ByteArray.empty=s) {o:Int}(h:¬ nameF o=s):o≠(n:Int)+1:=by
 rintro rfl
 apply h
 unfold nameF
 rw [if_pos ZO,← hs]
 congr 1
 omega
theorem ref7_Own {B:Base}{w:World}(hS:St B [] w) (o:Int) :
 CW 291 #[.int .i64 o] w (Ret B (fun _:Unit=>True) (fun _=>.bool (ownF o)) (fun _=>[])):=by
 refine ZX Tryz.func291 hS ?_
 refine Zh (Zi (Zp J (Zn (Za (Zh (Zi (Zo J (Z2 J J (Zo J (ZS (ZT 5) (fun h5=>?_) (fun h5=>?_)))))))))))
 refine Zq J J (Zo J (Zq J J (oLeq J J (Zt J J (Zza ?_)))))
 exact ⟨(),trivial,by simp_all [resVal,ownF] <;> omega,Lh⟩
 refine Zr J J J J (Zr J J J J (Zu J J (Zza ?_)))
 exact ⟨(),trivial,by simp_all [resVal,ownF] <;> omega,Lh⟩
theorem ref7_names {B:Base}{w:World}(hS:St B [] w) (W0:World) :
 CW 263 #[] w (Ret B (fun _:Nat=>True) (fun b=>.slice (some ⟨b,0,none⟩) 28 28) (fun b=>[row Kd.string W0 9 (.slice (some ⟨b,0,none⟩) 28 28) namesL])):=by
 refine ZX Tryz.func263 hS ?_
 refine Zh (Zi (Zp J (Zn (Za (Zh (Zi ?_))))))
 refine oBuildSliceF (Parts.cons J (Parts.cons J (Parts.cons J (Parts.cons J (Parts.cons J (Parts.cons J (Parts.cons J (Parts.cons J (Parts.cons J (Parts.cons J (Parts.cons J (Parts.cons J (Parts.cons J (Parts.cons J (Parts.cons J (Parts.cons J (Parts.cons J (Parts.cons J (Parts.cons J (Parts.cons J (Parts.cons J (Parts.cons J (Parts.cons J (Parts.cons J (Parts.cons J (Parts.cons J (Parts.cons J (Parts.cons J Parts.nil)))))))))))))))))))))))))))) J J J J J (Fulls.cons ZP J (Fulls.cons ZP J (Fulls.cons ZP J (Fulls.cons ZP J (Fulls.cons ZP J (Fulls.cons ZP J (Fulls.cons ZP J (Fulls.cons ZP J (Fulls.cons ZP J (Fulls.cons ZP J (Fulls.cons ZP J (Fulls.cons ZP J (Fulls.cons ZP J (Fulls.cons ZP J (Fulls.cons ZP J (Fulls.cons ZP J (Fulls.cons ZP J (Fulls.cons ZP J (Fulls.cons ZP J (Fulls.cons ZP J (Fulls.cons ZP J (Fulls.cons ZP J (Fulls.cons ZP J (Fulls.cons ZP J (Fulls.cons ZP J (Fulls.cons ZP J (Fulls.cons ZP J (Fulls.cons ZP J Fulls.nil ap) ap) ap) ap) ap) ap) ap) ap) ap) ap) ap) ap) ap) ap) ap) ap) ap) ap) ap) ap) ap) ap) ap) ap) ap) ap) ap) ap) (fun b1=>?_)
 refine Zp J (Zzx ?_)
 exact ⟨b1,trivial,rfl,Leads.trans (blk_row (enc:=Value.string) (h1:=fun _=>rfl) (W:=W0) (xs:=namesL) ZP rfl rfl (by decide)) Lh⟩
theorem ref7_Name {B:Base}{w:World}(hS:St B [] w) (o:Int) :
 CW 220 #[.int .i64 o] w (Ret B (fun _:Unit=>True) (fun _=>.string (nameF o)) (fun _=>[])):=by
 refine ZX Tryz.func220 hS ?_
 refine Zh (Zi (Zp J (Zn (Za (Zh (Zi ?_))))))
 (refine ZC0 rfl ZK (fun w hS=>frame hS ZQ (fun B' hB hS'=>ref7_names hS' B.e)) ?_;rintro b4 -)
 refine Zp J (Zn (Za (Zh (Zh (Zi (Zo J (Zx J J (Zo J (ZS (ZT 7) (fun h7=>?_) (fun h7=>?_))))))))))
 refine Zr J J J J (Zr J J J J (Zr J J J J (Zr J J J J (Zt J J (Zn (Za (wCondT J (Zh (Zi (Zze ?_))))))))))
 exact ⟨(),trivial,by unfold nameF;rw [if_neg ZO];rfl,Lh⟩
 refine Zq J J (Zo J (Zq J J (Zo J (Zq J J (Zv J J (Zq J J (Z1 J J (Zu J J (Zn (Za (wC (fun h12=>?_) (fun h12=>?_))))))))))))
 refine Zh (Zi (Zze ?_))
 exact ⟨(),trivial,by unfold nameF;rw [if_neg ZO];rfl,Lh⟩
 obtain ⟨n,hn⟩:=Int.eq_ofNat_of_zero_le (show 0≤o-1 by omega)
 have hn28:n<28:=by omega
 refine Zj (Za (Zzu ?_))
 first | refine oSub rfl rfl ZO ?_ | refine oSubW rfl rfl ?_
 rw [hn]
 refine ZR J J ZP (by first | exact hn28 | (show n<28;omega)) J J (fun g16 hg16=>?_)
 first | subst hg16 | (injection hg16 with hg16;injection hg16 with hg16;subst hg16)
 refine ZR1 J ZP (by first | exact hn28 | (show n<28;omega)) J (fun u17 hu17=>?_)
 obtain rfl:u17=namesL.getD n ByteArray.empty:=by rw [List.getD_eq_getElem?_getD,hu17];rfl
 refine Zp J (Zzx ?_)
 exact ⟨(),trivial,by unfold nameF;rw [if_pos ZO,hn,Int.toNat_natCast];rfl,Lh⟩
theorem ref7_Need {B:Base}{w:World}(hS:St B [] w) (o:Int) :
 CW 190 #[.int .i64 o] w (Ret B (fun _:Unit=>True) (fun _=>.int .i64 (needF o)) (fun _=>[])):=by
 refine ZX Tryz.func190 hS ?_
 refine Zh (Zi (Zp J (Zn (Zzn ?_))))
 (refine ZC0 rfl ZK (fun w hS=>frame hS ZQ (fun B' hB hS'=>ref7_Name hS' o)) ?_;rintro ⟨⟩ -)
 refine Zn (Za (Zk (Zh (Zi (oSEq J J (Zp J (Zn (Za (wC (fun h5=>?_) (fun h5=>?_))))))))))
 refine Zh (Zzm ?_)
 have ho:=name_case 18 (by decide) (by decide) h5
 exact ⟨(),trivial,by subst ho;rfl,Lh⟩
 have n5:=name_not 18 (by decide) rfl h5
 refine Zh (Zi (oSEq J J (Zp J (Zn (Za (wC (fun h7=>?_) (fun h7=>?_)))))))
 refine Zh (Zzm ?_)
 have ho:=name_case 16 (by decide) (by decide) h7
 exact ⟨(),trivial,by subst ho;rfl,Lh⟩
 have n7:=name_not 16 (by decide) rfl h7
 refine Zh (Zh (Zi (oSEq J J (Zp J (Zn (Za (wC (fun h9=>?_) (fun h9=>?_))))))))
 refine Zj (Za (ZY h9 ?_))
 refine Zh (Zzm ?_)
 have ho:o=15∨o=16:=by
  first
  | exact .inl (name_case 14 (by decide) (by decide) h9)
  | exact .inr (name_case 15 (by decide) (by decide) h9)
 exact ⟨(),trivial,by rcases ho with rfl | rfl <;> rfl,Lh⟩
 refine Zi (oSEq J J ?_)
 have n9:=name_not 14 (by decide) rfl h9
 refine Zp J (Zn (Za (wC (fun h9=>?_) (fun h9=>?_))))
 refine Zh (Zzm ?_)
 have ho:o=15∨o=16:=by
  first
  | exact .inl (name_case 14 (by decide) (by decide) h9)
  | exact .inr (name_case 15 (by decide) (by decide) h9)
 exact ⟨(),trivial,by rcases ho with rfl | rfl <;> rfl,Lh⟩
 refine Zh (Zi (oSEq J J (Zp J (Zn (Za (wC (fun h12=>?_) (fun h12=>?_)))))))
 refine Zh (Zzm ?_)
 have ho:=name_case 17 (by decide) (by decide) h12
 exact ⟨(),trivial,by subst ho;rfl,Lh⟩
 refine Zh (Zi (oSEq J J (Zp J (Zn (Za (wC (fun h14=>?_) (fun h14=>?_)))))))
 refine Zh (Zzm ?_)
 have ho:=name_case 20 (by decide) (by decide) h14
 exact ⟨(),trivial,by subst ho;rfl,Lh⟩
 refine Zh (Zzm ?_)
 have m9:=name_not 15 (by decide) rfl h9
 have m12:=name_not 17 (by decide) rfl h12
 have m14:=name_not 20 (by decide) rfl h14
 exact ⟨(),trivial,by unfold needF;rw [if_neg ZO,if_neg ZO,if_neg ZO,if_neg ZO,if_neg ZO];rfl,Lh⟩
theorem ref7_Ends {B:Base}{w:World}(hS:St B [] w) (o:Int) :
 CW 298 #[.int .i64 o] w (Ret B (fun _:Unit=>True) (fun _=>.bool (endsF o)) (fun _=>[])):=by
 have e1:(nameF o=⟨#[106,117,109,112]⟩)↔o=11:=⟨fun h=>name_case 10 (by decide) (by decide) h,fun h=>by subst h;decide⟩
 have e2:(nameF o=⟨#[112,97,110,105,99]⟩)↔o=22:=⟨fun h=>name_case 21 (by decide) (by decide) h,fun h=>by subst h;decide⟩
 have e3:(nameF o=⟨#[114,101,116,117,114,110]⟩)↔o=24:=⟨fun h=>name_case 23 (by decide) (by decide) h,fun h=>by subst h;decide⟩
 refine ZX Tryz.func298 hS ?_
 refine Zh (Zi (Zp J (Zn (Zzn ?_))))
 (refine ZC0 rfl ZK (fun w hS=>frame hS ZQ (fun B' hB hS'=>ref7_Name hS' o)) ?_;rintro ⟨⟩ -)
 refine oSEq J J (Zo J (ZS (ZT 6) (fun h6=>?_) (fun h6=>?_)))
 refine Zr J J J J (Zr J J J J (Zr J J J J (Zt J J (Zo J (Zr J J J J (Zr J J J J (Zr J J J J (Zt J J (Zza ?_)))))))))
 exact ⟨(),trivial,by simp_all [resVal,endsF],Lh⟩
 refine Zq J J (Zo J (Zq J J ?_))
 (refine ZC0 rfl ZK (fun w hS=>frame hS ZQ (fun B' hB hS'=>ref7_Name hS' o)) ?_;rintro ⟨⟩ -)
 refine Zq J J (oSEq J J (Zu J J (Zo J (ZS (ZT 11) (fun h11=>?_) (fun h11=>?_)))))
 refine Zr J J J J (Zr J J J J (Zr J J J J (Zt J J (Zza ?_))))
 exact ⟨(),trivial,by simp_all [resVal,endsF],Lh⟩
 refine Zq J J (Zo J (Zq J J ?_))
 (refine ZC0 rfl ZK (fun w hS=>frame hS ZQ (fun B' hB hS'=>ref7_Name hS' o)) ?_;rintro ⟨⟩ -)
 refine Zq J J (oSEq J J (Zu J J (Zza ?_)))
 exact ⟨(),trivial,by simp_all [resVal,endsF],Lh⟩
end Go.Proofs.YtogaiijhicfoaaaGreatV
namespace Go.Proofs.YtogaiijhicfoaaaGreatU
set_option maxRecDepth 100000
set_option maxHeartbeats 4000000
open Go.RowKit Go.Proofs.YtogaiijhicfoaaaGreatK Go.Proofs.YtogaiijhicfoaaaGreatT Go.Proofs.YtogaiijhicfoaaaGreatL Go.Proofs.YtogaiijhicfoaaaGreatV Go.Proofs.YtogaiijhicfoaaaGreatG

theorem ris_succ {l:List Int}{i:Nat} : ris l (i+1)=ris l i++(if (i:Int) ∈ l then [(i:Int)] else []):=by
 unfold ris
 rw [List.range_succ,List.filter_append,List.map_append]
 congr 1
 show List.map _ (List.filter _ [i])=_
 by_cases h:(i:Int) ∈ l
 · rw [if_pos h];simp [h]
 · rw [if_neg h];simp [h]
theorem ref25_Rising {B:Base}{w:World}(hS:St B [] w) (l:List Int) (A:Option Addr) (cp:Nat) (hC:(Kd.int .i64).C B.e A l) (m:Nat) (hm:m≤1000000) (W0:World) :
 CW 139 #[.slice A l.length cp,.int .i64 (m:Int)] w (Ret B (fun _:Option Addr×Nat=>True) (fun z=>.slice z.1 (ris l m).length z.2) (fun z=>[row (Kd.int .i64) W0 3 (.slice z.1 (ris l m).length z.2) (ris l m)])):=by
 refine ZX Tryz.func139 hS ?_
 refine Zh (Zi (Zp J (Zn (Za (Zh (Zi (Zp J (Zn (Za (Zh (Zh (Zi (Zp J (Zn (Za (Zk (wLoop (ι:=Nat×Option Addr×Nat) (fun z=>[(0,.slice A l.length cp),(1,.int .i64 (m:Int)),(5,.slice z.2.1 (ris l z.1).length z.2.2),(6,.int .i64 (z.1:Int))]) (fun z=>[row (Kd.int .i64) W0 3 (.slice z.2.1 (ris l z.1).length z.2.2) (ris l z.1)]) (fun z=>z.1≤m) (fun z=>m-z.1) (0,none,0) ?_ cv (Leads.nilrow.trans Lh) ?_)))))))))))))))))
 exact Nat.zero_le _
 rintro ⟨i,A5,c5⟩ hi
 dsimp only at hi
 have hle:=ris_len l i
 have hrs:=ris_succ (l:=l) (i:=i)
 try dsimp only
 refine Zh (Zh (Zi (Zo J (Zo J (Zx J J (Zn (Za (wC (fun h9=>?_) (fun h9=>?_)))))))))
 refine Zj (Za (Zh (Zk (Zzu ?_))))
 (refine ZC0 rfl ZK (fun w hS=>frame hS ZQ (fun B' hB hS'=>in_any hS' A cp l (Kd.C_grow hB hC) (i:Int))) ?_;rintro ⟨⟩ -)
 refine Zn (Za (wC (fun h14=>?_) (fun h14=>?_)))
 refine Zi (Zo J (Zo J (oBuildSlice1 J J J J J ZP J (fun b17=>?_))))
 refine oApp1 (i:Int) J J J J ZP ZP J ZO J (fun g18 cp18=>?_)
 rw [if_pos (by simpa using h14)] at hrs
 rw [show (ris l i).length+1=(ris l (i+1)).length by rw [hrs,List.length_append];rfl,← hrs]
 refine Zp J (Zn (Zzd ?_))
 refine Zp J (Zn (Za ?_))
 exact ⟨rfl,(i+1,some ⟨g18,0,none⟩,cp18),by show i+1≤_;omega,by show m-(i+1)<m-i;omega,cv,Lh⟩
 refine Zj (Zzd ?_)
 refine Zp J (Zn (Za ?_))
 exact ⟨rfl,(i+1,A5,c5),by show i+1≤_;omega,by show m-(i+1)<m-i;omega,by dsimp only;rw [hrs,if_neg (by simpa using h14),List.append_nil];exact cv,by dsimp only;rw [hrs,if_neg (by simpa using h14),List.append_nil];exact (Leads.has ZQ)⟩
 obtain rfl:i=m:=by omega
 refine Zm (Zzf ?_)
 exact ⟨(A5,c5),trivial,rfl,Lh⟩
theorem ref25_refs {B:Base}{w:World}(hS:St B [] w) (f:ApiFun) (fc:List Value) (hf:kApiFun.K B.e f fc) (hl:f.fRefs.length≤1000) (needs:List Int) (A:Option Addr) (cp:Nat) (hC:(Kd.int .i64).C B.e A needs) (W0:World) :
 CW 140 #[.agg fc.toArray,.slice A needs.length cp] w (Ret B (fun _:Option Addr×Nat=>True) (fun z=>.slice z.1 (refsC f needs).length z.2) (fun z=>[row (Kd.int .i64) W0 3 (.slice z.1 (refsC f needs).length z.2) (refsC f needs)])):=by
 obtain ⟨D0,d0,D1,d1,D2,d2,D3,d3,D4,d4,rfl,m0,q0,m1,q1,m2,q2,m3,q3,m4,q4⟩:=kApiFun_open hf
 have hcl:=q2.1
 refine ZX Tryz.func140 hS ?_
 refine Zh (Zi (oBox J ZP (fun b2=>?_)))
 refine Zp J (Zn (Za (Zh (Zi (Zp J (Zn (Za (Zh (Zh (Zi (Zp J (Zn (Za (Zk (wLoop (ι:=Nat×Option Addr×Nat) (fun z=>[(1,.slice A needs.length cp),(2,.pointer (some ⟨b2,0,none⟩)),(5,.slice z.2.1 (refsTo f needs z.1).length z.2.2),(6,.int .i64 (z.1:Int))]) (fun z=>[blk b2 49 [.int .i64 f.fFile,.int .i64 f.fItem,.string f.fName,.int .i64 f.fF.fClass,.slice D0 f.fF.fKinds.length d0,.int .i64 f.fF.fPad,.bool f.fF.fNosplit,.int .i64 f.fF.fFrom,.int .i64 f.fF.fTo,.slice D1 f.fF.fLines.length d1,.slice D2 f.fF.fCode.length d2,.slice D3 f.fF.fRelocs.length d3,.slice D4 f.fRefs.length d4],row (Kd.int .i64) W0 3 (.slice z.2.1 (refsTo f needs z.1).length z.2.2) (refsTo f needs z.1)]) (fun z=>z.1≤f.fF.fCode.length) (fun z=>f.fF.fCode.length-z.1) (0,none,0) ?_ cv (Leads.nilrow.trans Lh) ?_)))))))))))))))
 exact Nat.zero_le _
 rintro ⟨i,A5,c5⟩ hi
 dsimp only at hi
 have hle:=refsTo_len f needs i
 try dsimp only
 refine Zh (Zh (Zi (Zo J (Zz (n:=3) (m:=3) J J J (Zz (n:=7) (m:=10) J J J (Zld ?_))))))
 refine Zv J J (Zx J J (Zo J (ZS (ZT 13) (fun h13=>?_) (fun h13=>?_))))
 refine Zq J J (Zo J (Zq J J (Zz (n:=12) (m:=12) J J J (Zzg ?_))))
 refine Zq J J (Zv J J (Zq J J (Zx J J (Zt J J (Zn (Za (wC (fun h19=>?_) (fun h19=>?_))))))))
 obtain ⟨x,hx⟩:∃ x,f.fF.fCode[i]?=some x:=⟨_,List.getElem?_eq_getElem ZO⟩
 obtain ⟨e1,cs1,hE⟩:=q2.elm hx
 obtain rfl:=kApiInstr_open hE.K
 obtain ⟨r,hr⟩:∃ r,f.fRefs[i]?=some r:=⟨_,List.getElem?_eq_getElem ZO⟩
 obtain ⟨e2,cs2,hE2⟩:=q4.elm hr
 obtain rfl:=(show cs2=[Value.int .i64 r] from hE2.K)
 have hrs:=refsTo_succ (needs:=needs) hx hr
 refine Zj (Za (Zh (Zk (Zh (Zi (Zo J (Zz (n:=3) (m:=3) J J J (Zz (n:=7) (m:=10) J J J (Zld ?_)))))))))
 refine Zo J (oIdxE J J (hE) ZO J J ?_)
 have hc27:=(hE).cell
 refine ZF (ZT 0) (ZT 0) ?_
 refine Zlx hc27 ?_
 (refine ZC0 rfl ZK (fun w hS=>frame hS ZQ (fun B' hB hS'=>ref7_Need hS' x.fOp)) ?_;rintro ⟨⟩ -)
 (refine ZC0 rfl ZK (fun w hS=>frame hS ZQ (fun B' hB hS'=>in_any hS' A cp needs (Kd.C_grow hB hC) (needF x.fOp))) ?_;rintro ⟨⟩ -)
 refine Zn (Za (wC (fun h31=>?_) (fun h31=>?_)))
 refine Zi (Zo J (Zz (n:=12) (m:=12) J J J (Zld ?_)))
 refine Zo J (oIdxE J J (hE2) ZO J J ?_)
 have hc36:=(hE2).cell
 refine Zlx hc36 ?_
 refine oBuildSlice1 J J J J J ZP J (fun b38=>?_)
 refine oApp1 r J J J J ZP ZP J ZO J (fun g39 cp39=>?_)
 rw [if_pos (by simpa using h31)] at hrs
 rw [show (refsTo f needs i).length+1=(refsTo f needs (i+1)).length by rw [hrs,List.length_append];rfl,← hrs]
 refine Zp J (Zn (Zzd ?_))
 refine Zp J (Zn (Za ?_))
 exact ⟨rfl,(i+1,some ⟨g39,0,none⟩,cp39),by show i+1≤_;omega,by show f.fF.fCode.length-(i+1)<f.fF.fCode.length-i;omega,cv,Lh⟩
 refine Zj (Zzd ?_)
 refine Zp J (Zn (Za ?_))
 exact ⟨rfl,(i+1,A5,c5),by show i+1≤_;omega,by show f.fF.fCode.length-(i+1)<f.fF.fCode.length-i;omega,by dsimp only;rw [hrs,if_neg (by simpa using h31),List.append_nil];exact cv,by dsimp only;rw [hrs,if_neg (by simpa using h31),List.append_nil];exact (Leads.has ZQ)⟩
 refine Zm (Zzf ?_)
 have ha:=refsTo_all (f:=f) (needs:=needs) (i:=i) ZO
 exact ⟨(A5,c5),trivial,by dsimp only;rw [← ha];rfl,by dsimp only;rw [← ha];exact (Leads.has ZQ)⟩
 refine Zr J J J J (Zr J J J J (Zr J J J J (Zr J J J J (Zr J J J J (Zu J J (Zn (Za (wCondF J (Zm (Zzf ?_))))))))))
 have ha:=refsTo_all (f:=f) (needs:=needs) (i:=i) ZO
 exact ⟨(A5,c5),trivial,by dsimp only;rw [← ha];rfl,by dsimp only;rw [← ha];exact (Leads.has ZQ)⟩
theorem ref25_Direct {B:Base}{w:World}(hS:St B [] w) (p:ApiProgram) (pc:List Value) (hp:kApiProgram.K B.e p pc) (hsm:SmallP p) (i:Nat) (f:ApiFun) (hfi:p.fFuns[i]?=some f) (W0:World) :
 CW 77 #[.agg pc.toArray,.int .i64 (i:Int)] w (Ret B (fun _:Option Addr×Nat=>True) (fun z=>.slice z.1 (directF p f).length z.2) (fun z=>[row (Kd.int .i64) W0 3 (.slice z.1 (directF p f).length z.2) (directF p f)])):=by
 obtain ⟨A0,c0,A1,c1,rfl,l0,g0,l1,g1⟩:=kApiProgram_open hp
 have hfm:=List.mem_of_getElem? hfi
 have hil:=(List.getElem?_eq_some_iff.1 hfi).1
 have hfs:=hsm.fn f hfm
 have hpf:=hsm.funs
 have hpd:=hsm.dats
 obtain ⟨ef,csf,hEf⟩:=g0.elm hfi
 obtain ⟨D0,d0,D1,d1,D2,d2,D3,d3,D4,d4,rfl,m0,q0,m1,q1,m2,q2,m3,q3,m4,q4⟩:=kApiFun_open hEf.K
 have hrl:=refsC_len f [1,5]
 refine ZX Tryz.func77 hS ?_
 refine Zh (Zi (oBox J ZP (fun b2=>?_)))
 refine Zp J (Zn (Za (Zh (wDrawG J [0,1,2,3,4,7,8,9] [(5,[0,1,2,3,4,7,8,9],[]),(6,[7,8,9],[]),(10,[],[])] [11] 24 ZK J J (fun w0=>?_)))))
 refine Zz (n:=0) (m:=0) J J J (Zld ?_)
 refine Zo J (oIdxE J J (hEf) ZO J J ?_)
 have hc8:=(hEf).cell
 refine Zlx hc8 ?_
 refine Zz (n:=0) (m:=0) J J J (Zld ?_)
 refine Zv J J (Z4 (Z5 J ?_))
 refine oBuildSliceF (Parts.cons J (Parts.cons J Parts.nil)) J J J J J (Fulls.cons ZP J (Fulls.cons ZP J Fulls.nil ap) ap) (fun b10=>?_)
 refine oConv (blk_row (enc:=Value.int .i64) (h1:=fun _=>J) (W:=B.e) (xs:=([1,5]:List Int)) (n:=2) ZP J J (by decide)) ?_
 refine ZG ?_ J (fun w0=>?_)
 refine Z8 J J J J (fun w0=>?_) ?_
 refine Zz (n:=0) (m:=0) J J J ?_
 exact Z9 rfl
 refine Z8 J J J J (fun w0=>?_) ?_
 refine Zld ?_
 exact Z9 rfl
 refine Z8 J J J J (fun w0=>?_) ?_
 refine Zo J ?_
 exact Z9 rfl
 refine Z8 J J J J (fun w0=>?_) ?_
 refine oIdxE J J (hEf) ZO J J ?_
 have hc8:=(hEf).cell
 exact Z9 rfl
 refine Z8 J J J J (fun w0=>?_) ?_
 refine Zlx hc8 ?_
 exact Z9 rfl
 refine Z8 J J J J (fun w0=>?_) ?_
 refine Zz (n:=0) (m:=0) J J J ?_
 exact Z9 rfl
 refine Z8 J J J J (fun w0=>?_) ?_
 refine Zld ?_
 exact Z9 rfl
 refine Z8 J J J J (fun w0=>?_) ?_
 refine Zv J J ?_
 exact Z9 rfl
 exact AgainG.nil
 refine Z4 (Z5 J ?_)
 (refine ZD J (fun w B' hB hR hS'=>ref25_refs hS' f _ (kApiFun_mk _ f m0 (Kd.C_grow hB q0) m1 (Kd.C_grow hB q1) m2 (Kd.C_grow hB q2) m3 (Kd.C_grow hB q3) m4 (Kd.C_grow hB q4)) ZO [1,5] (some ⟨b10,0,none⟩) 2 (row_Cs (W:=B.e) (e:=3) (n:=2) (cp:=2) (hR _ _ ZP)) B.e) ?_;rintro ⟨A7,c7⟩ -)
 refine ZG ?_ J (fun w0=>?_)
 refine Z8 J J J J (fun w0=>?_) ?_
 refine Zz (n:=0) (m:=0) J J J ?_
 exact Z9 rfl
 refine Z8 J J J J (fun w0=>?_) ?_
 refine Zld ?_
 exact Z9 rfl
 refine Z8 J J J J (fun w0=>?_) ?_
 refine Zv J J ?_
 exact Z9 rfl
 exact AgainG.nil
 refine Z4 (Z5 J ?_)
 (refine ZD J (fun w B' hB hR hS'=>ref25_Rising hS' (refsC f [1,5]) A7 c7 (row_Cs (W:=B.e) (e:=3) (n:=(refsC f [1,5]).length) (cp:=c7) (hR _ _ ZP)) p.fFuns.length ZO W0) ?_;rintro ⟨A11,c11⟩ -)
 refine ZG ?_ J (fun w0=>?_)
 exact AgainG.nil
 refine Z6 (Zza ?_)
 exact ⟨(A11,c11),trivial,rfl,Lh⟩
theorem ref25_Datas {B:Base}{w:World}(hS:St B [] w) (p:ApiProgram) (pc:List Value) (hp:kApiProgram.K B.e p pc) (hsm:SmallP p) (i:Nat) (f:ApiFun) (hfi:p.fFuns[i]?=some f) (W0:World) :
 CW 81 #[.agg pc.toArray,.int .i64 (i:Int)] w (Ret B (fun _:Option Addr×Nat=>True) (fun z=>.slice z.1 (datasF p f).length z.2) (fun z=>[row (Kd.int .i64) W0 3 (.slice z.1 (datasF p f).length z.2) (datasF p f)])):=by
 obtain ⟨A0,c0,A1,c1,rfl,l0,g0,l1,g1⟩:=kApiProgram_open hp
 have hfm:=List.mem_of_getElem? hfi
 have hil:=(List.getElem?_eq_some_iff.1 hfi).1
 have hfs:=hsm.fn f hfm
 have hpf:=hsm.funs
 have hpd:=hsm.dats
 obtain ⟨ef,csf,hEf⟩:=g0.elm hfi
 obtain ⟨D0,d0,D1,d1,D2,d2,D3,d3,D4,d4,rfl,m0,q0,m1,q1,m2,q2,m3,q3,m4,q4⟩:=kApiFun_open hEf.K
 have hrl:=refsC_len f [3,4]
 refine ZX Tryz.func81 hS ?_
 refine Zh (Zi (oBox J ZP (fun b2=>?_)))
 refine Zp J (Zn (Za (Zh (wDrawG J [0,1,2,3,4,7,8,9] [(5,[0,1,2,3,4,7,8,9],[]),(6,[7,8,9],[]),(10,[],[])] [11] 24 ZK J J (fun w0=>?_)))))
 refine Zz (n:=0) (m:=0) J J J (Zld ?_)
 refine Zo J (oIdxE J J (hEf) ZO J J ?_)
 have hc8:=(hEf).cell
 refine Zlx hc8 ?_
 refine Zz (n:=1) (m:=1) J J J (Zld ?_)
 refine Zv J J (Z4 (Z5 J ?_))
 refine oBuildSliceF (Parts.cons J (Parts.cons J Parts.nil)) J J J J J (Fulls.cons ZP J (Fulls.cons ZP J Fulls.nil ap) ap) (fun b10=>?_)
 refine oConv (blk_row (enc:=Value.int .i64) (h1:=fun _=>J) (W:=B.e) (xs:=([3,4]:List Int)) (n:=2) ZP J J (by decide)) ?_
 refine ZG ?_ J (fun w0=>?_)
 refine Z8 J J J J (fun w0=>?_) ?_
 refine Zz (n:=0) (m:=0) J J J ?_
 exact Z9 rfl
 refine Z8 J J J J (fun w0=>?_) ?_
 refine Zld ?_
 exact Z9 rfl
 refine Z8 J J J J (fun w0=>?_) ?_
 refine Zo J ?_
 exact Z9 rfl
 refine Z8 J J J J (fun w0=>?_) ?_
 refine oIdxE J J (hEf) ZO J J ?_
 have hc8:=(hEf).cell
 exact Z9 rfl
 refine Z8 J J J J (fun w0=>?_) ?_
 refine Zlx hc8 ?_
 exact Z9 rfl
 refine Z8 J J J J (fun w0=>?_) ?_
 refine Zz (n:=1) (m:=1) J J J ?_
 exact Z9 rfl
 refine Z8 J J J J (fun w0=>?_) ?_
 refine Zld ?_
 exact Z9 rfl
 refine Z8 J J J J (fun w0=>?_) ?_
 refine Zv J J ?_
 exact Z9 rfl
 exact AgainG.nil
 refine Z4 (Z5 J ?_)
 (refine ZD J (fun w B' hB hR hS'=>ref25_refs hS' f _ (kApiFun_mk _ f m0 (Kd.C_grow hB q0) m1 (Kd.C_grow hB q1) m2 (Kd.C_grow hB q2) m3 (Kd.C_grow hB q3) m4 (Kd.C_grow hB q4)) ZO [3,4] (some ⟨b10,0,none⟩) 2 (row_Cs (W:=B.e) (e:=3) (n:=2) (cp:=2) (hR _ _ ZP)) B.e) ?_;rintro ⟨A7,c7⟩ -)
 refine ZG ?_ J (fun w0=>?_)
 refine Z8 J J J J (fun w0=>?_) ?_
 refine Zz (n:=1) (m:=1) J J J ?_
 exact Z9 rfl
 refine Z8 J J J J (fun w0=>?_) ?_
 refine Zld ?_
 exact Z9 rfl
 refine Z8 J J J J (fun w0=>?_) ?_
 refine Zv J J ?_
 exact Z9 rfl
 exact AgainG.nil
 refine Z4 (Z5 J ?_)
 (refine ZD J (fun w B' hB hR hS'=>ref25_Rising hS' (refsC f [3,4]) A7 c7 (row_Cs (W:=B.e) (e:=3) (n:=(refsC f [3,4]).length) (cp:=c7) (hR _ _ ZP)) p.fDats.length ZO W0) ?_;rintro ⟨A11,c11⟩ -)
 refine ZG ?_ J (fun w0=>?_)
 exact AgainG.nil
 refine Z6 (Zza ?_)
 exact ⟨(A11,c11),trivial,rfl,Lh⟩
theorem ref25_Values {B:Base}{w:World}(hS:St B [] w) (p:ApiProgram) (pc:List Value) (hp:kApiProgram.K B.e p pc) (hsm:SmallP p) (i:Nat) (f:ApiFun) (hfi:p.fFuns[i]?=some f) (W0:World) :
 CW 78 #[.agg pc.toArray,.int .i64 (i:Int)] w (Ret B (fun _:Option Addr×Nat=>True) (fun z=>.slice z.1 (valuesF p f).length z.2) (fun z=>[row (Kd.int .i64) W0 3 (.slice z.1 (valuesF p f).length z.2) (valuesF p f)])):=by
 obtain ⟨A0,c0,A1,c1,rfl,l0,g0,l1,g1⟩:=kApiProgram_open hp
 have hfm:=List.mem_of_getElem? hfi
 have hil:=(List.getElem?_eq_some_iff.1 hfi).1
 have hfs:=hsm.fn f hfm
 have hpf:=hsm.funs
 have hpd:=hsm.dats
 obtain ⟨ef,csf,hEf⟩:=g0.elm hfi
 obtain ⟨D0,d0,D1,d1,D2,d2,D3,d3,D4,d4,rfl,m0,q0,m1,q1,m2,q2,m3,q3,m4,q4⟩:=kApiFun_open hEf.K
 have hrl2:=refsC_len f [2]
 have hrl4:=refsC_len f [4]
 have htl:(tablesF p f).length≤p.fDats.length:=ris_len _ _
 refine ZX Tryz.func78 hS ?_
 refine Zh (Zi (oBox J ZP (fun b2=>?_)))
 refine Zp J (Zn (Za (Zh (Zi (Zz (n:=0) (m:=0) J J J (Zld ?_))))))
 refine Zo J (oIdxE J J (hEf) ZO J J ?_)
 have hc11:=(hEf).cell
 refine Zlx hc11 ?_
 refine oBuildSlice1 J J J J J ZP J (fun b13=>?_)
 refine oConv (blk_row (enc:=Value.int .i64) (h1:=fun _=>J) (W:=B.e) (xs:=([2]:List Int)) (n:=1) ZP J J (by decide)) ?_
 (refine ZD J (fun w B' hB hR hS'=>ref25_refs hS' f _ (kApiFun_mk _ f m0 (Kd.C_grow hB q0) m1 (Kd.C_grow hB q1) m2 (Kd.C_grow hB q2) m3 (Kd.C_grow hB q3) m4 (Kd.C_grow hB q4)) ZO [2] (some ⟨b13,0,none⟩) 1 (row_Cs (W:=B.e) (e:=3) (n:=1) (cp:=1) (hR _ _ ZP)) B.e) ?_;rintro ⟨A10,c10⟩ -)
 refine Zp J (Zn (Za (Zh (wDrawG J [0,1,2,3,4,7,8,9] [(5,[0,1,2,3,4,7,8,9],[]),(6,[7,8,9],[]),(10,[],[])] [11] 24 ZK J J (fun w0=>?_)))))
 refine Zz (n:=0) (m:=0) J J J (Zld ?_)
 refine Zo J (oIdxE J J (hEf) ZO J J ?_)
 have hc18:=(hEf).cell
 refine Zlx hc18 ?_
 refine Zz (n:=1) (m:=1) J J J (Zld ?_)
 refine Zv J J (Z4 (Z5 J (oBuildSlice1 J J J J J ZP J (fun b20=>?_))))
 refine oConv (blk_row (enc:=Value.int .i64) (h1:=fun _=>J) (W:=B.e) (xs:=([4]:List Int)) (n:=1) ZP J J (by decide)) ?_
 refine ZG ?_ J (fun w0=>?_)
 refine Z8 J J J J (fun w0=>?_) ?_
 refine Zz (n:=0) (m:=0) J J J ?_
 exact Z9 rfl
 refine Z8 J J J J (fun w0=>?_) ?_
 refine Zld ?_
 exact Z9 rfl
 refine Z8 J J J J (fun w0=>?_) ?_
 refine Zo J ?_
 exact Z9 rfl
 refine Z8 J J J J (fun w0=>?_) ?_
 refine oIdxE J J (hEf) ZO J J ?_
 have hc18:=(hEf).cell
 exact Z9 rfl
 refine Z8 J J J J (fun w0=>?_) ?_
 refine Zlx hc18 ?_
 exact Z9 rfl
 refine Z8 J J J J (fun w0=>?_) ?_
 refine Zz (n:=1) (m:=1) J J J ?_
 exact Z9 rfl
 refine Z8 J J J J (fun w0=>?_) ?_
 refine Zld ?_
 exact Z9 rfl
 refine Z8 J J J J (fun w0=>?_) ?_
 refine Zv J J ?_
 exact Z9 rfl
 exact AgainG.nil
 refine Z4 (Z5 J ?_)
 (refine ZD J (fun w B' hB hR hS'=>ref25_refs hS' f _ (kApiFun_mk _ f m0 (Kd.C_grow hB q0) m1 (Kd.C_grow hB q1) m2 (Kd.C_grow hB q2) m3 (Kd.C_grow hB q3) m4 (Kd.C_grow hB q4)) ZO [4] (some ⟨b20,0,none⟩) 1 (row_Cs (W:=B.e) (e:=3) (n:=1) (cp:=1) (hR _ _ ZP)) B.e) ?_;rintro ⟨A13,c13⟩ -)
 refine ZG ?_ J (fun w0=>?_)
 refine Z8 J J J J (fun w0=>?_) ?_
 refine Zz (n:=1) (m:=1) J J J ?_
 exact Z9 rfl
 refine Z8 J J J J (fun w0=>?_) ?_
 refine Zld ?_
 exact Z9 rfl
 refine Z8 J J J J (fun w0=>?_) ?_
 refine Zv J J ?_
 exact Z9 rfl
 exact AgainG.nil
 refine Z4 (Z5 J ?_)
 (refine ZD J (fun w B' hB hR hS'=>ref25_Rising hS' (refsC f [4]) A13 c13 (row_Cs (W:=B.e) (e:=3) (n:=(refsC f [4]).length) (cp:=c13) (hR _ _ ZP)) p.fDats.length ZO B.e) ?_;rintro ⟨A17,c17⟩ -)
 have htk0:takenTo p f 0=refsC f [2]:=by unfold takenTo;simp
 refine ZS0 (t:=5) (v':=.slice A10 (takenTo p f 0).length c10) rfl (by rw [htk0]) ?_
 refine ZG ?_ J (fun w0=>?_)
 exact AgainG.nil
 refine Z6 (Zp J (Zn (Za (Zh (Zh (Zi (Zp J (Zn (Za (Zk ?_))))))))))
 refine wLoop (ι:=Nat×Option Addr×Nat) (fun z=>[(2,.pointer (some ⟨b2,0,none⟩)),(5,.slice z.2.1 (takenTo p f z.1).length z.2.2),(6,.slice A17 (tablesF p f).length c17),(7,.int .i64 (z.1:Int))]) (fun z=>[blk b2 29 (pcL p A0 c0 A1 c1),row (Kd.int .i64) B.e 3 (.slice z.2.1 (takenTo p f z.1).length z.2.2) (takenTo p f z.1),row (Kd.int .i64) B.e 3 (.slice A17 (tablesF p f).length c17) (tablesF p f)]) (fun z=>z.1≤(tablesF p f).length) (fun z=>(tablesF p f).length-z.1) (0,A10,c10) ?_ cv (by rw [htk0];exact (Leads.has ZQ)) ?_
 exact Nat.zero_le _
 rintro ⟨j,A5,c5⟩ hj
 dsimp only at hj
 have hto:=takenTo_le hsm hfs.2.1 j
 try dsimp only
 refine Zh (Zh (Zi (Zo J (Zo J (Zv J J (Zx J J (Zn (Za (wC (fun h29=>?_) (fun h29=>?_))))))))))
 refine Zj (Za (Zh (Zk (wDrawG J [0,1,2,3,4,5,6,7,8,9] [(10,[],[])] [11] 24 ZK J J (fun w0=>?_)))))
 refine Zo J (Zz (n:=1) (m:=1) J J J (Zld ?_))
 refine Zo J (Zo J (ZR J J ZP ZO J J (fun g37 hg37=>?_)))
 first | subst hg37 | (injection hg37 with hg37;injection hg37 with hg37;subst hg37)
 refine ZR1 J ZP ZO J (fun u38 hu38=>?_)
 obtain ⟨k,hk⟩:=Int.eq_ofNat_of_zero_le (show 0≤u38 from (mem_ris.1 (List.mem_of_getElem? hu38)).2.1)
 have hkl:=(mem_ris.1 (List.mem_of_getElem? hu38)).2.2
 obtain ⟨d,hd⟩:∃ d,p.fDats[k]?=some d:=⟨_,List.getElem?_eq_getElem ZO⟩
 have hts:=takenTo_succ hu38
 rw [hk,tbl_at hd] at hts
 obtain ⟨e2,cs2,hE2⟩:=g1.elm hd
 obtain ⟨G0,k0,G1,k1,G2,k2,rfl,n0,r0,n1,r1,n2,r2⟩:=kApiDat_open hE2.K
 have hdr:=(hsm.dt d (List.mem_of_getElem? hd)).2.1
 refine ZS0 (t:=38) (v':=.int .i64 (k:Int)) rfl (by rw [hk]) ?_
 refine oIdxE J J (hE2) ZO J J ?_
 have hc39:=(hE2).cell
 refine ZF (ZT 6) (ZT 6) ?_
 refine Zlx hc39 ?_
 refine Z4 (Z5 J (oAppA (kd:=Kd.int .i64) (W:=B.e) (xs:=takenTo p f j) (ys:=d.fRefs) J J J J ZP J (fun w hw=>src_Cs r2 (Base.grow hw.ok)) ZO J (fun A30 c30 hc30=>?_)))
 rw [show (takenTo p f j).length+d.fRefs.length=(takenTo p f (j+1)).length by rw [hts,List.length_append],← hts]
 refine ZG ?_ J (fun w0=>?_)
 exact AgainG.nil
 refine Z6 (Zp J (Zn (Zzd ?_)))
 refine Zp J (Zn (Za ?_))
 exact ⟨rfl,(j+1,A30,c30),by show j+1≤_;omega,by show (tablesF p f).length-(j+1)<(tablesF p f).length-j;omega,cv,Lh⟩
 obtain rfl:j=(tablesF p f).length:=by omega
 rw [takenTo_all] at *
 refine Zm (Zb (Zb (Ze (Za (Zh (Zi (Zo J (Zz (n:=0) (m:=0) J J J (Zld ?_)))))))))
 refine Zv J J ?_
 (refine ZD J (fun w B' hB hR hS'=>ref25_Rising hS' (takenF p f) A5 c5 (row_Cs (W:=B.e) (e:=3) (n:=(takenF p f).length) (cp:=c5) (hR _ _ ZP)) p.fFuns.length ZO W0) ?_;rintro ⟨A36,c36⟩ -)
 refine Zp J (Zzx ?_)
 exact ⟨(A36,c36),trivial,rfl,Lh⟩
theorem ref25_Refers {B:Base}{w:World}(hS:St B [] w) (p:ApiProgram) (pc:List Value) (hp:kApiProgram.K B.e p pc) (hsm:SmallP p) (i:Nat) (f:ApiFun) (hfi:p.fFuns[i]?=some f) (W0:World) :
 CW 79 #[.agg pc.toArray,.int .i64 (i:Int)] w (Ret B (fun _:Option Addr×Nat=>True) (fun z=>.slice z.1 (refersF p f).length z.2) (fun z=>[row (Kd.int .i64) W0 3 (.slice z.1 (refersF p f).length z.2) (refersF p f)])):=by
 obtain ⟨A0,c0,A1,c1,rfl,l0,g0,l1,g1⟩:=kApiProgram_open hp
 have hfm:=List.mem_of_getElem? hfi
 have hil:=(List.getElem?_eq_some_iff.1 hfi).1
 have hfs:=hsm.fn f hfm
 have hpf:=hsm.funs
 have hpd:=hsm.dats
 obtain ⟨ef,csf,hEf⟩:=g0.elm hfi
 obtain ⟨D0,d0,D1,d1,D2,d2,D3,d3,D4,d4,rfl,m0,q0,m1,q1,m2,q2,m3,q3,m4,q4⟩:=kApiFun_open hEf.K
 have hd1:(directF p f).length≤p.fFuns.length:=ris_len _ _
 have hd2:(valuesF p f).length≤p.fFuns.length:=ris_len _ _
 refine ZX Tryz.func79 hS ?_
 refine Zh (Zi (oBox J ZP (fun b2=>?_)))
 refine Zp J (Zn (Za (Zh (Zi (Zp J (Zn (Za (Zh (Zi (Zo J (Zla ?_)))))))))))
 refine Zo J ?_
 (refine ZC0 rfl ZK (fun w hS=>frame hS ZQ (fun B' hB hS'=>ref25_Direct hS' p _ (gPg hB hp) hsm i f hfi B.e)) ?_;rintro ⟨A9,c9⟩ -)
 refine oConv (Leads.nilrow (kd:=Kd.int .i64) (W:=B.e) (e:=3)) ?_
 refine oAppA (kd:=Kd.int .i64) (W:=B.e) (e:=3) (xs:=[]) (ys:=directF p f) J J J J ZP J (fun w hw=>src_row (e:=3) (n:=(directF p f).length) (cp:=c9) (hw.get ZP)) (by simp;omega) J (fun A10 c10 hc10=>?_)
 rw [List.length_nil,Nat.zero_add,List.nil_append]
 refine Zp J (Zn (Za (Zh (Zi (Zo J (Zla ?_))))))
 refine Zo J ?_
 (refine ZC0 rfl ZK (fun w hS=>frame hS ZQ (fun B' hB hS'=>ref25_Values hS' p _ (gPg hB hp) hsm i f hfi B.e)) ?_;rintro ⟨A14,c14⟩ -)
 refine oAppA (kd:=Kd.int .i64) (W:=B.e) (e:=3) (xs:=directF p f) (ys:=valuesF p f) J J J J ZP J (fun w hw=>src_row (e:=3) (n:=(valuesF p f).length) (cp:=c14) (hw.get ZP)) ZO J (fun A15 c15 hc15=>?_)
 rw [show (directF p f).length+(valuesF p f).length=(directF p f++valuesF p f).length by rw [List.length_append]]
 refine Zp J (Zn (Za (Zh (Zi (Zo J (Zz (n:=0) (m:=0) J J J (Zld ?_)))))))
 refine Zv J J ?_
 (refine ZD J (fun w B' hB hR hS'=>ref25_Rising hS' (directF p f++valuesF p f) A15 c15 (row_Cs (W:=B.e) (e:=3) (n:=(directF p f++valuesF p f).length) (cp:=c15) (hR _ _ ZP)) p.fFuns.length ZO W0) ?_;rintro ⟨A20,c20⟩ -)
 refine Zp J (Zzx ?_)
 exact ⟨(A20,c20),trivial,rfl,Lh⟩
theorem ref25_Vias {B:Base}{w:World}(hS:St B [] w) (p:ApiProgram) (pc:List Value) (hp:kApiProgram.K B.e p pc) (hsm:SmallP p) (i:Nat) (f:ApiFun) (hfi:p.fFuns[i]?=some f) (W0:World) :
 CW 80 #[.agg pc.toArray,.int .i64 (i:Int)] w (Ret B (fun _:Option Addr×Nat=>True) (fun z=>.slice z.1 (viasF f).length z.2) (fun z=>[row (Kd.int .i64) W0 3 (.slice z.1 (viasF f).length z.2) (viasF f)])):=by
 obtain ⟨A0,c0,A1,c1,rfl,l0,g0,l1,g1⟩:=kApiProgram_open hp
 have hfm:=List.mem_of_getElem? hfi
 have hil:=(List.getElem?_eq_some_iff.1 hfi).1
 have hfs:=hsm.fn f hfm
 have hpf:=hsm.funs
 have hpd:=hsm.dats
 obtain ⟨ef,csf,hEf⟩:=g0.elm hfi
 obtain ⟨D0,d0,D1,d1,D2,d2,D3,d3,D4,d4,rfl,m0,q0,m1,q1,m2,q2,m3,q3,m4,q4⟩:=kApiFun_open hEf.K
 refine ZX Tryz.func80 hS ?_
 refine Zh (Zi (oBox J ZP (fun b2=>?_)))
 refine Zp J (Zn (Za (Zh (Zi (Zp J (Zn (Za (Zh (Zh (Zi (Zp J (Zn (Za (Zk (wLoop (ι:=Nat×Option Addr×Nat) (fun z=>[(1,.int .i64 (i:Int)),(2,.pointer (some ⟨b2,0,none⟩)),(5,.slice z.2.1 (viaTo f z.1).length z.2.2),(6,.int .i64 (z.1:Int))]) (fun z=>[blk b2 29 (pcL p A0 c0 A1 c1),row (Kd.int .i64) B.e 3 (.slice z.2.1 (viaTo f z.1).length z.2.2) (viaTo f z.1)]) (fun z=>z.1≤f.fF.fCode.length) (fun z=>f.fF.fCode.length-z.1) (0,none,0) ?_ cv (Leads.nilrow.trans Lh) ?_)))))))))))))))
 exact Nat.zero_le _
 rintro ⟨j,A3,c3⟩ hj
 dsimp only at hj
 have hle:=viaTo_le f j
 try dsimp only
 refine Zh (Zh (Zi (Zo J (Zz (n:=0) (m:=0) J J J (Zld ?_)))))
 refine Zo J (oIdxE J J (hEf) ZO J J ?_)
 have hc11:=(hEf).cell
 refine ZF (ZT 3) (ZT 3) ?_
 refine ZF (ZT 7) (ZT 10) ?_
 refine Zlx hc11 ?_
 refine Zv J J (Zx J J (Zn (Za (wC (fun h16=>?_) (fun h16=>?_)))))
 obtain ⟨x,hx⟩:∃ x,f.fF.fCode[j]?=some x:=⟨_,List.getElem?_eq_getElem ZO⟩
 obtain ⟨e1,cs1,hE⟩:=q2.elm hx
 obtain rfl:=kApiInstr_open hE.K
 have hvs:=viaTo_succ hx
 refine Zj (Za (Zh (Zk (Zh (Zi (Zz (n:=0) (m:=0) J J J (Zld ?_)))))))
 refine Zo J (oIdxE J J (hEf) ZO J J ?_)
 have hc22:=(hEf).cell
 refine ZF (ZT 3) (ZT 3) ?_
 refine ZF (ZT 7) (ZT 10) ?_
 refine Zlx hc22 ?_
 refine Zo J (oIdxE J J (hE) ZO J J ?_)
 have hc27:=(hE).cell
 refine ZF (ZT 0) (ZT 0) ?_
 refine Zlx hc27 ?_
 refine Zy J J (Zn (Za (wC (fun h30=>?_) (fun h30=>?_))))
 refine Zi (Zo J (Zz (n:=0) (m:=0) J J J (Zld ?_)))
 refine Zo J (oIdxE J J (hEf) ZO J J ?_)
 have hc35:=(hEf).cell
 refine ZF (ZT 3) (ZT 3) ?_
 refine ZF (ZT 7) (ZT 10) ?_
 refine Zlx hc35 ?_
 refine Zo J (oIdxE J J (hE) ZO J J ?_)
 have hc40:=(hE).cell
 refine ZF (ZT 3) (ZT 3) ?_
 refine Zlx hc40 ?_
 refine oBuildSlice1 J J J J J ZP J (fun b43=>?_)
 refine oApp1 x.fC J J J J ZP ZP J ZO J (fun g44 cp44=>?_)
 rw [if_pos h30] at hvs
 rw [show (viaTo f j).length+1=(viaTo f (j+1)).length by rw [hvs,List.length_append];rfl,← hvs]
 refine Zp J (Zn (Zzd ?_))
 refine Zp J (Zn (Za ?_))
 exact ⟨rfl,(j+1,some ⟨g44,0,none⟩,cp44),by show j+1≤_;omega,by show f.fF.fCode.length-(j+1)<f.fF.fCode.length-j;omega,cv,Lh⟩
 refine Zj (Zzd ?_)
 refine Zp J (Zn (Za ?_))
 exact ⟨rfl,(j+1,A3,c3),by show j+1≤_;omega,by show f.fF.fCode.length-(j+1)<f.fF.fCode.length-j;omega,by dsimp only;rw [hvs,if_neg h30,List.append_nil];exact cv,by dsimp only;rw [hvs,if_neg h30,List.append_nil];exact (Leads.has ZQ)⟩
 obtain rfl:j=f.fF.fCode.length:=by omega
 refine Zm (Zb (Zb (Ze (Zzn ?_))))
 (refine ZD J (fun w B' hB hR hS'=>ref25_Rising hS' (viaTo f f.fF.fCode.length) A3 c3 (row_Cs (W:=B.e) (e:=3) (n:=(viaTo f f.fF.fCode.length).length) (cp:=c3) (hR _ _ ZP)) 8 ZO W0) ?_;rintro ⟨A24,c24⟩ -)
 rw [show ris (viaTo f f.fF.fCode.length) 8=viasF f by unfold viaTo viasF;rw [List.take_length]]
 refine Zp J (Zzx ?_)
 exact ⟨(A24,c24),trivial,rfl,Lh⟩
def listF (p:ApiProgram) (k:Nat) (f:ApiFun):List Int:=if k=0 then directF p f else if k=1 then valuesF p f else if k=2 then refersF p f else if k=3 then viasF f else datasF p f
theorem ref25_Lists {B:Base}{w:World}(hS:St B [] w) (p:ApiProgram) (pc:List Value) (hp:kApiProgram.K B.e p pc) (hsm:SmallP p) (k:Nat) (W0:World) :
 CW 22 #[.agg pc.toArray,.int .i64 (k:Int)] w (Ret B (fun z:Option Addr×Nat×List Hdr=>z.2.2.length=p.fFuns.length) (fun z=>.slice z.1 p.fFuns.length z.2.1) (fun z=>[row kHdr W0 42 (.slice z.1 p.fFuns.length z.2.1) z.2.2,bun (rws (Kd.int .i64) W0 3 z.2.2 (p.fFuns.map (listF p k)))])):=by
 obtain ⟨A0,c0,A1,c1,rfl,l0,g0,l1,g1⟩:=kApiProgram_open hp
 have hpf:=hsm.funs
 refine ZX Tryz.func22 hS ?_
 refine Zh (Zi (oBox J ZP (fun b2=>?_)))
 refine Zp J (Zn (Za (Zh (Zi (Zp J (Zn (Za (Zh (Zh (Zi (Zp J (Zn (Za (Zk (wLoop (ι:=Nat×List Hdr×Option Addr×Nat) (fun z=>[(1,.int .i64 (k:Int)),(2,.pointer (some ⟨b2,0,none⟩)),(5,.slice z.2.2.1 z.1 z.2.2.2),(6,.int .i64 (z.1:Int))]) (fun z=>[blk b2 29 (pcL p A0 c0 A1 c1),row kHdr W0 42 (.slice z.2.2.1 z.1 z.2.2.2) z.2.1,bun (rws (Kd.int .i64) W0 3 z.2.1 ((p.fFuns.map (listF p k)).take z.1))]) (fun z=>z.1≤p.fFuns.length∧z.2.1.length=z.1) (fun z=>p.fFuns.length-z.1) (0,[],none,0) ?_ cv (Leads.nilrow.trans (bun_nil.trans Lh)) ?_)))))))))))))))
 exact ⟨Nat.zero_le _,rfl⟩
 rintro ⟨i,hs,A5,c5⟩ ⟨hi,hl⟩
 dsimp only at hi hl
 have hxl:((p.fFuns.map (listF p k)).take i).length=i:=by rw [List.length_take,List.length_map];omega
 try dsimp only
 refine Zh (Zh (Zi (Zo J (Zz (n:=0) (m:=0) J J J (Zld ?_)))))
 refine Zv J J (Zx J J (Zn (Za (wC (fun h11=>?_) (fun h11=>?_)))))
 obtain ⟨f,hf⟩:∃ f,p.fFuns[i]?=some f:=⟨_,List.getElem?_eq_getElem ZO⟩
 refine Zj (Za (Zh (Zk (Zh (Zi (Zo J (Zn (Za (Zk (Zh (Zi (Zy J J (Zp J (Zn (Za (wC (fun h21=>?_) (fun h21=>?_)))))))))))))))))
 have hlf:listF p k f=directF p f:=by unfold listF;rw [if_pos ZO]
 refine Zi (Zo J (Zla ?_))
 refine Zo J ?_
 (refine ZC0 rfl ZK (fun w hS=>frame hS ZQ (fun B' hB hS'=>ref25_Direct hS' p _ (gPg hB hp) hsm i f hf W0)) ?_;rintro ⟨A26,c26⟩ -)
 refine oBuildSlice1 J J J J J ZP J (fun b27=>?_)
 refine oApp1 (kd:=kHdr) ((A26,(directF p f).length,c26):Hdr) J J J J ZP ZP J ZO J (fun g28 cp28=>?_)
 refine oSnoc (kd:=Kd.int .i64) (W:=W0) (ei:=3) (u:=(A26,(directF p f).length,c26)) (l:=directF p f) (hs:=hs) (xss:=(p.fFuns.map (listF p k)).take i) ZP ZP ZO ?_
 rw [← hlf,map_take_succ (listF p k) hf,hl]
 refine Zp J (Zn (Zd (Zzd ?_)))
 refine Zp J (Zn (Za ?_))
 exact ⟨rfl,(i+1,hs++[(A26,(listF p k f).length,c26)],some ⟨g28,0,none⟩,cp28),⟨by show i+1≤_;omega,by show (hs++_).length=i+1;rw [List.length_append,hl];rfl⟩,by show p.fFuns.length-(i+1)<p.fFuns.length-i;omega,cv,Lh⟩
 refine Zh (Zi (Zy J J (Zp J (Zn (Za (wC (fun h29=>?_) (fun h29=>?_)))))))
 have hlf:listF p k f=valuesF p f:=by unfold listF;rw [if_neg ZO,if_pos ZO]
 refine Zi (Zo J (Zla ?_))
 refine Zo J ?_
 (refine ZC0 rfl ZK (fun w hS=>frame hS ZQ (fun B' hB hS'=>ref25_Values hS' p _ (gPg hB hp) hsm i f hf W0)) ?_;rintro ⟨A34,c34⟩ -)
 refine oBuildSlice1 J J J J J ZP J (fun b35=>?_)
 refine oApp1 (kd:=kHdr) ((A34,(valuesF p f).length,c34):Hdr) J J J J ZP ZP J ZO J (fun g36 cp36=>?_)
 refine oSnoc (kd:=Kd.int .i64) (W:=W0) (ei:=3) (u:=(A34,(valuesF p f).length,c34)) (l:=valuesF p f) (hs:=hs) (xss:=(p.fFuns.map (listF p k)).take i) ZP ZP ZO ?_
 rw [← hlf,map_take_succ (listF p k) hf,hl]
 refine Zp J (Zn (Zd (Zzd ?_)))
 refine Zp J (Zn (Za ?_))
 exact ⟨rfl,(i+1,hs++[(A34,(listF p k f).length,c34)],some ⟨g36,0,none⟩,cp36),⟨by show i+1≤_;omega,by show (hs++_).length=i+1;rw [List.length_append,hl];rfl⟩,by show p.fFuns.length-(i+1)<p.fFuns.length-i;omega,cv,Lh⟩
 refine Zh (Zi (Zy J J (Zp J (Zn (Za (wC (fun h37=>?_) (fun h37=>?_)))))))
 have hlf:listF p k f=refersF p f:=by unfold listF;rw [if_neg ZO,if_neg ZO,if_pos ZO]
 refine Zi (Zo J (Zla ?_))
 refine Zo J ?_
 (refine ZC0 rfl ZK (fun w hS=>frame hS ZQ (fun B' hB hS'=>ref25_Refers hS' p _ (gPg hB hp) hsm i f hf W0)) ?_;rintro ⟨A42,c42⟩ -)
 refine oBuildSlice1 J J J J J ZP J (fun b43=>?_)
 refine oApp1 (kd:=kHdr) ((A42,(refersF p f).length,c42):Hdr) J J J J ZP ZP J ZO J (fun g44 cp44=>?_)
 refine oSnoc (kd:=Kd.int .i64) (W:=W0) (ei:=3) (u:=(A42,(refersF p f).length,c42)) (l:=refersF p f) (hs:=hs) (xss:=(p.fFuns.map (listF p k)).take i) ZP ZP ZO ?_
 rw [← hlf,map_take_succ (listF p k) hf,hl]
 refine Zp J (Zn (Zd (Zzd ?_)))
 refine Zp J (Zn (Za ?_))
 exact ⟨rfl,(i+1,hs++[(A42,(listF p k f).length,c42)],some ⟨g44,0,none⟩,cp44),⟨by show i+1≤_;omega,by show (hs++_).length=i+1;rw [List.length_append,hl];rfl⟩,by show p.fFuns.length-(i+1)<p.fFuns.length-i;omega,cv,Lh⟩
 refine Zh (Zi (Zy J J (Zp J (Zn (Za (wC (fun h45=>?_) (fun h45=>?_)))))))
 have hlf:listF p k f=viasF f:=by unfold listF;rw [if_neg ZO,if_neg ZO,if_neg ZO,if_pos ZO]
 refine Zi (Zo J (Zla ?_))
 refine Zo J ?_
 (refine ZC0 rfl ZK (fun w hS=>frame hS ZQ (fun B' hB hS'=>ref25_Vias hS' p _ (gPg hB hp) hsm i f hf W0)) ?_;rintro ⟨A50,c50⟩ -)
 refine oBuildSlice1 J J J J J ZP J (fun b51=>?_)
 refine oApp1 (kd:=kHdr) ((A50,(viasF f).length,c50):Hdr) J J J J ZP ZP J ZO J (fun g52 cp52=>?_)
 refine oSnoc (kd:=Kd.int .i64) (W:=W0) (ei:=3) (u:=(A50,(viasF f).length,c50)) (l:=viasF f) (hs:=hs) (xss:=(p.fFuns.map (listF p k)).take i) ZP ZP ZO ?_
 rw [← hlf,map_take_succ (listF p k) hf,hl]
 refine Zp J (Zn (Zd (Zzd ?_)))
 refine Zp J (Zn (Za ?_))
 exact ⟨rfl,(i+1,hs++[(A50,(listF p k f).length,c50)],some ⟨g52,0,none⟩,cp52),⟨by show i+1≤_;omega,by show (hs++_).length=i+1;rw [List.length_append,hl];rfl⟩,by show p.fFuns.length-(i+1)<p.fFuns.length-i;omega,cv,Lh⟩
 have hlf:listF p k f=datasF p f:=by unfold listF;rw [if_neg ZO,if_neg ZO,if_neg ZO,if_neg ZO]
 refine Zi (Zo J (Zla ?_))
 refine Zo J ?_
 (refine ZC0 rfl ZK (fun w hS=>frame hS ZQ (fun B' hB hS'=>ref25_Datas hS' p _ (gPg hB hp) hsm i f hf W0)) ?_;rintro ⟨A18,c18⟩ -)
 refine oBuildSlice1 J J J J J ZP J (fun b19=>?_)
 refine oApp1 (kd:=kHdr) ((A18,(datasF p f).length,c18):Hdr) J J J J ZP ZP J ZO J (fun g20 cp20=>?_)
 refine oSnoc (kd:=Kd.int .i64) (W:=W0) (ei:=3) (u:=(A18,(datasF p f).length,c18)) (l:=datasF p f) (hs:=hs) (xss:=(p.fFuns.map (listF p k)).take i) ZP ZP ZO ?_
 rw [← hlf,map_take_succ (listF p k) hf,hl]
 refine Zp J (Zn (Zd (Zzd ?_)))
 refine Zp J (Zn (Za ?_))
 exact ⟨rfl,(i+1,hs++[(A18,(listF p k f).length,c18)],some ⟨g20,0,none⟩,cp20),⟨by show i+1≤_;omega,by show (hs++_).length=i+1;rw [List.length_append,hl];rfl⟩,by show p.fFuns.length-(i+1)<p.fFuns.length-i;omega,cv,Lh⟩
 obtain rfl:i=p.fFuns.length:=by omega
 rw [show (p.fFuns.map (listF p k)).take p.fFuns.length=p.fFuns.map (listF p k) from List.take_of_length_le (by simp)]
 refine Zm (Zzf ?_)
 exact ⟨(A5,c5,hs),hl,rfl,Lh⟩
open Classical in
noncomputable def reachB (g:Graph) (f:List Int):List Bool:=(List.range g.length).map fun i:Nat=>decide (RP g f (i:Int))
theorem reachB_len (g:Graph) (f:List Int):(reachB g f).length=g.length:=by unfold reachB;simp
theorem reachB_at (g:Graph) (f:List Int) (i:Nat):(reachB g f)[i]?=some true↔i<g.length∧RP g f (i:Int):=by
 unfold reachB
 rw [List.getElem?_map]
 by_cases hi:i<g.length
 · rw [List.getElem?_range hi];simp [hi]
 · rw [List.getElem?_eq_none (by simpa using hi)];simp [hi]
theorem bools_eq {a b:List Bool}(hl:a.length=b.length) (h:∀ i:Nat,a[i]?=some true↔b[i]?=some true):a=b:=by
 apply List.ext_getElem?
 intro i
 have hi:=h i
 cases ha:a[i]? with
 | none=>
  have:=List.getElem?_eq_none_iff.1 ha
  rw [List.getElem?_eq_none ZO]
 | some x=>
  have hlt:=(List.getElem?_eq_some_iff.1 ha).1
  cases hb:b[i]? with
  | none=>have:=List.getElem?_eq_none_iff.1 hb;omega
  | some y=>rw [ha,hb] at hi;cases x <;> cases y <;> simp_all
theorem reach_uniq {g:Graph}{f:List Int}{l:List Bool}(hl:l.length=g.length) (h:∀ i:Nat,l[i]?=some true↔RP g f (i:Int)):reachB g f=l:=by
 refine bools_eq (by rw [reachB_len,hl]) (fun i=>?_)
 rw [reachB_at,h i]
 refine ⟨fun k=>k.2,fun k=>⟨?_,k⟩⟩
 have:=(List.getElem?_eq_some_iff.1 ((h i).2 k)).1
 omega
theorem rows_small {p:ApiProgram}(hsm:SmallP p) {F:ApiFun→List Int}(hF:∀ f,(F f).length≤1000):SmallG (p.fFuns.map F):=by
 have:=hsm.funs
 refine ⟨by rw [List.length_map];omega,fun l hl=>?_⟩
 obtain ⟨f,_,rfl⟩:=List.mem_map.1 hl
 exact hF f
theorem refG_small {p:ApiProgram}(hsm:SmallP p):SmallG (p.fFuns.map (refersF p)):=rows_small hsm (fun f=>by have:=ris_len (directF p f++valuesF p f) p.fFuns.length;have:=hsm.funs;unfold refersF;omega)
noncomputable def liveL (p:ApiProgram):List Bool:=reachB (p.fFuns.map (refersF p)) [p.fEntry]
theorem liveL_len (p:ApiProgram):(liveL p).length=p.fFuns.length:=by unfold liveL;rw [reachB_len,List.length_map]
theorem prog_Live {B:Base}{w:World}(hS:St B [] w) (p:ApiProgram) (pc:List Value) (hp:kApiProgram.K B.e p pc) (hsm:SmallP p) (W0:World) :
 CW 29 #[.agg pc.toArray] w (Ret B (fun _:Option Addr×Nat=>True) (fun z=>.slice z.1 p.fFuns.length z.2) (fun z=>[row Kd.bool W0 4 (.slice z.1 p.fFuns.length z.2) (liveL p)])):=by
 obtain ⟨A0,c0,A1,c1,rfl,l0,g0,l1,g1⟩:=kApiProgram_open hp
 have hgl:(p.fFuns.map (refersF p)).length=p.fFuns.length:=List.length_map ..
 refine ZX Tryz.func29 hS ?_
 refine Zh (Zi (oBox J ZP (fun b1=>?_)))
 refine Zp J (Zn (Za (Zh (wDrawN J J (ZM (i:=0) (rs:=[2]) ZK ?_)))))
 refine ZA J ?_ ?_
 refine Zla ?_
 refine Z7 (ZM (i:=1) (rs:=[2]) ZK ?_)
 refine ZA J ?_ ?_
 (refine ZC0 rfl ZK (fun w hS=>frame hS ZQ (fun B' hB hS'=>prog_Refers hS' p _ (gPg hB hp) hsm B.e)) ?_;rintro ⟨A4,c4,hs4⟩ hl4)
 refine ZS0 (t:=4) (v':=.slice A4 (p.fFuns.map (refersF p)).length c4) rfl (by rw [hgl]) ?_
 refine Z7 (ZM (i:=2) (rs:=[]) ZK ?_)
 refine ZA J ?_ ?_
 refine Zz (n:=2) (m:=2) J J J (Z7 (ZM (i:=3) (rs:=[]) ZK ?_))
 refine ZA J ?_ ?_
 refine Zld ?_
 refine Z7 (ZM (i:=4) (rs:=[]) ZK ?_)
 refine ZA J ?_ ?_
 refine oBuildSlice1 J J J J J ZP J (fun b7=>?_)
 refine oConv (blk_row (enc:=Value.int .i64) (h1:=fun _=>J) (W:=B.e) (xs:=([p.fEntry]:List Int)) (n:=1) ZP J J (by decide)) ?_
 refine Z7 (ZM (i:=5) (rs:=[]) ZK ?_)
 refine ZA J ?_ ?_
 (refine ZD J (fun w B' hB hR hS'=>reach_any hS' (p.fFuns.map (refersF p)) A4 c4 (grid_C (kd:=Kd.int .i64) (W:=B.e) (ei:=3) (eo:=42) (W0:=B.e) (n:=p.fFuns.length) (cp:=c4) (hs:=hs4) (A:=A4) (xss:=p.fFuns.map (refersF p)) (hR _ _ ZP) (hR _ _ ZP) (by rw [hl4,hgl]) hB) (refG_small hsm) [p.fEntry] (some ⟨b7,0,none⟩) 1 (row_Cs (W:=B.e) (e:=3) (n:=1) (cp:=1) (hR _ _ ZP)) (by simp) W0) ?_;rintro ⟨A8,c8,l8⟩ ⟨hl8,hr8⟩)
 obtain rfl:=reach_uniq hl8 hr8
 rw [hgl]
 refine Z7 (ZM (i:=6) (rs:=[]) ZK ?_)
 refine ZA J ?_ ?_
 refine Zp J (Z7 (anNil ZK ?_))
 refine Za (Zzh ?_)
 exact ⟨(A8,c8),trivial,rfl,Lh⟩
 exact ZB
 exact ZB
 exact ZB
 exact ZB
 exact ZB
 refine ZA J ?_ ?_
 refine Zz (n:=2) (m:=2) J J J (Z7 (ZM (i:=1) (rs:=[3]) ZK ?_))
 refine ZA J ?_ ?_
 (refine ZC0 rfl ZK (fun w hS=>frame hS ZQ (fun B' hB hS'=>prog_Refers hS' p _ (gPg hB hp) hsm B.e)) ?_;rintro ⟨A4,c4,hs4⟩ hl4)
 refine ZS0 (t:=4) (v':=.slice A4 (p.fFuns.map (refersF p)).length c4) rfl (by rw [hgl]) ?_
 refine Z7 (ZM (i:=3) (rs:=[]) ZK ?_)
 refine ZA J ?_ ?_
 refine Zld ?_
 refine Z7 (ZM (i:=4) (rs:=[]) ZK ?_)
 refine ZA J ?_ ?_
 refine oBuildSlice1 J J J J J ZP J (fun b7=>?_)
 refine oConv (blk_row (enc:=Value.int .i64) (h1:=fun _=>J) (W:=B.e) (xs:=([p.fEntry]:List Int)) (n:=1) ZP J J (by decide)) ?_
 refine Z7 (ZM (i:=5) (rs:=[]) ZK ?_)
 refine ZA J ?_ ?_
 (refine ZD J (fun w B' hB hR hS'=>reach_any hS' (p.fFuns.map (refersF p)) A4 c4 (grid_C (kd:=Kd.int .i64) (W:=B.e) (ei:=3) (eo:=42) (W0:=B.e) (n:=p.fFuns.length) (cp:=c4) (hs:=hs4) (A:=A4) (xss:=p.fFuns.map (refersF p)) (hR _ _ ZP) (hR _ _ ZP) (by rw [hl4,hgl]) hB) (refG_small hsm) [p.fEntry] (some ⟨b7,0,none⟩) 1 (row_Cs (W:=B.e) (e:=3) (n:=1) (cp:=1) (hR _ _ ZP)) (by simp) W0) ?_;rintro ⟨A8,c8,l8⟩ ⟨hl8,hr8⟩)
 obtain rfl:=reach_uniq hl8 hr8
 rw [hgl]
 refine Z7 (ZM (i:=6) (rs:=[]) ZK ?_)
 refine ZA J ?_ ?_
 refine Zp J (Z7 (anNil ZK ?_))
 refine Za (Zzh ?_)
 exact ⟨(A8,c8),trivial,rfl,Lh⟩
 exact ZB
 exact ZB
 exact ZB
 exact ZB
 refine ZA J ?_ ?_
 refine Zld ?_
 refine Z7 (ZM (i:=1) (rs:=[4]) ZK ?_)
 refine ZA J ?_ ?_
 (refine ZC0 rfl ZK (fun w hS=>frame hS ZQ (fun B' hB hS'=>prog_Refers hS' p _ (gPg hB hp) hsm B.e)) ?_;rintro ⟨A4,c4,hs4⟩ hl4)
 refine ZS0 (t:=4) (v':=.slice A4 (p.fFuns.map (refersF p)).length c4) rfl (by rw [hgl]) ?_
 refine Z7 (ZM (i:=4) (rs:=[]) ZK ?_)
 refine ZA J ?_ ?_
 refine oBuildSlice1 J J J J J ZP J (fun b7=>?_)
 refine oConv (blk_row (enc:=Value.int .i64) (h1:=fun _=>J) (W:=B.e) (xs:=([p.fEntry]:List Int)) (n:=1) ZP J J (by decide)) ?_
 refine Z7 (ZM (i:=5) (rs:=[]) ZK ?_)
 refine ZA J ?_ ?_
 (refine ZD J (fun w B' hB hR hS'=>reach_any hS' (p.fFuns.map (refersF p)) A4 c4 (grid_C (kd:=Kd.int .i64) (W:=B.e) (ei:=3) (eo:=42) (W0:=B.e) (n:=p.fFuns.length) (cp:=c4) (hs:=hs4) (A:=A4) (xss:=p.fFuns.map (refersF p)) (hR _ _ ZP) (hR _ _ ZP) (by rw [hl4,hgl]) hB) (refG_small hsm) [p.fEntry] (some ⟨b7,0,none⟩) 1 (row_Cs (W:=B.e) (e:=3) (n:=1) (cp:=1) (hR _ _ ZP)) (by simp) W0) ?_;rintro ⟨A8,c8,l8⟩ ⟨hl8,hr8⟩)
 obtain rfl:=reach_uniq hl8 hr8
 rw [hgl]
 refine Z7 (ZM (i:=6) (rs:=[]) ZK ?_)
 refine ZA J ?_ ?_
 refine Zp J (Z7 (anNil ZK ?_))
 refine Za (Zzh ?_)
 exact ⟨(A8,c8),trivial,rfl,Lh⟩
 exact ZB
 exact ZB
 exact ZB
 refine ZA J ?_ ?_
 refine oBuildSlice1 J J J J J ZP J (fun b7=>?_)
 refine oConv (blk_row (enc:=Value.int .i64) (h1:=fun _=>J) (W:=B.e) (xs:=([p.fEntry]:List Int)) (n:=1) ZP J J (by decide)) ?_
 refine Z7 (ZM (i:=1) (rs:=[]) ZK ?_)
 refine ZA J ?_ ?_
 (refine ZC0 rfl ZK (fun w hS=>frame hS ZQ (fun B' hB hS'=>prog_Refers hS' p _ (gPg hB hp) hsm B.e)) ?_;rintro ⟨A4,c4,hs4⟩ hl4)
 refine ZS0 (t:=4) (v':=.slice A4 (p.fFuns.map (refersF p)).length c4) rfl (by rw [hgl]) ?_
 refine Z7 (ZM (i:=5) (rs:=[]) ZK ?_)
 refine ZA J ?_ ?_
 (refine ZD J (fun w B' hB hR hS'=>reach_any hS' (p.fFuns.map (refersF p)) A4 c4 (grid_C (kd:=Kd.int .i64) (W:=B.e) (ei:=3) (eo:=42) (W0:=B.e) (n:=p.fFuns.length) (cp:=c4) (hs:=hs4) (A:=A4) (xss:=p.fFuns.map (refersF p)) (hR _ _ ZP) (hR _ _ ZP) (by rw [hl4,hgl]) hB) (refG_small hsm) [p.fEntry] (some ⟨b7,0,none⟩) 1 (row_Cs (W:=B.e) (e:=3) (n:=1) (cp:=1) (hR _ _ ZP)) (by simp) W0) ?_;rintro ⟨A8,c8,l8⟩ ⟨hl8,hr8⟩)
 obtain rfl:=reach_uniq hl8 hr8
 rw [hgl]
 refine Z7 (ZM (i:=6) (rs:=[]) ZK ?_)
 refine ZA J ?_ ?_
 refine Zp J (Z7 (anNil ZK ?_))
 refine Za (Zzh ?_)
 exact ⟨(A8,c8),trivial,rfl,Lh⟩
 exact ZB
 exact ZB
 exact ZB
 exact ZB
 exact ZB
 exact ZB
 refine ZA J ?_ ?_
 refine Zz (n:=2) (m:=2) J J J (Z7 (ZM (i:=0) (rs:=[3]) ZK ?_))
 refine ZA J ?_ ?_
 refine Zla ?_
 refine Z7 (ZM (i:=1) (rs:=[3]) ZK ?_)
 refine ZA J ?_ ?_
 (refine ZC0 rfl ZK (fun w hS=>frame hS ZQ (fun B' hB hS'=>prog_Refers hS' p _ (gPg hB hp) hsm B.e)) ?_;rintro ⟨A4,c4,hs4⟩ hl4)
 refine ZS0 (t:=4) (v':=.slice A4 (p.fFuns.map (refersF p)).length c4) rfl (by rw [hgl]) ?_
 refine Z7 (ZM (i:=3) (rs:=[]) ZK ?_)
 refine ZA J ?_ ?_
 refine Zld ?_
 refine Z7 (ZM (i:=4) (rs:=[]) ZK ?_)
 refine ZA J ?_ ?_
 refine oBuildSlice1 J J J J J ZP J (fun b7=>?_)
 refine oConv (blk_row (enc:=Value.int .i64) (h1:=fun _=>J) (W:=B.e) (xs:=([p.fEntry]:List Int)) (n:=1) ZP J J (by decide)) ?_
 refine Z7 (ZM (i:=5) (rs:=[]) ZK ?_)
 refine ZA J ?_ ?_
 (refine ZD J (fun w B' hB hR hS'=>reach_any hS' (p.fFuns.map (refersF p)) A4 c4 (grid_C (kd:=Kd.int .i64) (W:=B.e) (ei:=3) (eo:=42) (W0:=B.e) (n:=p.fFuns.length) (cp:=c4) (hs:=hs4) (A:=A4) (xss:=p.fFuns.map (refersF p)) (hR _ _ ZP) (hR _ _ ZP) (by rw [hl4,hgl]) hB) (refG_small hsm) [p.fEntry] (some ⟨b7,0,none⟩) 1 (row_Cs (W:=B.e) (e:=3) (n:=1) (cp:=1) (hR _ _ ZP)) (by simp) W0) ?_;rintro ⟨A8,c8,l8⟩ ⟨hl8,hr8⟩)
 obtain rfl:=reach_uniq hl8 hr8
 rw [hgl]
 refine Z7 (ZM (i:=6) (rs:=[]) ZK ?_)
 refine ZA J ?_ ?_
 refine Zp J (Z7 (anNil ZK ?_))
 refine Za (Zzh ?_)
 exact ⟨(A8,c8),trivial,rfl,Lh⟩
 exact ZB
 exact ZB
 exact ZB
 exact ZB
 refine ZA J ?_ ?_
 refine Zld ?_
 refine Z7 (ZM (i:=1) (rs:=[4]) ZK ?_)
 refine ZA J ?_ ?_
 (refine ZC0 rfl ZK (fun w hS=>frame hS ZQ (fun B' hB hS'=>prog_Refers hS' p _ (gPg hB hp) hsm B.e)) ?_;rintro ⟨A4,c4,hs4⟩ hl4)
 refine ZS0 (t:=4) (v':=.slice A4 (p.fFuns.map (refersF p)).length c4) rfl (by rw [hgl]) ?_
 refine Z7 (ZM (i:=4) (rs:=[]) ZK ?_)
 refine ZA J ?_ ?_
 refine oBuildSlice1 J J J J J ZP J (fun b7=>?_)
 refine oConv (blk_row (enc:=Value.int .i64) (h1:=fun _=>J) (W:=B.e) (xs:=([p.fEntry]:List Int)) (n:=1) ZP J J (by decide)) ?_
 refine Z7 (ZM (i:=5) (rs:=[]) ZK ?_)
 refine ZA J ?_ ?_
 (refine ZD J (fun w B' hB hR hS'=>reach_any hS' (p.fFuns.map (refersF p)) A4 c4 (grid_C (kd:=Kd.int .i64) (W:=B.e) (ei:=3) (eo:=42) (W0:=B.e) (n:=p.fFuns.length) (cp:=c4) (hs:=hs4) (A:=A4) (xss:=p.fFuns.map (refersF p)) (hR _ _ ZP) (hR _ _ ZP) (by rw [hl4,hgl]) hB) (refG_small hsm) [p.fEntry] (some ⟨b7,0,none⟩) 1 (row_Cs (W:=B.e) (e:=3) (n:=1) (cp:=1) (hR _ _ ZP)) (by simp) W0) ?_;rintro ⟨A8,c8,l8⟩ ⟨hl8,hr8⟩)
 obtain rfl:=reach_uniq hl8 hr8
 rw [hgl]
 refine Z7 (ZM (i:=6) (rs:=[]) ZK ?_)
 refine ZA J ?_ ?_
 refine Zp J (Z7 (anNil ZK ?_))
 refine Za (Zzh ?_)
 exact ⟨(A8,c8),trivial,rfl,Lh⟩
 exact ZB
 exact ZB
 exact ZB
 refine ZA J ?_ ?_
 refine oBuildSlice1 J J J J J ZP J (fun b7=>?_)
 refine oConv (blk_row (enc:=Value.int .i64) (h1:=fun _=>J) (W:=B.e) (xs:=([p.fEntry]:List Int)) (n:=1) ZP J J (by decide)) ?_
 refine Z7 (ZM (i:=1) (rs:=[]) ZK ?_)
 refine ZA J ?_ ?_
 (refine ZC0 rfl ZK (fun w hS=>frame hS ZQ (fun B' hB hS'=>prog_Refers hS' p _ (gPg hB hp) hsm B.e)) ?_;rintro ⟨A4,c4,hs4⟩ hl4)
 refine ZS0 (t:=4) (v':=.slice A4 (p.fFuns.map (refersF p)).length c4) rfl (by rw [hgl]) ?_
 refine Z7 (ZM (i:=5) (rs:=[]) ZK ?_)
 refine ZA J ?_ ?_
 (refine ZD J (fun w B' hB hR hS'=>reach_any hS' (p.fFuns.map (refersF p)) A4 c4 (grid_C (kd:=Kd.int .i64) (W:=B.e) (ei:=3) (eo:=42) (W0:=B.e) (n:=p.fFuns.length) (cp:=c4) (hs:=hs4) (A:=A4) (xss:=p.fFuns.map (refersF p)) (hR _ _ ZP) (hR _ _ ZP) (by rw [hl4,hgl]) hB) (refG_small hsm) [p.fEntry] (some ⟨b7,0,none⟩) 1 (row_Cs (W:=B.e) (e:=3) (n:=1) (cp:=1) (hR _ _ ZP)) (by simp) W0) ?_;rintro ⟨A8,c8,l8⟩ ⟨hl8,hr8⟩)
 obtain rfl:=reach_uniq hl8 hr8
 rw [hgl]
 refine Z7 (ZM (i:=6) (rs:=[]) ZK ?_)
 refine ZA J ?_ ?_
 refine Zp J (Z7 (anNil ZK ?_))
 refine Za (Zzh ?_)
 exact ⟨(A8,c8),trivial,rfl,Lh⟩
 exact ZB
 exact ZB
 exact ZB
 exact ZB
 exact ZB
 refine ZA J ?_ ?_
 refine Zld ?_
 refine Z7 (ZM (i:=0) (rs:=[4]) ZK ?_)
 refine ZA J ?_ ?_
 refine Zla ?_
 refine Z7 (ZM (i:=1) (rs:=[4]) ZK ?_)
 refine ZA J ?_ ?_
 (refine ZC0 rfl ZK (fun w hS=>frame hS ZQ (fun B' hB hS'=>prog_Refers hS' p _ (gPg hB hp) hsm B.e)) ?_;rintro ⟨A4,c4,hs4⟩ hl4)
 refine ZS0 (t:=4) (v':=.slice A4 (p.fFuns.map (refersF p)).length c4) rfl (by rw [hgl]) ?_
 refine Z7 (ZM (i:=4) (rs:=[]) ZK ?_)
 refine ZA J ?_ ?_
 refine oBuildSlice1 J J J J J ZP J (fun b7=>?_)
 refine oConv (blk_row (enc:=Value.int .i64) (h1:=fun _=>J) (W:=B.e) (xs:=([p.fEntry]:List Int)) (n:=1) ZP J J (by decide)) ?_
 refine Z7 (ZM (i:=5) (rs:=[]) ZK ?_)
 refine ZA J ?_ ?_
 (refine ZD J (fun w B' hB hR hS'=>reach_any hS' (p.fFuns.map (refersF p)) A4 c4 (grid_C (kd:=Kd.int .i64) (W:=B.e) (ei:=3) (eo:=42) (W0:=B.e) (n:=p.fFuns.length) (cp:=c4) (hs:=hs4) (A:=A4) (xss:=p.fFuns.map (refersF p)) (hR _ _ ZP) (hR _ _ ZP) (by rw [hl4,hgl]) hB) (refG_small hsm) [p.fEntry] (some ⟨b7,0,none⟩) 1 (row_Cs (W:=B.e) (e:=3) (n:=1) (cp:=1) (hR _ _ ZP)) (by simp) W0) ?_;rintro ⟨A8,c8,l8⟩ ⟨hl8,hr8⟩)
 obtain rfl:=reach_uniq hl8 hr8
 rw [hgl]
 refine Z7 (ZM (i:=6) (rs:=[]) ZK ?_)
 refine ZA J ?_ ?_
 refine Zp J (Z7 (anNil ZK ?_))
 refine Za (Zzh ?_)
 exact ⟨(A8,c8),trivial,rfl,Lh⟩
 exact ZB
 exact ZB
 exact ZB
 refine ZA J ?_ ?_
 refine oBuildSlice1 J J J J J ZP J (fun b7=>?_)
 refine oConv (blk_row (enc:=Value.int .i64) (h1:=fun _=>J) (W:=B.e) (xs:=([p.fEntry]:List Int)) (n:=1) ZP J J (by decide)) ?_
 refine Z7 (ZM (i:=1) (rs:=[]) ZK ?_)
 refine ZA J ?_ ?_
 (refine ZC0 rfl ZK (fun w hS=>frame hS ZQ (fun B' hB hS'=>prog_Refers hS' p _ (gPg hB hp) hsm B.e)) ?_;rintro ⟨A4,c4,hs4⟩ hl4)
 refine ZS0 (t:=4) (v':=.slice A4 (p.fFuns.map (refersF p)).length c4) rfl (by rw [hgl]) ?_
 refine Z7 (ZM (i:=5) (rs:=[]) ZK ?_)
 refine ZA J ?_ ?_
 (refine ZD J (fun w B' hB hR hS'=>reach_any hS' (p.fFuns.map (refersF p)) A4 c4 (grid_C (kd:=Kd.int .i64) (W:=B.e) (ei:=3) (eo:=42) (W0:=B.e) (n:=p.fFuns.length) (cp:=c4) (hs:=hs4) (A:=A4) (xss:=p.fFuns.map (refersF p)) (hR _ _ ZP) (hR _ _ ZP) (by rw [hl4,hgl]) hB) (refG_small hsm) [p.fEntry] (some ⟨b7,0,none⟩) 1 (row_Cs (W:=B.e) (e:=3) (n:=1) (cp:=1) (hR _ _ ZP)) (by simp) W0) ?_;rintro ⟨A8,c8,l8⟩ ⟨hl8,hr8⟩)
 obtain rfl:=reach_uniq hl8 hr8
 rw [hgl]
 refine Z7 (ZM (i:=6) (rs:=[]) ZK ?_)
 refine ZA J ?_ ?_
 refine Zp J (Z7 (anNil ZK ?_))
 refine Za (Zzh ?_)
 exact ⟨(A8,c8),trivial,rfl,Lh⟩
 exact ZB
 exact ZB
 exact ZB
 exact ZB
 refine ZA J ?_ ?_
 refine oBuildSlice1 J J J J J ZP J (fun b7=>?_)
 refine oConv (blk_row (enc:=Value.int .i64) (h1:=fun _=>J) (W:=B.e) (xs:=([p.fEntry]:List Int)) (n:=1) ZP J J (by decide)) ?_
 refine Z7 (ZM (i:=0) (rs:=[]) ZK ?_)
 refine ZA J ?_ ?_
 refine Zla ?_
 refine Z7 (ZM (i:=1) (rs:=[]) ZK ?_)
 refine ZA J ?_ ?_
 (refine ZC0 rfl ZK (fun w hS=>frame hS ZQ (fun B' hB hS'=>prog_Refers hS' p _ (gPg hB hp) hsm B.e)) ?_;rintro ⟨A4,c4,hs4⟩ hl4)
 refine ZS0 (t:=4) (v':=.slice A4 (p.fFuns.map (refersF p)).length c4) rfl (by rw [hgl]) ?_
 refine Z7 (ZM (i:=5) (rs:=[]) ZK ?_)
 refine ZA J ?_ ?_
 (refine ZD J (fun w B' hB hR hS'=>reach_any hS' (p.fFuns.map (refersF p)) A4 c4 (grid_C (kd:=Kd.int .i64) (W:=B.e) (ei:=3) (eo:=42) (W0:=B.e) (n:=p.fFuns.length) (cp:=c4) (hs:=hs4) (A:=A4) (xss:=p.fFuns.map (refersF p)) (hR _ _ ZP) (hR _ _ ZP) (by rw [hl4,hgl]) hB) (refG_small hsm) [p.fEntry] (some ⟨b7,0,none⟩) 1 (row_Cs (W:=B.e) (e:=3) (n:=1) (cp:=1) (hR _ _ ZP)) (by simp) W0) ?_;rintro ⟨A8,c8,l8⟩ ⟨hl8,hr8⟩)
 obtain rfl:=reach_uniq hl8 hr8
 rw [hgl]
 refine Z7 (ZM (i:=6) (rs:=[]) ZK ?_)
 refine ZA J ?_ ?_
 refine Zp J (Z7 (anNil ZK ?_))
 refine Za (Zzh ?_)
 exact ⟨(A8,c8),trivial,rfl,Lh⟩
 exact ZB
 exact ZB
 exact ZB
 exact ZB
 exact ZB
 exact ZB
 exact ZB
theorem ref26_Live {B:Base}{w:World}(hS:St B [] w) (p:ApiProgram) (pc:List Value) (hp:kApiProgram.K B.e p pc) (hsm:SmallP p) (W0:World) :
 CW 30 #[.agg pc.toArray] w (Ret B (fun _:Option Addr×Nat=>True) (fun z=>.slice z.1 p.fFuns.length z.2) (fun z=>[row Kd.bool W0 4 (.slice z.1 p.fFuns.length z.2) (liveL p)])):=by
 obtain ⟨A0,c0,A1,c1,rfl,l0,g0,l1,g1⟩:=kApiProgram_open hp
 have hgl:(p.fFuns.map (refersF p)).length=p.fFuns.length:=List.length_map ..
 refine ZX Tryz.func30 hS ?_
 refine Zh (Zi (oBox J ZP (fun b1=>?_)))
 refine Zp J (Zn (Za (Zh (wDrawN J J (ZM (i:=0) (rs:=[2]) ZK ?_)))))
 refine ZA J ?_ ?_
 refine Zla ?_
 refine Z7 (ZM (i:=1) (rs:=[2]) ZK ?_)
 refine ZA J ?_ ?_
 (refine ZC0 rfl ZK (fun w hS=>frame hS ZQ (fun B' hB hS'=>ref25_Lists hS' p _ (gPg hB hp) hsm 2 B.e)) ?_;rintro ⟨A4,c4,hs4⟩ hl4)
 rw [show p.fFuns.map (listF p 2)=p.fFuns.map (refersF p) from rfl]
 refine ZS0 (t:=4) (v':=.slice A4 (p.fFuns.map (refersF p)).length c4) rfl (by rw [hgl]) ?_
 refine Z7 (ZM (i:=2) (rs:=[]) ZK ?_)
 refine ZA J ?_ ?_
 refine Zz (n:=2) (m:=2) J J J (Z7 (ZM (i:=3) (rs:=[]) ZK ?_))
 refine ZA J ?_ ?_
 refine Zld ?_
 refine Z7 (ZM (i:=4) (rs:=[]) ZK ?_)
 refine ZA J ?_ ?_
 refine oBuildSlice1 J J J J J ZP J (fun b7=>?_)
 refine oConv (blk_row (enc:=Value.int .i64) (h1:=fun _=>J) (W:=B.e) (xs:=([p.fEntry]:List Int)) (n:=1) ZP J J (by decide)) ?_
 refine Z7 (ZM (i:=5) (rs:=[]) ZK ?_)
 refine ZA J ?_ ?_
 (refine ZD J (fun w B' hB hR hS'=>refReach hS' (p.fFuns.map (refersF p)) A4 c4 (grid_C (kd:=Kd.int .i64) (W:=B.e) (ei:=3) (eo:=42) (W0:=B.e) (n:=p.fFuns.length) (cp:=c4) (hs:=hs4) (A:=A4) (xss:=p.fFuns.map (refersF p)) (hR _ _ ZP) (hR _ _ ZP) (by rw [hl4,hgl]) hB) (refG_small hsm) [p.fEntry] (some ⟨b7,0,none⟩) 1 (row_Cs (W:=B.e) (e:=3) (n:=1) (cp:=1) (hR _ _ ZP)) W0) ?_;rintro ⟨A8,c8,l8⟩ ⟨hl8,hr8⟩)
 obtain rfl:=reach_uniq hl8 hr8
 rw [hgl]
 refine Z7 (ZM (i:=6) (rs:=[]) ZK ?_)
 refine ZA J ?_ ?_
 refine Zp J (Z7 (anNil ZK ?_))
 refine Za (Zzh ?_)
 exact ⟨(A8,c8),trivial,rfl,Lh⟩
 exact ZB
 exact ZB
 exact ZB
 exact ZB
 exact ZB
 refine ZA J ?_ ?_
 refine Zz (n:=2) (m:=2) J J J (Z7 (ZM (i:=1) (rs:=[3]) ZK ?_))
 refine ZA J ?_ ?_
 (refine ZC0 rfl ZK (fun w hS=>frame hS ZQ (fun B' hB hS'=>ref25_Lists hS' p _ (gPg hB hp) hsm 2 B.e)) ?_;rintro ⟨A4,c4,hs4⟩ hl4)
 rw [show p.fFuns.map (listF p 2)=p.fFuns.map (refersF p) from rfl]
 refine ZS0 (t:=4) (v':=.slice A4 (p.fFuns.map (refersF p)).length c4) rfl (by rw [hgl]) ?_
 refine Z7 (ZM (i:=3) (rs:=[]) ZK ?_)
 refine ZA J ?_ ?_
 refine Zld ?_
 refine Z7 (ZM (i:=4) (rs:=[]) ZK ?_)
 refine ZA J ?_ ?_
 refine oBuildSlice1 J J J J J ZP J (fun b7=>?_)
 refine oConv (blk_row (enc:=Value.int .i64) (h1:=fun _=>J) (W:=B.e) (xs:=([p.fEntry]:List Int)) (n:=1) ZP J J (by decide)) ?_
 refine Z7 (ZM (i:=5) (rs:=[]) ZK ?_)
 refine ZA J ?_ ?_
 (refine ZD J (fun w B' hB hR hS'=>refReach hS' (p.fFuns.map (refersF p)) A4 c4 (grid_C (kd:=Kd.int .i64) (W:=B.e) (ei:=3) (eo:=42) (W0:=B.e) (n:=p.fFuns.length) (cp:=c4) (hs:=hs4) (A:=A4) (xss:=p.fFuns.map (refersF p)) (hR _ _ ZP) (hR _ _ ZP) (by rw [hl4,hgl]) hB) (refG_small hsm) [p.fEntry] (some ⟨b7,0,none⟩) 1 (row_Cs (W:=B.e) (e:=3) (n:=1) (cp:=1) (hR _ _ ZP)) W0) ?_;rintro ⟨A8,c8,l8⟩ ⟨hl8,hr8⟩)
 obtain rfl:=reach_uniq hl8 hr8
 rw [hgl]
 refine Z7 (ZM (i:=6) (rs:=[]) ZK ?_)
 refine ZA J ?_ ?_
 refine Zp J (Z7 (anNil ZK ?_))
 refine Za (Zzh ?_)
 exact ⟨(A8,c8),trivial,rfl,Lh⟩
 exact ZB
 exact ZB
 exact ZB
 exact ZB
 refine ZA J ?_ ?_
 refine Zld ?_
 refine Z7 (ZM (i:=1) (rs:=[4]) ZK ?_)
 refine ZA J ?_ ?_
 (refine ZC0 rfl ZK (fun w hS=>frame hS ZQ (fun B' hB hS'=>ref25_Lists hS' p _ (gPg hB hp) hsm 2 B.e)) ?_;rintro ⟨A4,c4,hs4⟩ hl4)
 rw [show p.fFuns.map (listF p 2)=p.fFuns.map (refersF p) from rfl]
 refine ZS0 (t:=4) (v':=.slice A4 (p.fFuns.map (refersF p)).length c4) rfl (by rw [hgl]) ?_
 refine Z7 (ZM (i:=4) (rs:=[]) ZK ?_)
 refine ZA J ?_ ?_
 refine oBuildSlice1 J J J J J ZP J (fun b7=>?_)
 refine oConv (blk_row (enc:=Value.int .i64) (h1:=fun _=>J) (W:=B.e) (xs:=([p.fEntry]:List Int)) (n:=1) ZP J J (by decide)) ?_
 refine Z7 (ZM (i:=5) (rs:=[]) ZK ?_)
 refine ZA J ?_ ?_
 (refine ZD J (fun w B' hB hR hS'=>refReach hS' (p.fFuns.map (refersF p)) A4 c4 (grid_C (kd:=Kd.int .i64) (W:=B.e) (ei:=3) (eo:=42) (W0:=B.e) (n:=p.fFuns.length) (cp:=c4) (hs:=hs4) (A:=A4) (xss:=p.fFuns.map (refersF p)) (hR _ _ ZP) (hR _ _ ZP) (by rw [hl4,hgl]) hB) (refG_small hsm) [p.fEntry] (some ⟨b7,0,none⟩) 1 (row_Cs (W:=B.e) (e:=3) (n:=1) (cp:=1) (hR _ _ ZP)) W0) ?_;rintro ⟨A8,c8,l8⟩ ⟨hl8,hr8⟩)
 obtain rfl:=reach_uniq hl8 hr8
 rw [hgl]
 refine Z7 (ZM (i:=6) (rs:=[]) ZK ?_)
 refine ZA J ?_ ?_
 refine Zp J (Z7 (anNil ZK ?_))
 refine Za (Zzh ?_)
 exact ⟨(A8,c8),trivial,rfl,Lh⟩
 exact ZB
 exact ZB
 exact ZB
 refine ZA J ?_ ?_
 refine oBuildSlice1 J J J J J ZP J (fun b7=>?_)
 refine oConv (blk_row (enc:=Value.int .i64) (h1:=fun _=>J) (W:=B.e) (xs:=([p.fEntry]:List Int)) (n:=1) ZP J J (by decide)) ?_
 refine Z7 (ZM (i:=1) (rs:=[]) ZK ?_)
 refine ZA J ?_ ?_
 (refine ZC0 rfl ZK (fun w hS=>frame hS ZQ (fun B' hB hS'=>ref25_Lists hS' p _ (gPg hB hp) hsm 2 B.e)) ?_;rintro ⟨A4,c4,hs4⟩ hl4)
 rw [show p.fFuns.map (listF p 2)=p.fFuns.map (refersF p) from rfl]
 refine ZS0 (t:=4) (v':=.slice A4 (p.fFuns.map (refersF p)).length c4) rfl (by rw [hgl]) ?_
 refine Z7 (ZM (i:=5) (rs:=[]) ZK ?_)
 refine ZA J ?_ ?_
 (refine ZD J (fun w B' hB hR hS'=>refReach hS' (p.fFuns.map (refersF p)) A4 c4 (grid_C (kd:=Kd.int .i64) (W:=B.e) (ei:=3) (eo:=42) (W0:=B.e) (n:=p.fFuns.length) (cp:=c4) (hs:=hs4) (A:=A4) (xss:=p.fFuns.map (refersF p)) (hR _ _ ZP) (hR _ _ ZP) (by rw [hl4,hgl]) hB) (refG_small hsm) [p.fEntry] (some ⟨b7,0,none⟩) 1 (row_Cs (W:=B.e) (e:=3) (n:=1) (cp:=1) (hR _ _ ZP)) W0) ?_;rintro ⟨A8,c8,l8⟩ ⟨hl8,hr8⟩)
 obtain rfl:=reach_uniq hl8 hr8
 rw [hgl]
 refine Z7 (ZM (i:=6) (rs:=[]) ZK ?_)
 refine ZA J ?_ ?_
 refine Zp J (Z7 (anNil ZK ?_))
 refine Za (Zzh ?_)
 exact ⟨(A8,c8),trivial,rfl,Lh⟩
 exact ZB
 exact ZB
 exact ZB
 exact ZB
 exact ZB
 exact ZB
 refine ZA J ?_ ?_
 refine Zz (n:=2) (m:=2) J J J (Z7 (ZM (i:=0) (rs:=[3]) ZK ?_))
 refine ZA J ?_ ?_
 refine Zla ?_
 refine Z7 (ZM (i:=1) (rs:=[3]) ZK ?_)
 refine ZA J ?_ ?_
 (refine ZC0 rfl ZK (fun w hS=>frame hS ZQ (fun B' hB hS'=>ref25_Lists hS' p _ (gPg hB hp) hsm 2 B.e)) ?_;rintro ⟨A4,c4,hs4⟩ hl4)
 rw [show p.fFuns.map (listF p 2)=p.fFuns.map (refersF p) from rfl]
 refine ZS0 (t:=4) (v':=.slice A4 (p.fFuns.map (refersF p)).length c4) rfl (by rw [hgl]) ?_
 refine Z7 (ZM (i:=3) (rs:=[]) ZK ?_)
 refine ZA J ?_ ?_
 refine Zld ?_
 refine Z7 (ZM (i:=4) (rs:=[]) ZK ?_)
 refine ZA J ?_ ?_
 refine oBuildSlice1 J J J J J ZP J (fun b7=>?_)
 refine oConv (blk_row (enc:=Value.int .i64) (h1:=fun _=>J) (W:=B.e) (xs:=([p.fEntry]:List Int)) (n:=1) ZP J J (by decide)) ?_
 refine Z7 (ZM (i:=5) (rs:=[]) ZK ?_)
 refine ZA J ?_ ?_
 (refine ZD J (fun w B' hB hR hS'=>refReach hS' (p.fFuns.map (refersF p)) A4 c4 (grid_C (kd:=Kd.int .i64) (W:=B.e) (ei:=3) (eo:=42) (W0:=B.e) (n:=p.fFuns.length) (cp:=c4) (hs:=hs4) (A:=A4) (xss:=p.fFuns.map (refersF p)) (hR _ _ ZP) (hR _ _ ZP) (by rw [hl4,hgl]) hB) (refG_small hsm) [p.fEntry] (some ⟨b7,0,none⟩) 1 (row_Cs (W:=B.e) (e:=3) (n:=1) (cp:=1) (hR _ _ ZP)) W0) ?_;rintro ⟨A8,c8,l8⟩ ⟨hl8,hr8⟩)
 obtain rfl:=reach_uniq hl8 hr8
 rw [hgl]
 refine Z7 (ZM (i:=6) (rs:=[]) ZK ?_)
 refine ZA J ?_ ?_
 refine Zp J (Z7 (anNil ZK ?_))
 refine Za (Zzh ?_)
 exact ⟨(A8,c8),trivial,rfl,Lh⟩
 exact ZB
 exact ZB
 exact ZB
 exact ZB
 refine ZA J ?_ ?_
 refine Zld ?_
 refine Z7 (ZM (i:=1) (rs:=[4]) ZK ?_)
 refine ZA J ?_ ?_
 (refine ZC0 rfl ZK (fun w hS=>frame hS ZQ (fun B' hB hS'=>ref25_Lists hS' p _ (gPg hB hp) hsm 2 B.e)) ?_;rintro ⟨A4,c4,hs4⟩ hl4)
 rw [show p.fFuns.map (listF p 2)=p.fFuns.map (refersF p) from rfl]
 refine ZS0 (t:=4) (v':=.slice A4 (p.fFuns.map (refersF p)).length c4) rfl (by rw [hgl]) ?_
 refine Z7 (ZM (i:=4) (rs:=[]) ZK ?_)
 refine ZA J ?_ ?_
 refine oBuildSlice1 J J J J J ZP J (fun b7=>?_)
 refine oConv (blk_row (enc:=Value.int .i64) (h1:=fun _=>J) (W:=B.e) (xs:=([p.fEntry]:List Int)) (n:=1) ZP J J (by decide)) ?_
 refine Z7 (ZM (i:=5) (rs:=[]) ZK ?_)
 refine ZA J ?_ ?_
 (refine ZD J (fun w B' hB hR hS'=>refReach hS' (p.fFuns.map (refersF p)) A4 c4 (grid_C (kd:=Kd.int .i64) (W:=B.e) (ei:=3) (eo:=42) (W0:=B.e) (n:=p.fFuns.length) (cp:=c4) (hs:=hs4) (A:=A4) (xss:=p.fFuns.map (refersF p)) (hR _ _ ZP) (hR _ _ ZP) (by rw [hl4,hgl]) hB) (refG_small hsm) [p.fEntry] (some ⟨b7,0,none⟩) 1 (row_Cs (W:=B.e) (e:=3) (n:=1) (cp:=1) (hR _ _ ZP)) W0) ?_;rintro ⟨A8,c8,l8⟩ ⟨hl8,hr8⟩)
 obtain rfl:=reach_uniq hl8 hr8
 rw [hgl]
 refine Z7 (ZM (i:=6) (rs:=[]) ZK ?_)
 refine ZA J ?_ ?_
 refine Zp J (Z7 (anNil ZK ?_))
 refine Za (Zzh ?_)
 exact ⟨(A8,c8),trivial,rfl,Lh⟩
 exact ZB
 exact ZB
 exact ZB
 refine ZA J ?_ ?_
 refine oBuildSlice1 J J J J J ZP J (fun b7=>?_)
 refine oConv (blk_row (enc:=Value.int .i64) (h1:=fun _=>J) (W:=B.e) (xs:=([p.fEntry]:List Int)) (n:=1) ZP J J (by decide)) ?_
 refine Z7 (ZM (i:=1) (rs:=[]) ZK ?_)
 refine ZA J ?_ ?_
 (refine ZC0 rfl ZK (fun w hS=>frame hS ZQ (fun B' hB hS'=>ref25_Lists hS' p _ (gPg hB hp) hsm 2 B.e)) ?_;rintro ⟨A4,c4,hs4⟩ hl4)
 rw [show p.fFuns.map (listF p 2)=p.fFuns.map (refersF p) from rfl]
 refine ZS0 (t:=4) (v':=.slice A4 (p.fFuns.map (refersF p)).length c4) rfl (by rw [hgl]) ?_
 refine Z7 (ZM (i:=5) (rs:=[]) ZK ?_)
 refine ZA J ?_ ?_
 (refine ZD J (fun w B' hB hR hS'=>refReach hS' (p.fFuns.map (refersF p)) A4 c4 (grid_C (kd:=Kd.int .i64) (W:=B.e) (ei:=3) (eo:=42) (W0:=B.e) (n:=p.fFuns.length) (cp:=c4) (hs:=hs4) (A:=A4) (xss:=p.fFuns.map (refersF p)) (hR _ _ ZP) (hR _ _ ZP) (by rw [hl4,hgl]) hB) (refG_small hsm) [p.fEntry] (some ⟨b7,0,none⟩) 1 (row_Cs (W:=B.e) (e:=3) (n:=1) (cp:=1) (hR _ _ ZP)) W0) ?_;rintro ⟨A8,c8,l8⟩ ⟨hl8,hr8⟩)
 obtain rfl:=reach_uniq hl8 hr8
 rw [hgl]
 refine Z7 (ZM (i:=6) (rs:=[]) ZK ?_)
 refine ZA J ?_ ?_
 refine Zp J (Z7 (anNil ZK ?_))
 refine Za (Zzh ?_)
 exact ⟨(A8,c8),trivial,rfl,Lh⟩
 exact ZB
 exact ZB
 exact ZB
 exact ZB
 exact ZB
 refine ZA J ?_ ?_
 refine Zld ?_
 refine Z7 (ZM (i:=0) (rs:=[4]) ZK ?_)
 refine ZA J ?_ ?_
 refine Zla ?_
 refine Z7 (ZM (i:=1) (rs:=[4]) ZK ?_)
 refine ZA J ?_ ?_
 (refine ZC0 rfl ZK (fun w hS=>frame hS ZQ (fun B' hB hS'=>ref25_Lists hS' p _ (gPg hB hp) hsm 2 B.e)) ?_;rintro ⟨A4,c4,hs4⟩ hl4)
 rw [show p.fFuns.map (listF p 2)=p.fFuns.map (refersF p) from rfl]
 refine ZS0 (t:=4) (v':=.slice A4 (p.fFuns.map (refersF p)).length c4) rfl (by rw [hgl]) ?_
 refine Z7 (ZM (i:=4) (rs:=[]) ZK ?_)
 refine ZA J ?_ ?_
 refine oBuildSlice1 J J J J J ZP J (fun b7=>?_)
 refine oConv (blk_row (enc:=Value.int .i64) (h1:=fun _=>J) (W:=B.e) (xs:=([p.fEntry]:List Int)) (n:=1) ZP J J (by decide)) ?_
 refine Z7 (ZM (i:=5) (rs:=[]) ZK ?_)
 refine ZA J ?_ ?_
 (refine ZD J (fun w B' hB hR hS'=>refReach hS' (p.fFuns.map (refersF p)) A4 c4 (grid_C (kd:=Kd.int .i64) (W:=B.e) (ei:=3) (eo:=42) (W0:=B.e) (n:=p.fFuns.length) (cp:=c4) (hs:=hs4) (A:=A4) (xss:=p.fFuns.map (refersF p)) (hR _ _ ZP) (hR _ _ ZP) (by rw [hl4,hgl]) hB) (refG_small hsm) [p.fEntry] (some ⟨b7,0,none⟩) 1 (row_Cs (W:=B.e) (e:=3) (n:=1) (cp:=1) (hR _ _ ZP)) W0) ?_;rintro ⟨A8,c8,l8⟩ ⟨hl8,hr8⟩)
 obtain rfl:=reach_uniq hl8 hr8
 rw [hgl]
 refine Z7 (ZM (i:=6) (rs:=[]) ZK ?_)
 refine ZA J ?_ ?_
 refine Zp J (Z7 (anNil ZK ?_))
 refine Za (Zzh ?_)
 exact ⟨(A8,c8),trivial,rfl,Lh⟩
 exact ZB
 exact ZB
 exact ZB
 refine ZA J ?_ ?_
 refine oBuildSlice1 J J J J J ZP J (fun b7=>?_)
 refine oConv (blk_row (enc:=Value.int .i64) (h1:=fun _=>J) (W:=B.e) (xs:=([p.fEntry]:List Int)) (n:=1) ZP J J (by decide)) ?_
 refine Z7 (ZM (i:=1) (rs:=[]) ZK ?_)
 refine ZA J ?_ ?_
 (refine ZC0 rfl ZK (fun w hS=>frame hS ZQ (fun B' hB hS'=>ref25_Lists hS' p _ (gPg hB hp) hsm 2 B.e)) ?_;rintro ⟨A4,c4,hs4⟩ hl4)
 rw [show p.fFuns.map (listF p 2)=p.fFuns.map (refersF p) from rfl]
 refine ZS0 (t:=4) (v':=.slice A4 (p.fFuns.map (refersF p)).length c4) rfl (by rw [hgl]) ?_
 refine Z7 (ZM (i:=5) (rs:=[]) ZK ?_)
 refine ZA J ?_ ?_
 (refine ZD J (fun w B' hB hR hS'=>refReach hS' (p.fFuns.map (refersF p)) A4 c4 (grid_C (kd:=Kd.int .i64) (W:=B.e) (ei:=3) (eo:=42) (W0:=B.e) (n:=p.fFuns.length) (cp:=c4) (hs:=hs4) (A:=A4) (xss:=p.fFuns.map (refersF p)) (hR _ _ ZP) (hR _ _ ZP) (by rw [hl4,hgl]) hB) (refG_small hsm) [p.fEntry] (some ⟨b7,0,none⟩) 1 (row_Cs (W:=B.e) (e:=3) (n:=1) (cp:=1) (hR _ _ ZP)) W0) ?_;rintro ⟨A8,c8,l8⟩ ⟨hl8,hr8⟩)
 obtain rfl:=reach_uniq hl8 hr8
 rw [hgl]
 refine Z7 (ZM (i:=6) (rs:=[]) ZK ?_)
 refine ZA J ?_ ?_
 refine Zp J (Z7 (anNil ZK ?_))
 refine Za (Zzh ?_)
 exact ⟨(A8,c8),trivial,rfl,Lh⟩
 exact ZB
 exact ZB
 exact ZB
 exact ZB
 refine ZA J ?_ ?_
 refine oBuildSlice1 J J J J J ZP J (fun b7=>?_)
 refine oConv (blk_row (enc:=Value.int .i64) (h1:=fun _=>J) (W:=B.e) (xs:=([p.fEntry]:List Int)) (n:=1) ZP J J (by decide)) ?_
 refine Z7 (ZM (i:=0) (rs:=[]) ZK ?_)
 refine ZA J ?_ ?_
 refine Zla ?_
 refine Z7 (ZM (i:=1) (rs:=[]) ZK ?_)
 refine ZA J ?_ ?_
 (refine ZC0 rfl ZK (fun w hS=>frame hS ZQ (fun B' hB hS'=>ref25_Lists hS' p _ (gPg hB hp) hsm 2 B.e)) ?_;rintro ⟨A4,c4,hs4⟩ hl4)
 rw [show p.fFuns.map (listF p 2)=p.fFuns.map (refersF p) from rfl]
 refine ZS0 (t:=4) (v':=.slice A4 (p.fFuns.map (refersF p)).length c4) rfl (by rw [hgl]) ?_
 refine Z7 (ZM (i:=5) (rs:=[]) ZK ?_)
 refine ZA J ?_ ?_
 (refine ZD J (fun w B' hB hR hS'=>refReach hS' (p.fFuns.map (refersF p)) A4 c4 (grid_C (kd:=Kd.int .i64) (W:=B.e) (ei:=3) (eo:=42) (W0:=B.e) (n:=p.fFuns.length) (cp:=c4) (hs:=hs4) (A:=A4) (xss:=p.fFuns.map (refersF p)) (hR _ _ ZP) (hR _ _ ZP) (by rw [hl4,hgl]) hB) (refG_small hsm) [p.fEntry] (some ⟨b7,0,none⟩) 1 (row_Cs (W:=B.e) (e:=3) (n:=1) (cp:=1) (hR _ _ ZP)) W0) ?_;rintro ⟨A8,c8,l8⟩ ⟨hl8,hr8⟩)
 obtain rfl:=reach_uniq hl8 hr8
 rw [hgl]
 refine Z7 (ZM (i:=6) (rs:=[]) ZK ?_)
 refine ZA J ?_ ?_
 refine Zp J (Z7 (anNil ZK ?_))
 refine Za (Zzh ?_)
 exact ⟨(A8,c8),trivial,rfl,Lh⟩
 exact ZB
 exact ZB
 exact ZB
 exact ZB
 exact ZB
 exact ZB
 exact ZB
def lv (p:ApiProgram) (i:Nat):Prop:=(liveL p)[i]?=some true
open Classical in
noncomputable def takenL (p:ApiProgram):List Bool:=(List.range p.fFuns.length).map fun k:Nat=>decide (∃ (i:Nat) (f:ApiFun),p.fFuns[i]?=some f∧lv p i∧(k:Int) ∈ valuesF p f)
theorem takenL_len (p:ApiProgram):(takenL p).length=p.fFuns.length:=by unfold takenL;simp
theorem takenL_at (p:ApiProgram) (k:Nat):(takenL p)[k]?=some true↔k<p.fFuns.length∧∃ (i:Nat) (f:ApiFun),p.fFuns[i]?=some f∧lv p i∧(k:Int) ∈ valuesF p f:=by
 unfold takenL
 rw [List.getElem?_map]
 by_cases hi:k<p.fFuns.length
 · rw [List.getElem?_range hi];simp [hi]
 · rw [List.getElem?_eq_none (by simpa using hi)];simp [hi]
theorem set_id {α:Type}{l:List α}{i:Nat}{u:α}(h:l[i]?=some u):l.set i u=l:=by
 obtain ⟨hi,rfl⟩:=List.getElem?_eq_some_iff.1 h
 simp
structure TK (p:ApiProgram) (i j:Nat) (out:List Bool):Prop where
  len:out.length=p.fFuns.length
  at_:∀ k:Nat,out[k]?=some true↔(∃ (i':Nat) (f:ApiFun),i'<i∧p.fFuns[i']?=some f∧lv p i'∧(k:Int) ∈ valuesF p f)∨(lv p i∧∃ f,p.fFuns[i]?=some f∧(k:Int) ∈ (valuesF p f).take j)
theorem TK.zero (p:ApiProgram):TK p 0 0 (List.replicate p.fFuns.length false):=by
 refine ⟨by simp,fun k=>?_⟩
 rw [List.getElem?_replicate]
 simp
theorem TK.next {p:ApiProgram}{i:Nat}{f:ApiFun}{out:List Bool}(hf:p.fFuns[i]?=some f) (h:TK p i (valuesF p f).length out):TK p (i+1) 0 out:=by
 refine ⟨h.len,fun k=>?_⟩
 rw [h.at_ k]
 constructor
 · rintro (⟨i',f',h1,h2,h3,h4⟩ | ⟨h1,f',h2,h3⟩)
   · exact .inl ⟨i',f',by omega,h2,h3,h4⟩
   · rw [hf] at h2
     obtain rfl:=Option.some.inj h2
     rw [List.take_length] at h3
     exact .inl ⟨i,f,by omega,hf,h1,h3⟩
 · rintro (⟨i',f',h1,h2,h3,h4⟩ | ⟨h1,f',h2,h3⟩)
   · by_cases e:i'=i
     · subst e
       rw [hf] at h2
       obtain rfl:=Option.some.inj h2
       exact .inr ⟨h3,f,hf,by rw [List.take_length];exact h4⟩
     · exact .inl ⟨i',f',by omega,h2,h3,h4⟩
   · rw [List.take_zero] at h3;cases h3
theorem TK.skip {p:ApiProgram}{i j:Nat}{out:List Bool}(hn:¬ lv p i) (h:TK p i j out) (j':Nat):TK p i j' out:=
 ⟨h.len,fun k=>by
  rw [h.at_ k]
  constructor
  · rintro (h1 | h1)
    · exact .inl h1
    · exact absurd h1.1 hn
  · rintro (h1 | h1)
    · exact .inl h1
    · exact absurd h1.1 hn⟩
theorem TK.put {p:ApiProgram}{i j k:Nat}{f:ApiFun}{out:List Bool}(hf:p.fFuns[i]?=some f) (hx:(valuesF p f)[j]?=some (k:Int)) (hk:k<p.fFuns.length) (hl:lv p i) (h:TK p i j out):TK p i (j+1) (out.set k true):=by
 refine ⟨by rw [List.length_set];exact h.len,fun m=>?_⟩
 rw [List.getElem?_set]
 have hol:=h.len
 by_cases e:k=m
 · subst e
   rw [if_pos rfl,if_pos ZO]
   exact ⟨fun _=>.inr ⟨hl,f,hf,by rw [List.take_add_one,hx];simp⟩,fun _=>rfl⟩
 · rw [if_neg e,h.at_ m]
   constructor
   · rintro (h1 | ⟨h1,f',h2,h3⟩)
     · exact .inl h1
     · exact .inr ⟨h1,f',h2,List.mem_of_mem_take (i:=j) (by rw [List.take_take,Nat.min_eq_left ZO];exact h3)⟩
   · rintro (h1 | ⟨h1,f',h2,h3⟩)
     · exact .inl h1
     · rw [hf] at h2
       obtain rfl:=Option.some.inj h2
       rw [List.take_add_one,hx] at h3
       rcases List.mem_append.1 h3 with h3 | h3
       · exact .inr ⟨h1,f,hf,h3⟩
       · simp at h3;omega
theorem TK.or {p:ApiProgram}{i j k:Nat}{f:ApiFun}{out:List Bool}{u b:Bool}(hf:p.fFuns[i]?=some f) (hx:(valuesF p f)[j]?=some (k:Int)) (hk:k<p.fFuns.length) (hu:out[k]?=some u) (hb:b=true↔lv p i) (h:TK p i j out):TK p i (j+1) (out.set k (u || b)):=by
 cases b with
 | true=>
  rw [Bool.or_true]
  exact h.put hf hx hk (hb.1 rfl)
 | false=>
  rw [Bool.or_false,set_id hu]
  exact h.skip (fun hl=>by have:=hb.2 hl;cases this) _
theorem TK.done {p:ApiProgram}{out:List Bool}(h:TK p p.fFuns.length 0 out):out=takenL p:=by
 refine bools_eq (by rw [h.len,takenL_len]) (fun k=>?_)
 rw [h.at_ k,takenL_at]
 constructor
 · rintro (⟨i',f',h1,h2,h3,h4⟩ | ⟨h1,f',h2,h3⟩)
   · have:=(mem_ris.1 h4).2
     exact ⟨by omega,i',f',h2,h3,h4⟩
   · rw [List.take_zero] at h3;cases h3
 · rintro ⟨_,i',f',h2,h3,h4⟩
   exact .inl ⟨i',f',(List.getElem?_eq_some_iff.1 h2).1,h2,h3,h4⟩
theorem prog_Taken {B:Base}{w:World}(hS:St B [] w) (p:ApiProgram) (pc:List Value) (hp:kApiProgram.K B.e p pc) (hsm:SmallP p) (W0:World) :
 CW 31 #[.agg pc.toArray] w (Ret B (fun _:Option Addr×Nat=>True) (fun z=>.slice z.1 p.fFuns.length z.2) (fun z=>[row Kd.bool W0 4 (.slice z.1 p.fFuns.length z.2) (takenL p)])):=by
 obtain ⟨A0,c0,A1,c1,rfl,l0,g0,l1,g1⟩:=kApiProgram_open hp
 have hn:=hsm.funs
 have hll:=liveL_len p
 refine ZX Tryz.func31 hS ?_
 refine Zh (Zi (oBox J ZP (fun b1=>?_)))
 refine Zp J (Zn (Za (Zh (Zi (Zz (n:=0) (m:=0) J J J (Zld ?_))))))
 refine Zv J J (oMake (kd:=Kd.bool) (W:=W0) false J J J J J J ZO J (fun g12=>?_))
 refine Zp J (Zn (Zzk ?_))
 (refine ZC0 rfl ZK (fun w hS=>frame hS ZQ (fun B' hB hS'=>prog_Values hS' p _ (gPg hB hp) hsm B.e)) ?_;rintro ⟨A14,c14,hs14⟩ hl14)
 refine Zp J (Zn (Za (wFreeze [row kHdr B.e 42 (.slice A14 p.fFuns.length c14) hs14,bun (rws (Kd.int .i64) B.e 3 hs14 (p.fFuns.map (valuesF p)))] ZQ (fun B1 hB1 hq1=>?_))))
 have hV:(Kd.slice (Kd.int .i64)).C B1.e A14 (p.fFuns.map (valuesF p)):=grid_C (kd:=Kd.int .i64) (W:=B.e) (W0:=B.e) (n:=p.fFuns.length) (cp:=c14) (hq1 _ _ ZP) (hq1 _ _ ZP) (by rw [hl14,List.length_map]) hB1
 have hp1:=kApiProgram.K_grow hB1 hp
 refine Zh (Zh (Zi (Zla ?_)))
 (refine ZC0 rfl ZK (fun w hS=>frame hS ZQ (fun B' hB hS'=>prog_Live hS' p _ (gPg hB hp1) hsm B1.e)) ?_;rintro ⟨A16,c16⟩ -)
 refine Zv J J (Zo J (Zn (Za (Zk (wLoop (ι:=Nat×List Bool) (fun z=>[(3,.slice (some ⟨g12,0,none⟩) p.fFuns.length p.fFuns.length),(4,.slice A14 p.fFuns.length c14),(16,.slice A16 p.fFuns.length c16),(17,.int .i64 (p.fFuns.length:Int)),(18,.int .i64 (z.1:Int))]) (fun z=>[row Kd.bool W0 4 (.slice (some ⟨g12,0,none⟩) p.fFuns.length p.fFuns.length) z.2,row Kd.bool B1.e 4 (.slice A16 p.fFuns.length c16) (liveL p)]) (fun z=>z.1≤p.fFuns.length∧TK p z.1 0 z.2) (fun z=>p.fFuns.length-z.1) (0,List.replicate p.fFuns.length false) ?_ cv Lh ?_)))))
 exact ⟨Nat.zero_le _,TK.zero p⟩
 rintro ⟨i,out⟩ ⟨hi,hT⟩
 dsimp only at hi hT
 try dsimp only
 refine Zh (Zi (Zx J J (Zn (Za (Zh (wC (fun h19=>?_) (fun h19=>?_)))))))
 obtain ⟨f,hf⟩:∃ f,p.fFuns[i]?=some f:=⟨_,List.getElem?_eq_getElem ZO⟩
 obtain ⟨e1,cs1,hE⟩:=hV.elm (i:=i) (u:=valuesF p f) (by rw [List.getElem?_map,hf];rfl)
 obtain ⟨X1,n1,rfl,hn1,hX1⟩:=hE.K
 have hvl:=ris_len (takenF p f) p.fFuns.length
 have hvl2:(valuesF p f).length≤p.fFuns.length:=hvl
 have hil:i<p.fFuns.length:=by omega
 refine Zj (Za (Zh (Zk (Zh (Zi (Zo J (ZR J J ZP ZO J J (fun g21 hg21=>?_))))))))
 first | subst hg21 | (injection hg21 with hg21;injection hg21 with hg21;subst hg21)
 refine ZR1 J ZP ZO J (fun u22 hu22=>?_)
 have hlv:u22=true↔lv p i:=by unfold lv;rw [hu22];simp
 refine Zp J (Zp J (Zn (Za (Zh (Zi (Zo J (Zo J (oIdxE J J (hE) ZO J J ?_))))))))
 have hc25:=(hE).cell
 refine Zlx hc25 ?_
 refine Zv J J (Zo J (Zn (Za (Zk (wLoop (ι:=Nat×List Bool) (fun z=>[(3,.slice (some ⟨g12,0,none⟩) p.fFuns.length p.fFuns.length),(4,.slice A14 p.fFuns.length c14),(6,.bool u22),(16,.slice (some ⟨g21,0,none⟩) p.fFuns.length c16),(17,.int .i64 (p.fFuns.length:Int)),(18,.int .i64 (i:Int)),(26,.slice X1 (valuesF p f).length n1),(27,.int .i64 ((valuesF p f).length:Int)),(28,.int .i64 (z.1:Int))]) (fun z=>[row Kd.bool W0 4 (.slice (some ⟨g12,0,none⟩) p.fFuns.length p.fFuns.length) z.2,row Kd.bool B1.e 4 (.slice (some ⟨g21,0,none⟩) p.fFuns.length c16) (liveL p)]) (fun z=>z.1≤(valuesF p f).length∧TK p i z.1 z.2) (fun z=>(valuesF p f).length-z.1) (0,out) ?_ cv Lh ?_)))))
 exact ⟨Nat.zero_le _,hT⟩
 rintro ⟨j,out⟩ ⟨hj,hT⟩
 dsimp only at hj hT
 have hol:=hT.len
 try dsimp only
 refine Zh (Zi (Zx J J (Zn (Za (Zh (wC (fun h29=>?_) (fun h29=>?_)))))))
 obtain ⟨x,hx⟩:∃ x,(valuesF p f)[j]?=some x:=⟨_,List.getElem?_eq_getElem ZO⟩
 obtain ⟨e2,cs2,hE2⟩:=hX1.elm hx
 obtain rfl:=(show cs2=[Value.int .i64 x] from hE2.K)
 obtain ⟨k,rfl⟩:=Int.eq_ofNat_of_zero_le (show 0≤x from (mem_ris.1 (List.mem_of_getElem? hx)).2.1)
 have hk:k<p.fFuns.length:=by have:=(mem_ris.1 (List.mem_of_getElem? hx)).2.2;omega
 refine Zj (Za (Zh (Zk (Zh (Zi (oIdxE J J (hE2) ZO J J ?_))))))
 have hc30:=(hE2).cell
 refine Zlx hc30 ?_
 refine Zp J (Zn (Za (Zi (Zo J (Zo J (Zo J (Zo J (ZR J J ZP ZO J J (fun g36 hg36=>?_)))))))))
 first | subst hg36 | (injection hg36 with hg36;injection hg36 with hg36;subst hg36)
 refine ZR1 J ZP ZO J (fun u37 hu37=>?_)
 refine Zo J (ZS (ZT 38) (fun h38=>?_) (fun h38=>?_))
 refine Zr J J J J (Zt J J (ZR J J ZP ZO J J (fun g41 hg41=>?_)))
 first | subst hg41 | (injection hg41 with hg41;injection hg41 with hg41;subst hg41)
 refine oStR _ J J J J ZP (by first | omega | (simp only [List.length_set];omega)) ?_
 refine Zn (Zzi ?_)
 refine Zo J (Zn (Za ?_))
 exact ⟨rfl,(j+1,out.set k true),⟨by show j+1≤_;omega,by have:=hT.or hf hx hk hu37 hlv;rw [h38,Bool.true_or] at this;exact this⟩,by show (valuesF p f).length-(j+1)<(valuesF p f).length-j;omega,cv,Lh⟩
 refine Zq J J (Zo J (Zu J J (ZR J J ZP ZO J J (fun g41 hg41=>?_))))
 first | subst hg41 | (injection hg41 with hg41;injection hg41 with hg41;subst hg41)
 refine oStR _ J J J J ZP (by first | omega | (simp only [List.length_set];omega)) ?_
 refine Zn (Zzi ?_)
 refine Zo J (Zn (Za ?_))
 exact ⟨rfl,(j+1,out.set k u22),⟨by show j+1≤_;omega,by have:=hT.or hf hx hk hu37 hlv;rw [h38,Bool.false_or] at this;exact this⟩,by show (valuesF p f).length-(j+1)<(valuesF p f).length-j;omega,cv,Lh⟩
 obtain rfl:j=(valuesF p f).length:=by omega
 refine Zm (Zb (Zb (Ze (Zzi ?_))))
 refine Zo J (Zn (Za ?_))
 exact ⟨rfl,(i+1,out),⟨by show i+1≤_;omega,TK.next hf hT⟩,by show p.fFuns.length-(i+1)<p.fFuns.length-i;omega,cv,Lh⟩
 obtain rfl:i=p.fFuns.length:=by omega
 obtain rfl:=TK.done hT
 refine Zm (Zzf ?_)
 exact ⟨(some ⟨g12,0,none⟩,p.fFuns.length),trivial,rfl,Lh⟩
theorem ref26_Taken {B:Base}{w:World}(hS:St B [] w) (p:ApiProgram) (pc:List Value) (hp:kApiProgram.K B.e p pc) (hsm:SmallP p) (W0:World) :
 CW 32 #[.agg pc.toArray] w (Ret B (fun _:Option Addr×Nat=>True) (fun z=>.slice z.1 p.fFuns.length z.2) (fun z=>[row Kd.bool W0 4 (.slice z.1 p.fFuns.length z.2) (takenL p)])):=by
 obtain ⟨A0,c0,A1,c1,rfl,l0,g0,l1,g1⟩:=kApiProgram_open hp
 have hn:=hsm.funs
 have hll:=liveL_len p
 refine ZX Tryz.func32 hS ?_
 refine Zh (Zi (oBox J ZP (fun b1=>?_)))
 refine Zp J (Zn (Zzk ?_))
 (refine ZC0 rfl ZK (fun w hS=>frame hS ZQ (fun B' hB hS'=>ref26_Live hS' p _ (gPg hB hp) hsm B.e)) ?_;rintro ⟨A9,c9⟩ -)
 refine Zp J (Zn (Za (Zh (Zi (Zz (n:=0) (m:=0) J J J (Zld ?_))))))
 refine Zv J J (oMake (kd:=Kd.bool) (W:=W0) false J J J J J J ZO J (fun g13=>?_))
 refine Zp J (Zn (Za (Zh (Zh (Zi (Zp J (Zn (Za (Zk (wLoop (ι:=Nat×List Bool×Option Addr) (fun z=>[(1,.pointer (some ⟨b1,0,none⟩)),(3,.slice z.2.2 p.fFuns.length c9),(4,.slice (some ⟨g13,0,none⟩) p.fFuns.length p.fFuns.length),(5,.int .i64 (z.1:Int))]) (fun z=>[blk b1 29 (pcL p A0 c0 A1 c1),row Kd.bool W0 4 (.slice (some ⟨g13,0,none⟩) p.fFuns.length p.fFuns.length) z.2.1,row Kd.bool B.e 4 (.slice z.2.2 p.fFuns.length c9) (liveL p)]) (fun z=>z.1≤p.fFuns.length∧TK p z.1 0 z.2.1) (fun z=>p.fFuns.length-z.1) (0,List.replicate p.fFuns.length false,A9) ?_ cv Lh ?_))))))))))
 exact ⟨Nat.zero_le _,TK.zero p⟩
 rintro ⟨i,out,A9⟩ ⟨hi,hT⟩
 dsimp only at hi hT
 try dsimp only
 refine Zh (Zh (Zi (Zo J (Zz (n:=0) (m:=0) J J J (Zld ?_)))))
 refine Zv J J (Zx J J (Zn (Za (wC (fun h18=>?_) (fun h18=>?_)))))
 obtain ⟨f,hf⟩:∃ f,p.fFuns[i]?=some f:=⟨_,List.getElem?_eq_getElem ZO⟩
 have hil:i<p.fFuns.length:=by omega
 have hvl2:(valuesF p f).length≤p.fFuns.length:=ris_len _ _
 refine Zj (Za (Zh (Zk (Zh (Zi (Zla ?_))))))
 refine Zo J ?_
 (refine ZC0 rfl ZK (fun w hS=>frame hS ZQ (fun B' hB hS'=>ref25_Values hS' p _ (gPg hB hp) hsm i f hf B.e)) ?_;rintro ⟨A23,c23⟩ -)
 refine Zp J (Zn (Za (Zh (Zi (Zp J (Zn (Za (Zk (wLoop (ι:=Nat×List Bool×Option Addr×Option Addr) (fun z=>[(1,.pointer (some ⟨b1,0,none⟩)),(3,.slice z.2.2.1 p.fFuns.length c9),(4,.slice (some ⟨g13,0,none⟩) p.fFuns.length p.fFuns.length),(5,.int .i64 (i:Int)),(6,.slice z.2.2.2 (valuesF p f).length c23),(7,.int .i64 (z.1:Int))]) (fun z=>[blk b1 29 (pcL p A0 c0 A1 c1),row Kd.bool W0 4 (.slice (some ⟨g13,0,none⟩) p.fFuns.length p.fFuns.length) z.2.1,row Kd.bool B.e 4 (.slice z.2.2.1 p.fFuns.length c9) (liveL p),row (Kd.int .i64) B.e 3 (.slice z.2.2.2 (valuesF p f).length c23) (valuesF p f)]) (fun z=>z.1≤(valuesF p f).length∧TK p i z.1 z.2.1) (fun z=>(valuesF p f).length-z.1) (0,out,A9,A23) ?_ cv Lh ?_)))))))))
 exact ⟨Nat.zero_le _,hT⟩
 rintro ⟨j,out,A9,A23⟩ ⟨hj,hT⟩
 dsimp only at hj hT
 have hol:=hT.len
 try dsimp only
 refine Zh (Zh (Zi (Zo J (Zo J (ZR J J ZP ZO J J (fun g26 hg26=>?_))))))
 first | subst hg26 | (injection hg26 with hg26;injection hg26 with hg26;subst hg26)
 refine ZR1 J ZP ZO J (fun u27 hu27=>?_)
 have hlv:u27=true↔lv p i:=by unfold lv;rw [hu27];simp
 refine Zo J (ZS (ZT 28) (fun h28=>?_) (fun h28=>?_))
 refine Zq J J (Zo J (Zq J J (Zo J (Zq J J (Zv J J (Zq J J (Zx J J (Zt J J (Zn (Za (wC (fun h33=>?_) (fun h33=>?_))))))))))))
 refine Zj (Za (Zh (Zk (Zi (Zo J (Zo J (Zo J (ZR J J ZP ZO J J (fun g39 hg39=>?_)))))))))
 first | subst hg39 | (injection hg39 with hg39;injection hg39 with hg39;subst hg39)
 refine ZR1 J ZP ZO J (fun u40 hu40=>?_)
 have hx:=hu40
 obtain ⟨k,hkk⟩:=Int.eq_ofNat_of_zero_le (show 0≤u40 from (mem_ris.1 (List.mem_of_getElem? hu40)).2.1)
 have hk:k<p.fFuns.length:=by have:=(mem_ris.1 (List.mem_of_getElem? hu40)).2.2;omega
 rw [hkk] at hx
 refine ZS0 (t:=40) (v':=.int .i64 (k:Int)) rfl (by rw [hkk]) ?_
 refine ZR J J ZP ZO J J (fun g41 hg41=>?_)
 first | subst hg41 | (injection hg41 with hg41;injection hg41 with hg41;subst hg41)
 refine oStR _ J J J J ZP (by first | omega | (simp only [List.length_set];omega)) ?_
 refine Zn (Zzd ?_)
 refine Zp J (Zn (Za ?_))
 exact ⟨rfl,(j+1,out.set k true,some ⟨g26,0,none⟩,some ⟨g39,0,none⟩),⟨by show j+1≤_;omega,hT.put hf hx hk (hlv.1 h28)⟩,by show (valuesF p f).length-(j+1)<(valuesF p f).length-j;omega,cv,Lh⟩
 have hjl:j=(valuesF p f).length:=by omega
 refine Zm (Zb (Zb (Ze (Zzd ?_))))
 refine Zp J (Zn (Za ?_))
 exact ⟨rfl,(i+1,out,some ⟨g26,0,none⟩),⟨by show i+1≤_;omega,TK.next hf (hjl ▸ hT)⟩,by show p.fFuns.length-(i+1)<p.fFuns.length-i;omega,cv,Lh⟩
 refine Zr J J J J (Zr J J J J (Zr J J J J (Zr J J J J (Zu J J (Zn (Za (wCondF J (Zm (Zb (Zb (Ze (Zzd ?_))))))))))))
 refine Zp J (Zn (Za ?_))
 exact ⟨rfl,(i+1,out,some ⟨g26,0,none⟩),⟨by show i+1≤_;omega,TK.next hf (hT.skip (by rw [← hlv,h28];simp) _)⟩,by show p.fFuns.length-(i+1)<p.fFuns.length-i;omega,cv,Lh⟩
 obtain rfl:i=p.fFuns.length:=by omega
 obtain rfl:=TK.done hT
 refine Zm (Zzf ?_)
 exact ⟨(some ⟨g13,0,none⟩,p.fFuns.length),trivial,rfl,Lh⟩
def clsP (p:ApiProgram) (tk:List Bool) (c:Int) (k:Nat):Bool:=tk.getD k false && decide ((p.fFuns.getD k default).fF.fClass=c)
def clsFrom (p:ApiProgram) (tk:List Bool) (c:Int) (i:Nat):List Int:=(((List.range p.fFuns.length).drop i).filter (clsP p tk c)).map fun k:Nat=>(k:Int)
def classL (p:ApiProgram) (tk:List Bool) (c:Int):List Int:=clsFrom p tk c 0
theorem cls_T {p:ApiProgram}{tk:List Bool}{c:Int}{i:Nat}(hi:i<p.fFuns.length) (h:clsP p tk c i=true):clsFrom p tk c i=(i:Int) :: clsFrom p tk c (i+1):=by
 unfold clsFrom
 rw [List.drop_eq_getElem_cons (by simpa using hi),List.getElem_range,List.filter_cons,if_pos h,List.map_cons]
theorem cls_F {p:ApiProgram}{tk:List Bool}{c:Int}{i:Nat}(hi:i<p.fFuns.length) (h:clsP p tk c i=false):clsFrom p tk c i=clsFrom p tk c (i+1):=by
 unfold clsFrom
 rw [List.drop_eq_getElem_cons (by simpa using hi),List.getElem_range,List.filter_cons,if_neg (by rw [h];simp)]
theorem cls_end (p:ApiProgram) (tk:List Bool) (c:Int):clsFrom p tk c p.fFuns.length=[]:=by unfold clsFrom;rw [List.drop_of_length_le (by simp)];rfl
theorem cls_len (p:ApiProgram) (tk:List Bool) (c:Int):(classL p tk c).length≤p.fFuns.length:=by
 unfold classL clsFrom
 rw [List.length_map,List.drop_zero]
 exact Nat.le_trans (List.length_filter_le _ _) (by simp)
theorem mem_cls {p:ApiProgram}{tk:List Bool}{c x:Int} : x ∈ classL p tk c↔∃ k:Nat,x=(k:Int)∧k<p.fFuns.length∧clsP p tk c k=true:=by
 unfold classL clsFrom
 rw [List.drop_zero]
 simp only [List.mem_map,List.mem_filter,List.mem_range]
 constructor
 · rintro ⟨k,⟨h1,h2⟩,rfl⟩;exact ⟨k,rfl,h1,h2⟩
 · rintro ⟨k,rfl,h1,h2⟩;exact ⟨k,⟨h1,h2⟩,rfl⟩
theorem clsP_at {p:ApiProgram}{tk:List Bool}{c:Int}{k:Nat}{f:ApiFun}{u:Bool}(hu:tk[k]?=some u) (hf:p.fFuns[k]?=some f):clsP p tk c k=(u && decide (f.fF.fClass=c)):=by
 unfold clsP
 rw [List.getD_eq_getElem?_getD,hu,List.getD_eq_getElem?_getD,hf];rfl
theorem ofClass_any {B:Base}{w:World}(hS:St B [] w) (pc:List Value) (A:Option Addr) (n cp:Nat) (c:Int) :
 CW 92 #[.agg pc.toArray,.slice A n cp,.int .i64 c] w (Ret B (fun _:Nat×Nat×Nat=>True) (fun b=>.func (.func 150) #[] #[.pointer (some ⟨b.1,0,none⟩),.pointer (some ⟨b.2.1,0,none⟩),.pointer (some ⟨b.2.2,0,none⟩)]) (fun b=>[blk b.1 29 pc,blk b.2.1 53 [.slice A n cp],blk b.2.2 3 [.int .i64 c]])):=by
 refine ZX Tryz.func92 hS ?_
 refine Zh (Zi (oBox J ZP (fun b3=>?_)))
 refine oBox J ZP (fun b4=>?_)
 refine oBox J ZP (fun b5=>?_)
 refine Zp J (Zn (Za (Zh (Zi (oMakeFunc J (Zza ?_))))))
 exact ⟨(b3,b4,b5),trivial,rfl,Lh⟩
theorem ofClass1 {B:Base}(p:ApiProgram) (pc:List Value) (hp:kApiProgram.K B.e p pc) (hn:p.fFuns.length≤1000) (tk:List Bool) (A:Option Addr) (cp:Nat) (hT:Kd.bool.C B.e A tk) (htl:tk.length=p.fFuns.length) (c:Int) (x1 x2 x3:Nat) :
 IterC Tryz.prog 150 #[.pointer (some ⟨x1,0,none⟩),.pointer (some ⟨x2,0,none⟩),.pointer (some ⟨x3,0,none⟩)] B ((classL p tk c).map intV) [blk x1 29 pc,blk x2 53 [.slice A p.fFuns.length cp],blk x3 3 [.int .i64 c]]:=by
 obtain ⟨A0,c0,A1,c1,rfl,l0,g0,l1,g1⟩:=kApiProgram_open hp
 intro lp AI Ax r0 w hbody hA hS
 show CW 150 #[.func (.yield lp) #[] #[],.pointer (some ⟨x1,0,none⟩),.pointer (some ⟨x2,0,none⟩),.pointer (some ⟨x3,0,none⟩)] w _
 refine ZX Tryz.func150 hS ?_
 refine Zh (Zi (Zz (n:=0) (m:=0) J J J (Zld ?_)))
 refine Zv J J (Zo J (Zn (Za (Zk (wLoop (ι:=Nat×Nat×Res) (fun z=>[(0,.func (.yield lp) #[] #[]),(1,.pointer (some ⟨x1,0,none⟩)),(2,.pointer (some ⟨x2,0,none⟩)),(3,.pointer (some ⟨x3,0,none⟩)),(8,.slice A0 p.fFuns.length c0),(9,.int .i64 (p.fFuns.length:Int)),(10,.int .i64 (z.1:Int))]) (fun z=>[z.2.2,blk x1 29 (pcL p A0 c0 A1 c1),blk x2 53 [.slice A p.fFuns.length cp],blk x3 3 [.int .i64 c]]) (fun z=>z.1≤p.fFuns.length∧z.2.1≤(classL p tk c).length∧AI z.2.1 z.2.2∧(classL p tk c).drop z.2.1=clsFrom p tk c z.1) (fun z=>p.fFuns.length-z.1) (0,0,r0) ?_ cv Lh ?_)))))
 exact ⟨Nat.zero_le _,Nat.zero_le _,hA,rfl⟩
 rintro ⟨i,j,r⟩ ⟨hi,hj,hA,hd⟩
 dsimp only at hi hj hA hd
 try dsimp only
 refine Zh (Zi (Zx J J (Zn (Za (Zh (wC (fun h11=>?_) (fun h11=>?_)))))))
 obtain ⟨f,hf⟩:∃ f,p.fFuns[i]?=some f:=⟨_,List.getElem?_eq_getElem ZO⟩
 have hil:i<p.fFuns.length:=by omega
 obtain ⟨ef,csf,hEf⟩:=g0.elm hf
 obtain ⟨D0,d0,D1,d1,D2,d2,D3,d3,D4,d4,rfl,m0,q0,m1,q1,m2,q2,m3,q3,m4,q4⟩:=kApiFun_open hEf.K
 obtain ⟨u,hu⟩:∃ u,tk[i]?=some u:=⟨_,List.getElem?_eq_getElem ZO⟩
 obtain ⟨eb,csb,hEb⟩:=hT.elm hu
 obtain rfl:=(show csb=[Value.bool u] from hEb.K)
 have hcp:=clsP_at (c:=c) hu hf
 refine Zj (Za (Zh (Zk (Zh (Zi (Zo J (oIdxE J J (hEf) ZO J J ?_)))))))
 have hc13:=(hEf).cell
 refine Zlx hc13 ?_
 refine oAlloc J ZP (fun b6=>?_)
 refine Zp J (Zsa ?_)
 refine Zn (Za (Zh (Zi (Zld ?_))))
 refine Zo J (oIdxE J J (hEb) ZO J J ?_)
 have hc17:=(hEb).cell
 refine Zlx hc17 ?_
 refine Zo J (ZS (ZT 19) (fun h19=>?_) (fun h19=>?_))
 refine Zq J J (Zz (n:=3) (m:=3) J J J (Zq J J (Zz (n:=0) (m:=3) J J J (Zzg ?_))))
 refine Zq J J (Zld ?_)
 refine Zq J J (Zy J J (Zt J J (Zo J (ZS (ZT 26) (fun h26=>?_) (fun h26=>?_)))))
 have hct:clsP p tk c i=true:=by rw [hcp];simp_all
 rw [cls_T hil hct] at hd
 obtain ⟨hjlt,hjg,hjd⟩:=drop_cons hd
 have hY:∀ Fr W1,St B (r :: Fr) W1→YieldAt Fence.wide 0 Tryz.prog lp (intV (i:Int)).toArray W1 (YEnd B j AI Ax Fr):=by
  intro Fr W1 h1
  have:=hbody j (by simpa using hjlt) r Fr W1 hA h1
  rwa [List.getElem_map,hjg] at this
 refine Zq J J (Zo J (Zq J J (Zo J (Zq J J (oYield J J J (fun w hS=>hY _ w (hS.perm (Pick.perm ZP))) ?_)))))
 rintro ⟨bb,r'⟩ hr'
 dsimp only at hr' ⊢
 refine Zq J J (Zno ?_)
 refine Zt J J (Zn (Za (wC (fun h31=>?_) (fun h31=>?_))))
 refine Zl (Zf (Zc (Zc (Zf (Zw ?_)))))
 refine ⟨rfl,_,ResL.nil,?_⟩
 exact ⟨r',.inr ⟨j,by simpa using hjlt,by rw [if_neg (by simpa using h31)] at hr';exact hr'⟩,rfl,Lh⟩
 refine Zj (Zzi ?_)
 refine Zo J (Zn (Za ?_))
 exact ⟨rfl,(i+1,j+1,r'),⟨by show i+1≤_;omega,hjlt,by rw [if_pos (by simpa using h31)] at hr';exact hr',hjd⟩,by show p.fFuns.length-(i+1)<p.fFuns.length-i;omega,cv,Lh⟩
 refine Zr J J J J (Zr J J J J (Zr J J J J (Zr J J J J (Zu J J (Zn (Za (wCondF J (Zj (Zzi ?_)))))))))
 refine Zo J (Zn (Za ?_))
 exact ⟨rfl,(i+1,j,r),⟨by show i+1≤_;omega,hj,hA,by rw [hd,cls_F hil (by rw [hcp];simp_all)]⟩,by show p.fFuns.length-(i+1)<p.fFuns.length-i;omega,cv,Lh⟩
 refine Zr J J J J (Zr J J J J (Zr J J J J (Zr J J J J (Zr J J J J (Zu J J (Zo J (Zr J J J J (Zr J J J J (Zr J J J J (Zr J J J J (Zu J J (Zn (Za (wCondF J (Zj (Zzi ?_))))))))))))))))
 refine Zo J (Zn (Za ?_))
 exact ⟨rfl,(i+1,j,r),⟨by show i+1≤_;omega,hj,hA,by rw [hd,cls_F hil (by rw [hcp];simp_all)]⟩,by show p.fFuns.length-(i+1)<p.fFuns.length-i;omega,cv,Lh⟩
 refine Zm (Zb (Zb (Ze (fin_n ?_))))
 refine ⟨rfl,_,ResL.nil,?_⟩
 have hjj:j=((classL p tk c).map intV).length:=by
  obtain rfl:i=p.fFuns.length:=by omega
  rw [cls_end] at hd
  have:=List.drop_eq_nil_iff.1 hd
  rw [List.length_map];omega
 exact ⟨r,.inl (hjj ▸ hA),rfl,Lh⟩
noncomputable def partF (p:ApiProgram) (f:ApiFun) (j:Nat):List Int:=directF p f++(((viasF f).take j).map (classL p (takenL p))).flatten
theorem partF_zero (p:ApiProgram) (f:ApiFun):partF p f 0=directF p f:=by unfold partF;simp
theorem partF_succ {p:ApiProgram}{f:ApiFun}{j:Nat}{c:Int}(h:(viasF f)[j]?=some c):partF p f (j+1)=partF p f j++classL p (takenL p) c:=by
 unfold partF
 rw [List.take_add_one,h,List.map_append,List.flatten_append,List.append_assoc];simp
theorem partF_len {p:ApiProgram}(hsm:SmallP p) (f:ApiFun) (j:Nat):(partF p f j).length≤300:=by
 unfold partF
 have h1:(directF p f).length≤p.fFuns.length:=ris_len _ _
 have h2:(viasF f).length≤8:=ris_len _ _
 have h3:=flat_bound (c:=24) (ll:=((viasF f).take j).map (classL p (takenL p))) (fun x hx=>by
  obtain ⟨c,_,rfl⟩:=List.mem_map.1 hx
  exact Nat.le_trans (cls_len _ _ _) hsm.funs)
 have h4:=hsm.funs
 rw [List.length_map,List.length_take] at h3
 rw [List.length_append]
 have:24 * min j (viasF f).length≤24 * 8:=Nat.mul_le_mul_left _ ZO
 omega
noncomputable def rowF (p:ApiProgram) (i:Nat):List Int:=if (liveL p).getD i false=true then partF p (p.fFuns.getD i default) (viasF (p.fFuns.getD i default)).length else []
noncomputable def grTo (p:ApiProgram) (i:Nat):List (List Int):=(List.range p.fFuns.length).map fun k=>if k<i then rowF p k else []
theorem grTo_zero (p:ApiProgram):grTo p 0=List.replicate p.fFuns.length []:=by
 unfold grTo
 apply List.ext_getElem?
 intro i
 rw [List.getElem?_map,List.getElem?_replicate]
 by_cases h:i<p.fFuns.length
 · simp [h]
 · simp [h]
theorem grTo_len (p:ApiProgram) (i:Nat):(grTo p i).length=p.fFuns.length:=by simp [grTo]
theorem grTo_at {p:ApiProgram}{i:Nat}(h:i<p.fFuns.length):(grTo p i)[i]?=some []:=by simp [grTo,h]
theorem grTo_succ {p:ApiProgram}{i:Nat}(h:i<p.fFuns.length) {l:List Int}(hl:rowF p i=l):(grTo p i).set i l=grTo p (i+1):=by
 apply List.ext_getElem?
 intro k
 rw [List.getElem?_set,grTo_len]
 by_cases e:i=k
 · subst e;simp [grTo,h,hl]
 · rw [if_neg e]
   unfold grTo
   rw [List.getElem?_map,List.getElem?_map]
   cases hr:(List.range p.fFuns.length)[k]? with
   | none=>rfl
   | some j=>
    obtain ⟨hk,rfl⟩:=List.getElem?_eq_some_iff.1 hr
    simp only [List.getElem_range,Option.map_some,Option.some.injEq]
    by_cases h1:k<i
    · rw [if_pos h1,if_pos ZO]
    · rw [if_neg h1,if_neg ZO]
theorem bun_pop {B:Base}{r:Res}{Ψ Φ Φ':List Res}(hp:Pick Φ (bun (r :: Ψ)) Φ'):Leads B Φ (r :: bun Ψ :: Φ'):=fun w h=>bun_focus (Ψ:=r :: Ψ) (i:=0) rfl w (h.perm hp.perm)
theorem rws_drop {α:Type}{kd:Kd α}{W:World}{e:TypeId}{hs:List Hdr}{xss:List (List α)}{i:Nat}{u:Hdr}{xs:List α}(hu:hs[i]?=some u) (hx:xss[i]?=some xs):(rws kd W e hs xss).drop i=row kd W e (hV u) xs :: (rws kd W e hs xss).drop (i+1):=by
 have h:=rws_at (kd:=kd) (W:=W) (ei:=e) hu hx
 obtain ⟨hi,he⟩:=List.getElem?_eq_some_iff.1 h
 rw [List.drop_eq_getElem_cons hi,he]
end Go.Proofs.YtogaiijhicfoaaaGreatU
