/-
  Part 2 of the proof of FileTold: contracts of functions, and what follows from them; without conditions.
-/
import Derived.Test.YtpmdhkjbhjgoaaaGreatFileTold1
import Derived.Lib.ConvBytes
import Derived.Lib.AppendStr
import Derived.Shelf.Lays
import Derived.Shelf.Lays2
import Derived.Test.YtpmdhkjbhjgoaaaGreatProg
set_option linter.unusedVariables false
set_option linter.unusedSimpArgs false
set_option linter.defProp false
namespace Go.Proofs.YtpmdhkjbhjgoaaaGreatD
set_option maxRecDepth 100000
set_option maxHeartbeats 4000000
open Go.RowKit Go.Proofs.YtpmdhkjbhjgoaaaGreatK Go.Proofs.YtpmdhkjbhjgoaaaGreatT

def txtL (s:ByteArray):List Int:=s.data.toList.map fun b=>(b.toNat:Int)
theorem txtL_len (s:ByteArray):(txtL s).length=s.size:=by unfold txtL;rw [List.length_map,Array.length_toList];rfl
theorem txtL_byts (s:ByteArray):Byts (txtL s):=by
 intro v hv
 obtain ⟨b,_,rfl⟩:=List.mem_map.1 hv
 have:=b.toNat_lt
 omega
def txtP (s:ByteArray):List Int:=putL ((min s.size 255:Nat):Int) 1++(txtL s).take (min s.size 255)
theorem txtP_len (s:ByteArray):(txtP s).length=1+min s.size 255:=by unfold txtP;rw [List.length_append,putL_len,List.length_take,txtL_len];omega
theorem txtP_le (s:ByteArray):(txtP s).length≤256:=by rw [txtP_len];omega
theorem txtL_extract (s:ByteArray) (m:Nat):txtL (s.extract 0 m)=(txtL s).take m:=by
 unfold txtL
 rw [ByteArray.data_extract,Array.toList_extract,List.extract_eq_take_drop,List.drop_zero,Nat.sub_zero,List.map_take]
theorem strCells_eq (s:ByteArray):Lib.strCells s=(txtL s).map (Value.int .u8):=by unfold Lib.strCells txtL;rw [List.map_map];rfl
theorem ownsRow_le {w:World}{base base' size n:Nat}{e:TypeId}{v:Value}{xs:List Value}(h:w.ownsRow base e size v n xs) (hb:base'≤base):w.ownsRow base' e size v n xs:=
 ⟨h.1,h.2.elim .inl (fun ⟨g,cap,cur,hv,hg,r⟩=>.inr ⟨g,cap,cur,hv,Nat.le_trans hb hg,r⟩)⟩
theorem app_str {P:Program}{w W:World}{v:Value}{xs:List Int}{e t u ty:TypeId}{i:TypeInfo}(h:(row (Kd.int .u8) W e v xs).q w) (ht:P.underlying t=some (.slice e)) (hu:P.underlying u=some .string) (hi:P.info? e=some i) (hz:i.zero=some (.int .u8 0)) (hs:i.size=1) (hby:i.bytes=1) (s:ByteArray) (hl:xs.length+s.size≤1000000000) :
 ∃ A cp w',(Builtin.append_ #[t,u] ty #[v,.string s]).run P w=.ok (.slice A (xs.length+s.size) cp) w'∧(row (Kd.int .u8) W e (.slice A (xs.length+s.size) cp) (xs++txtL s)).q w'∧Chg w w' (fun k=>v.ownBlock=some k)∧∀ k,(Value.slice A (xs.length+s.size) cp).ownBlock=some k→v.ownBlock=some k∨w.heap.size≤k:=by
 have hml:maxLen=9223372036854775807:=rfl
 obtain ⟨cs,ho,hr⟩:=h
 have hcs:=cat_scalar.1 hr
 have fin:∀ {v':Value}{w':World}{base:Nat},w'.ownsRow base e 1 v' (xs.length+s.size) (cs++Lib.strCells s)→∃ A cp,v'=.slice A (xs.length+s.size) cp∧(row (Kd.int .u8) W e (.slice A (xs.length+s.size) cp) (xs++txtL s)).q w':=by
  intro v' w' base ho'
  obtain ⟨A,cp,rfl⟩:∃ A cp,v'=.slice A (xs.length+s.size) cp:=by
   rcases ho'.2 with ⟨rfl,e2⟩ | ⟨g,cap,cur,rfl,_⟩
   · exact ⟨_,_,by rw [e2]⟩
   · exact ⟨_,_,rfl⟩
  refine ⟨A,cp,rfl,cs++Lib.strCells s,?_,cat_scalar.2 ?_⟩
  · rw [List.length_append,txtL_len]
    exact ownsRow_le ho' (Nat.zero_le _)
  · rw [hcs,strCells_eq,List.map_append]
 have ho1:w.ownsRow 0 e 1 v xs.length cs:=ho
 by_cases hnil:v=.slice none 0 0
 · have ho2 : w.ownsRow w.heap.size e 1 v xs.length cs := by
    refine ⟨ho1.1,?_⟩
    rcases ho1.2 with h1 | ⟨g,cap,cur,e1,_⟩
    · exact .inl h1
    · rw [hnil] at e1;cases e1
   obtain ⟨v',w',hrun,hown,hgr,_⟩:=Lib.run_append_own_string (P:=P) w w.heap.size t u ty e i ht hu hi hz hs hby v xs.length cs ho2 s ZO ZO (Nat.le_refl _)
   obtain ⟨A,cp,rfl,hq⟩:=fin hown
   exact ⟨A,cp,w',hrun,hq,(Chg.of_grown hgr).mono (fun k hk=>hk.symm),fun k hk=>.inr (hown.lt k hk).1⟩
 · obtain ⟨v',w',hrun,hown,hgr,_⟩:=Lib.run_append_own_string (P:=P) w 0 t u ty e i ht hu hi hz hs hby v xs.length cs ho1 s ZO ZO (Nat.zero_le _)
   obtain ⟨A,cp,rfl,hq⟩:=fin hown
   refine ⟨A,cp,w',hrun,hq,(Chg.of_grown hgr).mono (fun k hk=>hk.symm),fun k hk=>?_⟩
   obtain ⟨hx,hc⟩:=ho1
   rcases hc with ⟨h1,_⟩ | ⟨g,cap,cur,rfl,_,hg,hn,hcm,hsz,htk⟩
   · exact absurd h1 hnil
   · by_cases hroom:xs.length+s.size≤cap
     · have hr:=Lib.run_append_room_string (P:=P) w t u ty e i ht hu hi hs g xs.length cap cur hg s hroom ZO
       rw [hr] at hrun
       injection hrun with h1 h2
       injection h1 with h1 h3 h4
       subst h1
       exact .inl hk
     · have holds:=ho.cells (g:=g) rfl
       have hr:=Lib.run_append_grow_string (P:=P) w t u ty e i (.int .u8 0) ht hu hi hz ⟨g,0,none⟩ xs.length cap cs (by rw [hs];exact hx) holds s ZO ZO (by rw [hby];exact growslice_fits ZO ZO)
       rw [hr] at hrun
       injection hrun with h1 h2
       injection h1 with h1 h3 h4
       subst h1
       right
       have:some w.heap.size=some k:=hk
       injection this with this
       omega
section
variable {c : Cx} {M : Md c} {d : Nat} {ty : TypeId} {pos : String} {af : Array Edge} {rest : List Oper} {E : Env} {D : List Deferred} {H H' : List Res} {x y : Operand} {t t' : TypeId} {v : Value}
theorem oAppStr {M:Me c}{W:World}{e:TypeId}{xs:List Int}{s:ByteArray}(hx:E.op x=some v) (hy:E.op y=some (.string s)) (ht:elemI c.P t=some (e,.int .u8 0,1,1)) (hu:c.P.underlying t'=some .string)
 (hp:Pick H (row (Kd.int .u8) W e v xs) H') (hl:xs.length+s.size≤1000000000)
 (h:∀ A cp,O M.toMd rest ((d,.slice A (xs.length+s.size) cp) :: E) D (row (Kd.int .u8) W e (.slice A (xs.length+s.size) cp) (xs++txtL s) :: H')) (hN:Nat.blt d c.N=true:=by rfl) :
 O M.toMd (⟨some d,.call { callee:=.builtin .append,args:=#[x,y],argTypes:=#[t,t'] },ty,pos,af,none⟩ :: rest) E D H:=
 oEff rfl hN fun a w ha hw=>by
  obtain ⟨ht1,i0,hi,hz0,hz1,hz2,hzs,hsp⟩:=elemI_spec ht
  obtain ⟨A,cp,w',hrun,hq,hc,hb⟩:=app_str (P:=c.P) (ty:=ty) (hw.get hp) ht1 hu hi hz0 hz1 hz2 s hl
  exact ⟨_,w',_,by simp [execOp,resolve,invoke,builtin,ha.op hx,ha.op hy,hrun],hw.upd' hp hc hq hb,h A cp⟩
theorem oSliceLM {k k':IntKind}{A:Option Addr}{n cp l m s:Nat}{e':TypeId}{z1 z2:Operand}(hx:E.op x=some (.slice A n cp)) (hl:E.op z1=some (.int k (l:Int))) (hm:E.op z2=some (.int k' (m:Int))) (h1:l≤m∧m≤cp) (ht:elemT c.P t=some (e',s))
 (h:O M rest ((d,.slice (if cp=l then A else A.map (·.add (l * s))) (m-l) (cp-l)) :: E) D H) (hN:Nat.blt d c.N=true:=by rfl):O M (⟨some d,.slice t x (some z1) (some z2) none,ty,pos,af,none⟩ :: rest) E D H:=
 oC _ rfl hN (fun a w ha hw=>by
  obtain ⟨h3,inf,h4,h5⟩:=run_elemT ht
  simp [execOp,ha.op hx,ha.op hl,ha.op hm,Instr.sliceAt,Instr.slice,run_underlying h3,Instr.sliceBounds,Instr.sliceBound,asIntOf,h1,sizeOf,typeInfo,h4,h5]) h
theorem oSliceSU {s:ByteArray}{m:Nat}{k':IntKind}{z2:Operand}(hx:E.op x=some (.string s)) (hm:E.op z2=some (.int k' (m:Int))) (ht:c.P.underlying t=some .string) (h2:m≤s.size)
 (h:O M rest ((d,.string (s.extract 0 m)) :: E) D H) (hN:Nat.blt d c.N=true:=by rfl):O M (⟨some d,.slice t x none (some z2) none,ty,pos,af,none⟩ :: rest) E D H:=
 oC _ rfl hN (fun u w ha hw=>by
  simp [execOp,ha.op hx,ha.op hm,Instr.sliceAt,Instr.slice,run_underlying ht,Instr.sliceBounds,Instr.sliceBound,asIntOf,h2]) h
theorem oMinJ {y:Operand}{k:IntKind}{a b:Int}(hx:E.op x=some (.int k a)) (hy:E.op y=some (.int k b)) (h:O M rest ((d,.int k (if b<a then b else a)) :: E) D H) (hN:Nat.blt d c.N=true:=by rfl):O M (⟨some d,.call { callee:=.builtin .min,args:=#[x,y],argTypes:=#[t,t'] },ty,pos,af,none⟩ :: rest) E D H:=
 oC _ rfl hN (fun u w ha hw=>by
  simp only [execOp,resolve,ha.op hx,ha.op hy,invoke,builtin,Builtin.min_,List.map_cons,List.map_nil,Array.toList_map]
  simp [ha.op hx,ha.op hy,Builtin.min2]) h
theorem oConvBR {A:Option Addr}{n cp:Nat}{e:TypeId}{xs:List Int}(hx:E.op x=some (.slice A n cp)) (hs:c.P.underlying t=some (.slice e)) (he:c.P.underlying e=some (.int .u8)) (hd:c.P.underlying t'=some .string) (hC:∀ w,St c.B H w→(Kd.int .u8).C w A xs) (hn:n=xs.length) (hr:Byts xs)
 (h:O M rest ((d,.string (bytesS xs)) :: E) D H) (hN:Nat.blt d c.N=true:=by rfl):O M (⟨some d,.convert t t' x,ty,pos,af,none⟩ :: rest) E D H:=
 oC _ rfl hN (fun u w ha hw=>by
  subst hn
  have hc:=hC w hw
  cases A with
  | none=>
   have h0:xs=[]:=by
    cases xs with
    | nil=>rfl
    | cons y ys=>obtain ⟨_,h,_⟩:=hc.2 (by simp);cases h
   subst h0
   have key:=run_convert_bytes_string (P:=c.P) w t t' e none 0 cp hs he hd
   simp only [execOp,ha.op hx,Sem.run_bind,List.length_nil,key]
   simp [Conv.bytesToString];rfl
  | some ad=>
   have key:=run_convert_bytes_back (P:=c.P) w t t' e ad cp (xs.map fun v=>UInt8.ofNat v.toNat) hs he hd (fun j hj=>by
    rw [List.length_map] at hj
    obtain ⟨ad',e1,h2⟩:=hc.2 ZO
    obtain rfl:=Option.some.inj e1
    obtain ⟨cs,hK,hcell⟩:=h2 j xs[j] (List.getElem?_eq_getElem hj)
    have hK:cs=[Value.int .u8 xs[j]]:=hK
    have h3:=hcell 0 (.int .u8 xs[j]) (by rw [hK];rfl)
    have e2:j * (Kd.int .u8).sz+0=j:=by show j * 1+0=j;omega
    rw [e2] at h3
    rw [h3]
    have h0:=hr _ (List.getElem_mem hj)
    simp only [List.getElem_map]
    congr 2
    have h8:=u8_ofNat xs[j].toNat ZO
    rw [h8]
    omega)
   rw [List.length_map] at key
   simp only [execOp,ha.op hx,Sem.run_bind,key,Result.andThen_ok]
   rfl) h
theorem oOr16 {b a:Int}(hx:E.op x=some (.int .i64 (b * 65536))) (hy:E.op y=some (.int .i64 a)) (hb:0≤b∧b<1073741824) (ha:0≤a∧a<65536) (h:O M rest ((d,.int .i64 (b * 65536+a)) :: E) D H) (hN:Nat.blt d c.N=true:=by rfl):O M (⟨some d,.binOp .or t x y t',ty,pos,af,none⟩ :: rest) E D H:=
 oAri _ hx hy (fun P w=>by
  have e1:(BitVec.ofInt 64 (b * 65536)).toNat=b.toNat <<< 16:=by
   rw [BitVec.toNat_ofInt,Nat.shiftLeft_eq];omega
  have e2:(BitVec.ofInt 64 a).toNat=a.toNat:=by rw [BitVec.toNat_ofInt];omega
  have e3:IntKind.i64.wrap ((BitVec.ofInt 64 (b * 65536) ||| BitVec.ofInt 64 a).toNat:Int)=b * 65536+a:=by
   rw [BitVec.toNat_or,e1,e2,← Nat.shiftLeft_add_eq_or_of_lt (show a.toNat<2 ^ 16 by omega),Nat.shiftLeft_eq]
   rw [wrap_in (by unfold in64;omega)]
   omega
  simp only [binOp,ne_eq,not_true_eq_false,ite_false,Op.intBits]
  show (Pure.pure (Value.int .i64 (IntKind.i64.wrap ((BitVec.ofInt 64 (b * 65536) ||| BitVec.ofInt 64 a).toNat:Int))):Sem Value).run P w=_
  rw [e3];rfl) h hN
end
theorem C_mid {α:Type}{kd:Kd α}{w:World}{A:Option Addr}{xs:List α}(h:kd.C w A xs) {l m cp:Nat}(hm:m≤xs.length) (hcp:xs.length≤cp) {s:Nat}(hs:kd.sz=s):kd.C w (if cp=l then A else A.map (·.add (l * s))) ((xs.drop l).take (m-l)):=by
 subst hs
 refine ⟨by have:=h.1;rw [List.length_take,List.length_drop];omega,fun hn=>?_⟩
 rw [List.length_take,List.length_drop] at hn
 obtain ⟨ad,rfl,hc⟩:=h.2 ZO
 refine ⟨ad.add (l * kd.sz),by rw [if_neg ZO];rfl,fun j u hj=>?_⟩
 rw [List.getElem?_take] at hj
 split at hj
 · rw [List.getElem?_drop] at hj
   obtain ⟨cs,hK,hcell⟩:=hc (l+j) u hj
   refine ⟨cs,hK,fun i v hv=>?_⟩
   rw [Addr.add_add,show l * kd.sz+(j * kd.sz+i)=(l+j) * kd.sz+i by rw [Nat.add_mul];omega]
   exact hcell i v hv
 · cases hj
theorem C_from {α:Type}{kd:Kd α}{w:World}{A:Option Addr}{xs:List α}(h:kd.C w A xs) (l:Nat) {cp:Nat}(hcp:xs.length≤cp) {s:Nat}(hs:kd.sz=s):kd.C w (if cp=l then A else A.map (·.add (l * s))) (xs.drop l):=by
 have:=C_mid h (l:=l) (m:=xs.length) (Nat.le_refl _) hcp hs
 rwa [List.take_of_length_le (by rw [List.length_drop];exact Nat.le_refl _)] at this
def hold (W:World) (S:Nat→Prop) (Pd:World→Prop):Res where
  fp:=S
  q w:=(∀ k,S k→k<w.heap.size)∧∀ w',Grow W w'→(∀ k,S k→w'.heap[k]?=w.heap[k]?)→Pd w'
  inb w h k hk:=h.1 k hk
  st w w' h hk:=⟨fun k hs=>by
    have h1:=h.1 k hs
    have h2:=hk k hs
    rw [Array.getElem?_eq_getElem h1] at h2
    exact (Array.getElem?_eq_some_iff.1 h2).1,fun w2 g h2=>h.2 w2 g (fun k hs=>(h2 k hs).trans (hk k hs))⟩
theorem hold_at {W w:World}{S:Nat→Prop}{Pd:World→Prop}(h:(hold W S Pd).q w) (g:Grow W w):Pd w:=h.2 w g (fun _ _=>rfl)
theorem hold_nil {B:Base}{Φ:List Res}{W:World}{Pd:World→Prop}(h:∀ w,Grow W w→Pd w):Leads B Φ (hold W (fun _=>False) Pd :: Φ):=fun w hS=>hS.add (Chg.refl _ _) ⟨fun _ h=>h.elim,fun w' g _=>h w' g⟩ (fun _ h=>h.elim)
theorem hold_of {B:Base}{Φ Φ' Ψ:List Res}{W:World}{Pd:World→Prop}(hs:Split Φ Ψ Φ') (h:∀ w,(∀ r Φ'',Pick Ψ r Φ''→r.q w)→Grow W w→Pd w):Leads B Φ (hold W (fun k=>∃ r ∈ Ψ,r.fp k) Pd :: Φ'):=by
 intro w hS
 have hS:=hS.perm hs.perm
 obtain ⟨ok,sep⟩:=hS
 obtain ⟨h1,h2⟩:=(Sep.all _ _ _).1 sep
 obtain ⟨h3,h4,h5⟩:=List.pairwise_append.1 h2
 refine ⟨ok,(Sep.all _ _ _).2 ⟨?_,?_⟩⟩
 · intro r hr
   rcases List.mem_cons.1 hr with rfl | hr
   · refine ⟨⟨?_,fun w' g hk=>h w' (fun r Φ'' hp=>r.st w w' (h1 r (List.mem_append_left _ hp.mem)).1 (fun k hf=>hk k ⟨r,hp.mem,hf⟩)) g⟩,?_⟩
     · rintro k ⟨r,hr,hf⟩
       exact r.inb w (h1 r (List.mem_append_left _ hr)).1 k hf
     · rintro k ⟨r,hr,hf⟩
       exact (h1 r (List.mem_append_left _ hr)).2 k hf
   · exact h1 r (List.mem_append_right _ hr)
 · refine List.pairwise_cons.2 ⟨?_,h4⟩
   rintro s hs k ⟨r,hr,hf⟩
   exact h5 r hr s hs k hf
end Go.Proofs.YtpmdhkjbhjgoaaaGreatD
namespace Go.Proofs.YtpmdhkjbhjgoaaaGreatL
set_option maxRecDepth 100000
open Go.Shelf Go.Proofs
def laysn189_ren:Go.Shelf.Ren:=⟨fun | 125=>223 | 128=>234 | 129=>235 | 189=>216 | 215=>241 | 216=>231 | 257=>222 | 294=>225 | 295=>226 | 296=>227 | 297=>228 | 298=>229 | 299=>230 | 300=>232 | 301=>233 | 328=>236 | 329=>237 | 330=>238 | 331=>239 | 332=>240 | 343=>242 | n=>n,fun | 0=>0 | 1=>1 | 2=>2 | 3=>3 | 4=>4 | 5=>5 | 6=>6 | 7=>7 | 8=>8 | 9=>9 | 10=>10 | 11=>11 | 12=>12 | 13=>13 | 14=>14 | 15=>15 | 16=>16 | 17=>17 | 18=>18 | 19=>19 | 20=>20 | 21=>21 | 28=>46 | 31=>190 | 34=>122 | 35=>224 | 37=>27 | 46=>125 | 47=>230 | 51=>240 | 52=>239 | 53=>131 | 54=>241 | 80=>251 | 81=>73 | 83=>99 | 89=>76 | 99=>82 | 111=>162 | 112=>236 | 114=>104 | 127=>260 | 131=>184 | 132=>185 | 134=>229 | 164=>265 | 166=>144 | 181=>231 | 182=>232 | 183=>233 | 184=>234 | 185=>235 | 186=>237 | 187=>238 | 218=>242 | 219=>243 | 220=>244 | 221=>245 | 222=>246 | 223=>247 | 228=>248 | 229=>249 | 230=>250 | 238=>252 | 239=>253 | 240=>254 | 241=>255 | 242=>256 | 243=>257 | 244=>258 | 245=>259 | 246=>261 | 247=>262 | 248=>263 | 249=>264 | n=>n,fun n=>n⟩
theorem laysn189_at:Go.Proofs.Lays.n189 Tryz.prog laysn189_ren:={
 mixed:=by kernel_rfl
 f125:=Tryz.func223.trans (congrArg some (by kernel_rfl))
 f128:=Tryz.func234.trans (congrArg some (by kernel_rfl))
 f129:=Tryz.func235.trans (congrArg some (by kernel_rfl))
 f189:=Tryz.func216.trans (congrArg some (by kernel_rfl))
 f215:=Tryz.func241.trans (congrArg some (by kernel_rfl))
 f216:=Tryz.func231.trans (congrArg some (by kernel_rfl))
 f257:=Tryz.func222.trans (congrArg some (by kernel_rfl))
 f294:=Tryz.func225.trans (congrArg some (by kernel_rfl))
 f295:=Tryz.func226.trans (congrArg some (by kernel_rfl))
 f296:=Tryz.func227.trans (congrArg some (by kernel_rfl))
 f297:=Tryz.func228.trans (congrArg some (by kernel_rfl))
 f298:=Tryz.func229.trans (congrArg some (by kernel_rfl))
 f299:=Tryz.func230.trans (congrArg some (by kernel_rfl))
 f300:=Tryz.func232.trans (congrArg some (by kernel_rfl))
 f301:=Tryz.func233.trans (congrArg some (by kernel_rfl))
 f328:=Tryz.func236.trans (congrArg some (by kernel_rfl))
 f329:=Tryz.func237.trans (congrArg some (by kernel_rfl))
 f330:=Tryz.func238.trans (congrArg some (by kernel_rfl))
 f331:=Tryz.func239.trans (congrArg some (by kernel_rfl))
 f332:=Tryz.func240.trans (congrArg some (by kernel_rfl))
 f343:=Tryz.func242.trans (congrArg some (by kernel_rfl))
 t0:=Tryz.underlying0
 a0:=Tryz.isAgg0
 z0:=Tryz.sizeOf0
 v0:=Tryz.zeroValue0
 t3:=Tryz.underlying3
 a3:=Tryz.isAgg3
 z3:=Tryz.sizeOf3
 v3:=Tryz.zeroValue3
 t4:=Tryz.underlying4
 a4:=Tryz.isAgg4
 z4:=Tryz.sizeOf4
 v4:=Tryz.zeroValue4
 t5:=Tryz.underlying5
 a5:=Tryz.isAgg5
 z5:=Tryz.sizeOf5
 v5:=Tryz.zeroValue5
 t9:=Tryz.underlying9
 a9:=Tryz.isAgg9
 z9:=Tryz.sizeOf9
 v9:=Tryz.zeroValue9
 t28:=Tryz.underlying46
 a28:=Tryz.isAgg46
 z28:=Tryz.sizeOf46
 v28:=Tryz.zeroValue46
 t46:=Tryz.underlying125
 a46:=Tryz.isAgg125
 z46:=Tryz.sizeOf125
 v46:=Tryz.zeroValue125
 t51:=Tryz.underlying240
 a51:=Tryz.isAgg240
 z51:=Tryz.sizeOf240
 v51:=Tryz.zeroValue240
 t53:=Tryz.underlying131
 a53:=Tryz.isAgg131
 z53:=Tryz.sizeOf131
 v53:=Tryz.zeroValue131
 t131:=Tryz.underlying184
 a131:=Tryz.isAgg184
 z131:=Tryz.sizeOf184
 v131:=Tryz.zeroValue184
 t182:=Tryz.underlying232
 a182:=Tryz.isAgg232
 z182:=Tryz.sizeOf232
 v182:=Tryz.zeroValue232
 t183:=Tryz.underlying233
 a183:=Tryz.isAgg233
 z183:=Tryz.sizeOf233
 v183:=Tryz.zeroValue233
 t218:=Tryz.underlying242
 a218:=Tryz.isAgg242
 z218:=Tryz.sizeOf242
 v218:=Tryz.zeroValue242
 t222:=Tryz.underlying246
 a222:=Tryz.isAgg246
 z222:=Tryz.sizeOf246
 v222:=Tryz.zeroValue246
 t228:=Tryz.underlying248
 a228:=Tryz.isAgg248
 z228:=Tryz.sizeOf248
 v228:=Tryz.zeroValue248
 t229:=Tryz.underlying249
 a229:=Tryz.isAgg249
 z229:=Tryz.sizeOf249
 v229:=Tryz.zeroValue249 }
def lays2n20_ren:Go.Shelf.Ren:=⟨fun | 20=>217 | n=>n,fun | 0=>0 | 1=>1 | 2=>2 | 3=>3 | 4=>4 | 5=>5 | 6=>6 | 7=>7 | 8=>8 | 9=>9 | 10=>10 | 11=>11 | 12=>12 | 13=>13 | 14=>14 | 15=>15 | 16=>16 | 17=>17 | 18=>18 | 19=>19 | 20=>20 | 21=>21 | 22=>46 | 23=>225 | 24=>190 | 33=>184 | 36=>122 | 40=>125 | 41=>236 | 42=>162 | 45=>224 | 46=>251 | 47=>252 | 48=>253 | 49=>254 | 50=>255 | 51=>256 | 52=>73 | 53=>240 | 54=>257 | 55=>258 | 56=>259 | 57=>260 | 58=>261 | 59=>262 | 60=>263 | 61=>264 | 62=>265 | n=>n,fun n=>n⟩
theorem lays2n20_at:Go.Proofs.Lays2.n20 Tryz.prog lays2n20_ren:={
 mixed:=by kernel_rfl
 f20:=Tryz.func217.trans (congrArg some (by kernel_rfl))
 t0:=Tryz.underlying0
 a0:=Tryz.isAgg0
 z0:=Tryz.sizeOf0
 v0:=Tryz.zeroValue0
 t3:=Tryz.underlying3
 a3:=Tryz.isAgg3
 z3:=Tryz.sizeOf3
 v3:=Tryz.zeroValue3
 t4:=Tryz.underlying4
 a4:=Tryz.isAgg4
 z4:=Tryz.sizeOf4
 v4:=Tryz.zeroValue4
 t22:=Tryz.underlying46
 a22:=Tryz.isAgg46
 z22:=Tryz.sizeOf46
 v22:=Tryz.zeroValue46
 i3:=by kernel_rfl }
end Go.Proofs.YtpmdhkjbhjgoaaaGreatL
namespace Go.Proofs.YtpmdhkjbhjgoaaaGreatV
set_option maxRecDepth 100000
set_option maxHeartbeats 4000000
open Go.RowKit Go.Proofs.YtpmdhkjbhjgoaaaGreatK Go.Proofs.YtpmdhkjbhjgoaaaGreatT Go.Proofs.YtpmdhkjbhjgoaaaGreatL

def isC (c:Int):Bool:=decide (0≤c) && decide (c<8)
def parF (c:Int):Int:=if isC c then c / 2 else 0
def ansF (c:Int):Bool:=isC c && decide (c % 2=1)
def latF (c:Int):Bool:=isC c && !ansF c && decide (parF c≤1)
theorem isC_iff {c:Int} : isC c=true↔0≤c∧c<8:=by simp [isC]
theorem parF_in (c:Int):0≤parF c∧parF c≤3:=by
 unfold parF
 split
 · next h=>have:=isC_iff.1 h;omega
 · omega
theorem sig_Is {B:Base}{w:World}(hS:St B [] w) (c:Int) :
 CW 120 #[.int .i64 c] w (Ret B (fun _:Unit=>True) (fun _=>.bool (isC c)) (fun _=>[])):=by
 refine ZX Tryz.func120 hS ?_
 refine Zh (Zi (Zp J (Zn (Za (Zh (Zi (Zo J (Z2 J J (Zo J (ZS (ZT 5) (fun h5=>?_) (fun h5=>?_)))))))))))
 refine Zq J J (Zo J (Zq J J (Zx J J (Zt J J (Zzh ?_)))))
 exact ⟨(),trivial,by simp_all [resVal,isC] <;> omega,Lh⟩
 refine Zr J J J J (Zr J J J J (Zu J J (Zzh ?_)))
 exact ⟨(),trivial,by simp_all [resVal,isC] <;> omega,Lh⟩
theorem sig_Params {B:Base}{w:World}(hS:St B [] w) (c:Int) :
 CW 178 #[.int .i64 c] w (Ret B (fun _:Unit=>True) (fun _=>.int .i64 (parF c)) (fun _=>[])):=by
 refine ZX Tryz.func178 hS ?_
 refine Zh (Zi (Zp J (Zn (Za (Zh (Zzi ?_))))))
 (refine ZC0 rfl ZK (fun w hS=>frame hS ZQ (fun B' hB hS'=>sig_Is hS' c)) ?_;rintro ⟨⟩ -)
 refine Zno ?_
 refine Zn (Za (wC (fun h5=>?_) (fun h5=>?_)))
 refine Zh (Zi (Zzb ?_))
 exact ⟨(),trivial,by simp_all [resVal,parF],Lh⟩
 refine Zj (Za (Zh (Zi (Zo J (oShr1 J J (Zzh ?_))))))
 exact ⟨(),trivial,by simp_all [resVal,parF],Lh⟩
theorem sig_Answers {B:Base}{w:World}(hS:St B [] w) (c:Int) :
 CW 184 #[.int .i64 c] w (Ret B (fun _:Unit=>True) (fun _=>.bool (ansF c)) (fun _=>[])):=by
 refine ZX Tryz.func184 hS ?_
 refine Zh (Zi (Zp J (Zn (Za (Zzi ?_)))))
 (refine ZC0 rfl ZK (fun w hS=>frame hS ZQ (fun B' hB hS'=>sig_Is hS' c)) ?_;rintro ⟨⟩ -)
 refine Zo J (ZS (ZT 5) (fun h5=>?_) (fun h5=>?_))
 refine Zq J J (Zo J (Zq J J (oAnd1 J J (Zq J J (Zy J J (Zt J J (Zzh ?_)))))))
 exact ⟨(),trivial,by simp_all [resVal,ansF],Lh⟩
 refine Zr J J J J (Zr J J J J (Zr J J J J (Zu J J (Zzh ?_))))
 exact ⟨(),trivial,by simp_all [resVal,ansF],Lh⟩
theorem sig_Later {B:Base}{w:World}(hS:St B [] w) (c:Int) :
 CW 158 #[.int .i64 c] w (Ret B (fun _:Unit=>True) (fun _=>.bool (latF c)) (fun _=>[])):=by
 refine ZX Tryz.func158 hS ?_
 refine Zh (Zi (Zp J (Zn (Za (Zzi ?_)))))
 (refine ZC0 rfl ZK (fun w hS=>frame hS ZQ (fun B' hB hS'=>sig_Is hS' c)) ?_;rintro ⟨⟩ -)
 refine Zo J (ZS (ZT 5) (fun h5=>?_) (fun h5=>?_))
 refine Zq J J (Zo J (Zq J J ?_))
 (refine ZC0 rfl ZK (fun w hS=>frame hS ZQ (fun B' hB hS'=>sig_Answers hS' c)) ?_;rintro ⟨⟩ -)
 refine Zq J J (Zno ?_)
 refine Zt J J (Zo J (ZS (ZT 10) (fun h10=>?_) (fun h10=>?_)))
 refine Zq J J (Zo J (Zq J J ?_))
 (refine ZC0 rfl ZK (fun w hS=>frame hS ZQ (fun B' hB hS'=>sig_Params hS' c)) ?_;rintro ⟨⟩ -)
 refine Zq J J (oLeq J J (Zt J J (Zzh ?_)))
 exact ⟨(),trivial,by simp_all [resVal,latF],Lh⟩
 refine Zr J J J J (Zr J J J J (Zr J J J J (Zu J J (Zzh ?_))))
 exact ⟨(),trivial,by simp_all [resVal,latF],Lh⟩
 refine Zr J J J J (Zr J J J J (Zr J J J J (Zu J J (Zo J (Zzo ?_)))))
 exact ⟨(),trivial,by simp_all [resVal,latF],Lh⟩
theorem sig_Class {B:Base}{w:World}(hS:St B [] w) (k:Int) :
 CW 147 #[.int .i64 k] w (Ret B (fun _:Unit=>True) (fun _=>.tuple #[.int .i64 (if isC (IntKind.i64.wrap (k-1)) then IntKind.i64.wrap (k-1) else 0),.bool (isC (IntKind.i64.wrap (k-1)))]) (fun _=>[])):=by
 generalize hz:IntKind.i64.wrap (k-1)=z
 refine ZX Tryz.func147 hS ?_
 refine Zh (Zi (Zp J (Zp J (Zn (Za (Zh (Zh (Zi (Zo J (oSubW J J ?_))))))))))
 rw [hz]
 (refine ZC0 rfl ZK (fun w hS=>frame hS ZQ (fun B' hB hS'=>sig_Is hS' z)) ?_;rintro ⟨⟩ -)
 refine Zno ?_
 refine Zn (Za (wC (fun h7=>?_) (fun h7=>?_)))
 refine Zh (Zi (Zp J (Zp J (Zn (Za (Zl (Zc (Zw ?_))))))))
 refine ⟨rfl,_,(ResL.cons (ResR.tmp rfl) (ResL.cons (ResR.tmp rfl) ResL.nil)),?_⟩
 exact ⟨(),trivial,by simp_all [resVal],Lh⟩
 refine Zj (Za (Zh (Zi (Zo J (oSubW J J ?_)))))
 rw [hz]
 refine Zp J (Zp J (Zn (Za (Zl (Zw ?_)))))
 refine ⟨rfl,_,(ResL.cons (ResR.tmp rfl) (ResL.cons (ResR.tmp rfl) ResL.nil)),?_⟩
 exact ⟨(),trivial,by simp_all [resVal],Lh⟩
def textsL:List ByteArray:=[⟨#[110]⟩,⟨#[102,48]⟩,⟨#[102,48,114]⟩,⟨#[102,49]⟩,⟨#[102,49,114]⟩,⟨#[102,50]⟩,⟨#[102,50,114]⟩,⟨#[102,51]⟩,⟨#[102,51,114]⟩]
def textF (k:Int):ByteArray:=if 0≤k∧k<9 then textsL.getD k.toNat ByteArray.empty else ByteArray.empty
theorem textF_no {k:Int} : textF k=ByteArray.empty↔¬ (0≤k∧k<9):=by
 unfold textF
 by_cases h:0≤k∧k<9
 · rw [if_pos h]
   obtain ⟨n,rfl⟩:=Int.eq_ofNat_of_zero_le h.1
   have:∀ n,n<9→textsL.getD n ByteArray.empty≠ByteArray.empty:=by decide
   rw [Int.toNat_natCast]
   constructor
   · intro e;exact absurd e (this n ZO)
   · intro e;exact absurd h e
 · rw [if_neg h];simp [h]
theorem strs_at {L:List ByteArray}{k n:Nat}(hn:L.length=n) (h:k<n):(L.map Value.string)[k]?=some (.string (L.getD k ByteArray.empty)):=by
 subst hn
 rw [List.getElem?_map,List.getD_eq_getElem?_getD,List.getElem?_eq_getElem h];rfl
theorem sig_texts {B:Base}{w:World}(hS:St B [] w) (W0:World) :
 CW 145 #[] w (Ret B (fun _:Nat=>True) (fun b=>.slice (some ⟨b,0,none⟩) 9 9) (fun b=>[row Kd.string W0 9 (.slice (some ⟨b,0,none⟩) 9 9) textsL])):=by
 refine ZX Tryz.func145 hS ?_
 refine Zh (Zi (Zp J (Zn (Za (Zh (Zi ?_))))))
 refine oBuildSliceF (Parts.cons J (Parts.cons J (Parts.cons J (Parts.cons J (Parts.cons J (Parts.cons J (Parts.cons J (Parts.cons J (Parts.cons J Parts.nil))))))))) J J J J J (Fulls.cons ZP J (Fulls.cons ZP J (Fulls.cons ZP J (Fulls.cons ZP J (Fulls.cons ZP J (Fulls.cons ZP J (Fulls.cons ZP J (Fulls.cons ZP J (Fulls.cons ZP J Fulls.nil ap) ap) ap) ap) ap) ap) ap) ap) ap) (fun b1=>?_)
 refine Zp J (Zza ?_)
 exact ⟨b1,trivial,rfl,Leads.trans (blk_row (enc:=Value.string) (h1:=fun _=>rfl) (W:=W0) (xs:=textsL) ZP rfl rfl (by decide)) Lh⟩
theorem sig_Text {B:Base}{w:World}(hS:St B [] w) (k:Int) :
 CW 121 #[.int .i64 k] w (Ret B (fun _:Unit=>True) (fun _=>.string (textF k)) (fun _=>[])):=by
 refine ZX Tryz.func121 hS ?_
 refine Zh (Zi (Zp J (Zn (Za (Zh (Zi ?_))))))
 (refine ZC0 rfl ZK (fun w hS=>frame hS ZQ (fun B' hB hS'=>sig_texts hS' B.e)) ?_;rintro b4 -)
 refine Zp J (Zn (Za (Zh (Zh (Zi (Zo J (Zx J J (Zo J (ZS (ZT 7) (fun h7=>?_) (fun h7=>?_))))))))))
 refine Zr J J J J (Zr J J J J (Zr J J J J (Zr J J J J (Zt J J (Zn (Za (wCondT J (Zh (Zi (Zzb ?_))))))))))
 exact ⟨(),trivial,by unfold textF;rw [if_neg ZO];rfl,Lh⟩
 refine Zq J J (Zo J (Zq J J (Zo J (Zq J J (Zv J J (Zq J J (Z2 J J (Zu J J (Zn (Za (wC (fun h12=>?_) (fun h12=>?_))))))))))))
 refine Zh (Zi (Zzb ?_))
 exact ⟨(),trivial,by unfold textF;rw [if_neg ZO];rfl,Lh⟩
 obtain ⟨n,rfl⟩:=Int.eq_ofNat_of_zero_le (show 0≤k by omega)
 have hn9:n<9:=by omega
 refine Zj (Zzn ?_)
 refine ZR J J ZP (by first | exact hn9 | (show n<9;omega)) J J (fun g15 hg15=>?_)
 first | subst hg15 | (injection hg15 with hg15;injection hg15 with hg15;subst hg15)
 refine ZR1 J ZP (by first | exact hn9 | (show n<9;omega)) J (fun u16 hu16=>?_)
 obtain rfl:u16=textsL.getD n ByteArray.empty:=by rw [List.getD_eq_getElem?_getD,hu16];rfl
 refine Zp J (Zza ?_)
 exact ⟨(),trivial,by unfold textF;rw [if_pos ZO,Int.toNat_natCast];rfl,Lh⟩
def ownF (o:Int):Bool:=decide (1≤o) && decide (o≤24)
theorem ownF_iff {o:Int} : ownF o=true↔1≤o∧o≤24:=by simp [ownF]
def needF (o:Int):Int:=if o=19 then 1 else if o=17 then 2 else if o=15∨o=16 then 3 else if o=18 then 4 else if o=21 then 5 else 0
def endsF (o:Int):Bool:=decide (o=11∨o=22∨o=24)
def shapesL:List ByteArray:=[⟨#[45,45,45,45]⟩,⟨#[119,45,45,110]⟩,⟨#[119,114,45,45]⟩,⟨#[119,114,114,45]⟩,⟨#[119,114,114,45]⟩,⟨#[119,114,114,45]⟩,⟨#[119,114,114,45]⟩,⟨#[119,114,114,45]⟩,⟨#[119,114,114,45]⟩,⟨#[119,114,114,45]⟩,⟨#[45,45,45,116]⟩,⟨#[114,45,45,116]⟩,⟨#[119,45,45,45]⟩,⟨#[114,45,45,45]⟩,⟨#[119,114,45,45]⟩,⟨#[114,114,45,45]⟩,⟨#[103,45,45,45]⟩,⟨#[103,114,45,45]⟩,⟨#[99,45,45,45]⟩,⟨#[99,102,107,45]⟩,⟨#[100,45,45,45]⟩,⟨#[114,45,45,45]⟩,⟨#[119,119,45,45]⟩,⟨#[118,45,45,45]⟩]
def namesL:List ByteArray:=[⟨#[110,111,112]⟩,⟨#[115,101,116]⟩,⟨#[109,111,118,101]⟩,⟨#[97,100,100]⟩,⟨#[115,117,98]⟩,⟨#[109,117,108]⟩,⟨#[100,105,118]⟩,⟨#[109,111,100]⟩,⟨#[108,101,115,115]⟩,⟨#[115,97,109,101]⟩,⟨#[106,117,109,112]⟩,⟨#[122,101,114,111]⟩,⟨#[105,110]⟩,⟨#[111,117,116]⟩,⟨#[108,111,97,100]⟩,⟨#[115,116,111,114,101]⟩,⟨#[102,117,110,99]⟩,⟨#[112,105,99,107]⟩,⟨#[99,97,108,108]⟩,⟨#[118,105,97]⟩,⟨#[100,101,102,101,114]⟩,⟨#[112,97,110,105,99]⟩,⟨#[114,101,99,111,118,101,114]⟩,⟨#[114,101,116,117,114,110]⟩,⟨#[99,104,101,99,107]⟩,⟨#[101,110,116,101,114]⟩,⟨#[98,111,116,116,111,109]⟩,⟨#[100,114,105,118,101,114]⟩]
def shapeF (o:Int):ByteArray:=if ownF o then shapesL.getD (o-1).toNat ByteArray.empty else ByteArray.empty
def nameF (o:Int):ByteArray:=if 1≤o∧o≤28 then namesL.getD (o-1).toNat ByteArray.empty else ByteArray.empty
theorem nameF_no {o:Int} : nameF o=ByteArray.empty↔¬ (1≤o∧o≤28):=by
 unfold nameF
 by_cases h:1≤o∧o≤28
 · rw [if_pos h]
   obtain ⟨n,hn⟩:=Int.eq_ofNat_of_zero_le (show 0≤o-1 by omega)
   have:∀ n,n<28→namesL.getD n ByteArray.empty≠ByteArray.empty:=by decide
   rw [hn,Int.toNat_natCast]
   constructor
   · intro e;exact absurd e (this n ZO)
   · intro e;exact absurd h e
 · rw [if_neg h];simp [h]
theorem shapeF_size (o:Int):(shapeF o).size=if ownF o then 4 else 0:=by
 unfold shapeF
 by_cases h:ownF o=true
 · rw [if_pos h,if_pos h]
   have h2:=ownF_iff.1 h
   have:∀ n,n<24→(shapesL.getD n ByteArray.empty).size=4:=by decide
   exact this _ ZO
 · rw [if_neg h,if_neg h];rfl
theorem shapeF_asc (o:Int):Asc (shapeF o):=by
 intro i hi
 have hs:=shapeF_size o
 unfold shapeF at *
 by_cases h:ownF o=true
 · rw [if_pos h] at *
   rw [hs,if_pos h] at hi
   have h2:=ownF_iff.1 h
   have:∀ n,n<24→∀ i,i<4→byteAt (shapesL.getD n ByteArray.empty) i<128:=by decide
   exact this _ ZO i hi
 · rw [if_neg h] at *
   exact absurd hi (Nat.not_lt_zero _)
theorem op_Own {B:Base}{w:World}(hS:St B [] w) (o:Int) :
 CW 164 #[.int .i64 o] w (Ret B (fun _:Unit=>True) (fun _=>.bool (ownF o)) (fun _=>[])):=by
 refine ZX Tryz.func164 hS ?_
 refine Zh (Zi (Zp J (Zn (Za (Zh (Zi (Zo J (Z2 J J (Zo J (ZS (ZT 5) (fun h5=>?_) (fun h5=>?_)))))))))))
 refine Zq J J (Zo J (Zq J J (oLeq J J (Zt J J (Zzh ?_)))))
 exact ⟨(),trivial,by simp_all [resVal,ownF] <;> omega,Lh⟩
 refine Zr J J J J (Zr J J J J (Zu J J (Zzh ?_)))
 exact ⟨(),trivial,by simp_all [resVal,ownF] <;> omega,Lh⟩
theorem op_Need {B:Base}{w:World}(hS:St B [] w) (o:Int) :
 CW 181 #[.int .i64 o] w (Ret B (fun _:Unit=>True) (fun _=>.int .i64 (needF o)) (fun _=>[])):=by
 refine ZX Tryz.func181 hS ?_
 refine Zh (Zi (Zp J (Zn (Za (Zh (Zh (Zi (Zo J (Zn (Za (Zk (Zh (Zi (Zy J J (Zp J (Zn (Za (wC (fun h4=>?_) (fun h4=>?_)))))))))))))))))))
 refine Zh (Zi (Zzd ?_))
 exact ⟨(),trivial,by simp_all [resVal,needF],Lh⟩
 refine Zh (Zi (Zy J J (Zp J (Zn (Za (wC (fun h6=>?_) (fun h6=>?_)))))))
 refine Zh (Zi (Zzd ?_))
 exact ⟨(),trivial,by simp_all [resVal,needF],Lh⟩
 refine Zh (Zh (Zi (Zy J J (Zp J (Zn (Za (wC (fun h8=>?_) (fun h8=>?_))))))))
 refine Zj (Za (ZY h8 ?_))
 refine Zh (Zi (Zzd ?_))
 exact ⟨(),trivial,by simp_all [resVal,needF],Lh⟩
 refine Zi (Zy J J (Zp J (Zn (Za (wC (fun h8=>?_) (fun h8=>?_))))))
 refine Zh (Zi (Zzd ?_))
 exact ⟨(),trivial,by simp_all [resVal,needF],Lh⟩
 refine Zh (Zi (Zy J J (Zp J (Zn (Za (wC (fun h11=>?_) (fun h11=>?_)))))))
 refine Zh (Zi (Zzd ?_))
 exact ⟨(),trivial,by simp_all [resVal,needF],Lh⟩
 refine Zh (Zi (Zy J J (Zp J (Zn (Za (wC (fun h13=>?_) (fun h13=>?_)))))))
 refine Zh (Zi (Zzd ?_))
 exact ⟨(),trivial,by simp_all [resVal,needF],Lh⟩
 refine Zj (Zd (Za (Zh (Zi (Zzh ?_)))))
 exact ⟨(),trivial,by simp_all [resVal,needF],Lh⟩
theorem op_Ends {B:Base}{w:World}(hS:St B [] w) (o:Int) :
 CW 215 #[.int .i64 o] w (Ret B (fun _:Unit=>True) (fun _=>.bool (endsF o)) (fun _=>[])):=by
 refine ZX Tryz.func215 hS ?_
 refine Zh (Zi (Zp J (Zn (Za (Zh (Zi (Zo J (Zy J J (Zo J (ZS (ZT 5) (fun h5=>?_) (fun h5=>?_)))))))))))
 refine Zr J J J J (Zr J J J J (Zt J J (Zo J (Zr J J J J (Zr J J J J (Zt J J (Zzh ?_)))))))
 exact ⟨(),trivial,by simp_all [resVal,endsF],Lh⟩
 refine Zq J J (Zo J (Zq J J (Zy J J (Zu J J (Zo J (ZS (ZT 9) (fun h9=>?_) (fun h9=>?_)))))))
 refine Zr J J J J (Zr J J J J (Zt J J (Zzh ?_)))
 exact ⟨(),trivial,by simp_all [resVal,endsF],Lh⟩
 refine Zq J J (Zo J (Zq J J (Zy J J (Zu J J (Zzh ?_)))))
 exact ⟨(),trivial,by simp_all [resVal,endsF],Lh⟩
theorem op_shapes {B:Base}{w:World}(hS:St B [] w) :
 CW 165 #[] w (Ret B (fun _:Unit=>True) (fun _=>.agg (shapesL.map Value.string).toArray) (fun _=>[])):=by
 refine ZX Tryz.func165 hS ?_
 refine Zh (Zi (oAlloc J ZP (fun b0=>?_)))
 refine Zn (Za (Zh (Zi (oBuildArr (Parts.cons J (Parts.cons J (Parts.cons J (Parts.cons J (Parts.cons J (Parts.cons J (Parts.cons J (Parts.cons J (Parts.cons J (Parts.cons J (Parts.cons J (Parts.cons J (Parts.cons J (Parts.cons J (Parts.cons J (Parts.cons J (Parts.cons J (Parts.cons J (Parts.cons J (Parts.cons J (Parts.cons J (Parts.cons J (Parts.cons J (Parts.cons J Parts.nil)))))))))))))))))))))))) J J (Built.cons (off:=0) (s:=1) J ZP J ZP (Built.cons (off:=1) (s:=1) J ZP J ZP (Built.cons (off:=2) (s:=1) J ZP J ZP (Built.cons (off:=3) (s:=1) J ZP J ZP (Built.cons (off:=4) (s:=1) J ZP J ZP (Built.cons (off:=5) (s:=1) J ZP J ZP (Built.cons (off:=6) (s:=1) J ZP J ZP (Built.cons (off:=7) (s:=1) J ZP J ZP (Built.cons (off:=8) (s:=1) J ZP J ZP (Built.cons (off:=9) (s:=1) J ZP J ZP (Built.cons (off:=10) (s:=1) J ZP J ZP (Built.cons (off:=11) (s:=1) J ZP J ZP (Built.cons (off:=12) (s:=1) J ZP J ZP (Built.cons (off:=13) (s:=1) J ZP J ZP (Built.cons (off:=14) (s:=1) J ZP J ZP (Built.cons (off:=15) (s:=1) J ZP J ZP (Built.cons (off:=16) (s:=1) J ZP J ZP (Built.cons (off:=17) (s:=1) J ZP J ZP (Built.cons (off:=18) (s:=1) J ZP J ZP (Built.cons (off:=19) (s:=1) J ZP J ZP (Built.cons (off:=20) (s:=1) J ZP J ZP (Built.cons (off:=21) (s:=1) J ZP J ZP (Built.cons (off:=22) (s:=1) J ZP J ZP (Built.cons (off:=23) (s:=1) J ZP J ZP Built.nil)))))))))))))))))))))))) ?_))))
 refine Zsa ?_
 refine Zn (Za (Zl (Zw (ZI ?_))))
 exact ⟨(),trivial,rfl,Lh⟩
theorem op_names {B:Base}{w:World}(hS:St B [] w) :
 CW 163 #[] w (Ret B (fun _:Unit=>True) (fun _=>.agg (namesL.map Value.string).toArray) (fun _=>[])):=by
 refine ZX Tryz.func163 hS ?_
 refine Zh (Zi (oAlloc J ZP (fun b0=>?_)))
 refine Zn (Za (Zh (Zi (oBuildArr (Parts.cons J (Parts.cons J (Parts.cons J (Parts.cons J (Parts.cons J (Parts.cons J (Parts.cons J (Parts.cons J (Parts.cons J (Parts.cons J (Parts.cons J (Parts.cons J (Parts.cons J (Parts.cons J (Parts.cons J (Parts.cons J (Parts.cons J (Parts.cons J (Parts.cons J (Parts.cons J (Parts.cons J (Parts.cons J (Parts.cons J (Parts.cons J (Parts.cons J (Parts.cons J (Parts.cons J (Parts.cons J Parts.nil)))))))))))))))))))))))))))) J J (Built.cons (off:=0) (s:=1) J ZP J ZP (Built.cons (off:=1) (s:=1) J ZP J ZP (Built.cons (off:=2) (s:=1) J ZP J ZP (Built.cons (off:=3) (s:=1) J ZP J ZP (Built.cons (off:=4) (s:=1) J ZP J ZP (Built.cons (off:=5) (s:=1) J ZP J ZP (Built.cons (off:=6) (s:=1) J ZP J ZP (Built.cons (off:=7) (s:=1) J ZP J ZP (Built.cons (off:=8) (s:=1) J ZP J ZP (Built.cons (off:=9) (s:=1) J ZP J ZP (Built.cons (off:=10) (s:=1) J ZP J ZP (Built.cons (off:=11) (s:=1) J ZP J ZP (Built.cons (off:=12) (s:=1) J ZP J ZP (Built.cons (off:=13) (s:=1) J ZP J ZP (Built.cons (off:=14) (s:=1) J ZP J ZP (Built.cons (off:=15) (s:=1) J ZP J ZP (Built.cons (off:=16) (s:=1) J ZP J ZP (Built.cons (off:=17) (s:=1) J ZP J ZP (Built.cons (off:=18) (s:=1) J ZP J ZP (Built.cons (off:=19) (s:=1) J ZP J ZP (Built.cons (off:=20) (s:=1) J ZP J ZP (Built.cons (off:=21) (s:=1) J ZP J ZP (Built.cons (off:=22) (s:=1) J ZP J ZP (Built.cons (off:=23) (s:=1) J ZP J ZP (Built.cons (off:=24) (s:=1) J ZP J ZP (Built.cons (off:=25) (s:=1) J ZP J ZP (Built.cons (off:=26) (s:=1) J ZP J ZP (Built.cons (off:=27) (s:=1) J ZP J ZP Built.nil)))))))))))))))))))))))))))) ?_))))
 refine Zsa ?_
 refine Zn (Za (Zl (Zw (ZI ?_))))
 exact ⟨(),trivial,rfl,Lh⟩
theorem op_Shape {B:Base}{w:World}(hS:St B [] w) (o:Int) :
 CW 133 #[.int .i64 o] w (Ret B (fun _:Unit=>True) (fun _=>.string (shapeF o)) (fun _=>[])):=by
 refine ZX Tryz.func133 hS ?_
 refine Zh (Zi (Zp J (Zn (Za (Zh (Zzi ?_))))))
 (refine ZC0 rfl ZK (fun w hS=>frame hS ZQ (fun B' hB hS'=>op_Own hS' o)) ?_;rintro ⟨⟩ -)
 refine Zno ?_
 refine Zn (Za (wC (fun h5=>?_) (fun h5=>?_)))
 refine Zh (Zi (Zzb ?_))
 exact ⟨(),trivial,by unfold shapeF;rw [if_neg (by simpa using h5)];rfl,Lh⟩
 have ho:ownF o=true:=by simpa using h5
 have ho2:=ownF_iff.1 ho
 refine Zj (Za (Zh (Zi ?_)))
 (refine ZC0 rfl ZK (fun w hS=>frame hS ZQ (fun B' hB hS'=>op_shapes hS')) ?_;rintro ⟨⟩ -)
 refine Zo J ?_
 first | refine oSub rfl rfl ZO ?_ | refine oSubW rfl rfl ?_
 refine oIndexArr (i:=(o-1).toNat) J J ZO J J ZO (strs_at J (by show _<24;omega)) ?_
 refine Zp J (Zza ?_)
 exact ⟨(),trivial,by unfold shapeF;rw [if_pos ho];rfl,Lh⟩
theorem op_Name {B:Base}{w:World}(hS:St B [] w) (o:Int) :
 CW 132 #[.int .i64 o] w (Ret B (fun _:Unit=>True) (fun _=>.string (nameF o)) (fun _=>[])):=by
 refine ZX Tryz.func132 hS ?_
 refine Zh (Zi (Zp J (Zn (Za (Zh (Zi ?_))))))
 (refine ZC0 rfl ZK (fun w hS=>frame hS ZQ (fun B' hB hS'=>op_names hS')) ?_;rintro ⟨⟩ -)
 refine oAlloc J ZP (fun b3=>?_)
 refine Zsa ?_
 refine Zn (Za (Zh (Zh (Zi (Zo J (Zx J J (Zo J (ZS (ZT 7) (fun h7=>?_) (fun h7=>?_)))))))))
 refine Zr J J J J (Zr J J J J (Zt J J (Zn (Za (wCondT J (Zh (Zi (Zzb ?_))))))))
 exact ⟨(),trivial,by unfold nameF;rw [if_neg ZO];rfl,Lh⟩
 refine Zq J J (Zo J (Zq J J (Z1 J J (Zu J J (Zn (Za (wC (fun h10=>?_) (fun h10=>?_))))))))
 refine Zh (Zi (Zzb ?_))
 exact ⟨(),trivial,by unfold nameF;rw [if_neg ZO];rfl,Lh⟩
 refine Zj (Za (Zzi ?_))
 first | refine oSub rfl rfl ZO ?_ | refine oSubW rfl rfl ?_
 refine oIdxA (s:=1) (i:=(o-1).toNat) (m:=(o-1).toNat) J J ZO J ZO ZO ?_
 refine oLd J ZP (strs_at J (by show _<28;omega)) J ?_
 refine Zp J (Zza ?_)
 exact ⟨(),trivial,by unfold nameF;rw [if_pos ZO];rfl,Lh⟩
theorem any_T {n j:Nat}{p:Nat→Bool}(hj:j<n) (h:p j=true):(List.range n).any p=true:=List.any_eq_true.2 ⟨j,List.mem_range.2 hj,h⟩
theorem any_F {n:Nat}{p:Nat→Bool}(h:∀ j,j<n→p j=false):(List.range n).any p=false:=List.any_eq_false.2 (fun j hj=>by rw [h j (List.mem_range.1 hj)];simp)
def fstE:List Int→Int
  | []=>0
  | e :: l=>if e≠0 then e else fstE l
theorem fstE_app {l l':List Int}(h:fstE l=0):fstE (l++l')=fstE l':=by
 induction l with
 | nil=>rfl
 | cons e l ih=>
  unfold fstE at h
  split at h
  · next k=>exact absurd h k
  · next k=>show (if e≠0 then e else fstE (l++l'))=_;rw [if_neg k];exact ih h
theorem fstE_stop {l:List Int}{i:Nat}{e:Int}(h:fstE (l.take i)=0) (hi:l[i]?=some e) (he:e≠0):fstE l=e:=by
 obtain ⟨hl,he0⟩:=List.getElem?_eq_some_iff.1 hi
 have h1:l=l.take i++(e :: l.drop (i+1)):=by rw [← he0,← List.drop_eq_getElem_cons hl,List.take_append_drop]
 have h2:fstE (l.take i++(e :: l.drop (i+1)))=e:=by
  rw [fstE_app h]
  show (if e≠0 then e else _)=_
  rw [if_pos he]
 rw [← h1] at h2
 exact h2
theorem fstE_next {l:List Int}{i:Nat}{e:Int}(h:fstE (l.take i)=0) (hi:l[i]?=some e) (he:e=0):fstE (l.take (i+1))=0:=by
 rw [List.take_add_one,hi,fstE_app h]
 subst he;rfl
theorem fstE_zero {l:List Int} : fstE l=0↔∀ e ∈ l,e=0:=by
  induction l with
  | nil=>simp [fstE]
  | cons e l ih=>
    unfold fstE
    split
    · next k => constructor
                · intro h;exact absurd h k
                · intro h;exact absurd (h e List.mem_cons_self) k
    · next k => rw [ih]; constructor
                · intro h x hx
                  rcases List.mem_cons.1 hx with rfl | hx
                  · omega
                  · exact h x hx
                · intro h x hx;exact h x (List.mem_cons_of_mem _ hx)
def numsL (x:ApiInstr):List Int:=[x.fOp,x.fA,x.fB,x.fC,x.fN]
theorem nums_at (x:ApiInstr) {k:Nat}(h:k<5):((numsL x).map (Value.int .i64))[k]?=some (.int .i64 ((numsL x).getD k 0)):=by
 rw [List.getElem?_map,List.getD_eq_getElem?_getD,List.getElem?_eq_getElem (show k<(numsL x).length from h)];rfl
def opdF (x:ApiInstr) (i:Int):Int:=if i<0∨3<i then 0 else (numsL x).getD (1+i.toNat) 0
def badA (x:ApiInstr) (j:Nat):Bool:=decide ((numsL x).getD (1+j) 0<0∨255<(numsL x).getD (1+j) 0)
def badS (x:ApiInstr) (j:Nat):Bool:=decide (byteAt (shapeF x.fOp) j=45) && decide ((numsL x).getD (1+j) 0≠0)
def icF (x:ApiInstr):Int:=if nameF x.fOp=ByteArray.empty then 8 else if (List.range 3).any (badA x) then 9 else if x.fN < -2147483648∨2147483647<x.fN then 9 else if (List.range (shapeF x.fOp).size).any (badS x) then 2 else 0
theorem instr_numbers {B:Base}{w:World}(hS:St B [] w) (x:ApiInstr) (xc:List Value) (hx:kApiInstr.K B.e x xc) :
 CW 119 #[.agg xc.toArray] w (Ret B (fun _:Unit=>True) (fun _=>.agg ((numsL x).map (Value.int .i64)).toArray) (fun _=>[])):=by
 obtain rfl:=kApiInstr_open hx
 refine ZX Tryz.func119 hS ?_
 refine Zh (Zi (oBox J ZP (fun b1=>?_)))
 refine oAlloc J ZP (fun b2=>?_)
 refine Zn (Za (Zh (Zi (Zz (n:=0) (m:=0) J J J (Zld ?_)))))
 refine Zz (n:=1) (m:=1) J J J (Zld ?_)
 refine Zz (n:=2) (m:=2) J J J (Zld ?_)
 refine Zz (n:=3) (m:=3) J J J (Zld ?_)
 refine Zz (n:=4) (m:=4) J J J (Zld ?_)
 refine oBuildArr (Parts.cons J (Parts.cons J (Parts.cons J (Parts.cons J (Parts.cons J Parts.nil))))) J J (Built.cons (off:=0) (s:=1) J ZP J ZP (Built.cons (off:=1) (s:=1) J ZP J ZP (Built.cons (off:=2) (s:=1) J ZP J ZP (Built.cons (off:=3) (s:=1) J ZP J ZP (Built.cons (off:=4) (s:=1) J ZP J ZP Built.nil))))) ?_
 refine Zsa ?_
 refine Zn (Za (Zl (Zw (ZI ?_))))
 exact ⟨(),trivial,rfl,Lh⟩
theorem instr_Operand {B:Base}{w:World}(hS:St B [] w) (x:ApiInstr) (xc:List Value) (hx:kApiInstr.K B.e x xc) (i:Int) :
 CW 187 #[.agg xc.toArray,.int .i64 i] w (Ret B (fun _:Unit=>True) (fun _=>.int .i64 (opdF x i)) (fun _=>[])):=by
 obtain rfl:=kApiInstr_open hx
 refine ZX Tryz.func187 hS ?_
 refine Zh (Zi (oBox J ZP (fun b2=>?_)))
 refine Zp J (Zn (Za (Zh (Zh (Zi (Zo J (Zx J J (Zo J (ZS (ZT 7) (fun h7=>?_) (fun h7=>?_))))))))))
 refine Zr J J J J (Zr J J J J (Zt J J (Zn (Za (wCondT J (Zh (Zi (Zzb ?_))))))))
 exact ⟨(),trivial,by unfold opdF;rw [if_pos ZO];rfl,Lh⟩
 refine Zq J J (Zo J (Zq J J (Z1 J J (Zu J J (Zn (Za (wC (fun h10=>?_) (fun h10=>?_))))))))
 refine Zh (Zi (Zzb ?_))
 exact ⟨(),trivial,by unfold opdF;rw [if_pos ZO];rfl,Lh⟩
 refine Zj (Zzk ?_)
 (refine ZC0 rfl ZK (fun w hS=>frame hS ZQ (fun B' hB hS'=>instr_numbers hS' x _ (kApiInstr_mk _ x))) ?_;rintro ⟨⟩ -)
 refine Zo J (oAdd J J ZO ?_)
 refine oIndexArr (i:=1+i.toNat) J J ZO J J ZO (nums_at x ZO) ?_
 refine Zp J (Zza ?_)
 exact ⟨(),trivial,by unfold opdF;rw [if_neg ZO];rfl,Lh⟩
theorem instr_Check {B:Base}{w:World}(hS:St B [] w) (x:ApiInstr) (xc:List Value) (hx:kApiInstr.K B.e x xc) :
 CW 106 #[.agg xc.toArray] w (Ret B (fun _:Unit=>True) (fun _=>.int .i64 (icF x)) (fun _=>[])):=by
 obtain rfl:=kApiInstr_open hx
 have hsz:=shapeF_size x.fOp
 refine ZX Tryz.func106 hS ?_
 refine Zh (Zi (oBox J ZP (fun b1=>?_)))
 refine Zp J (Zn (Za (Zh (Zh (Zi (Zz (n:=0) (m:=0) J J J (Zld ?_)))))))
 (refine ZC0 rfl ZK (fun w hS=>frame hS ZQ (fun B' hB hS'=>op_Name hS' x.fOp)) ?_;rintro ⟨⟩ -)
 refine oSEq J J (Zn (Za (wC (fun h11=>?_) (fun h11=>?_))))
 refine Zh (Zi (Zzb ?_))
 exact ⟨(),trivial,by unfold icF;rw [if_pos (show nameF x.fOp=ByteArray.empty from h11)];rfl,Lh⟩
 refine Zj (Zzk ?_)
 (refine ZC0 rfl ZK (fun w hS=>frame hS ZQ (fun B' hB hS'=>instr_numbers hS' x _ (kApiInstr_mk _ x))) ?_;rintro ⟨⟩ -)
 refine oAlloc J ZP (fun b3=>?_)
 refine Zsa ?_
 refine Zn (Za (Zh (Zh (Zi (oSliceArr (l:=1) (m:=4) J J J J (by decide) (by decide) ?_)))))
 refine ZS0 (t:=14) (v':=.slice (some ⟨b3,1,none⟩) 3 4) J J (Zv J J (Zo J (Zn (Za (Zk (wLoop (ι:=Nat) (fun i=>[(1,.pointer (some ⟨b1,0,none⟩)),(3,.pointer (some ⟨b3,0,none⟩)),(14,.slice (some ⟨b3,1,none⟩) 3 4),(15,.int .i64 ((3:Nat):Int)),(16,.int .i64 (i:Int))]) (fun i=>[blk b1 90 [.int .i64 x.fOp,.int .i64 x.fA,.int .i64 x.fB,.int .i64 x.fC,.int .i64 x.fN],blk b3 163 ((numsL x).map (Value.int .i64))]) (fun i=>i≤3∧∀ j,j<i→badA x j=false) (fun i=>3-i) 0 ?_ cv (Leads.has ZQ) ?_))))))
 exact ⟨Nat.zero_le _,fun j hj=>by omega⟩
 rintro i ⟨hi,hs⟩
 try dsimp only
 refine Zh (Zi (Zx J J (Zn (Za (Zh (wC (fun h17=>?_) (fun h17=>?_)))))))
 have hi3:i<3:=by omega
 refine Zj (Za (Zh (Zk (Zh (Zi (oIdxB (s:=1) (m:=1+i) J J J hi3 ZO ?_))))))
 refine oLd J ZP (nums_at x ZO) J ?_
 refine Zp J (Zn (Za (Zh (Zi (Zo J (Zx J J (Zo J (ZS (ZT 22) (fun h22=>?_) (fun h22=>?_)))))))))
 refine Zr J J J J (Zr J J J J (Zt J J (Zn (Za (wCondT J (Zh (Zi (Zzc ?_))))))))
 exact ⟨(),trivial,by unfold icF;rw [if_neg (show ¬ nameF x.fOp=ByteArray.empty from h11),if_pos (any_T hi3 (by unfold badA;exact decide_eq_true (.inl h22)))];rfl,Lh⟩
 refine Zq J J (Zo J (Zq J J (Z1 J J (Zu J J (Zn (Za (wC (fun h25=>?_) (fun h25=>?_))))))))
 refine Zh (Zi (Zzc ?_))
 exact ⟨(),trivial,by unfold icF;rw [if_neg (show ¬ nameF x.fOp=ByteArray.empty from h11),if_pos (any_T hi3 (by unfold badA;exact decide_eq_true (.inr h25)))];rfl,Lh⟩
 refine Zj (Zze ?_)
 refine Zo J (Zn (Za ?_))
 exact ⟨rfl,i+1,⟨by omega,fun j hj=>by
 by_cases e:j=i
 · subst e;unfold badA;exact decide_eq_false ZO
 · exact hs j ZO⟩,by omega,cv,Lh⟩
 obtain rfl:i=3:=by omega
 have hA:=any_F hs
 refine Zm (Zb (Zb (Ze (Za (Zh (Zh (Zi (Zz (n:=4) (m:=4) J J J (Zld ?_)))))))))
 refine Zx J J (Zo J (ZS (ZT 30) (fun h30=>?_) (fun h30=>?_)))
 refine Zr J J J J (Zr J J J J (Zr J J J J (Zt J J (Zn (Za (wCondT J (Zh (Zi (Zzb ?_)))))))))
 exact ⟨(),trivial,by unfold icF;rw [if_neg (show ¬ nameF x.fOp=ByteArray.empty from h11),if_neg (by rw [hA];simp),if_pos (.inl h30)];rfl,Lh⟩
 refine Zq J J (Zz (n:=4) (m:=4) J J J (Zzg ?_))
 refine Zq J J (Z1 J J (Zu J J (Zn (Za (wC (fun h34=>?_) (fun h34=>?_))))))
 refine Zh (Zi (Zzb ?_))
 exact ⟨(),trivial,by unfold icF;rw [if_neg (show ¬ nameF x.fOp=ByteArray.empty from h11),if_neg (by rw [hA];simp),if_pos (.inr h34)];rfl,Lh⟩
 refine Zj (Za (Zh (Zi (Zz (n:=0) (m:=0) J J J (Zld ?_)))))
 (refine ZC0 rfl ZK (fun w hS=>frame hS ZQ (fun B' hB hS'=>op_Shape hS' x.fOp)) ?_;rintro ⟨⟩ -)
 refine Zp J (Zn (Za (Zh (Zh (Zi (Zo J (oLenStr J J (Zo J (Zn (Za (Zk (wLoop (ι:=Nat) (fun i=>[(3,.pointer (some ⟨b3,0,none⟩)),(6,.string (shapeF x.fOp)),(39,.int .i64 ((shapeF x.fOp).size:Int)),(40,.int .i64 (i:Int))]) (fun i=>[blk b3 163 ((numsL x).map (Value.int .i64))]) (fun i=>i≤(shapeF x.fOp).size∧∀ j,j<i→badS x j=false) (fun i=>(shapeF x.fOp).size-i) 0 ?_ cv (Leads.has ZQ) ?_))))))))))))
 exact ⟨Nat.zero_le _,fun j hj=>by omega⟩
 rintro i ⟨hi,hs⟩
 try dsimp only
 refine Zh (Zi (Zx J J (Zn (Za (Zh (wC (fun h41=>?_) (fun h41=>?_)))))))
 have hi4:i<(shapeF x.fOp).size:=by omega
 have hi5:i<4:=by rw [hsz] at hi4;split at hi4 <;> omega
 refine Zj (Za (Zh (Zk (Zh (Zi (Zo J (Zp J (Zn (Za (Zh (Zi (Zo J (Zo J (oIndexStr J J J hi4 (Zy J J (Zo J (ZS (ZT 47) (fun h47=>?_) (fun h47=>?_))))))))))))))))))
 refine Zq J J (Zo J (Zq J J (oAdd J J ZO ?_)))
 refine Zq J J (oIdxA (s:=1) (i:=1+i) (m:=1+i) J J ZO J ZO ZO ?_)
 refine Zq J J (oLd J ZP (nums_at x ZO) J ?_)
 refine Zq J J (Z0 J J (Zt J J (Zn (Za (wC (fun h53=>?_) (fun h53=>?_))))))
 refine Zh (Zi (Zzc ?_))
 exact ⟨(),trivial,by unfold icF;rw [if_neg (show ¬ nameF x.fOp=ByteArray.empty from h11),if_neg (by rw [hA];simp),if_neg ZO,if_pos (any_T hi4 (by unfold badS;simp_all))];rfl,Lh⟩
 refine Zj (Zze ?_)
 refine Zo J (Zn (Za ?_))
 exact ⟨rfl,i+1,⟨by omega,fun j hj=>by
 by_cases e:j=i
 · subst e;unfold badS;simp_all
 · exact hs j ZO⟩,by omega,cv,Lh⟩
 refine Zr J J J J (Zr J J J J (Zr J J J J (Zr J J J J (Zr J J J J (Zu J J (Zn (Za (wCondF J (Zj (Zze ?_))))))))))
 refine Zo J (Zn (Za ?_))
 exact ⟨rfl,i+1,⟨by omega,fun j hj=>by
 by_cases e:j=i
 · subst e;unfold badS;simp_all
 · exact hs j ZO⟩,by omega,cv,Lh⟩
 refine Zm (Zzf ?_)
 obtain rfl:i=(shapeF x.fOp).size:=by omega
 exact ⟨(),trivial,by unfold icF;rw [if_neg (show ¬ nameF x.fOp=ByteArray.empty from h11),if_neg (by rw [hA];simp),if_neg ZO,if_neg (by rw [any_F hs];simp)];rfl,Lh⟩
def risF (n last:Int):List Int→Bool
  | []=>true
  | a :: l=>if a≤last∨n≤a then false else risF n a l
theorem fun_rising {B:Base}{w:World}(hS:St B [] w) (n:Int) (A:Option Addr) (cp:Nat) (l:List Int) (hC:(Kd.int .i64).C B.e A l) :
 CW 180 #[.int .i64 n,.slice A l.length cp] w (Ret B (fun _:Unit=>True) (fun _=>.bool (risF n (-1) l)) (fun _=>[])):=by
 have hl:=hC.1
 refine ZX Tryz.func180 hS ?_
 refine Zh (Zi (Zp J (Zn (Za (Zh (Zi (Zp J (Zn (Za (Zh (Zh (Zi (Zo J (Zv J J (Zo J (Zn (Za (Zk (wLoop (ι:=Nat×Int) (fun z=>[(0,.int .i64 n),(5,.int .i64 z.2),(8,.slice A l.length cp),(9,.int .i64 (l.length:Int)),(10,.int .i64 (z.1:Int))]) (fun z=>[]) (fun z=>z.1≤l.length∧risF n (-1) l=risF n z.2 (l.drop z.1)) (fun z=>l.length-z.1) (0,-1) ?_ cv (Leads.has ZQ) ?_)))))))))))))))))))
 exact ⟨Nat.zero_le _,rfl⟩
 rintro ⟨i,last⟩ ⟨hi,hr⟩
 dsimp only at hi hr
 try dsimp only
 refine Zh (Zi (Zx J J (Zn (Za (Zh (wC (fun h11=>?_) (fun h11=>?_)))))))
 refine Zj (Za (Zh (Zk (Zh (Zi (oIdx J J (hC) J ZO J J (fun e12 u12 cs12 hu12 hk12 hc12=>?_)))))))
 obtain rfl:=hk12
 refine Zlx hc12 ?_
 have hd:l.drop i=u12 :: l.drop (i+1):=by obtain ⟨hl2,rfl⟩:=List.getElem?_eq_some_iff.1 hu12;exact List.drop_eq_getElem_cons hl2
 refine Zp J (Zn (Za (Zh (Zh (Zi (Zo J (Zo J (oLeq J J (Zo J (ZS (ZT 17) (fun h17=>?_) (fun h17=>?_)))))))))))
 refine Zr J J J J (Zr J J J J (Zr J J J J (Zt J J (Zn (Za (wCondT J (Zh (Zi (Zp J (Zzj ?_))))))))))
 exact ⟨(),trivial,by rw [hr,hd];show _=Value.bool (if u12≤last∨n≤u12 then _ else _);rw [if_pos ZO];rfl,Lh⟩
 refine Zq J J (Zo J (Zq J J (Zo J (Zq J J (Z2 J J (Zu J J (Zn (Za (wC (fun h21=>?_) (fun h21=>?_))))))))))
 refine Zh (Zi (Zp J (Zzj ?_)))
 exact ⟨(),trivial,by rw [hr,hd];show _=Value.bool (if u12≤last∨n≤u12 then _ else _);rw [if_pos ZO];rfl,Lh⟩
 refine Zj (Za (Zi (Zo J (Zp J (Zn (Zze ?_))))))
 refine Zo J (Zn (Za ?_))
 exact ⟨rfl,(i+1,u12),⟨by show i+1≤_;omega,by rw [hr,hd];show (if u12≤last∨n≤u12 then _ else _)=_;rw [if_neg ZO]⟩,by show l.length-(i+1)<l.length-i;omega,cv,Lh⟩
 refine Zm (Zzf ?_)
 obtain rfl:i=l.length:=by omega
 exact ⟨(),trivial,by rw [hr,List.drop_length];rfl,Lh⟩
end Go.Proofs.YtpmdhkjbhjgoaaaGreatV
namespace Go.Proofs.YtpmdhkjbhjgoaaaGreatD
set_option maxRecDepth 100000
set_option maxHeartbeats 4000000
open Go.RowKit Go.Proofs.YtpmdhkjbhjgoaaaGreatK Go.Proofs.YtpmdhkjbhjgoaaaGreatT Go.Proofs.YtpmdhkjbhjgoaaaGreatV

def valU (l:List Int):Int:=l.foldl (fun n x=>n * 256+x) 0
theorem valU_snoc (l:List Int) (x:Int):valU (l++[x])=valU l * 256+x:=by unfold valU;rw [List.foldl_append];rfl
theorem wrap_step (a x:Int):IntKind.i64.wrap (IntKind.i64.wrap a * 256+x)=IntKind.i64.wrap (a * 256+x):=by
 rw [wrap64,wrap64,wrap64]
 have h:(if 9223372036854775808≤a % 18446744073709551616 then a % 18446744073709551616-18446744073709551616 else a % 18446744073709551616) % 18446744073709551616=a % 18446744073709551616:=by split <;> omega
 have e:((if 9223372036854775808≤a % 18446744073709551616 then a % 18446744073709551616-18446744073709551616 else a % 18446744073709551616) * 256+x) % 18446744073709551616=(a * 256+x) % 18446744073709551616:=by
  generalize (if 9223372036854775808≤a % 18446744073709551616 then a % 18446744073709551616-18446744073709551616 else a % 18446744073709551616)=b at h
  omega
 rw [e]
theorem wrapIU (a:Int):IntKind.i64.wrap (a % 18446744073709551616)=IntKind.i64.wrap a:=by
 rw [wrap64,wrap64,Int.emod_emod_of_dvd a (Int.dvd_refl _)]
theorem valU_from:∀ (l:List Int) (a:Int),l.foldl (fun n x=>n * 256+x) a=a * 256 ^ l.length+valU l
 | [],a=>by simp [valU]
 | x :: l,a=>by
  have h1:=valU_from l (a * 256+x)
  have h2:=valU_from l (0 * 256+x)
  have e:valU (x :: l)=l.foldl (fun n x=>n * 256+x) (0 * 256+x):=rfl
  show l.foldl (fun n x=>n * 256+x) (a * 256+x)=_
  rw [h1,e,h2,List.length_cons,Int.pow_succ,Int.add_mul,Int.mul_assoc,Int.mul_comm 256,Int.zero_mul,Int.zero_add]
  omega
theorem valU_cons (x:Int) (l:List Int):valU (x :: l)=x * 256 ^ l.length+valU l:=by
 have h2:=valU_from l (0 * 256+x)
 have e:valU (x :: l)=l.foldl (fun n x=>n * 256+x) (0 * 256+x):=rfl
 rw [e,h2,Int.zero_mul,Int.zero_add]
theorem valU_in:∀ {l:List Int},Byts l→0≤valU l∧valU l<256 ^ l.length
 | [],_=>by simp [valU]
 | x :: l,h=>by
  obtain ⟨h1,h2⟩:=valU_in (l:=l) (fun v hv=>h v (List.mem_cons_of_mem _ hv))
  obtain ⟨h3,h4⟩:=h x List.mem_cons_self
  rw [valU_cons,List.length_cons,Int.pow_succ]
  have h5:0≤x * 256 ^ l.length:=Int.mul_nonneg h3 (Int.le_trans h1 (Int.le_of_lt h2))
  have h6:x * 256 ^ l.length≤255 * 256 ^ l.length:=Int.mul_le_mul_of_nonneg_right ZO (Int.le_trans h1 (Int.le_of_lt h2))
  omega
def sgnV (l:List Int):Int:=if 2 * valU l<256 ^ l.length then valU l else valU l-256 ^ l.length
theorem small_wrap {n:Int}(h:0≤n) (k:n<9223372036854775808):IntKind.i64.wrap n=n:=wrap_in ⟨by omega,by omega⟩

abbrev Rs:=Nat×Bool
def rawN (l:List Int) (s:Rs) (w:Nat):Rs×Int:=if s.2=true∨l.length<s.1+w then ((s.1,true),0) else ((s.1+w,false),IntKind.i64.wrap (valU ((l.drop s.1).take w)))
def rawS (l:List Int) (s:Rs) (w:Nat):Rs×Int:=if s.2=true∨l.length<s.1+w then ((s.1,true),0) else ((s.1+w,false),sgnV ((l.drop s.1).take w))
def rawT (l:List Int) (s:Rs) (most:Nat):Rs×ByteArray:=
  if s.2=true∨l.length<s.1+1∨(most:Int)<l.getD s.1 0∨(l.length:Int)<s.1+1+l.getD s.1 0 then ((s.1,true),ByteArray.empty)
  else ((s.1+1+(l.getD s.1 0).toNat,false),bytesS ((l.drop (s.1+1)).take (l.getD s.1 0).toNat))
abbrev Pr (α:Type):=List Int→Except Int (α×List Int)
def bnd {α β:Type}(p:Pr α) (f:α→Pr β):Pr β:=fun r=>match p r with
  | .ok (a,r')=>f a r'
  | .error e=>.error e
theorem bnd_to {α β:Type}{p:List Int→Except Int (α×List Int)}{f:α→Pr β}{r r1:List Int}{a:α}(h:p r=.ok (a,r1)):bnd p f r=f a r1:=by unfold bnd;rw [h]
theorem bnd_err {α β:Type}{p:List Int→Except Int (α×List Int)}{f:α→Pr β}{r:List Int}{e:Int}(h:p r=.error e):bnd p f r=.error e:=by unfold bnd;rw [h]
theorem bnd_bnd {α β γ:Type}(p:Pr α) (f:α→Pr β) (g:β→Pr γ) (r:List Int):bnd (bnd p f) g r=bnd p (fun a=>bnd (f a) g) r:=by
 unfold bnd
 cases p r with
 | error e=>rfl
 | ok z=>rfl
def pur {α:Type}(a:α):Pr α:=fun r=>.ok (a,r)
def flr {α:Type}(e:Int):Pr α:=fun _=>.error e
theorem bnd_ite {α β:Type}{c:Prop} [Decidable c] (e:Int) (a:α) (f:α→Pr β) (r:List Int):bnd (if c then flr e else pur a) f r=if c then .error e else f a r:=by split <;> rfl
def numX (w:Nat):Pr Int:=fun r=>if r.length<w then .error 5 else .ok (IntKind.i64.wrap (valU (r.take w)),r.drop w)
def sgnX (w:Nat):Pr Int:=fun r=>if r.length<w then .error 5 else .ok (sgnV (r.take w),r.drop w)
def txtX (most:Nat):Pr ByteArray:=bnd (numX 1) fun n r=>if (most:Int)<n∨(r.length:Int)<n then .error 5 else .ok (bytesS (r.take n.toNat),r.drop n.toNat)
def flagX:Pr Bool:=bnd (numX 1) fun n=>if 1<n then flr 3 else pur (decide (n=1))
def repX {α:Type}(p:Pr α):Nat→Pr (List α)
  | 0=>pur []
  | n+1=>bnd p fun x=>bnd (repX p n) fun l=>pur (x :: l)
def listX {α:Type}(p:Pr α):Pr (List α):=bnd (numX 1) fun n=>repX p n.toNat
def symX:Pr ApiSymbol:=bnd (txtX 255) fun s=>bnd flagX fun lo=>bnd (numX 1) fun so=>bnd (numX 1) fun k=>bnd (sgnX 1) fun d=>pur ⟨s,lo,so,k,d⟩
def insX:Pr ApiInstr:=bnd (numX 1) fun o=>bnd (numX 1) fun a=>bnd (numX 1) fun b=>bnd (numX 1) fun c=>bnd (sgnX 4) fun n=>if icF ⟨o,a,b,c,n⟩≠0 then flr (icF ⟨o,a,b,c,n⟩) else pur ⟨o,a,b,c,n⟩
def linX:Pr ApiLine:=bnd (numX 1) fun a=>bnd (numX 2) fun n=>pur ⟨a,n⟩
def relX:Pr ApiReloc:=bnd (numX 1) fun a=>bnd (numX 1) fun s=>bnd flagX fun w=>pur ⟨a,s,w⟩
def funX:Pr ApiFunc:=bnd (numX 1) fun c=>bnd (listX (numX 1)) fun ks=>bnd (numX 2) fun p=>bnd flagX fun ns=>bnd (numX 1) fun fr=>bnd (numX 1) fun to=>bnd (listX linX) fun ls=>bnd (listX insX) fun cs=>bnd (listX relX) fun rs=>pur ⟨c,ks,p,ns,fr,to,ls,cs,rs⟩
def datX:Pr ApiData:=bnd (numX 1) fun k=>bnd (listX (numX 8)) fun ws=>bnd (listX relX) fun rs=>pur ⟨k,ws,rs⟩
def magicL:List Int:=[83,72,76,49]
def innX (l:List Int):Except Int ApiObject:=
  if l.length<4 then .error 5 else if l.take 4≠magicL then .error 3 else
  match (bnd (listX symX) fun ss=>bnd (listX funX) fun fs=>bnd (listX datX) fun ds=>pur (⟨ss,fs,ds⟩:ApiObject)) (l.drop 4) with
  | .ok (o,[])=>.ok o
  | .ok (_,_ :: _)=>.error 6
  | .error e=>.error e
theorem rawN_ok {l:List Int}{at_ w:Nat}(h:at_+w≤l.length):rawN l (at_,false) w=((at_+w,false),IntKind.i64.wrap (valU ((l.drop at_).take w))):=by
 unfold rawN;rw [if_neg (by simp;omega)]
theorem rawN_short {l:List Int}{at_ w:Nat}(h:l.length<at_+w):rawN l (at_,false) w=((at_,true),0):=by unfold rawN;rw [if_pos (.inr h)]
theorem rawN_bad {l:List Int}{at_ w:Nat} : rawN l (at_,true) w=((at_,true),0):=by unfold rawN;rw [if_pos (.inl rfl)]
theorem rawS_ok {l:List Int}{at_ w:Nat}(h:at_+w≤l.length):rawS l (at_,false) w=((at_+w,false),sgnV ((l.drop at_).take w)):=by
 unfold rawS;rw [if_neg (by simp;omega)]
theorem rawS_short {l:List Int}{at_ w:Nat}(h:l.length<at_+w):rawS l (at_,false) w=((at_,true),0):=by unfold rawS;rw [if_pos (.inr h)]
theorem rawS_bad {l:List Int}{at_ w:Nat} : rawS l (at_,true) w=((at_,true),0):=by unfold rawS;rw [if_pos (.inl rfl)]
theorem numX_ok {l:List Int}{at_ w:Nat}(h:at_+w≤l.length):numX w (l.drop at_)=.ok (IntKind.i64.wrap (valU ((l.drop at_).take w)),l.drop (at_+w)):=by
 unfold numX;rw [if_neg (by rw [List.length_drop];omega),List.drop_drop]
theorem numX_short {l:List Int}{at_ w:Nat}(h:l.length<at_+w) (h2:at_≤l.length):numX w (l.drop at_)=.error 5:=by
 unfold numX;rw [if_pos (by rw [List.length_drop];omega)]
theorem sgnX_ok {l:List Int}{at_ w:Nat}(h:at_+w≤l.length):sgnX w (l.drop at_)=.ok (sgnV ((l.drop at_).take w),l.drop (at_+w)):=by
 unfold sgnX;rw [if_neg (by rw [List.length_drop];omega),List.drop_drop]
theorem sgnX_short {l:List Int}{at_ w:Nat}(h:l.length<at_+w) (h2:at_≤l.length):sgnX w (l.drop at_)=.error 5:=by
 unfold sgnX;rw [if_pos (by rw [List.length_drop];omega)]
def Got {α:Type}(l:List Int) (σ:Except Int (α×List Int)) (e:Int) (v:α) (s:Rs):Prop:=match σ with
  | .ok (a,r)=>e=0∧v=a∧s.2=false∧r=l.drop s.1∧s.1≤l.length
  | .error x=>e=x∧x≠0
theorem seqN {l:List Int}{s':Rs}{n:Int}{p w:Nat}(h:(s',n)=rawN l (p,false) w) (hp:p≤l.length) :
 (∃ p',s'=(p',false)∧p'≤l.length∧∀ {β:Type}(f:Int→Pr β),bnd (numX w) f (l.drop p)=f n (l.drop p'))∨(s'=(p,true)∧n=0∧∀ {β:Type}(f:Int→Pr β),bnd (numX w) f (l.drop p)=.error 5):=by
 by_cases k:p+w≤l.length
 · rw [rawN_ok k] at h
   obtain ⟨rfl,rfl⟩:=Prod.mk.inj h
   exact .inl ⟨_,rfl,k,fun f=>by unfold bnd;rw [numX_ok k]⟩
 · rw [rawN_short ZO] at h
   obtain ⟨rfl,rfl⟩:=Prod.mk.inj h
   exact .inr ⟨rfl,rfl,fun f=>by unfold bnd;rw [numX_short ZO hp]⟩
theorem seqB {l:List Int}{s':Rs}{n:Int}{p w:Nat}(h:(s',n)=rawN l (p,true) w):s'=(p,true)∧n=0:=by
 rw [rawN_bad] at h;exact Prod.mk.inj h
theorem seqS {l:List Int}{s':Rs}{n:Int}{p w:Nat}(h:(s',n)=rawS l (p,false) w) (hp:p≤l.length) :
 (∃ p',s'=(p',false)∧p'≤l.length∧∀ {β:Type}(f:Int→Pr β),bnd (sgnX w) f (l.drop p)=f n (l.drop p'))∨(s'=(p,true)∧n=0∧∀ {β:Type}(f:Int→Pr β),bnd (sgnX w) f (l.drop p)=.error 5):=by
 by_cases k:p+w≤l.length
 · rw [rawS_ok k] at h
   obtain ⟨rfl,rfl⟩:=Prod.mk.inj h
   exact .inl ⟨_,rfl,k,fun f=>by unfold bnd;rw [sgnX_ok k]⟩
 · rw [rawS_short ZO] at h
   obtain ⟨rfl,rfl⟩:=Prod.mk.inj h
   exact .inr ⟨rfl,rfl,fun f=>by unfold bnd;rw [sgnX_short ZO hp]⟩
theorem seqSB {l:List Int}{s':Rs}{n:Int}{p w:Nat}(h:(s',n)=rawS l (p,true) w):s'=(p,true)∧n=0:=by
 rw [rawS_bad] at h;exact Prod.mk.inj h
theorem byte_in {l:List Int}(hb:Byts l) (i:Nat):0≤l.getD i 0∧l.getD i 0<256:=by
 rw [List.getD_eq_getElem?_getD]
 cases h:l[i]? with
 | none=>simp
 | some x=>exact hb x (List.mem_of_getElem? h)
theorem take_one {l:List Int}{p:Nat}(h:p<l.length):(l.drop p).take 1=[l.getD p 0]:=by
 rw [List.drop_eq_getElem_cons h,List.take_succ_cons,List.take_zero,List.getD_eq_getElem?_getD,List.getElem?_eq_getElem h];rfl
theorem num_one {l:List Int}(hb:Byts l) {p:Nat}(h:p<l.length):IntKind.i64.wrap (valU ((l.drop p).take 1))=l.getD p 0:=by
 rw [take_one h,show valU [l.getD p 0]=l.getD p 0 from by simp [valU]]
 have:=byte_in hb p
 exact small_wrap this.1 ZO
theorem seqT {l:List Int}(hb:Byts l) {s':Rs}{v:ByteArray}{p most:Nat}(h:(s',v)=rawT l (p,false) most) (hp:p≤l.length) :
 (∃ p',s'=(p',false)∧p'≤l.length∧∀ {β:Type}(f:ByteArray→Pr β),bnd (txtX most) f (l.drop p)=f v (l.drop p'))∨(s'=(p,true)∧∀ {β:Type}(f:ByteArray→Pr β),bnd (txtX most) f (l.drop p)=.error 5):=by
 unfold rawT at h
 have hi:=byte_in hb p
 split at h
 · next k=>
   obtain ⟨rfl,rfl⟩:=Prod.mk.inj h
   refine .inr ⟨J,fun f=>?_⟩
   have e:txtX most (l.drop p)=.error 5:=by
    unfold txtX
    by_cases k1:p+1≤l.length
    · unfold bnd
      rw [numX_ok k1,num_one hb ZO]
      show (if _ then _ else _)=_
      rw [if_pos]
      rw [List.length_drop]
      rcases k with k | k | k | k
      · cases k
      · dsimp only at k;omega
      · exact .inl k
      · right;dsimp only at k;omega
    · unfold bnd
      rw [numX_short ZO hp]
   exact bnd_err e
 · next k=>
   obtain ⟨rfl,rfl⟩:=Prod.mk.inj h
   have k1:p+1≤l.length:=by have:¬ l.length<p+1:=fun h=>k (.inr (.inl h));omega
   have k2:¬ (most:Int)<l.getD p 0:=fun h=>k (.inr (.inr (.inl h)))
   have k3:¬ (l.length:Int)<(p:Int)+1+l.getD p 0:=fun h=>k (.inr (.inr (.inr h)))
   refine .inl ⟨p+1+(l.getD p 0).toNat,J,by omega,fun f=>?_⟩
   have e:txtX most (l.drop p)=.ok (bytesS ((l.drop (p+1)).take (l.getD p 0).toNat),l.drop (p+1+(l.getD p 0).toNat)):=by
    unfold txtX bnd
    rw [numX_ok k1,num_one hb ZO]
    show (if _ then _ else _)=_
    rw [if_neg,List.drop_drop]
    rw [List.length_drop]
    omega
   exact bnd_to e
theorem bnd_flag_ok {l:List Int}{p p':Nat}{n:Int}(e3:∀ {β:Type}(f:Int→Pr β),bnd (numX 1) f (l.drop p)=f n (l.drop p')) {β:Type}(f:Bool→Pr β):bnd flagX f (l.drop p)=(if 1<n then .error 3 else f (decide (n=1)) (l.drop p')):=by
 unfold flagX
 rw [bnd_bnd,e3,bnd_ite]
theorem bnd_flag_no {l:List Int}{p:Nat}(e3:∀ {β:Type}(f:Int→Pr β),bnd (numX 1) f (l.drop p)=.error 5) {β:Type}(f:Bool→Pr β):bnd flagX f (l.drop p)=.error 5:=by
 unfold flagX
 rw [bnd_bnd,e3]
theorem rel_law {l:List Int}{p:Nat}{s1 s2 s3:Rs}{n1 n2 n3:Int}(hp:p≤l.length) (h1:(s1,n1)=rawN l (p,false) 1) (h2:(s2,n2)=rawN l s1 1) (h3:(s3,n3)=rawN l s2 1) :
 (s3.2=true→relX (l.drop p)=.error 5)∧(s3.2=false→1<n3→relX (l.drop p)=.error 3)∧(s3.2=false→¬ 1<n3→relX (l.drop p)=.ok (⟨n1,n2,decide (n3=1)⟩,l.drop s3.1)∧s3=(s3.1,false)∧s3.1≤l.length):=by
 unfold relX
 rcases seqN h1 hp with ⟨p1,rfl,hp1,e1⟩ | ⟨rfl,rfl,e1⟩
 · rw [e1]
   rcases seqN h2 hp1 with ⟨p2,rfl,hp2,e2⟩ | ⟨rfl,rfl,e2⟩
   · rw [e2]
     rcases seqN h3 hp2 with ⟨p3,rfl,hp3,e3⟩ | ⟨rfl,rfl,e3⟩
     · rw [bnd_flag_ok e3]
       refine ⟨fun h=>(by cases h),fun _ k=>if_pos k,fun _ k=>⟨if_neg k,rfl,hp3⟩⟩
     · rw [bnd_flag_no e3]
       exact ⟨fun _=>rfl,fun h=>(by cases h),fun h=>(by cases h)⟩
   · obtain ⟨rfl,rfl⟩:=seqB h3
     rw [e2]
     exact ⟨fun _=>rfl,fun h=>(by cases h),fun h=>(by cases h)⟩
 · obtain ⟨rfl,rfl⟩:=seqB h2
   obtain ⟨rfl,rfl⟩:=seqB h3
   rw [e1]
   exact ⟨fun _=>rfl,fun h=>(by cases h),fun h=>(by cases h)⟩
theorem sym_law {l:List Int}(hb:Byts l) {p:Nat}{s1 s2 s3 s4 s5:Rs}{v:ByteArray}{n2 n3 n4 n5:Int}(hp:p≤l.length) (h1:(s1,v)=rawT l (p,false) 255) (h2:(s2,n2)=rawN l s1 1) (h3:(s3,n3)=rawN l s2 1) (h4:(s4,n4)=rawN l s3 1) (h5:(s5,n5)=rawS l s4 1) :
 (1<n2→symX (l.drop p)=.error 3)∧(¬ 1<n2→s5.2=true→symX (l.drop p)=.error 5)∧(¬ 1<n2→s5.2=false→symX (l.drop p)=.ok (⟨v,decide (n2=1),n3,n4,n5⟩,l.drop s5.1)∧s5.1≤l.length):=by
 unfold symX
 rcases seqT hb h1 hp with ⟨p1,rfl,hp1,e1⟩ | ⟨rfl,e1⟩
 · rw [e1]
   rcases seqN h2 hp1 with ⟨p2,rfl,hp2,e2⟩ | ⟨rfl,rfl,e2⟩
   · rw [bnd_flag_ok e2]
     by_cases k:1<n2
     · rw [if_pos k]
       exact ⟨fun _=>rfl,fun h=>absurd k h,fun h=>absurd k h⟩
     · rw [if_neg k]
       refine ⟨fun h=>absurd h k,?_⟩
       rcases seqN h3 hp2 with ⟨p3,rfl,hp3,e3⟩ | ⟨rfl,rfl,e3⟩
       · rw [e3]
         rcases seqN h4 hp3 with ⟨p4,rfl,hp4,e4⟩ | ⟨rfl,rfl,e4⟩
         · rw [e4]
           rcases seqS h5 hp4 with ⟨p5,rfl,hp5,e5⟩ | ⟨rfl,rfl,e5⟩
           · rw [e5]
             exact ⟨fun _ h=>(by cases h),fun _ _=>⟨rfl,hp5⟩⟩
           · rw [e5]
             exact ⟨fun _ _=>rfl,fun _ h=>(by cases h)⟩
         · obtain ⟨rfl,rfl⟩:=seqSB h5
           rw [e4]
           exact ⟨fun _ _=>rfl,fun _ h=>(by cases h)⟩
       · obtain ⟨rfl,rfl⟩:=seqB h4
         obtain ⟨rfl,rfl⟩:=seqSB h5
         rw [e3]
         exact ⟨fun _ _=>rfl,fun _ h=>(by cases h)⟩
   · obtain ⟨rfl,rfl⟩:=seqB h3
     obtain ⟨rfl,rfl⟩:=seqB h4
     obtain ⟨rfl,rfl⟩:=seqSB h5
     rw [bnd_flag_no e2]
     exact ⟨fun h=>absurd h (by decide),fun _ _=>rfl,fun _ h=>(by cases h)⟩
 · obtain ⟨rfl,rfl⟩:=seqB h2
   obtain ⟨rfl,rfl⟩:=seqB h3
   obtain ⟨rfl,rfl⟩:=seqB h4
   obtain ⟨rfl,rfl⟩:=seqSB h5
   rw [e1]
   exact ⟨fun h=>absurd h (by decide),fun _ _=>rfl,fun _ h=>(by cases h)⟩
theorem octet_Text {B:Base}{w:World}(hS:St B [] w) (A:Option Addr) (cp:Nat) (l:List Int) (hC:(Kd.int .u8).C B.e A l) (hl:l.length≤900000) (s:ByteArray) (hs:s.size≤maxLen) (W0:World) :
 CW 38 #[.slice A l.length cp,.string s] w (Ret B (fun _:Option Addr×Nat=>True) (fun z=>.slice z.1 (l++txtP s).length z.2) (fun z=>[row (Kd.int .u8) W0 5 (.slice z.1 (l++txtP s).length z.2) (l++txtP s)])):=by
 have hml:maxLen=9223372036854775807:=rfl
 have hpl:=putL_len ((min s.size 255:Nat):Int) 1
 have hxs:(s.extract 0 (min s.size 255)).size=min s.size 255:=by rw [ByteArray.size_extract];omega
 refine ZX Tryz.func38 hS ?_
 refine Zh (Zi (Zp J (Zn (Za (Zh (Zi (Zo J (oLenStr J J (oMinJ J J ?_)))))))))
 refine ZS0 (t:=8) (v':=.int .i64 ((min s.size 255:Nat):Int)) J (by congr 1;split <;> omega) ?_
 refine Zp J (Zn (Za (Zh (wDrawG J [0,1,3,4,5] [(2,[3,4,5],[]),(6,[],[])] [7] 24 ZK J J (fun w0=>?_)))))
 refine Zo J (Zo J (Zo J (Zo J (oSliceSU (m:=min s.size 255) J J J ZO ?_))))
 refine Z4 (Z5 J ?_)
 (refine ZC0 rfl ZK (fun w hS=>frame hS ZQ (fun B' hB hS'=>octet_Put hS' A cp l (Kd.C_grow hB hC) ZO _ 1 (by decide) W0)) ?_;rintro ⟨A11,c11⟩ -)
 refine ZG ?_ J (fun w0=>?_)
 refine Z8 J J J J (fun w0=>?_) ?_
 refine Zo J ?_
 exact Z9 rfl
 refine Z8 J J J J (fun w0=>?_) ?_
 refine Zo J ?_
 exact Z9 rfl
 refine Z8 J J J J (fun w0=>?_) ?_
 refine oSliceSU (m:=min s.size 255) J J J ZO ?_
 exact Z9 rfl
 exact AgainG.nil
 refine Z4 (Z5 J ?_)
 refine oAppStr rfl rfl rfl rfl ZP (by rw [List.length_append,hpl,hxs];omega) (fun A15 c15=>?_)
 rw [txtL_extract,hxs,show (l++putL ((min s.size 255:Nat):Int) 1).length+min s.size 255=(l++txtP s).length by rw [List.length_append,List.length_append,txtP_len,hpl];omega,show l++putL ((min s.size 255:Nat):Int) 1++(txtL s).take (min s.size 255)=l++txtP s by rw [List.append_assoc];rfl]
 refine ZG ?_ J (fun w0=>?_)
 exact AgainG.nil
 refine Z6 (Zzh ?_)
 exact ⟨(A15,c15),trivial,rfl,Lh⟩
theorem rd_New {B:Base}{w:World}(hS:St B [] w) (A:Option Addr) (cp:Nat) (l:List Int) (hC:(Kd.int .u8).C B.e A l) (hl:l.length≤900000) (W0:World) :
 CW 22 #[.slice A l.length cp] w (Ret B (fun z:Nat×Option Addr×Nat=>l.length≤z.2.2) (fun z=>.pointer (some ⟨z.1,0,none⟩)) (fun z=>[blk z.1 96 [.slice z.2.1 l.length z.2.2,.int .i64 0,.bool true,.bool false],row (Kd.int .u8) W0 5 (.slice z.2.1 l.length z.2.2) l])):=by
 refine ZX Tryz.func22 hS ?_
 refine Zh (Zi (Zp J (Zn (Za (Zh (Zi (oBuildSlice0 (Kd.int .u8) W0 J (fun b3=>?_))))))))
 refine Zo J ?_
 refine oAppA (ys:=l) J J J J ZP J (fun w hw=>src_Cs hC (Base.grow hw.ok)) (by simp;omega) J (fun A5 c5 hc5=>?_)
 rw [show ([]:List Int).length+l.length=l.length by simp,show ([]++l:List Int)=l from rfl] at *
 refine oBuild (Parts.cons J (Parts.cons J Parts.nil)) J J (Built.cons (off:=0) (s:=1) J ZP J ZP (Built.cons (off:=2) (s:=1) J ZP J ZP Built.nil)) ?_
 refine oBox J ZP (fun b7=>?_)
 refine Zp J (Zza ?_)
 exact ⟨(b7,A5,c5),hc5,rfl,Lh⟩
theorem rd_Bad {B:Base}{w:World}(br:Nat) (A:Option Addr) (cp:Nat) (l:List Int) (at_:Nat) (bad:Bool) (hS:St B [blk br 96 [.slice A l.length cp,.int .i64 (at_:Int),.bool true,.bool bad]] w) :
 CW 57 #[.pointer (some ⟨br,0,none⟩)] w (Ret B (fun _:Unit=>True) (fun _=>.bool bad) (fun _=>[blk br 96 [.slice A l.length cp,.int .i64 (at_:Int),.bool true,.bool bad]])):=by
 refine ZX Tryz.func57 hS ?_
 refine Zh (Zi (Zp J (Zn (Za (Zh (Zi (Zo J (oEqlP J J J (ZS0 (t:=4) (v':=.bool false) J (by simp) ?_)))))))))
 refine Zo J (Zq J J (Zo J (Zq J J (Z3 J (Zq J J (Zz (n:=2) (m:=2) J J J (Zzg ?_)))))))
 refine Zq J J (Zno ?_)
 refine ZS0 (t:=10) (v':=.bool false) J J (Zu J J (Zo J (Zq J J (Zo J (Zq J J (Z3 J (Zq J J (Zz (n:=3) (m:=3) J J J (Zzg ?_)))))))))
 refine Zu J J (Zzh ?_)
 exact ⟨(),trivial,rfl,Lh⟩
theorem rd_Left {B:Base}{w:World}(br:Nat) (A:Option Addr) (cp:Nat) (l:List Int) (at_:Nat) (bad:Bool) (hS:St B [blk br 96 [.slice A l.length cp,.int .i64 (at_:Int),.bool true,.bool bad]] w) (hat:at_≤l.length) (hl:l.length≤maxLen) :
 CW 31 #[.pointer (some ⟨br,0,none⟩)] w (Ret B (fun _:Unit=>True) (fun _=>.int .i64 ((l.length:Int)-(at_:Int))) (fun _=>[blk br 96 [.slice A l.length cp,.int .i64 (at_:Int),.bool true,.bool bad]])):=by
 have hml:maxLen=9223372036854775807:=rfl
 refine ZX Tryz.func31 hS ?_
 refine Zh (Zi (Zp J (Zn (Za (Zh (Zh (Zi (Zo J (oEqlP J J J (ZS0 (t:=4) (v':=.bool false) J (by simp) ?_))))))))))
 refine Zn (Za (wCondF J (Zj (Za (Zh (wDraw2 J J [0,5] [1,2,3,4,6,7,8,9] 10 ZK J J J (fun w0=>?_)))))))
 refine Z3 J (Zz (n:=0) (m:=0) J J J (Zld ?_))
 refine Zv J J (Z3 J (Zz (n:=1) (m:=1) J J J (Zld ?_)))
 refine oSub J J ZO ?_
 refine oHead (Zp J (oNilT (Za (Zl (Zw (fi1 J ?_))))))
 exact ⟨(),trivial,rfl,Lh⟩
theorem rd_spoil {B:Base}{w:World}(br:Nat) (A:Option Addr) (cp:Nat) (l:List Int) (at_:Nat) (bad:Bool) (hS:St B [blk br 96 [.slice A l.length cp,.int .i64 (at_:Int),.bool true,.bool bad]] w) :
 CW 104 #[.pointer (some ⟨br,0,none⟩)] w (Ret B (fun _:Unit=>True) (fun _=>.tuple #[]) (fun _=>[blk br 96 [.slice A l.length cp,.int .i64 (at_:Int),.bool true,.bool true]])):=by
 refine ZX Tryz.func104 hS ?_
 refine Zh (Zi (Zo J (oNeqP J J J (ZS0 (t:=3) (v':=.bool true) J (by simp) ?_))))
 refine Zn (Za (wCondT J (Zi (Zo J (Z3 J (Zz (n:=3) (m:=3) J J J (Zst ?_)))))))
 refine Zn (fin_n ?_)
 refine ⟨rfl,_,ResL.nil,?_⟩
 exact ⟨(),trivial,rfl,Lh⟩
def rawK (l:List Int) (s:Rs) (n:Int):Rs×List Int:=if s.2=true∨n<0∨(l.length:Int)<s.1+n then ((s.1,true),[]) else ((s.1+n.toNat,false),(l.drop s.1).take n.toNat)
theorem rd_take {B:Base}{w:World}(br:Nat) (A:Option Addr) (cp:Nat) (l:List Int) (at_:Nat) (bad:Bool) (hS:St B [blk br 96 [.slice A l.length cp,.int .i64 (at_:Int),.bool true,.bool bad]] w) (hat:at_≤l.length) (hl:l.length≤900000) (hcp:l.length≤cp) (W0:World) (hW:Grow W0 B.e) (hC:(Kd.int .u8).C W0 A l) (n:Int) (hn:in64 n) :
 CW 99 #[.pointer (some ⟨br,0,none⟩),.int .i64 n] w (Ret B (fun z:Rs×List Int×Option Addr×Nat=>(z.1,z.2.1)=rawK l (at_,bad) n∧(Kd.int .u8).C W0 z.2.2.1 z.2.1∧z.2.1.length≤z.2.2.2) (fun z=>.slice z.2.2.1 z.2.1.length z.2.2.2) (fun z=>[blk br 96 [.slice A l.length cp,.int .i64 (z.1.1:Int),.bool true,.bool z.1.2]])):=by
 unfold in64 at hn
 refine ZX Tryz.func99 hS ?_
 refine Zh (Zi (Zp J (Zn (Za (Zh (Zzi ?_))))))
 (refine ZC0 rfl ZK (fun w hS=>frame hS ZQ (fun B' hB hS'=>rd_Bad br A cp l at_ bad hS')) ?_;rintro ⟨⟩ -)
 refine Zo J (ZS (ZT 7) (fun h7=>?_) (fun h7=>?_))
 refine Zr J J J J (Zr J J J J (Zt J J (Zo J (Zr J J J J (Zr J J J J (Zr J J J J (Zr J J J J (Zt J J (Zn (Za (wCondT J (Zzi ?_))))))))))))
 (refine ZC0 rfl ZK (fun w hS=>frame hS ZQ (fun B' hB hS'=>rd_spoil br A cp l at_ bad hS')) ?_;rintro ⟨⟩ -)
 refine Zn (Za (Zh (Zi (Zzb ?_))))
 exact ⟨((at_,true),[],none,0),⟨by unfold rawK;rw [if_pos (.inl h7)],Kd.C_nil _ _ _,Nat.le_refl _⟩,rfl,Lh⟩
 refine Zq J J (Zo J (Zq J J (Zx J J (Zu J J (Zo J (ZS (ZT 11) (fun h11=>?_) (fun h11=>?_)))))))
 refine Zr J J J J (Zr J J J J (Zr J J J J (Zr J J J J (Zt J J (Zn (Za (wCondT J (Zzi ?_))))))))
 (refine ZC0 rfl ZK (fun w hS=>frame hS ZQ (fun B' hB hS'=>rd_spoil br A cp l at_ bad hS')) ?_;rintro ⟨⟩ -)
 refine Zn (Za (Zh (Zi (Zzb ?_))))
 exact ⟨((at_,true),[],none,0),⟨by unfold rawK;rw [if_pos (.inr (.inl h11))],Kd.C_nil _ _ _,Nat.le_refl _⟩,rfl,Lh⟩
 refine Zq J J (Zo J (Zq J J (Zo J (Zq J J ?_))))
 (refine ZC0 rfl ZK (fun w hS=>frame hS ZQ (fun B' hB hS'=>rd_Left br A cp l at_ bad hS' hat (by have:maxLen=9223372036854775807:=rfl;omega))) ?_;rintro ⟨⟩ -)
 refine Zq J J (Z1 J J (Zu J J (Zn (Za (wC (fun h16=>?_) (fun h16=>?_))))))
 refine Zh (Zi (Zo J ?_))
 (refine ZC0 rfl ZK (fun w hS=>frame hS ZQ (fun B' hB hS'=>rd_spoil br A cp l at_ bad hS')) ?_;rintro ⟨⟩ -)
 refine Zn (Za (Zh (Zi (Zzb ?_))))
 exact ⟨((at_,true),[],none,0),⟨by unfold rawK;rw [if_pos (.inr (.inr ZO))],Kd.C_nil _ _ _,Nat.le_refl _⟩,rfl,Lh⟩
 obtain ⟨k,rfl⟩:=Int.eq_ofNat_of_zero_le (show 0≤n by omega)
 have hk:at_+k≤l.length:=by omega
 have hb7:bad=false:=h7
 refine Zj (Za (Zh (Zi (Zo J (Z3 J (Zz (n:=1) (m:=1) J J J (Zld ?_)))))))
 refine Zo J (oAdd J J ZO ?_)
 refine ZS0 (t:=24) (v':=.int .i64 ((at_+k:Nat):Int)) J J (Z3 J (Zz (n:=1) (m:=1) J J J (Zst ?_)))
 refine Zn (Za (Zh (wDraw2 J J [0,4,8,10] [1,2,3,5,6,7,9,11,12,13,14] 15 ZK J J J (fun w0=>?_))))
 refine Z3 J (Zz (n:=0) (m:=0) J J J (Zld ?_))
 refine Z3 J (Zz (n:=1) (m:=1) J J J (Zld ?_))
 refine oSub J J ZO ?_
 refine ZS0 (t:=36) (v':=.int .i64 (at_:Int)) J (by congr 1;omega) ?_
 refine Z3 J (Zz (n:=1) (m:=1) J J J (Zld ?_))
 refine oSliceLM (l:=at_) (m:=at_+k) J J J ZO J ?_
 refine oHead (Zp J (oNilT (Za (Zl (Zw (fi1 J ?_))))))
 have hlen:((l.drop at_).take (at_+k-at_)).length=at_+k-at_:=by rw [List.length_take,List.length_drop];omega
 refine ⟨((at_+k,bad),(l.drop at_).take (at_+k-at_),(if cp=at_ then A else A.map (·.add (at_ * 1))),cp-at_),⟨?_,C_mid hC ZO hcp rfl,by show ((l.drop at_).take (at_+k-at_)).length≤cp-at_;rw [hlen];omega⟩,by rw [hlen];rfl,Lh⟩
 show ((at_+k,bad),(l.drop at_).take (at_+k-at_))=rawK l (at_,bad) (k:Int)
 unfold rawK
 rw [if_neg (show ¬ (bad=true∨(k:Int)<0∨(l.length:Int)<(at_:Int)+(k:Int)) by rw [hb7];simp;omega),hb7,Int.toNat_natCast,Nat.add_sub_cancel_left]
theorem rawK_byts {l:List Int}{s s':Rs}{xs:List Int}{n:Int}(hb:Byts l) (h:(s',xs)=rawK l s n):Byts xs:=by
 unfold rawK at h
 split at h
 · obtain ⟨rfl,rfl⟩:=Prod.mk.inj h
   exact fun v hv=>by cases hv
 · obtain ⟨rfl,rfl⟩:=Prod.mk.inj h
   exact (hb.drop _).take _
theorem rd_number {B:Base}{w:World}(br:Nat) (A:Option Addr) (cp:Nat) (l:List Int) (at_:Nat) (bad:Bool) (hS:St B [blk br 96 [.slice A l.length cp,.int .i64 (at_:Int),.bool true,.bool bad]] w) (hat:at_≤l.length) (hl:l.length≤900000) (hb:Byts l) (hcp:l.length≤cp) (W0:World) (hW:Grow W0 B.e) (hC:(Kd.int .u8).C W0 A l) (n:Nat) (hn:n≤8) :
 CW 98 #[.func (.func 99) #[.pointer (some ⟨br,0,none⟩)] #[],.int .i64 (n:Int)] w (Ret B (fun z:Rs×List Int×Option Addr×Nat=>(z.1,z.2.1)=rawK l (at_,bad) (if n=0 then -1 else (n:Int))∧(Kd.int .u8).C W0 z.2.2.1 z.2.1∧z.2.1.length≤z.2.2.2) (fun z=>.tuple #[.int .i64 (IntKind.i64.wrap (valU z.2.1)),.slice z.2.2.1 z.2.1.length z.2.2.2]) (fun z=>[blk br 96 [.slice A l.length cp,.int .i64 (z.1.1:Int),.bool true,.bool z.1.2]])):=by
 refine ZX Tryz.func98 hS ?_
 refine Zh (Zi (Zp J (Zp J (Zn (Za (Zh (Zh (Zi (Zo J (Zx J J (Zo J (ZS (ZT 12) (fun h12=>?_) (fun h12=>?_)))))))))))))
 obtain rfl:n=0:=by omega
 refine Zr J J J J (Zr J J J J (Zt J J (Zn (Za (wCondT J (Zi (Zp J (Zn (Za (Zh (Zi (Zp J (Zn (Zzn ?_))))))))))))))
 (refine oCallV rfl rfl rfl ZK (fun w hS=>frame hS ZQ (fun B' hB hS'=>rd_take br A cp l at_ bad hS' hat hl hcp W0 (hW.trans hB) hC (-1) (by unfold in64;omega))) ?_;rintro ⟨s',xs,A',c'⟩ ⟨hk,hCx,hcx⟩;dsimp only at hk hCx hcx)
 have hk:(s',xs)=rawK l (at_,bad) (if (0:Nat)=0 then -1 else ((0:Nat):Int)):=hk
 have hbx:Byts xs:=rawK_byts hb hk
 refine Zp J (Zn (Za (Zh (Zh (Zi (Zo J (Zv J J (Zo J (Zn (Za (Zk (wLoop (ι:=Nat) (fun i=>[(7,.slice A' xs.length c'),(6,.int .i64 (IntKind.i64.wrap (valU (xs.take i)))),(19,.slice A' xs.length c'),(20,.int .i64 (xs.length:Int)),(21,.int .i64 (i:Int))]) (fun i=>[blk br 96 [.slice A l.length cp,.int .i64 (s'.1:Int),.bool true,.bool s'.2]]) (fun i=>i≤xs.length) (fun i=>xs.length-i) 0 ?_ cv (Leads.has ZQ) ?_))))))))))))
 exact Nat.zero_le _
 rintro i hi
 have hxl:=hCx.1
 try dsimp only
 refine Zh (Zi (Zx J J (Zn (Za (Zh (wC (fun h22=>?_) (fun h22=>?_)))))))
 refine Zj (Za (Zh (Zk (Zh (Zi (oIdx J J ((Kd.C_grow hW hCx)) J ZO J J (fun e23 u23 cs23 hu23 hk23 hc23=>?_)))))))
 obtain rfl:=hk23
 refine Zlx hc23 ?_
 refine Zp J (Zn (Za (Zi (Zo J (oShlN (b:=8) J J ZO ?_)))))
 refine ZS0 (t:=26) (v':=.int .i64 (IntKind.i64.wrap (IntKind.i64.wrap (valU (xs.take i)) * 256))) J J (Zo J ?_)
 have hu:=hbx _ (List.mem_of_getElem? hu23)
 refine oConvInt (m:=u23) J J J (small_wrap hu.1 ZO) ?_
 refine oOrB J J hu ?_
 refine ZS0 (t:=29) (v':=.int .i64 (IntKind.i64.wrap (valU (xs.take (i+1))))) rfl (by rw [wrap_step,List.take_add_one,hu23];show Value.int .i64 (IntKind.i64.wrap (valU (xs.take i) * 256+u23))=.int .i64 (IntKind.i64.wrap (valU (xs.take i++[u23])));rw [valU_snoc]) ?_
 refine Zp J (Zn (Zze ?_))
 refine Zo J (Zn (Za ?_))
 exact ⟨rfl,i+1,by omega,by omega,cv,Lh⟩
 obtain rfl:i=xs.length:=by omega
 rw [List.take_length]
 refine Zm (Zb (Zb (Ze (Za (Zh (Zi (Zo J (Zo J (Zp J (Zp J (Zn (Za (Zl (Zw ?_))))))))))))))
 refine ⟨rfl,_,(ResL.cons (ResR.tmp rfl) (ResL.cons (ResR.tmp rfl) ResL.nil)),?_⟩
 exact ⟨(s',xs,A',c'),⟨hk,hCx,hcx⟩,rfl,Lh⟩
 refine Zq J J (Zo J (Zq J J (Z1 J J (Zu J J (Zn (Za (wC (fun h15=>?_) (fun h15=>?_))))))))
 omega
 refine Zj (Za (Zh (Zi (Zp J (Zn (Zzn ?_))))))
 (refine oCallV rfl rfl rfl ZK (fun w hS=>frame hS ZQ (fun B' hB hS'=>rd_take br A cp l at_ bad hS' hat hl hcp W0 (hW.trans hB) hC (n:Int) (by unfold in64;omega))) ?_;rintro ⟨s',xs,A',c'⟩ ⟨hk,hCx,hcx⟩;dsimp only at hk hCx hcx)
 have hk:(s',xs)=rawK l (at_,bad) (if n=0 then -1 else (n:Int)):=by rw [if_neg ZO];exact hk
 have hbx:Byts xs:=rawK_byts hb hk
 refine Zp J (Zn (Za (Zh (Zh (Zi (Zo J (Zv J J (Zo J (Zn (Za (Zk (wLoop (ι:=Nat) (fun i=>[(7,.slice A' xs.length c'),(6,.int .i64 (IntKind.i64.wrap (valU (xs.take i)))),(19,.slice A' xs.length c'),(20,.int .i64 (xs.length:Int)),(21,.int .i64 (i:Int))]) (fun i=>[blk br 96 [.slice A l.length cp,.int .i64 (s'.1:Int),.bool true,.bool s'.2]]) (fun i=>i≤xs.length) (fun i=>xs.length-i) 0 ?_ cv (Leads.has ZQ) ?_))))))))))))
 exact Nat.zero_le _
 rintro i hi
 have hxl:=hCx.1
 try dsimp only
 refine Zh (Zi (Zx J J (Zn (Za (Zh (wC (fun h22=>?_) (fun h22=>?_)))))))
 refine Zj (Za (Zh (Zk (Zh (Zi (oIdx J J ((Kd.C_grow hW hCx)) J ZO J J (fun e23 u23 cs23 hu23 hk23 hc23=>?_)))))))
 obtain rfl:=hk23
 refine Zlx hc23 ?_
 refine Zp J (Zn (Za (Zi (Zo J (oShlN (b:=8) J J ZO ?_)))))
 refine ZS0 (t:=26) (v':=.int .i64 (IntKind.i64.wrap (IntKind.i64.wrap (valU (xs.take i)) * 256))) J J (Zo J ?_)
 have hu:=hbx _ (List.mem_of_getElem? hu23)
 refine oConvInt (m:=u23) J J J (small_wrap hu.1 ZO) ?_
 refine oOrB J J hu ?_
 refine ZS0 (t:=29) (v':=.int .i64 (IntKind.i64.wrap (valU (xs.take (i+1))))) rfl (by rw [wrap_step,List.take_add_one,hu23];show Value.int .i64 (IntKind.i64.wrap (valU (xs.take i) * 256+u23))=.int .i64 (IntKind.i64.wrap (valU (xs.take i++[u23])));rw [valU_snoc]) ?_
 refine Zp J (Zn (Zze ?_))
 refine Zo J (Zn (Za ?_))
 exact ⟨rfl,i+1,by omega,by omega,cv,Lh⟩
 obtain rfl:i=xs.length:=by omega
 rw [List.take_length]
 refine Zm (Zb (Zb (Ze (Za (Zh (Zi (Zo J (Zo J (Zp J (Zp J (Zn (Za (Zl (Zw ?_))))))))))))))
 refine ⟨rfl,_,(ResL.cons (ResR.tmp rfl) (ResL.cons (ResR.tmp rfl) ResL.nil)),?_⟩
 exact ⟨(s',xs,A',c'),⟨hk,hCx,hcx⟩,rfl,Lh⟩
theorem rawN_K {l:List Int}{s s':Rs}{xs:List Int}{w:Nat}(hw:1≤w) (h:(s',xs)=rawK l s (if w=0 then -1 else (w:Int))):rawN l s w=(s',IntKind.i64.wrap (valU xs)):=by
 rw [if_neg ZO] at h
 unfold rawK at h
 unfold rawN
 by_cases k:s.2=true∨l.length<s.1+w
 · rw [if_pos (k.elim .inl (fun k=>.inr (.inr ZO)))] at h
   obtain ⟨rfl,rfl⟩:=Prod.mk.inj h
   rw [if_pos k]
   rfl
 · rw [if_neg (fun h=>k (h.elim .inl (fun h=>.inr ZO)))] at h
   obtain ⟨rfl,rfl⟩:=Prod.mk.inj h
   rw [if_neg k,Int.toNat_natCast]
theorem rd_Num {B:Base}{w:World}(br:Nat) (A:Option Addr) (cp:Nat) (l:List Int) (at_:Nat) (bad:Bool) (hS:St B [blk br 96 [.slice A l.length cp,.int .i64 (at_:Int),.bool true,.bool bad]] w) (hat:at_≤l.length) (hl:l.length≤900000) (hb:Byts l) (hcp:l.length≤cp) (hC:(Kd.int .u8).C B.e A l) (n:Nat) (hn:1≤n∧n≤8) :
 CW 54 #[.pointer (some ⟨br,0,none⟩),.int .i64 (n:Int)] w (Ret B (fun z:Rs×Int=>z=rawN l (at_,bad) n) (fun z=>.int .i64 z.2) (fun z=>[blk br 96 [.slice A l.length cp,.int .i64 (z.1.1:Int),.bool true,.bool z.1.2]])):=by
 refine ZX Tryz.func54 hS ?_
 refine Zh (Zi (Zp J (Zn (Za (Zh (Zi (Zo J (oMakeFuncB J J (Zo J ?_)))))))))
 (refine ZC0 rfl ZK (fun w hS=>frame hS ZQ (fun B' hB hS'=>rd_number br A cp l at_ bad hS' hat hl hb hcp B.e hB hC n hn.2)) ?_;rintro ⟨s',xs,A',c'⟩ ⟨hk,-,-⟩)
 refine Zo J (oExt J ZP ?_)
 refine oExt J ZP ?_
 refine Zp J (Zp J (Zn (Zzq ?_)))
 exact ⟨(s',IntKind.i64.wrap (valU xs)),(rawN_K hn.1 hk).symm,rfl,Lh⟩
theorem rd_Num0 {B:Base}{w:World}(br:Nat) (A:Option Addr) (cp:Nat) (l:List Int) (at_:Nat) (bad:Bool) (hS:St B [blk br 96 [.slice A l.length cp,.int .i64 (at_:Int),.bool true,.bool bad]] w) (hat:at_≤l.length) (hl:l.length≤900000) (hb:Byts l) (hcp:l.length≤cp) (hC:(Kd.int .u8).C B.e A l) :
 CW 54 #[.pointer (some ⟨br,0,none⟩),.int .i64 0] w (Ret B (fun z:Int=>True) (fun z=>.int .i64 z) (fun z=>[blk br 96 [.slice A l.length cp,.int .i64 (at_:Int),.bool true,.bool true]])):=by
 refine ZX Tryz.func54 hS ?_
 refine Zh (Zi (Zp J (Zn (Za (Zh (Zi (Zo J (oMakeFuncB J J (Zo J ?_)))))))))
 (refine ZC0 rfl ZK (fun w hS=>frame hS ZQ (fun B' hB hS'=>rd_number br A cp l at_ bad hS' hat hl hb hcp B.e hB hC 0 (by decide))) ?_;rintro ⟨s',xs,A',c'⟩ ⟨hk,-,-⟩)
 have hk:(s',xs)=rawK l (at_,bad) (-1):=hk
 unfold rawK at hk
 rw [if_pos (.inr (.inl (by decide)))] at hk
 obtain ⟨rfl,rfl⟩:=Prod.mk.inj hk
 refine Zo J (oExt J ZP ?_)
 refine oExt J ZP ?_
 refine Zp J (Zp J (Zn (Zzq ?_)))
 exact ⟨_,trivial,rfl,Lh⟩
theorem rawS_K {l:List Int}{s s':Rs}{xs:List Int}{w:Nat}(hw:1≤w) (h:(s',xs)=rawK l s (if w=0 then -1 else (w:Int))):(xs=[]→rawS l s w=(s',0))∧(xs≠[]→rawS l s w=(s',sgnV xs)∧xs.length=w):=by
 rw [if_neg ZO] at h
 unfold rawK at h
 unfold rawS
 by_cases k:s.2=true∨l.length<s.1+w
 · rw [if_pos (k.elim .inl (fun k=>.inr (.inr ZO)))] at h
   obtain ⟨rfl,rfl⟩:=Prod.mk.inj h
   rw [if_pos k]
   exact ⟨fun _=>rfl,fun h=>absurd rfl h⟩
 · rw [if_neg (fun h=>k (h.elim .inl (fun h=>.inr ZO)))] at h
   obtain ⟨rfl,rfl⟩:=Prod.mk.inj h
   rw [if_neg k,Int.toNat_natCast]
   have hx:((l.drop s.1).take w).length=w:=by rw [List.length_take,List.length_drop];omega
   refine ⟨fun h=>?_,fun _=>⟨rfl,hx⟩⟩
   rw [h] at hx
   simp at hx
   omega
theorem sgn_shift {xs:List Int}{w:Nat}(hb:Byts xs) (hx:xs.length=w) (hw:w=1∨w=4):IntKind.i64.wrap (IntKind.i64.wrap (valU xs) * 2 ^ (8 * (8-w))) / 2 ^ (8 * (8-w))=sgnV xs:=by
 have h:=valU_in hb
 unfold sgnV
 rw [hx] at *
 rw [small_wrap h.1 (by rcases hw with rfl | rfl <;> (simp only [Int.reducePow] at h;omega)),wrap64]
 rcases hw with rfl | rfl
 · simp only [Int.reducePow,Nat.reduceSub,Nat.reduceMul] at *
   split <;> split <;> omega
 · simp only [Int.reducePow,Nat.reduceSub,Nat.reduceMul] at *
   split <;> split <;> omega
theorem rd_Signed {B:Base}{w:World}(br:Nat) (A:Option Addr) (cp:Nat) (l:List Int) (at_:Nat) (bad:Bool) (hS:St B [blk br 96 [.slice A l.length cp,.int .i64 (at_:Int),.bool true,.bool bad]] w) (hat:at_≤l.length) (hl:l.length≤900000) (hb:Byts l) (hcp:l.length≤cp) (hC:(Kd.int .u8).C B.e A l) (n:Nat) (hn:n=1∨n=4) :
 CW 60 #[.pointer (some ⟨br,0,none⟩),.int .i64 (n:Int)] w (Ret B (fun z:Rs×Int=>z=rawS l (at_,bad) n) (fun z=>.int .i64 z.2) (fun z=>[blk br 96 [.slice A l.length cp,.int .i64 (z.1.1:Int),.bool true,.bool z.1.2]])):=by
 refine ZX Tryz.func60 hS ?_
 refine Zh (Zi (Zp J (Zn (Za (Zh (Zi (Zo J (oMakeFuncB J J (Zo J ?_)))))))))
 (refine ZC0 rfl ZK (fun w hS=>frame hS ZQ (fun B' hB hS'=>rd_number br A cp l at_ bad hS' hat hl hb hcp B.e hB hC n ZO)) ?_;rintro ⟨s',xs,A',c'⟩ ⟨hk,-,-⟩)
 have hK:=rawS_K ZO hk
 have hbx:=rawK_byts hb hk
 refine Zo J (oExt J ZP ?_)
 refine oExt J ZP ?_
 refine Zp J (Zp J (Zn (Za (Zh (Zh (Zi (Zo J (Zv J J (Zy J J (Zn (Za (wC (fun h17=>?_) (fun h17=>?_)))))))))))))
 refine Zh (Zi (Zzb ?_))
 exact ⟨(s',0),(hK.1 (List.eq_nil_of_length_eq_zero ZO)).symm,rfl,Lh⟩
 obtain ⟨hK1,hxl⟩:=hK.2 (fun h=>h17 (by rw [h];rfl))
 have hs:=sgn_shift hbx hxl hn
 refine Zj (Za (Zh (Zi (Zo J (Zv J J (oSub J J ZO ?_))))))
 refine oConvInt (m:=((8-n:Nat):Int)) rfl rfl rfl (by rw [wrapU];omega) ?_
 refine oMulW J J ?_
 refine ZS0 (t:=22) (v':=.int .u64 ((8 * (8-n):Nat):Int)) rfl (by rw [wrapU];congr 1;omega) ?_
 refine Zp J (Zn (Za (Zh (Zi (Zo J (Zo J (oShlN J J ZO ?_)))))))
 refine Zo J (oShrN J J ZO ?_)
 refine ZS0 (t:=27) (v':=.int .i64 (sgnV xs)) rfl (by rw [hs]) ?_
 refine Zp J (Zza ?_)
 exact ⟨(s',sgnV xs),hK1.symm,rfl,Lh⟩
theorem rd_Text {B:Base}{w:World}(br:Nat) (A:Option Addr) (cp:Nat) (l:List Int) (at_:Nat) (bad:Bool) (hS:St B [blk br 96 [.slice A l.length cp,.int .i64 (at_:Int),.bool true,.bool bad]] w) (hat:at_≤l.length) (hl:l.length≤900000) (hb:Byts l) (hcp:l.length≤cp) (hC:(Kd.int .u8).C B.e A l) (most:Nat) (hm:most≤255) :
 CW 59 #[.pointer (some ⟨br,0,none⟩),.int .i64 (most:Int)] w (Ret B (fun z:Rs×ByteArray=>z=rawT l (at_,bad) most) (fun z=>.string z.2) (fun z=>[blk br 96 [.slice A l.length cp,.int .i64 (z.1.1:Int),.bool true,.bool z.1.2]])):=by
 have hml:l.length≤maxLen:=by have:maxLen=9223372036854775807:=rfl;omega
 refine ZX Tryz.func59 hS ?_
 refine Zh (Zi (Zp J (Zn (Za (Zh (Zzi ?_))))))
 (refine ZC0 rfl ZK (fun w hS=>frame hS ZQ (fun B' hB hS'=>rd_Bad br A cp l at_ bad hS')) ?_;rintro ⟨⟩ -)
 refine Zo J (ZS (ZT 8) (fun h8=>?_) (fun h8=>?_))
 refine Zr J J J J (Zr J J J J (Zr J J J J (Zt J J (Zn (Za (wCondT J (Zzi ?_)))))))
 (refine ZC0 rfl ZK (fun w hS=>frame hS ZQ (fun B' hB hS'=>rd_spoil br A cp l at_ bad hS')) ?_;rintro ⟨⟩ -)
 refine Zn (Za (Zh (Zi (Zzb ?_))))
 exact ⟨((at_,true),ByteArray.empty),by unfold rawT;rw [if_pos (.inl h8)],rfl,Lh⟩
 refine Zq J J (Zo J (Zq J J ?_))
 (refine ZC0 rfl ZK (fun w hS=>frame hS ZQ (fun B' hB hS'=>rd_Left br A cp l at_ bad hS' hat hml)) ?_;rintro ⟨⟩ -)
 refine Zq J J (Zy J J (Zu J J (Zn (Za (wC (fun h12=>?_) (fun h12=>?_))))))
 refine Zh (Zi (Zo J ?_))
 (refine ZC0 rfl ZK (fun w hS=>frame hS ZQ (fun B' hB hS'=>rd_spoil br A cp l at_ bad hS')) ?_;rintro ⟨⟩ -)
 refine Zn (Za (Zh (Zi (Zzb ?_))))
 exact ⟨((at_,true),ByteArray.empty),by unfold rawT;rw [if_pos (.inr (.inl (by dsimp only;omega)))],rfl,Lh⟩
 have h1:at_<l.length:=by omega
 have hi:=byte_in hb at_
 have hg:l[at_]?=some (l.getD at_ 0):=by rw [List.getD_eq_getElem?_getD,List.getElem?_eq_getElem h1];rfl
 have hb7:bad=false:=h8
 refine Zj (Za (Zh (wDraw2 J J [0,4] [1,2,3,5,6,7,8,9,10] 11 ZK J J J (fun w0=>?_))))
 refine Z3 J (Zz (n:=0) (m:=0) J J J (Zld ?_))
 refine Z3 J (Zz (n:=1) (m:=1) J J J (Zld ?_))
 refine oIdx J J (hC) J ZO J J (fun e23 u23 cs23 hu23 hk23 hc23=>?_)
 obtain rfl:=hk23
 obtain rfl:=Option.some.inj (hu23.symm.trans hg)
 refine Zlx hc23 ?_
 refine oConvInt (m:=l.getD at_ 0) J J J (small_wrap hi.1 ZO) ?_
 refine oHead (Zp J (oNilT (Za (Zh (Zh (Zi (Zo J (Zo J (Z1 J J (Zo J (ZS (ZT 29) (fun h29=>?_) (fun h29=>?_))))))))))))
 refine Zr J J J J (Zr J J J J (Zr J J J J (Zr J J J J (Zt J J (Zn (Za (wCondT J (Zzi ?_))))))))
 (refine ZC0 rfl ZK (fun w hS=>frame hS ZQ (fun B' hB hS'=>rd_spoil br A cp l at_ bad hS')) ?_;rintro ⟨⟩ -)
 refine Zn (Za (Zh (Zi (Zzb ?_))))
 exact ⟨((at_,true),ByteArray.empty),by unfold rawT;rw [if_pos (.inr (.inr (.inl h29)))],rfl,Lh⟩
 refine Zq J J (Zo J (Zq J J (Zo J (Zq J J ?_))))
 (refine ZC0 rfl ZK (fun w hS=>frame hS ZQ (fun B' hB hS'=>rd_Left br A cp l at_ bad hS' hat hml)) ?_;rintro ⟨⟩ -)
 refine Zq J J (Z2 J J (Zu J J (Zn (Za (wC (fun h34=>?_) (fun h34=>?_))))))
 refine Zh (Zi (Zo J ?_))
 (refine ZC0 rfl ZK (fun w hS=>frame hS ZQ (fun B' hB hS'=>rd_spoil br A cp l at_ bad hS')) ?_;rintro ⟨⟩ -)
 refine Zn (Za (Zh (Zi (Zzb ?_))))
 exact ⟨((at_,true),ByteArray.empty),by unfold rawT;rw [if_pos (.inr (.inr (.inr (by dsimp only;omega))))],rfl,Lh⟩
 refine Zj (Zzn ?_)
 first | refine oAdd rfl rfl ZO ?_ | refine oAddW rfl rfl ?_
 (refine ZC0 rfl ZK (fun w hS=>frame hS ZQ (fun B' hB hS'=>rd_take br A cp l at_ bad hS' hat hl hcp B.e hB hC (1+l.getD at_ 0) (by unfold in64;omega))) ?_;rintro ⟨s',xs,A',c'⟩ ⟨hk,hCx,hcx⟩)
 have hk:(s',xs)=rawK l (at_,bad) (1+l.getD at_ 0):=hk
 unfold rawK at hk
 rw [if_neg (show ¬ (bad=true∨1+l.getD at_ 0<0∨(l.length:Int)<(at_:Int)+(1+l.getD at_ 0)) by rw [hb7];rintro (h | h | h);cases h;omega;omega)] at hk
 obtain ⟨rfl,rfl⟩:=Prod.mk.inj hk
 have hxl:((l.drop at_).take (1+l.getD at_ 0).toNat).length=1+(l.getD at_ 0).toNat:=by rw [List.length_take,List.length_drop];omega
 refine oSliceV (m:=1) rfl rfl (by rw [hxl];omega) hcx rfl ?_
 refine oConvBR (xs:=((l.drop at_).take (1+l.getD at_ 0).toNat).drop 1) rfl rfl rfl rfl (fun w hw=>Kd.C_grow (Base.grow hw.ok) (C_from hCx 1 hcx rfl)) (by rw [List.length_drop]) ((((hb.drop _).take _)).drop _) ?_
 refine Zp J (Zza ?_)
 refine ⟨((at_+(1+l.getD at_ 0).toNat,false),_),?_,rfl,Lh⟩
 unfold rawT
 rw [if_neg (show ¬ (bad=true∨l.length<at_+1∨(most:Int)<l.getD at_ 0∨(l.length:Int)<(at_:Int)+1+l.getD at_ 0) by rw [hb7];rintro (h | h | h | h);cases h;omega;omega;omega)]
 dsimp only
 rw [show at_+(1+l.getD at_ 0).toNat=at_+1+(l.getD at_ 0).toNat by omega,List.drop_take,List.drop_drop,show (1+l.getD at_ 0).toNat-1=(l.getD at_ 0).toNat by omega]
 rfl
def flagN (b:Bool):Int:=if b=true then 1 else 0
def symP (x:ApiSymbol):List Int:=txtP x.fName++(putL (flagN x.fLocal) 1++(putL x.fSort 1++(putL x.fKind 1++putL x.fDef 1)))
def insP (x:ApiInstr):List Int:=putL x.fOp 1++(putL x.fA 1++(putL x.fB 1++(putL x.fC 1++putL x.fN 4)))
def linP (x:ApiLine):List Int:=putL x.fAt 1++putL x.fLine 2
def relP (x:ApiReloc):List Int:=putL x.fAt 1++(putL x.fSym 1++putL (flagN x.fWide) 1)
def lstP {α:Type}(p:α→List Int) (l:List α):List Int:=putL (l.length:Int) 1++l.flatMap p
def funP (f:ApiFunc):List Int:=putL f.fClass 1++(lstP (putL · 1) f.fKinds++(putL f.fPad 2++(putL (flagN f.fNosplit) 1++(putL f.fFrom 1++(putL f.fTo 1++(lstP linP f.fLines++(lstP insP f.fCode++lstP relP f.fRelocs)))))))
def datP (d:ApiData):List Int:=putL d.fKind 1++(lstP (putL · 8) d.fWords++lstP relP d.fRelocs)
def innP (o:ApiObject):List Int:=magicL++(lstP symP o.fSymbols++(lstP funP o.fFuncs++lstP datP o.fDatas))
def adl (l:List Int):Int×Int:=l.foldl (fun z x=>((z.1+x) % 65521,(z.2+(z.1+x) % 65521) % 65521)) (1,0)
def sumF (l:List Int):Int:=(adl l).2 * 65536+(adl l).1
def sealP (l:List Int):List Int:=l++putL (sumF l) 4
def objP (o:ApiObject):List Int:=sealP (innP o)
def opnF (l:List Int):Except Int (List Int):=if l.length<4 then .error 5 else if valU (l.drop (l.length-4))≠sumF (l.take (l.length-4)) then .error 4 else .ok (l.take (l.length-4))
def getF (l:List Int):Except Int ApiObject:=match opnF l with
  | .ok x=>innX x
  | .error e=>.error e
theorem adl_snoc (l:List Int) (x:Int):adl (l++[x])=(((adl l).1+x) % 65521,((adl l).2+((adl l).1+x) % 65521) % 65521):=by unfold adl;rw [List.foldl_append];rfl
theorem adl_in (l:List Int):(0≤(adl l).1∧(adl l).1<65521)∧0≤(adl l).2∧(adl l).2<65521:=by
 rcases List.eq_nil_or_concat l with rfl | ⟨l',x,rfl⟩
 · decide
 · rw [List.concat_eq_append,adl_snoc]
   dsimp only
   omega
theorem sumF_in (l:List Int):0≤sumF l∧sumF l<4294967296:=by
 have:=adl_in l
 unfold sumF;omega
theorem valU_putL (n:Int):∀ w:Nat,valU (putL n w)=n % 256 ^ w
 | 0=>by simp [putL,valU,Int.emod_one]
 | w+1=>by
  rw [putL_cons,valU_cons,putL_len,valU_putL n w]
  unfold bq
  have hp:(0:Int)<256 ^ w:=Int.pow_pos (by decide)
  have e1:=Int.mul_ediv_add_emod n (256 ^ w)
  have h3:=Int.emod_nonneg n (Int.ne_of_gt hp)
  have h4:=Int.emod_lt_of_pos n hp
  generalize n / 256 ^ w=q at *
  generalize n % 256 ^ w=r at *
  have e2:=Int.mul_ediv_add_emod q 256
  have h5:=Int.emod_nonneg q (show (256:Int)≠0 by decide)
  have h6:=Int.emod_lt_of_pos q (show (0:Int)<256 by decide)
  generalize q / 256=q2 at *
  generalize q % 256=r2 at *
  subst e2
  subst e1
  rw [Int.pow_succ]
  generalize (256:Int) ^ w=m at *
  have hm:r2 * m≤255 * m:=Int.mul_le_mul_of_nonneg_right ZO (Int.le_of_lt hp)
  have hm0:0≤r2 * m:=Int.mul_nonneg h5 (Int.le_of_lt hp)
  have e:m * (256 * q2+r2)+r=r2 * m+r+m * 256 * q2:=by
   rw [Int.mul_add,← Int.mul_assoc,Int.mul_comm m r2];omega
  rw [e,Int.add_mul_emod_self_left,Int.emod_eq_of_lt ZO ZO]
theorem bq_add (x v:Int) {w k:Nat}(hk:k<w):bq (x * 256 ^ w+v) k=bq v k:=by
 unfold bq
 obtain ⟨j,rfl⟩:∃ j,w=k+1+j:=⟨w-(k+1),by omega⟩
 have hp:(0:Int)<256 ^ k:=Int.pow_pos (by decide)
 have e:x * 256 ^ (k+1+j)+v=v+256 ^ k * (256 * (x * 256 ^ j)):=by
  rw [Int.pow_add,Int.pow_succ,Int.add_comm]
  congr 1
  rw [Int.mul_assoc (256 ^ k) 256 (256 ^ j),← Int.mul_assoc x,Int.mul_comm x,Int.mul_assoc,Int.mul_left_comm x]
 rw [e,Int.add_mul_ediv_left _ _ (Int.ne_of_gt hp),Int.add_mul_emod_self_left]
theorem putL_add (x v:Int) (w:Nat):putL (x * 256 ^ w+v) w=putL v w:=by
 unfold putL
 apply List.map_congr_left
 intro i hi
 exact bq_add x v (by have:=List.mem_range.1 hi;omega)
theorem putL_valU:∀ {l:List Int},Byts l→putL (valU l) l.length=l
 | [],_=>rfl
 | x :: l,h=>by
  have hl:Byts l:=fun v hv=>h v (List.mem_cons_of_mem _ hv)
  obtain ⟨h1,h2⟩:=valU_in hl
  obtain ⟨h3,h4⟩:=h x List.mem_cons_self
  have hp:(0:Int)<256 ^ l.length:=Int.pow_pos (by decide)
  rw [valU_cons,List.length_cons,putL_cons,putL_add,putL_valU hl]
  congr 1
  unfold bq
  rw [Int.add_comm,Int.add_mul_ediv_right _ _ (Int.ne_of_gt hp),Int.ediv_eq_zero_of_lt h1 h2,Int.zero_add,Int.emod_eq_of_lt h3 h4]
theorem bnd_ok {α β:Type}{p:Pr α}{f:α→Pr β}{r:List Int}{z:β×List Int}(h:bnd p f r=.ok z):∃ a r1,p r=.ok (a,r1)∧f a r1=.ok z:=by
 unfold bnd at h
 cases hp:p r with
 | error e=>rw [hp] at h;cases h
 | ok y=>obtain ⟨a,r1⟩:=y;rw [hp] at h;exact ⟨a,r1,rfl,h⟩
theorem txtL_bytesS {l:List Int}(h:Byts l):txtL (bytesS l)=l:=by
  unfold txtL bytesS
  dsimp only
  rw [List.map_map]
  conv=>rhs;rw [← List.map_id l]
  apply List.map_congr_left
  intro v hv
  have:=h v hv
  show ((UInt8.ofNat v.toNat).toNat:Int)=v
  rw [u8_ofNat _ ZO];omega
theorem bytesS_txtL (s:ByteArray):bytesS (txtL s)=s:=by
  unfold txtL bytesS
  rw [List.map_map]
  have:(s.data.toList.map ((fun v:Int=>UInt8.ofNat v.toNat) ∘ fun b:UInt8=>(b.toNat:Int)))=s.data.toList:=by
    conv=>rhs;rw [← List.map_id s.data.toList]
    apply List.map_congr_left
    intro b _
    show UInt8.ofNat ((b.toNat:Int)).toNat=b
    simp
  rw [this]
theorem bytesS_size (l:List Int):(bytesS l).size=l.length:=by simp [bytesS,ByteArray.size]
theorem num1_in {r:List Int}{n:Int}{r':List Int}(hb:Byts r) (h1:numX 1 r=.ok (n,r')):0≤n∧n<256:=by
 unfold numX at h1
 split at h1
 · cases h1
 · next k=>
   obtain ⟨rfl,-⟩:=Prod.mk.inj (Except.ok.inj h1)
   have h0:=valU_in (hb.take 1)
   rw [List.length_take,Nat.min_eq_left ZO] at h0
   rw [small_wrap h0.1 ZO];exact h0
end Go.Proofs.YtpmdhkjbhjgoaaaGreatD
namespace Go.Proofs.YtpmdhkjbhjgoaaaGreatV
set_option maxRecDepth 100000
set_option maxHeartbeats 4000000
open Go.RowKit Go.Proofs.YtpmdhkjbhjgoaaaGreatK Go.Proofs.YtpmdhkjbhjgoaaaGreatT Go.Proofs.YtpmdhkjbhjgoaaaGreatL

abbrev kII:Kd (List Int):=Kd.slice (Kd.int .i64)
def idxI {α:Type}(p:α→Bool) (l:List α):Int:=if l.any p then (l.findIdx p:Int) else -1
theorem idxI_stop {α:Type}{p:α→Bool}{l:List α}{i:Nat}{x:α}(h:∀ y ∈ l.take i,p y=false) (hi:l[i]?=some x) (hp:p x=true):idxI p l=(i:Int):=by
 obtain ⟨hl,rfl⟩:=List.getElem?_eq_some_iff.1 hi
 unfold idxI
 rw [if_pos (List.any_eq_true.2 ⟨_,List.getElem_mem hl,hp⟩)]
 rw [(List.findIdx_eq hl).2 ⟨hp,fun j hj=>h _ (List.mem_take_iff_getElem.2 ⟨j,by omega,rfl⟩)⟩]
theorem idxI_none {α:Type}{p:α→Bool}{l:List α}(h:∀ y ∈ l,p y=false):idxI p l = -1:=by
 unfold idxI
 rw [if_neg]
 intro k
 obtain ⟨x,hx,hp⟩:=List.any_eq_true.1 k
 rw [h x hx] at hp;cases hp
theorem take_not {α:Type}{p:α→Bool}{l:List α}{i:Nat}{x:α}(h:∀ y ∈ l.take i,p y=false) (hi:l[i]?=some x) (hp:p x=false):∀ y ∈ l.take (i+1),p y=false:=by
 intro y hy
 rw [List.take_add_one,hi] at hy
 rcases List.mem_append.1 hy with k | k
 · exact h y k
 · obtain rfl:y=x:=by simpa using k
   exact hp
theorem idxI_iff {α:Type}{p:α→Bool}{l:List α} : 0≤idxI p l↔l.any p=true:=by
 unfold idxI
 split
 · next h=>simp [h] <;> omega
 · next h=>simp [h] <;> omega
theorem idxI_at {α:Type}{p:α→Bool}{l:List α}(h:0≤idxI p l):∃ (k:Nat) (x:α),idxI p l=(k:Int)∧l[k]?=some x∧p x=true:=by
 have ha:=idxI_iff.1 h
 unfold idxI
 rw [if_pos ha]
 have hl:l.findIdx p<l.length:=List.findIdx_lt_length_of_exists (by simpa using ha)
 exact ⟨_,_,rfl,List.getElem?_eq_getElem hl,List.findIdx_getElem⟩
theorem indexFunc_int {B:Base}{w:World}{R:Res}(hS:St B [R] w) (l:List Int) (A:Option Addr) (cp:Nat) (hC:(Kd.int .i64).C B.e A l) (gf:Nat) (lb:Array Value) (p:Int→Bool) (hg:goodF Tryz.prog gf=true)
 (hh:∀ B' w (x:Int),Grow B.e B'.e→x ∈ l→St B' [R] w→CW gf (#[]++[Value.int .i64 x].toArray++lb) w (Ret B' (fun _:Unit=>True) (fun _=>.bool (p x)) (fun _=>[R]))) :
 CW 219 #[.slice A l.length cp,.func (.func gf) #[] lb] w (Ret B (fun _:Unit=>True) (fun _=>.int .i64 (idxI p l)) (fun _=>[R])):=by
 have hl:=hC.1
 refine ZX Tryz.func219 hS ?_
 refine Zh (Zi (Zp J (Zn (Za (Zh (Zh (Zi (Zo J (Zv J J (Zo J (Zn (Za (Zk (wLoop (ι:=Nat) (fun i=>[(0,.slice A l.length cp),(1,.func (.func gf) #[] lb),(7,.int .i64 (l.length:Int)),(8,.int .i64 (i:Int))]) (fun i=>[R]) (fun i=>i≤l.length∧∀ y ∈ l.take i,p y=false) (fun i=>l.length-i) 0 ?_ cv (Leads.has ZQ) ?_))))))))))))))
 exact ⟨Nat.zero_le _,by simp⟩
 rintro i ⟨hi,hs⟩
 try dsimp only
 refine Zh (Zi (Zx J J (Zn (Za (Zh (wC (fun h9=>?_) (fun h9=>?_)))))))
 refine Zj (Za (Zh (Zk (Zh (Zi (Zo J (Zp J (Zn (Za (Zh (Zi (Zo J (Zo J (Zo J (oIdx J J (hC) J ZO J J (fun e14 u14 cs14 hu14 hk14 hc14=>?_))))))))))))))))
 obtain rfl:=hk14
 refine Zlx hc14 ?_
 (refine oCallV rfl rfl rfl hg (fun w hS=>frame hS ZQ (fun B' hB hS'=>hh B' w u14 hB (List.mem_of_getElem? hu14) hS')) ?_;rintro ⟨⟩ -)
 refine Zn (Za (wC (fun h16=>?_) (fun h16=>?_)))
 refine Zh (Zi (Zo J (Zzc ?_)))
 exact ⟨(),trivial,by rw [idxI_stop hs hu14 (by simpa using h16)];rfl,Lh⟩
 refine Zj (Zze ?_)
 refine Zo J (Zn (Za ?_))
 exact ⟨rfl,i+1,⟨by omega,take_not hs hu14 (by simpa using h16)⟩,by omega,cv,Lh⟩
 refine Zm (Zzf ?_)
 obtain rfl:i=l.length:=by omega
 rw [List.take_length] at hs
 exact ⟨(),trivial,by rw [idxI_none hs];rfl,Lh⟩
theorem containsFunc_int {B:Base}{w:World}{R:Res}(hS:St B [R] w) (l:List Int) (A:Option Addr) (cp:Nat) (hC:(Kd.int .i64).C B.e A l) (gf:Nat) (lb:Array Value) (p:Int→Bool) (hg:goodF Tryz.prog gf=true)
 (hh:∀ B' w (x:Int),Grow B.e B'.e→x ∈ l→St B' [R] w→CW gf (#[]++[Value.int .i64 x].toArray++lb) w (Ret B' (fun _:Unit=>True) (fun _=>.bool (p x)) (fun _=>[R]))) :
 CW 204 #[.slice A l.length cp,.func (.func gf) #[] lb] w (Ret B (fun _:Unit=>True) (fun _=>.bool (l.any p)) (fun _=>[R])):=by
 refine ZX Tryz.func204 hS ?_
 refine Zh (Zi (Zp J (Zn (Zzn ?_))))
 (refine ZC0 rfl ZK (fun w hS=>frame hS ZQ (fun B' hB hS'=>indexFunc_int hS' l A cp (Kd.C_grow hB hC) gf lb p hg (fun B2 w2 x hB2 hx hS2=>hh B2 w2 x (hB.trans hB2) hx hS2))) ?_;rintro ⟨⟩ -)
 refine Z2 J J (Zzh ?_)
 exact ⟨(),trivial,by show Value.bool (decide (0≤idxI p l))=_;congr 1;rw [Bool.eq_iff_iff,decide_eq_true_eq];exact idxI_iff,Lh⟩
def nextR (x:ApiInstr) (i:Int):List Int:=if x.fOp=12 then [i+1,x.fN] else if x.fOp=11 then [x.fN] else if endsF x.fOp then [] else [i+1]
def nextL (x:ApiInstr) (i:Int):List Int:=Lib.compact ((nextR x i).mergeSort leI)
def nextF (code:List ApiInstr) (i:Int):List Int:=if i<0∨(code.length:Int)≤i then [] else nextL (code.getD i.toNat default) i
theorem nextR_len (x:ApiInstr) (i:Int):(nextR x i).length≤2:=by
 unfold nextR
 split <;> (try split) <;> (try split) <;> simp
theorem flow_Next {B:Base}{w:World}(hS:St B [] w) (A:Option Addr) (cp:Nat) (code:List ApiInstr) (hC:kApiInstr.C B.e A code) (i:Int) (W0:World) :
 CW 188 #[.slice A code.length cp,.int .i64 i] w (Ret B (fun _:Option Addr×Nat=>True) (fun z=>.slice z.1 (nextF code i).length z.2) (fun z=>[row (Kd.int .i64) W0 3 (.slice z.1 (nextF code i).length z.2) (nextF code i)])):=by
 have hl:=hC.1
 refine ZX Tryz.func188 hS ?_
 refine Zh (Zi (Zp J (Zn (Za (Zh (Zh (Zi (Zo J (Zx J J (Zo J (ZS (ZT 9) (fun h9=>?_) (fun h9=>?_))))))))))))
 refine Zr J J J J (Zr J J J J (Zr J J J J (Zr J J J J (Zt J J (Zn (Za (wCondT J (Zh (Zi (Zzb ?_))))))))))
 rw [show nextF code i=[] from if_pos (.inl h9)]
 exact ⟨(none,0),trivial,rfl,Leads.nilrow.trans Lh⟩
 refine Zq J J (Zo J (Zq J J (Zo J (Zq J J (Zv J J (Zq J J (Z2 J J (Zu J J (Zn (Za (wC (fun h14=>?_) (fun h14=>?_))))))))))))
 refine Zh (Zi (Zzb ?_))
 rw [show nextF code i=[] from if_pos (.inr h14)]
 exact ⟨(none,0),trivial,rfl,Leads.nilrow.trans Lh⟩
 obtain ⟨k,rfl⟩:=Int.eq_ofNat_of_zero_le (show 0≤i by omega)
 obtain ⟨x,hx⟩:∃ x,code[k]?=some x:=⟨_,List.getElem?_eq_getElem ZO⟩
 have hkl:k<code.length:=by omega
 have hnx:nextF code (k:Int)=nextL x (k:Int):=by unfold nextF;rw [if_neg ZO,Int.toNat_natCast,List.getD_eq_getElem?_getD,hx];rfl
 obtain ⟨e1,cs1,hE⟩:=hC.elm hx
 obtain rfl:=kApiInstr_open hE.K
 refine Zj (Za (Zh (Zi (Zp J (Zn (Za (Zh (Zh (Zi (Zo J (Zo J (oIdxE J J (hE) ZO J J ?_))))))))))))
 have hc17:=(hE).cell
 refine Zlx hc17 ?_
 refine oAlloc J ZP (fun b6=>?_)
 refine Zsa ?_
 refine Zn (Za (Zk (Zh (Zk (Zh (Zk (Zh (Zk (Zh (Zh (Zh (Zi (Zz (n:=0) (m:=0) J J J (Zld ?_))))))))))))))
 refine Zy J J (Zp J (Zn (Za (wC (fun h19=>?_) (fun h19=>?_)))))
 refine Zm (Zb (Zb (Ze (Za (Zi (Zo J (Zo J (oAdd J J ZO ?_))))))))
 refine oBuildSlice1 J J J J J ZP J (fun b35=>?_)
 refine oConv (Leads.nilrow (kd:=Kd.int .i64) (W:=W0) (e:=3)) (oApp1 ((k:Int)+1) J J J J ZP ZP J (by simp) J (fun g36 cp36=>?_))
 refine Zp J (Zn (Zd (Za (Zh (Zi (Zo J (Zz (n:=4) (m:=4) J J J (Zld ?_))))))))
 refine oBuildSlice1 J J J J J ZP J (fun b40=>?_)
 refine oApp1 x.fN J J J J ZP ZP J (by simp) J (fun g41 cp41=>?_)
 refine Zp J (Zn (Za (Zm (Zg J (Zb (Ze (Za (Zzi ?_))))))))
 (refine ZC0 rfl ZK (fun w hS=>frame hS ZQ (fun B' hB hS'=>sort_int laysn189_at hS' (by simp))) ?_;rintro ⟨⟩ -)
 refine Zn (Za (Zzi ?_))
 (refine ZC0 rfl ZK (fun w hS=>frame hS ZQ (fun B' hB hS'=>compact_int lays2n20_at hS' (by rw [List.length_mergeSort];simp))) ?_;rintro ⟨⟩ -)
 refine Zp J (Zza ?_)
 have hnr:nextF code (k:Int)=Lib.compact ((([]++[(k:Int)+1])++[x.fN]).mergeSort leI):=by rw [hnx];unfold nextL nextR;rw [if_pos h19];rfl
 rw [hnr]
 exact ⟨(_,_),trivial,rfl,Lh⟩
 refine Zj (Za (Zh (Zh (Zi (Zz (n:=0) (m:=0) J J J (Zld ?_))))))
 refine Zy J J (Zp J (Zn (Za (wC (fun h23=>?_) (fun h23=>?_)))))
 refine Zm (Zb (Zb (Zg J (Zb (Ze (Za (Zh (Zi (Zo J (Zz (n:=4) (m:=4) J J J (Zld ?_)))))))))))
 refine oBuildSlice1 J J J J J ZP J (fun b40=>?_)
 refine oConv (Leads.nilrow (kd:=Kd.int .i64) (W:=W0) (e:=3)) (oApp1 x.fN J J J J ZP ZP J (by simp) J (fun g41 cp41=>?_))
 refine Zp J (Zn (Za (Zm (Zg J (Zb (Ze (Za (Zzi ?_))))))))
 (refine ZC0 rfl ZK (fun w hS=>frame hS ZQ (fun B' hB hS'=>sort_int laysn189_at hS' (by simp))) ?_;rintro ⟨⟩ -)
 refine Zn (Za (Zzi ?_))
 (refine ZC0 rfl ZK (fun w hS=>frame hS ZQ (fun B' hB hS'=>compact_int lays2n20_at hS' (by rw [List.length_mergeSort];simp))) ?_;rintro ⟨⟩ -)
 refine Zp J (Zza ?_)
 have hnr:nextF code (k:Int)=Lib.compact (([]++[x.fN]).mergeSort leI):=by rw [hnx];unfold nextL nextR;rw [if_neg h19,if_pos h23];rfl
 rw [hnr]
 exact ⟨(_,_),trivial,rfl,Lh⟩
 refine Zj (Za (Zh (Zi (Zz (n:=0) (m:=0) J J J (Zld ?_)))))
 (refine ZC0 rfl ZK (fun w hS=>frame hS ZQ (fun B' hB hS'=>op_Ends hS' x.fOp)) ?_;rintro ⟨⟩ -)
 refine Zno ?_
 refine Zp J (Zn (Za (wC (fun h27=>?_) (fun h27=>?_))))
 refine Zm (Zb (Zg J (Zb (Zg J (Zb (Ze (Za (Zh (Zi (Zo J (Zo J (oAdd J J ZO ?_))))))))))))
 refine oBuildSlice1 J J J J J ZP J (fun b45=>?_)
 refine oConv (Leads.nilrow (kd:=Kd.int .i64) (W:=W0) (e:=3)) (oApp1 ((k:Int)+1) J J J J ZP ZP J (by simp) J (fun g46 cp46=>?_))
 refine Zp J (Zn (Za (Zm (Ze (Za (Zzi ?_))))))
 (refine ZC0 rfl ZK (fun w hS=>frame hS ZQ (fun B' hB hS'=>sort_int laysn189_at hS' (by simp))) ?_;rintro ⟨⟩ -)
 refine Zn (Za (Zzi ?_))
 (refine ZC0 rfl ZK (fun w hS=>frame hS ZQ (fun B' hB hS'=>compact_int lays2n20_at hS' (by rw [List.length_mergeSort];simp))) ?_;rintro ⟨⟩ -)
 refine Zp J (Zza ?_)
 have hnr:nextF code (k:Int)=Lib.compact (([]++[(k:Int)+1]).mergeSort leI):=by rw [hnx];unfold nextL nextR;rw [if_neg h19,if_neg h23,if_neg (by have:=h27;simp [endsF] at this ⊢;omega)];rfl
 rw [hnr]
 exact ⟨(_,_),trivial,rfl,Lh⟩
 refine Zj (Za (Zm (Zg J (Zb (Zg J (Zb (Zg J (Zb (Ze (Za (Zh (Zi (Zo J (oConv (Leads.nilrow (kd:=Kd.int .i64) (W:=W0) (e:=3)) ?_))))))))))))))
 (refine ZC0 rfl ZK (fun w hS=>frame hS ZQ (fun B' hB hS'=>sort_int laysn189_at hS' (by simp))) ?_;rintro ⟨⟩ -)
 refine Zn (Za (Zzi ?_))
 (refine ZC0 rfl ZK (fun w hS=>frame hS ZQ (fun B' hB hS'=>compact_int lays2n20_at hS' (by rw [List.length_mergeSort];simp))) ?_;rintro ⟨⟩ -)
 refine Zp J (Zza ?_)
 have hnr:nextF code (k:Int)=Lib.compact (([]:List Int).mergeSort leI):=by rw [hnx];unfold nextL nextR;rw [if_neg h19,if_neg h23,if_pos (by have:=h27;simp [endsF] at this ⊢;omega)]
 rw [hnr]
 exact ⟨(_,_),trivial,rfl,Lh⟩
def graphF (code:List ApiInstr):List (List Int):=(List.range code.length).map fun i:Nat=>nextF code (i:Int)
theorem graphF_len (code:List ApiInstr):(graphF code).length=code.length:=by simp [graphF]
theorem graphF_at {code:List ApiInstr}{i:Nat}(h:i<code.length):(graphF code)[i]?=some (nextF code (i:Int)):=by simp [graphF,h]
theorem take_at' {α:Type}{l:List α}{a:Nat}{u:α}(hu:l[a]?=some u):l.take a++[u]=l.take (a+1):=by
 rw [List.take_add_one,hu];rfl
theorem flow_graph {B:Base}{w:World}(hS:St B [] w) (A:Option Addr) (cp:Nat) (code:List ApiInstr) (hC:kApiInstr.C B.e A code) (hl:code.length≤1000) (W0:World) :
 CW 190 #[.slice A code.length cp] w
  (Ret B (fun z:Option Addr×Nat×List Hdr=>z.2.2.length=code.length) (fun z=>.slice z.1 code.length z.2.1) (fun z=>[row kHdr W0 46 (.slice z.1 code.length z.2.1) z.2.2,bun (rws (Kd.int .i64) W0 3 z.2.2 (graphF code))])):=by
 have hgl:=graphF_len code
 refine ZX Tryz.func190 hS ?_
 refine Zh (Zi (Zp J (Zn (Za (Zh (Zi (Zp J (Zn (Za (Zh (Zh (Zi (Zo J (Zv J J (Zo J (Zn (Za (Zk (wLoop (ι:=Nat×List Hdr×Option Addr×Nat) (fun z=>[(0,.slice A code.length cp),(3,.slice z.2.2.1 z.1 z.2.2.2),(6,.int .i64 (code.length:Int)),(7,.int .i64 (z.1:Int))]) (fun z=>[row kHdr W0 46 (.slice z.2.2.1 z.1 z.2.2.2) z.2.1,bun (rws (Kd.int .i64) W0 3 z.2.1 ((graphF code).take z.1))]) (fun z=>z.1≤code.length∧z.2.1.length=z.1) (fun z=>code.length-z.1) (0,[],none,0) ?_ cv (Leads.nilrow.trans (bun_nil.trans Lh)) ?_)))))))))))))))))))
 exact ⟨Nat.zero_le _,rfl⟩
 rintro ⟨a,hs,A5,c5⟩ ⟨ha,hhl⟩
 dsimp only at ha hhl
 have hxl:((graphF code).take a).length=a:=by rw [List.length_take];omega
 try dsimp only
 refine Zh (Zi (Zx J J (Zn (Za (Zh (wC (fun h8=>?_) (fun h8=>?_)))))))
 refine Zj (Za (Zh (Zk (Zh (Zi (Zo J (Zp J (Zn (Za (Zi (Zo J (Zo J (Zo J ?_)))))))))))))
 (refine ZC0 rfl ZK (fun w hS=>frame hS ZQ (fun B' hB hS'=>flow_Next hS' A cp code (Kd.C_grow hB hC) (a:Int) W0)) ?_;rintro ⟨A13,c13⟩ -)
 refine oBuildSlice1 J J J J J ZP J (fun b14=>?_)
 refine oApp1 (kd:=kHdr) ((A13,(nextF code (a:Int)).length,c13):Hdr) J J J J ZP ZP J ZO J (fun g15 cp15=>?_)
 refine oSnoc (kd:=Kd.int .i64) (W:=W0) (ei:=3) (u:=(A13,(nextF code (a:Int)).length,c13)) (l:=nextF code (a:Int)) (hs:=hs) (xss:=(graphF code).take a) ZP ZP ZO ?_
 rw [take_at' (graphF_at ZO),hhl]
 refine Zp J (Zn (Zze ?_))
 refine Zo J (Zn (Za ?_))
 exact ⟨rfl,(a+1,hs++[(A13,(nextF code (a:Int)).length,c13)],some ⟨g15,0,none⟩,cp15),⟨by show a+1≤_;omega,by show (hs++_).length=a+1;rw [List.length_append,hhl];rfl⟩,by show code.length-(a+1)<code.length-a;omega,cv,Lh⟩
 obtain rfl:a=code.length:=by omega
 rw [show (graphF code).take code.length=graphF code by rw [← hgl,List.take_length]]
 refine Zm (Zb (Zb (Ze (Zzq ?_))))
 exact ⟨(A5,c5,hs),hhl,rfl,Lh⟩
def outF (n:Nat) (to:Int):Bool:=decide (to<0∨(n:Int)≤to)
def flowF (code:List ApiInstr):Int:=if code.length=0 then 3 else if 64<code.length then 6 else if (graphF code).any (fun l=>l.any (outF code.length)) then 10 else 0
theorem flow_Check1 {B:Base}{w:World}(A:Option Addr) (n cp b1:Nat) (hS:St B [blk b1 48 [.slice A n cp]] w) (to:Int) :
 CW 205 #[.int .i64 to,.pointer (some ⟨b1,0,none⟩)] w (Ret B (fun _:Unit=>True) (fun _=>.bool (outF n to)) (fun _=>[blk b1 48 [.slice A n cp]])):=by
 refine ZX Tryz.func205 hS ?_
 refine Zh (Zi (Zp J (Zn (Za (Zh (Zi (Zo J (Zx J J (Zo J (ZS (ZT 6) (fun h6=>?_) (fun h6=>?_)))))))))))
 refine Zr J J J J (Zr J J J J (Zr J J J J (Zr J J J J (Zt J J (Zzh ?_)))))
 exact ⟨(),trivial,by simp_all [resVal,outF] <;> omega,Lh⟩
 refine Zq J J (Zo J (Zzg ?_))
 refine Zq J J (Zv J J (Zq J J (Z2 J J (Zu J J (Zzh ?_)))))
 exact ⟨(),trivial,by simp_all [resVal,outF] <;> omega,Lh⟩
theorem flow_Check {B:Base}{w:World}(hS:St B [] w) (A:Option Addr) (cp:Nat) (code:List ApiInstr) (hC:kApiInstr.C B.e A code) :
 CW 179 #[.slice A code.length cp] w (Ret B (fun _:Unit=>True) (fun _=>.int .i64 (flowF code)) (fun _=>[])):=by
 have hgl:=graphF_len code
 refine ZX Tryz.func179 hS ?_
 refine Zh (Zi (oBox J ZP (fun b1=>?_)))
 refine Zp J (Zn (Za (Zh (Zk (Zh (Zi (Zld ?_)))))))
 refine Zv J J (Zy J J (Zp J (Zn (Za (wC (fun h5=>?_) (fun h5=>?_))))))
 refine Zh (Zi (Zzd ?_))
 exact ⟨(),trivial,by unfold flowF;rw [if_pos ZO];rfl,Lh⟩
 refine Zh (Zi (Zld ?_))
 refine Zv J J (Z1 J J (Zp J (Zn (Za (wC (fun h9=>?_) (fun h9=>?_))))))
 refine Zh (Zi (Zzd ?_))
 exact ⟨(),trivial,by unfold flowF;rw [if_neg ZO,if_pos ZO];rfl,Lh⟩
 have hc0:¬ code.length=0:=by omega
 have hc1:¬ 64<code.length:=by omega
 refine Zj (Zd (Za (Zh (Zh (Zi (Zld ?_))))))
 (refine ZC0 rfl ZK (fun w hS=>frame hS ZQ (fun B' hB hS'=>flow_graph hS' A cp code (Kd.C_grow hB hC) ZO B.e)) ?_;rintro ⟨A14,c14,hs14⟩ hl14)
 dsimp only at hl14 ⊢
 refine ZS0 (t:=14) (v':=.slice A14 (graphF code).length c14) rfl (by rw [hgl]) ?_
 refine Zv J J (Zo J (Zn (Za (wFreeze [row kHdr B.e 46 (.slice A14 code.length c14) hs14,bun (rws (Kd.int .i64) B.e 3 hs14 (graphF code))] ZQ (fun B1 hB1 hq1=>?_)))))
 have hCg:=grid_C (hq1 _ _ ZP) (hq1 _ _ ZP) (by rw [hgl];exact hl14) hB1
 refine Zk (wLoop (ι:=Nat) (fun i=>[(1,.pointer (some ⟨b1,0,none⟩)),(14,.slice A14 (graphF code).length c14),(15,.int .i64 ((graphF code).length:Int)),(16,.int .i64 (i:Int))]) (fun i=>[blk b1 48 [.slice A code.length cp]]) (fun i=>i≤code.length∧∀ y ∈ (graphF code).take i,y.any (outF code.length)=false) (fun i=>code.length-i) 0 ?_ cv (Leads.has ZQ) ?_)
 exact ⟨Nat.zero_le _,by simp⟩
 rintro i ⟨hi,hs⟩
 try dsimp only
 refine Zh (Zi (Zx J J (Zn (Za (Zh (wC (fun h17=>?_) (fun h17=>?_)))))))
 refine Zj (Za (Zh (Zk (Zh (Zi (oIdx J J (hCg) J ZO J J (fun e18 u18 cs18 hu18 hk18 hc18=>?_)))))))
 obtain ⟨A0,c0,rfl,hle18,g0⟩:=hk18
 refine Zlx hc18 ?_
 refine Zp J (Zn (Za (Zh (Zi (Zo J (oMakeFunc J ?_))))))
 (refine ZC0 rfl ZK (fun w hS=>frame hS ZQ (fun B' hB hS'=>containsFunc_int hS' u18 A0 c0 (Kd.C_grow hB g0) _ _ (outF code.length) ZK (fun B2 w2 x hB2 hx hS2=>flow_Check1 A code.length cp b1 hS2 x))) ?_;rintro ⟨⟩ -)
 refine Zn (Za (wC (fun h22=>?_) (fun h22=>?_)))
 refine Zh (Zi (Zzc ?_))
 exact ⟨(),trivial,by unfold flowF;rw [if_neg hc0,if_neg hc1,if_pos (List.any_eq_true.2 ⟨u18,List.mem_of_getElem? hu18,by simpa using h22⟩)];rfl,Lh⟩
 refine Zj (Zze ?_)
 refine Zo J (Zn (Za ?_))
 exact ⟨rfl,i+1,⟨by omega,take_not (p:=fun l:List Int=>l.any (outF code.length)) hs hu18 (by simpa using h22)⟩,by omega,cv,Lh⟩
 refine Zm (Zzf ?_)
 obtain rfl:i=code.length:=by omega
 rw [← hgl,List.take_length] at hs
 exact ⟨(),trivial,by unfold flowF;rw [if_neg hc0,if_neg hc1,if_neg (by intro k;obtain ⟨y,hy,hp⟩:=List.any_eq_true.1 k;have:=hs y hy;rw [hgl,hp] at this;cases this)];rfl,Lh⟩
def kindBad (par:Int) (i:Nat) (k:Int):Bool:=decide (textF k=ByteArray.empty) || (decide ((i:Int)<par) && decide (k≠0))
def slotsF (f:ApiFunc):Int:=if isC f.fClass then (if 16<f.fKinds.length then 6 else if (f.fKinds.length:Int)<parF f.fClass then 2 else if (List.range f.fKinds.length).any (fun i=>kindBad (parF f.fClass) i (f.fKinds.getD i 0)) then 8 else 0) else 14
theorem getDat {α:Type}{l:List α}{i:Nat}{o d:α}(h:l[i]?=some o):l.getD i d=o:=by rw [List.getD_eq_getElem?_getD,h];rfl
theorem fun_slots {B:Base}{w:World}(hS:St B [] w) (f:ApiFunc) (fc:List Value) (hf:kApiFunc.K B.e f fc) :
 CW 153 #[.agg fc.toArray] w (Ret B (fun _:Unit=>True) (fun _=>.int .i64 (slotsF f)) (fun _=>[])):=by
 obtain ⟨A0,c0,A1,c1,A2,c2,A3,c3,rfl,l0,g0,l1,g1,l2,g2,l3,g3⟩:=kApiFunc_open hf
 have hp:=parF_in f.fClass
 refine ZX Tryz.func153 hS ?_
 refine Zh (Zi (oBox J ZP (fun b1=>?_)))
 refine Zp J (Zn (Za (Zh (Zi (Zz (n:=0) (m:=0) J J J (Zld ?_))))))
 (refine ZC0 rfl ZK (fun w hS=>frame hS ZQ (fun B' hB hS'=>sig_Params hS' f.fClass)) ?_;rintro ⟨⟩ -)
 refine Zp J (Zn (Za (Zh (Zk (Zh (Zi (Zz (n:=0) (m:=0) J J J (Zld ?_))))))))
 (refine ZC0 rfl ZK (fun w hS=>frame hS ZQ (fun B' hB hS'=>sig_Is hS' f.fClass)) ?_;rintro ⟨⟩ -)
 refine Zno ?_
 refine Zp J (Zn (Za (wC (fun h9=>?_) (fun h9=>?_))))
 refine Zh (Zi (Zzd ?_))
 exact ⟨(),trivial,by unfold slotsF;rw [if_neg (by simpa using h9)];rfl,Lh⟩
 have hc:isC f.fClass=true:=by simpa using h9
 refine Zh (Zi (Zz (n:=1) (m:=1) J J J (Zld ?_)))
 refine Zv J J (Z1 J J (Zp J (Zn (Za (wC (fun h14=>?_) (fun h14=>?_))))))
 refine Zh (Zi (Zzd ?_))
 exact ⟨(),trivial,by unfold slotsF;rw [if_pos hc,if_pos ZO];rfl,Lh⟩
 refine Zh (Zi (Zz (n:=1) (m:=1) J J J (Zld ?_)))
 refine Zv J J (Zo J (Zx J J (Zp J (Zn (Za (wC (fun h19=>?_) (fun h19=>?_)))))))
 refine Zh (Zi (Zzd ?_))
 exact ⟨(),trivial,by unfold slotsF;rw [if_pos hc,if_neg ZO,if_pos ZO];rfl,Lh⟩
 have hk1:¬ 16<f.fKinds.length:=by omega
 have hk2:¬ (f.fKinds.length:Int)<parF f.fClass:=by omega
 refine Zj (Zd (Za (Zh (Zh (Zi (Zz (n:=1) (m:=1) J J J (Zld ?_)))))))
 refine Zv J J (Zo J (Zn (Za (Zk (wLoop (ι:=Nat) (fun i=>[(3,.int .i64 (parF f.fClass)),(26,.slice A0 f.fKinds.length c0),(27,.int .i64 (f.fKinds.length:Int)),(28,.int .i64 (i:Int))]) (fun i=>[]) (fun i=>i≤f.fKinds.length∧∀ j,j<i→kindBad (parF f.fClass) j (f.fKinds.getD j 0)=false) (fun i=>f.fKinds.length-i) 0 ?_ cv (Leads.has ZQ) ?_)))))
 exact ⟨Nat.zero_le _,fun j hj=>by omega⟩
 rintro i ⟨hi,hs⟩
 try dsimp only
 refine Zh (Zi (Zx J J (Zn (Za (Zh (wC (fun h29=>?_) (fun h29=>?_)))))))
 refine Zj (Za (Zh (Zk (Zh (Zi (Zo J (oIdx J J (g0) J ZO J J (fun e31 u31 cs31 hu31 hk31 hc31=>?_))))))))
 obtain rfl:=hk31
 refine Zlx hc31 ?_
 refine Zp J (Zp J (Zn (Za (Zzi ?_))))
 (refine ZC0 rfl ZK (fun w hS=>frame hS ZQ (fun B' hB hS'=>sig_Text hS' u31)) ?_;rintro ⟨⟩ -)
 refine oSEq J J (Zo J (ZS (ZT 36) (fun h36=>?_) (fun h36=>?_)))
 have h36:textF u31=ByteArray.empty:=h36
 refine Zr J J J J (Zr J J J J (Zr J J J J (Zr J J J J (Zs J J J (Zs J J J (Zr J J J J (Zt J J (Zn (Za (wCondT J (Zh (Zi (Zzc ?_)))))))))))))
 exact ⟨(),trivial,by unfold slotsF;rw [if_pos hc,if_neg hk1,if_neg hk2,if_pos (any_T (show i<f.fKinds.length by omega) (by rw [getDat hu31];simp_all [kindBad]))];rfl,Lh⟩
 have h36:¬ textF u31=ByteArray.empty:=h36
 refine Zq J J (Zo J (Zq J J (Zo J (Zq J J (Zx J J (Zq J J (Zo J (ZS (ZT 40) (fun h40=>?_) (fun h40=>?_)))))))))
 refine Zq J J (Zo J (Zq J J (Z0 J J (Zq J J (Zt J J (Zu J J (Zn (Za (wC (fun h44=>?_) (fun h44=>?_))))))))))
 refine Zh (Zi (Zzc ?_))
 exact ⟨(),trivial,by unfold slotsF;rw [if_pos hc,if_neg hk1,if_neg hk2,if_pos (any_T (show i<f.fKinds.length by omega) (by rw [getDat hu31];simp_all [kindBad]))];rfl,Lh⟩
 refine Zj (Zze ?_)
 refine Zo J (Zn (Za ?_))
 exact ⟨rfl,i+1,⟨by omega,fun j hj=>by
 by_cases e:j=i
 · subst e;rw [getDat hu31];simp_all [kindBad] <;> omega
 · exact hs j ZO⟩,by omega,cv,Lh⟩
 refine Zr J J J J (Zr J J J J (Zq J J (Zu J J (Zu J J (Zn (Za (wCondF J (Zj (Zze ?_)))))))))
 refine Zo J (Zn (Za ?_))
 exact ⟨rfl,i+1,⟨by omega,fun j hj=>by
 by_cases e:j=i
 · subst e;rw [getDat hu31];simp_all [kindBad] <;> omega
 · exact hs j ZO⟩,by omega,cv,Lh⟩
 refine Zm (Zzf ?_)
 obtain rfl:i=f.fKinds.length:=by omega
 exact ⟨(),trivial,by unfold slotsF;rw [if_pos hc,if_neg hk1,if_neg hk2,if_neg (by rw [any_F hs];simp)];rfl,Lh⟩
def ceF (x:ApiInstr):Int:=if icF x≠0 then icF x else if ownF x.fOp then 0 else 8
def codeF (f:ApiFunc):Int:=if flowF f.fCode≠0 then flowF f.fCode else fstE (f.fCode.map ceF)
theorem fun_code {B:Base}{w:World}(hS:St B [] w) (f:ApiFunc) (fc:List Value) (hf:kApiFunc.K B.e f fc) :
 CW 154 #[.agg fc.toArray] w (Ret B (fun _:Unit=>True) (fun _=>.int .i64 (codeF f)) (fun _=>[])):=by
 obtain ⟨A0,c0,A1,c1,A2,c2,A3,c3,rfl,l0,g0,l1,g1,l2,g2,l3,g3⟩:=kApiFunc_open hf
 have hcl:=g2.1
 refine ZX Tryz.func154 hS ?_
 refine Zh (Zi (oBox J ZP (fun b1=>?_)))
 refine Zp J (Zn (Za (Zh (Zh (Zi (Zz (n:=7) (m:=7) J J J (Zld ?_)))))))
 (refine ZC0 rfl ZK (fun w hS=>frame hS ZQ (fun B' hB hS'=>flow_Check hS' A2 c2 f.fCode (Kd.C_grow hB g2))) ?_;rintro ⟨⟩ -)
 refine Zp J (Zn (Za (Zh (Zi (Zo J (Z0 J J (Zn (Za (wC (fun h11=>?_) (fun h11=>?_))))))))))
 refine Zh (Zi (Zo J (Zzb ?_)))
 exact ⟨(),trivial,by unfold codeF;rw [if_pos h11];rfl,Lh⟩
 refine Zj (Za (Zh (Zh (Zi (Zz (n:=7) (m:=7) J J J (Zld ?_))))))
 refine Zv J J (Zo J (Zn (Za (Zk (wLoop (ι:=Nat) (fun i=>[(14,.slice A2 f.fCode.length c2),(15,.int .i64 (f.fCode.length:Int)),(16,.int .i64 (i:Int))]) (fun i=>[]) (fun i=>i≤f.fCode.length∧fstE ((f.fCode.map ceF).take i)=0) (fun i=>f.fCode.length-i) 0 ?_ cv (Leads.has ZQ) ?_)))))
 exact ⟨Nat.zero_le _,rfl⟩
 rintro i ⟨hi,hs⟩
 try dsimp only
 refine Zh (Zi (Zx J J (Zn (Za (Zh (wC (fun h17=>?_) (fun h17=>?_)))))))
 obtain ⟨x,hx⟩:∃ x,f.fCode[i]?=some x:=⟨_,List.getElem?_eq_getElem ZO⟩
 have hxe:(f.fCode.map ceF)[i]?=some (ceF x):=by rw [List.getElem?_map,hx];rfl
 obtain ⟨e1,cs1,hE⟩:=g2.elm hx
 obtain rfl:=kApiInstr_open hE.K
 refine Zj (Za (Zh (Zk (Zh (Zi (oIdxE J J (hE) ZO J J ?_))))))
 have hc18:=(hE).cell
 refine Zlx hc18 ?_
 refine oAlloc J ZP (fun b5=>?_)
 refine Zsa ?_
 refine Zn (Za (Zh (Zh (Zi (Zla ?_)))))
 (refine ZC0 rfl ZK (fun w hS=>frame hS ZQ (fun B' hB hS'=>instr_Check hS' x _ (kApiInstr_mk _ x))) ?_;rintro ⟨⟩ -)
 refine Zp J (Zn (Za (Zh (Zi (Zo J (Z0 J J (Zn (Za (wC (fun h23=>?_) (fun h23=>?_))))))))))
 refine Zh (Zi (Zo J (Zp J (Zzj ?_))))
 exact ⟨(),trivial,by unfold codeF;rw [if_neg h11,fstE_stop hs hxe (by unfold ceF;rw [if_pos h23];exact h23)];unfold ceF;rw [if_pos h23];rfl,Lh⟩
 refine Zj (Za (Zh (Zi (Zz (n:=0) (m:=0) J J J (Zld ?_)))))
 (refine ZC0 rfl ZK (fun w hS=>frame hS ZQ (fun B' hB hS'=>op_Own hS' x.fOp)) ?_;rintro ⟨⟩ -)
 refine Zno ?_
 refine Zn (Za (wC (fun h28=>?_) (fun h28=>?_)))
 refine Zh (Zi (Zzc ?_))
 have hce:ceF x=8:=by unfold ceF;rw [if_neg h23,if_neg (by simpa using h28)]
 exact ⟨(),trivial,by unfold codeF;rw [if_neg h11,fstE_stop hs hxe (by rw [hce];decide),hce];rfl,Lh⟩
 refine Zj (Zze ?_)
 refine Zo J (Zn (Za ?_))
 exact ⟨rfl,i+1,⟨by omega,fstE_next hs hxe (by unfold ceF;rw [if_neg h23,if_pos (by simpa using h28)])⟩,by omega,cv,Lh⟩
 refine Zm (Zzf ?_)
 obtain rfl:i=f.fCode.length:=by omega
 rw [← List.length_map (f:=ceF),List.take_length] at hs
 exact ⟨(),trivial,by unfold codeF;rw [if_neg h11,hs];rfl,Lh⟩
def lineBad (x:ApiLine):Bool:=decide (x.fLine<0∨65535<x.fLine)
def linesF (f:ApiFunc):Int:=if 16<f.fLines.length then 6 else if f.fLines.any lineBad then 9 else if (f.fLines.map (·.fAt)).getD 0 0≠0∨risF f.fCode.length (-1) (f.fLines.map (·.fAt))=false then 9 else 0
theorem fun_lines {B:Base}{w:World}(hS:St B [] w) (f:ApiFunc) (fc:List Value) (hf:kApiFunc.K B.e f fc) :
 CW 155 #[.agg fc.toArray] w (Ret B (fun _:Unit=>True) (fun _=>.int .i64 (linesF f)) (fun _=>[])):=by
 obtain ⟨A0,c0,A1,c1,A2,c2,A3,c3,rfl,l0,g0,l1,g1,l2,g2,l3,g3⟩:=kApiFunc_open hf
 have hcl:=g2.1
 have hml:(f.fLines.map (·.fAt)).length=f.fLines.length:=List.length_map _
 refine ZX Tryz.func155 hS ?_
 refine Zh (Zi (oBox J ZP (fun b1=>?_)))
 refine Zp J (Zn (Za (Zh (Zh (Zi (Zz (n:=6) (m:=6) J J J (Zld ?_)))))))
 refine Zv J J (Z1 J J (Zn (Za (wC (fun h9=>?_) (fun h9=>?_)))))
 refine Zh (Zi (Zzb ?_))
 exact ⟨(),trivial,by unfold linesF;rw [if_pos ZO];rfl,Lh⟩
 have hk0:¬ 16<f.fLines.length:=by omega
 refine Zj (Za (Zh (Zi (Zp J (Zn (Za (Zh (Zh (Zi (Zz (n:=6) (m:=6) J J J (Zld ?_)))))))))))
 refine Zv J J (Zo J (Zn (Za (Zk (wLoop (ι:=Nat×Option Addr×Nat) (fun z=>[(1,.pointer (some ⟨b1,0,none⟩)),(3,.slice z.2.1 ((f.fLines.map (·.fAt)).take z.1).length z.2.2),(11,.slice A1 f.fLines.length c1),(12,.int .i64 (f.fLines.length:Int)),(13,.int .i64 (z.1:Int))]) (fun z=>[blk b1 51 [.int .i64 f.fClass,.slice A0 f.fKinds.length c0,.int .i64 f.fPad,.bool f.fNosplit,.int .i64 f.fFrom,.int .i64 f.fTo,.slice A1 f.fLines.length c1,.slice A2 f.fCode.length c2,.slice A3 f.fRelocs.length c3],row (Kd.int .i64) B.e 3 (.slice z.2.1 ((f.fLines.map (·.fAt)).take z.1).length z.2.2) ((f.fLines.map (·.fAt)).take z.1)]) (fun z=>z.1≤f.fLines.length∧∀ y ∈ f.fLines.take z.1,lineBad y=false) (fun z=>f.fLines.length-z.1) (0,none,0) ?_ cv (Leads.nilrow.trans Lh) ?_)))))
 exact ⟨Nat.zero_le _,by simp⟩
 rintro ⟨i,A6,c6⟩ ⟨hi,hs⟩
 dsimp only at hi hs
 have hti:((f.fLines.map (·.fAt)).take i).length=i:=by rw [List.length_take];omega
 try dsimp only
 refine Zh (Zi (Zx J J (Zn (Za (Zh (wC (fun h14=>?_) (fun h14=>?_)))))))
 obtain ⟨x,hx⟩:∃ x,f.fLines[i]?=some x:=⟨_,List.getElem?_eq_getElem ZO⟩
 have htk:=take_at' (l:=f.fLines.map (·.fAt)) (a:=i) (u:=x.fAt) (by rw [List.getElem?_map,hx];rfl)
 obtain ⟨e1,cs1,hE⟩:=g1.elm hx
 obtain rfl:=kApiLine_open hE.K
 refine Zj (Za (Zh (Zk (Zh (Zi (oIdxE J J (hE) ZO J J ?_))))))
 have hc15:=(hE).cell
 refine Zlx hc15 ?_
 refine oAlloc J ZP (fun b5=>?_)
 refine Zsa ?_
 refine Zn (Za (Zh (Zh (Zi (Zz (n:=1) (m:=1) J J J (Zld ?_))))))
 refine Zx J J (Zo J (ZS (ZT 20) (fun h20=>?_) (fun h20=>?_)))
 refine Zr J J J J (Zr J J J J (Zr J J J J (Zt J J (Zn (Za (wCondT J (Zh (Zi (Zp J (Zzj ?_))))))))))
 exact ⟨(),trivial,by unfold linesF;rw [if_neg hk0,if_pos (List.any_eq_true.2 ⟨x,List.mem_of_getElem? hx,decide_eq_true ZO⟩)];rfl,Lh⟩
 refine Zq J J (Zz (n:=1) (m:=1) J J J (Zzg ?_))
 refine Zq J J (Z1 J J (Zu J J (Zn (Za (wC (fun h24=>?_) (fun h24=>?_))))))
 refine Zh (Zi (Zp J (Zzj ?_)))
 exact ⟨(),trivial,by unfold linesF;rw [if_neg hk0,if_pos (List.any_eq_true.2 ⟨x,List.mem_of_getElem? hx,decide_eq_true ZO⟩)];rfl,Lh⟩
 refine Zj (Za (Zi (Zo J (Zz (n:=0) (m:=0) J J J (Zld ?_)))))
 refine oBuildSlice1 J J J J J ZP J (fun b28=>?_)
 refine oApp1 x.fAt J J J J ZP ZP J ZO J (fun g29 cp29=>?_)
 rw [show ((f.fLines.map (·.fAt)).take i).length+1=((f.fLines.map (·.fAt)).take (i+1)).length by rw [← htk,List.length_append];rfl,htk]
 refine Zp J (Zn (Zze ?_))
 refine Zo J (Zn (Za ?_))
 exact ⟨rfl,(i+1,some ⟨g29,0,none⟩,cp29),⟨by show i+1≤_;omega,take_not hs hx (by unfold lineBad;exact decide_eq_false ZO)⟩,by show f.fLines.length-(i+1)<f.fLines.length-i;omega,cv,Lh⟩
 obtain rfl:i=f.fLines.length:=by omega
 rw [List.take_length] at hs
 have hna:¬ f.fLines.any lineBad=true:=by intro k;obtain ⟨y,hy,hp⟩:=List.any_eq_true.1 k;rw [hs y hy] at hp;cases hp
 rw [← hml,List.take_length]
 generalize hP:f.fLines.map (·.fAt)=P at *
 refine Zm (Zb (Zb (Ze (Za (Zh (Zh (Zi (Zo J (Zv J J (Z1 J J (Zo J (ZS (ZT 34) (fun h34=>?_) (fun h34=>?_)))))))))))))
 refine Zq J J (Zo J (Zq J J (ZR (i:=0) J J ZP ZO J J (fun g36 hg36=>?_))))
 subst hg36
 refine Zq J J (ZR1 (i:=0) J ZP ZO J (fun u37 hu37=>?_))
 have h0v:P.getD 0 0=u37:=getDat hu37
 refine Zq J J (Z0 J J (Zt J J (Zo J (ZS (ZT 40) (fun h40=>?_) (fun h40=>?_)))))
 refine Zr J J J J (Zr J J J J (Zr J J J J (Zr J J J J (Zr J J J J (Zr J J J J (Zt J J (Zn (Za (wCondT J (Zh (Zi (Zzb ?_))))))))))))
 exact ⟨(),trivial,by unfold linesF;rw [if_neg hk0,if_neg hna,hP,if_pos (.inl (by rw [h0v];exact h40))];rfl,Lh⟩
 refine Zq J J (Zz (n:=7) (m:=7) J J J (Zzg ?_))
 refine Zq J J (Zv J J (Zq J J (Zo J (Zq J J ?_))))
 (refine ZD J (fun w B' hB hR hS'=>fun_rising hS' (f.fCode.length:Int) (some ⟨g36,0,none⟩) c6 P (row_Cs (W:=B.e) (e:=3) (n:=P.length) (cp:=c6) (hR _ _ ZP))) ?_;rintro ⟨⟩ -)
 refine Zq J J (Zno ?_)
 refine Zu J J (Zn (Za (wC (fun h47=>?_) (fun h47=>?_))))
 refine Zh (Zi (Zzb ?_))
 exact ⟨(),trivial,by unfold linesF;rw [if_neg hk0,if_neg hna,hP,if_pos (.inr (by simpa using h47))];rfl,Lh⟩
 refine Zj (Za (Zh (Zi (Zzh ?_))))
 exact ⟨(),trivial,by unfold linesF;rw [if_neg hk0,if_neg hna,hP,if_neg (by rintro (h | h);exact h40 (h0v ▸ h);simp [h] at h47)];rfl,Lh⟩
 have h0v:P.getD 0 0=0:=by cases P with | nil=>rfl | cons y P=>simp at h34
 refine Zr J J J J (Zr J J J J (Zr J J J J (Zr J J J J (Zu J J (Zo J (Zq J J (Zz (n:=7) (m:=7) J J J (Zzg ?_))))))))
 refine Zq J J (Zv J J (Zq J J (Zo J (Zq J J ?_))))
 (refine ZD J (fun w B' hB hR hS'=>fun_rising hS' (f.fCode.length:Int) A6 c6 P (row_Cs (W:=B.e) (e:=3) (n:=P.length) (cp:=c6) (hR _ _ ZP))) ?_;rintro ⟨⟩ -)
 refine Zq J J (Zno ?_)
 refine Zu J J (Zn (Za (wC (fun h47=>?_) (fun h47=>?_))))
 refine Zh (Zi (Zzb ?_))
 exact ⟨(),trivial,by unfold linesF;rw [if_neg hk0,if_neg hna,hP,if_pos (.inr (by simpa using h47))];rfl,Lh⟩
 refine Zj (Za (Zh (Zi (Zzh ?_))))
 exact ⟨(),trivial,by unfold linesF;rw [if_neg hk0,if_neg hna,hP,if_neg (by rintro (h | h);exact h h0v;simp [h] at h47)];rfl,Lh⟩
def relBad (x:ApiReloc):Bool:=decide (x.fSym<0∨32≤x.fSym)
def relocsF (f:ApiFunc):Int:=if f.fRelocs.any relBad then 11 else if risF f.fCode.length (-1) (f.fRelocs.map (·.fAt)) then 0 else 11
theorem fun_relocs {B:Base}{w:World}(hS:St B [] w) (f:ApiFunc) (fc:List Value) (hf:kApiFunc.K B.e f fc) (hsm:f.fRelocs.length≤1000) :
 CW 156 #[.agg fc.toArray] w (Ret B (fun _:Unit=>True) (fun _=>.int .i64 (relocsF f)) (fun _=>[])):=by
 obtain ⟨A0,c0,A1,c1,A2,c2,A3,c3,rfl,l0,g0,l1,g1,l2,g2,l3,g3⟩:=kApiFunc_open hf
 have hcl:=g2.1
 have hml:(f.fRelocs.map (·.fAt)).length=f.fRelocs.length:=List.length_map _
 refine ZX Tryz.func156 hS ?_
 refine Zh (Zi (oBox J ZP (fun b1=>?_)))
 refine Zp J (Zn (Za (Zh (Zi (Zp J (Zn (Za (Zh (Zh (Zi (Zz (n:=8) (m:=8) J J J (Zld ?_))))))))))))
 refine Zv J J (Zo J (Zn (Za (Zk (wLoop (ι:=Nat×Option Addr×Nat) (fun z=>[(1,.pointer (some ⟨b1,0,none⟩)),(3,.slice z.2.1 ((f.fRelocs.map (·.fAt)).take z.1).length z.2.2),(7,.slice A3 f.fRelocs.length c3),(8,.int .i64 (f.fRelocs.length:Int)),(9,.int .i64 (z.1:Int))]) (fun z=>[blk b1 51 [.int .i64 f.fClass,.slice A0 f.fKinds.length c0,.int .i64 f.fPad,.bool f.fNosplit,.int .i64 f.fFrom,.int .i64 f.fTo,.slice A1 f.fLines.length c1,.slice A2 f.fCode.length c2,.slice A3 f.fRelocs.length c3],row (Kd.int .i64) B.e 3 (.slice z.2.1 ((f.fRelocs.map (·.fAt)).take z.1).length z.2.2) ((f.fRelocs.map (·.fAt)).take z.1)]) (fun z=>z.1≤f.fRelocs.length∧∀ y ∈ f.fRelocs.take z.1,relBad y=false) (fun z=>f.fRelocs.length-z.1) (0,none,0) ?_ cv (Leads.nilrow.trans Lh) ?_)))))
 exact ⟨Nat.zero_le _,by simp⟩
 rintro ⟨i,A6,c6⟩ ⟨hi,hs⟩
 dsimp only at hi hs
 have hti:((f.fRelocs.map (·.fAt)).take i).length=i:=by rw [List.length_take];omega
 try dsimp only
 refine Zh (Zi (Zx J J (Zn (Za (Zh (wC (fun h10=>?_) (fun h10=>?_)))))))
 obtain ⟨x,hx⟩:∃ x,f.fRelocs[i]?=some x:=⟨_,List.getElem?_eq_getElem ZO⟩
 have htk:=take_at' (l:=f.fRelocs.map (·.fAt)) (a:=i) (u:=x.fAt) (by rw [List.getElem?_map,hx];rfl)
 obtain ⟨e1,cs1,hE⟩:=g3.elm hx
 obtain rfl:=kApiReloc_open hE.K
 refine Zj (Za (Zh (Zk (Zh (Zi (oIdxE J J (hE) ZO J J ?_))))))
 have hc11:=(hE).cell
 refine Zlx hc11 ?_
 refine oAlloc J ZP (fun b5=>?_)
 refine Zsa ?_
 refine Zn (Za (Zh (Zh (Zi (Zz (n:=1) (m:=1) J J J (Zld ?_))))))
 refine Zx J J (Zo J (ZS (ZT 16) (fun h16=>?_) (fun h16=>?_)))
 refine Zr J J J J (Zr J J J J (Zr J J J J (Zt J J (Zn (Za (wCondT J (Zh (Zi (Zp J (Zzj ?_))))))))))
 exact ⟨(),trivial,by unfold relocsF;rw [if_pos (List.any_eq_true.2 ⟨x,List.mem_of_getElem? hx,decide_eq_true ZO⟩)];rfl,Lh⟩
 refine Zq J J (Zz (n:=1) (m:=1) J J J (Zzg ?_))
 refine Zq J J (Z2 J J (Zu J J (Zn (Za (wC (fun h20=>?_) (fun h20=>?_))))))
 refine Zh (Zi (Zp J (Zzj ?_)))
 exact ⟨(),trivial,by unfold relocsF;rw [if_pos (List.any_eq_true.2 ⟨x,List.mem_of_getElem? hx,decide_eq_true ZO⟩)];rfl,Lh⟩
 refine Zj (Za (Zi (Zo J (Zz (n:=0) (m:=0) J J J (Zld ?_)))))
 refine oBuildSlice1 J J J J J ZP J (fun b24=>?_)
 refine oApp1 x.fAt J J J J ZP ZP J ZO J (fun g25 cp25=>?_)
 rw [show ((f.fRelocs.map (·.fAt)).take i).length+1=((f.fRelocs.map (·.fAt)).take (i+1)).length by rw [← htk,List.length_append];rfl,htk]
 refine Zp J (Zn (Zze ?_))
 refine Zo J (Zn (Za ?_))
 exact ⟨rfl,(i+1,some ⟨g25,0,none⟩,cp25),⟨by show i+1≤_;omega,take_not hs hx (by unfold relBad;exact decide_eq_false ZO)⟩,by show f.fRelocs.length-(i+1)<f.fRelocs.length-i;omega,cv,Lh⟩
 obtain rfl:i=f.fRelocs.length:=by omega
 rw [List.take_length] at hs
 have hna:¬ f.fRelocs.any relBad=true:=by intro k;obtain ⟨y,hy,hp⟩:=List.any_eq_true.1 k;rw [hs y hy] at hp;cases hp
 rw [← hml,List.take_length]
 generalize hP:f.fRelocs.map (·.fAt)=P at *
 refine Zm (Zb (Zb (Ze (Za (Zh (Zh (Zi (Zz (n:=7) (m:=7) J J J (Zld ?_)))))))))
 refine Zv J J (Zo J ?_)
 (refine ZD J (fun w B' hB hR hS'=>fun_rising hS' (f.fCode.length:Int) A6 c6 P (row_Cs (W:=B.e) (e:=3) (n:=P.length) (cp:=c6) (hR _ _ ZP))) ?_;rintro ⟨⟩ -)
 refine Zno ?_
 refine Zn (Za (wC (fun h32=>?_) (fun h32=>?_)))
 refine Zh (Zi (Zzb ?_))
 exact ⟨(),trivial,by unfold relocsF;rw [if_neg hna,hP,if_neg (by simpa using h32)];rfl,Lh⟩
 refine Zj (Za (Zh (Zi (Zzh ?_))))
 exact ⟨(),trivial,by unfold relocsF;rw [if_neg hna,hP,if_pos (by simpa using h32)];rfl,Lh⟩
def funF (f:ApiFunc):Int:=if slotsF f≠0 then slotsF f else if f.fPad<0∨4096<f.fPad then 9 else if codeF f≠0 then codeF f else if f.fFrom<0∨f.fTo<f.fFrom∨(f.fCode.length:Int)<f.fTo then 9 else if linesF f≠0 then linesF f else relocsF f
theorem fun_Check {B:Base}{w:World}(hS:St B [] w) (f:ApiFunc) (fc:List Value) (hf:kApiFunc.K B.e f fc) (hsm:f.fRelocs.length≤1000) :
 CW 128 #[.agg fc.toArray] w (Ret B (fun _:Unit=>True) (fun _=>.int .i64 (funF f)) (fun _=>[])):=by
 obtain ⟨A0,c0,A1,c1,A2,c2,A3,c3,rfl,l0,g0,l1,g1,l2,g2,l3,g3⟩:=kApiFunc_open hf
 refine ZX Tryz.func128 hS ?_
 refine Zh (Zi (oBox J ZP (fun b1=>?_)))
 refine Zp J (Zn (Za (Zh (Zh (Zi (Zla ?_))))))
 (refine ZC0 rfl ZK (fun w hS=>frame hS ZQ (fun B' hB hS'=>fun_slots hS' f _ (kApiFunc.K_grow hB hf))) ?_;rintro ⟨⟩ -)
 refine Zp J (Zn (Za (Zh (Zi (Zo J (Z0 J J (Zn (Za (wC (fun h9=>?_) (fun h9=>?_))))))))))
 refine Zh (Zi (Zo J (Zzb ?_)))
 exact ⟨(),trivial,by unfold funF;rw [if_pos h9];rfl,Lh⟩
 refine Zj (Za (Zh (Zh (Zi (Zz (n:=2) (m:=2) J J J (Zld ?_))))))
 refine Zx J J (Zo J (ZS (ZT 14) (fun h14=>?_) (fun h14=>?_)))
 refine Zr J J J J (Zr J J J J (Zr J J J J (Zt J J (Zn (Za (wCondT J (Zh (Zi (Zzb ?_)))))))))
 exact ⟨(),trivial,by unfold funF;rw [if_neg h9,if_pos ZO];rfl,Lh⟩
 refine Zq J J (Zz (n:=2) (m:=2) J J J (Zzg ?_))
 refine Zq J J (Z1 J J (Zu J J (Zn (Za (wC (fun h18=>?_) (fun h18=>?_))))))
 refine Zh (Zi (Zzb ?_))
 exact ⟨(),trivial,by unfold funF;rw [if_neg h9,if_pos ZO];rfl,Lh⟩
 refine Zj (Za (Zh (Zh (Zi (Zla ?_)))))
 (refine ZC0 rfl ZK (fun w hS=>frame hS ZQ (fun B' hB hS'=>fun_code hS' f _ (kApiFunc.K_grow hB hf))) ?_;rintro ⟨⟩ -)
 refine Zp J (Zn (Za (Zh (Zi (Zo J (Z0 J J (Zn (Za (wC (fun h22=>?_) (fun h22=>?_))))))))))
 refine Zh (Zi (Zo J (Zzb ?_)))
 exact ⟨(),trivial,by unfold funF;rw [if_neg h9,if_neg ZO,if_pos h22];rfl,Lh⟩
 refine Zj (Za (Zh (Zh (Zi (Zz (n:=4) (m:=4) J J J (Zld ?_))))))
 refine Zx J J (Zo J (ZS (ZT 27) (fun h27=>?_) (fun h27=>?_)))
 refine Zr J J J J (Zr J J J J (Zr J J J J (Zr J J J J (Zr J J J J (Zt J J (Zo J (Zr J J J J (Zr J J J J (Zr J J J J (Zr J J J J (Zr J J J J (Zr J J J J (Zt J J (Zn (Za (wCondT J (Zh (Zi (Zzb ?_)))))))))))))))))))
 exact ⟨(),trivial,by unfold funF;rw [if_neg h9,if_neg ZO,if_neg h22,if_pos ZO];rfl,Lh⟩
 refine Zq J J (Zz (n:=5) (m:=5) J J J (Zzg ?_))
 refine Zq J J (Zz (n:=4) (m:=4) J J J (Zzg ?_))
 refine Zq J J (Zx J J (Zu J J (Zo J (ZS (ZT 34) (fun h34=>?_) (fun h34=>?_)))))
 refine Zr J J J J (Zr J J J J (Zr J J J J (Zr J J J J (Zr J J J J (Zr J J J J (Zt J J (Zn (Za (wCondT J (Zh (Zi (Zzb ?_))))))))))))
 exact ⟨(),trivial,by unfold funF;rw [if_neg h9,if_neg ZO,if_neg h22,if_pos ZO];rfl,Lh⟩
 refine Zq J J (Zz (n:=5) (m:=5) J J J (Zzg ?_))
 refine Zq J J (Zz (n:=7) (m:=7) J J J (Zzg ?_))
 refine Zq J J (Zv J J (Zq J J (Z1 J J (Zu J J (Zn (Za (wC (fun h41=>?_) (fun h41=>?_))))))))
 refine Zh (Zi (Zzb ?_))
 exact ⟨(),trivial,by unfold funF;rw [if_neg h9,if_neg ZO,if_neg h22,if_pos ZO];rfl,Lh⟩
 refine Zj (Za (Zh (Zh (Zi (Zla ?_)))))
 (refine ZC0 rfl ZK (fun w hS=>frame hS ZQ (fun B' hB hS'=>fun_lines hS' f _ (kApiFunc.K_grow hB hf))) ?_;rintro ⟨⟩ -)
 refine Zp J (Zn (Za (Zh (Zi (Zo J (Z0 J J (Zn (Za (wC (fun h45=>?_) (fun h45=>?_))))))))))
 refine Zh (Zi (Zo J (Zzb ?_)))
 exact ⟨(),trivial,by unfold funF;rw [if_neg h9,if_neg ZO,if_neg h22,if_neg ZO,if_pos h45];rfl,Lh⟩
 refine Zj (Zzk ?_)
 (refine ZC0 rfl ZK (fun w hS=>frame hS ZQ (fun B' hB hS'=>fun_relocs hS' f _ (kApiFunc.K_grow hB hf) hsm)) ?_;rintro ⟨⟩ -)
 refine Zp J (Zza ?_)
 exact ⟨(),trivial,by unfold funF;rw [if_neg h9,if_neg ZO,if_neg h22,if_neg ZO,if_neg h45];rfl,Lh⟩
structure FunA where
  A0:Option Addr
  c0:Nat
  A1:Option Addr
  c1:Nat
  A2:Option Addr
  c2:Nat
  A3:Option Addr
  c3:Nat
abbrev symL (s:ApiSymbol):List Value:=[.string s.fName,.bool s.fLocal,.int .i64 s.fSort,.int .i64 s.fKind,.int .i64 s.fDef]
abbrev ckL (f:ApiFunc) (a:FunA) (x:ApiInstr) (s:ApiSymbol) (k:Int):List Value:=[.int .i64 f.fClass,.slice a.A0 f.fKinds.length a.c0,.int .i64 f.fPad,.bool f.fNosplit,.int .i64 f.fFrom,.int .i64 f.fTo,.slice a.A1 f.fLines.length a.c1,.slice a.A2 f.fCode.length a.c2,.slice a.A3 f.fRelocs.length a.c3,.int .i64 x.fOp,.int .i64 x.fA,.int .i64 x.fB,.int .i64 x.fC,.int .i64 x.fN,.string s.fName,.bool s.fLocal,.int .i64 s.fSort,.int .i64 s.fKind,.int .i64 s.fDef,.int .i64 k]
abbrev ckR (b:Nat) (f:ApiFunc) (a:FunA) (x:ApiInstr) (s:ApiSymbol) (k:Int):Res:=blk b 196 (ckL f a x s k)
def slotF (kinds:List Int) (at_ kind:Int):Int:=if at_<0∨(kinds.length:Int)≤at_ then 9 else if kinds.getD at_.toNat 0≠kind then 8 else 0
def zeroF (at_:Int):Int:=if at_≠0 then 2 else 0
def nCall (k:Int):Int:=if parF k=0∧ansF k=true then 1 else parF k
def callF (kinds:List Int) (k at_:Int):Int:=if nCall k=0 then zeroF at_ else fstE ((List.range (nCall k).toNat).map fun i:Nat=>slotF kinds (IntKind.i64.wrap (at_+(i:Int))) 0)
def lateF (kinds:List Int) (k at_:Int):Int:=if parF k=0 then zeroF at_ else slotF kinds at_ 0
def answF (kinds:List Int) (c at_:Int):Int:=if ansF c then slotF kinds at_ 0 else zeroF at_
theorem nCall_in (k:Int):0≤nCall k∧nCall k≤3:=by
 have:=parF_in k
 unfold nCall
 split <;> omega
section
variable {B : Base} {w : World} {b : Nat} {f : ApiFunc} {a : FunA} {x : ApiInstr} {s : ApiSymbol} {k : Int}
theorem ck_slot (hS:St B [ckR b f a x s k] w) (g0:(Kd.int .i64).C B.e a.A0 f.fKinds) (at_ kind:Int) :
 CW 220 #[.pointer (some ⟨b,0,none⟩),.int .i64 at_,.int .i64 kind] w (Ret B (fun _:Unit=>True) (fun _=>.int .i64 (slotF f.fKinds at_ kind)) (fun _=>[ckR b f a x s k])):=by
 refine ZX Tryz.func220 hS ?_
 refine Zh (Zi (Zp J (Zn (Za (Zh (Zk (Zh (Zh (Zi (Zo J (Zx J J (Zp J (Zn (Za (wC (fun h7=>?_) (fun h7=>?_))))))))))))))))
 refine Zj (Za (ZY h7 ?_))
 refine Zh (Zi (Zzd ?_))
 exact ⟨(),trivial,by unfold slotF;rw [if_pos ZO];rfl,Lh⟩
 refine Zi (Zo J (Zo J (Z3 J (Zz (n:=0) (m:=0) J J J (Zz (n:=1) (m:=1) J J J (Zld ?_))))))
 refine Zv J J (Z2 J J (Zp J (Zn (Za (wC (fun h7=>?_) (fun h7=>?_))))))
 refine Zh (Zi (Zzd ?_))
 exact ⟨(),trivial,by unfold slotF;rw [if_pos ZO];rfl,Lh⟩
 refine Zh (Zi (Zo J ?_))
 obtain ⟨n,rfl⟩:=Int.eq_ofNat_of_zero_le (show 0≤at_ by omega)
 refine Z3 J (Zz (n:=0) (m:=0) J J J (Zz (n:=1) (m:=1) J J J (Zld ?_)))
 refine Zo J (oIdx J J (g0) J ZO J J (fun e25 u25 cs25 hu25 hk25 hc25=>?_))
 obtain rfl:=hk25
 refine Zlx hc25 ?_
 refine Zo J (Z0 J J (Zp J (Zn (Za (wC (fun h18=>?_) (fun h18=>?_))))))
 refine Zh (Zi (Zzd ?_))
 exact ⟨(),trivial,by unfold slotF;rw [if_neg ZO,Int.toNat_natCast,getDat hu25,if_pos h18];rfl,Lh⟩
 refine Zj (Zd (Za (Zh (Zi (Zzh ?_)))))
 exact ⟨(),trivial,by unfold slotF;rw [if_neg ZO,Int.toNat_natCast,getDat hu25,if_neg h18];rfl,Lh⟩
theorem ck_number (hS:St B [ckR b f a x s k] w) (g0:(Kd.int .i64).C B.e a.A0 f.fKinds) (at_:Int) :
 CW 208 #[.pointer (some ⟨b,0,none⟩),.int .i64 at_] w (Ret B (fun _:Unit=>True) (fun _=>.int .i64 (slotF f.fKinds at_ 0)) (fun _=>[ckR b f a x s k])):=by
 refine ZX Tryz.func208 hS ?_
 refine Zh (Zi (Zp J (Zn (Zzn ?_))))
 (refine ZC0 rfl ZK (fun w hS=>frame hS ZQ (fun B' hB hS'=>ck_slot hS' (Kd.C_grow hB g0) at_ 0)) ?_;rintro ⟨⟩ -)
 refine Zp J (Zza ?_)
 exact ⟨(),trivial,rfl,Lh⟩
theorem ck_function (hS:St B [ckR b f a x s k] w) (g0:(Kd.int .i64).C B.e a.A0 f.fKinds) (at_:Int) :
 CW 209 #[.pointer (some ⟨b,0,none⟩),.int .i64 at_] w (Ret B (fun _:Unit=>True) (fun _=>.int .i64 (slotF f.fKinds at_ (IntKind.i64.wrap (1+k)))) (fun _=>[ckR b f a x s k])):=by
 generalize hz:IntKind.i64.wrap (1+k)=z
 refine ZX Tryz.func209 hS ?_
 refine Zh (Zi (Zp J (Zn (Za (Zh (Zi (Zo J (Zo J (Zo J (Z3 J (Zz (n:=19) (m:=19) J J J (Zld ?_))))))))))))
 refine oAddW J J ?_
 rw [hz]
 (refine ZC0 rfl ZK (fun w hS=>frame hS ZQ (fun B' hB hS'=>ck_slot hS' (Kd.C_grow hB g0) at_ z)) ?_;rintro ⟨⟩ -)
 refine Zp J (Zza ?_)
 exact ⟨(),trivial,rfl,Lh⟩
theorem ck_nothing (hS:St B [] w) (v:Value) (at_:Int) :
 CW 221 #[v,.int .i64 at_] w (Ret B (fun _:Unit=>True) (fun _=>.int .i64 (zeroF at_)) (fun _=>[])):=by
 refine ZX Tryz.func221 hS ?_
 refine Zh (Zi (Zp J (Zn (Za (Zh (Zh (Zi (Zo J (Z0 J J (Zn (Za (wC (fun h6=>?_) (fun h6=>?_)))))))))))))
 refine Zh (Zi (Zzb ?_))
 exact ⟨(),trivial,by unfold zeroF;rw [if_pos h6];rfl,Lh⟩
 refine Zj (Za (Zh (Zi (Zzh ?_))))
 exact ⟨(),trivial,by unfold zeroF;rw [if_neg h6];rfl,Lh⟩
theorem ck_fineR (hS:St B [ckR b f a x s k] w) (at_:Int) :
 CW 213 #[.pointer (some ⟨b,0,none⟩),.int .i64 at_] w (Ret B (fun _:Unit=>True) (fun _=>.int .i64 0) (fun _=>[ckR b f a x s k])):=by
 refine ZX Tryz.func213 hS ?_
 refine Zh (Zi (Zp J (Zn (Za (Zh (Zi (Zzh ?_)))))))
 exact ⟨(),trivial,rfl,Lh⟩
theorem ck_later (hS:St B [ckR b f a x s k] w) (g0:(Kd.int .i64).C B.e a.A0 f.fKinds) (at_:Int) :
 CW 211 #[.pointer (some ⟨b,0,none⟩),.int .i64 at_] w (Ret B (fun _:Unit=>True) (fun _=>.int .i64 (lateF f.fKinds k at_)) (fun _=>[ckR b f a x s k])):=by
 refine ZX Tryz.func211 hS ?_
 refine Zh (Zi (Zp J (Zn (Za (Zh (Zh (Zi (Zo J (Z3 J (Zz (n:=19) (m:=19) J J J (Zld ?_)))))))))))
 (refine ZC0 rfl ZK (fun w hS=>frame hS ZQ (fun B' hB hS'=>sig_Params hS' k)) ?_;rintro ⟨⟩ -)
 refine Zy J J (Zn (Za (wC (fun h10=>?_) (fun h10=>?_))))
 refine Zh (Zi (Zo J (Zo J ?_)))
 (refine ZC0 rfl ZK (fun w hS=>frame hS ZQ (fun B' hB hS'=>ck_nothing hS' _ at_)) ?_;rintro ⟨⟩ -)
 refine Zp J (Zn (Za (Zl (Zc (Zw (fi1 J ?_))))))
 exact ⟨(),trivial,by unfold lateF;rw [if_pos h10];rfl,Lh⟩
 refine Zj (Zzn ?_)
 (refine ZC0 rfl ZK (fun w hS=>frame hS ZQ (fun B' hB hS'=>ck_number hS' (Kd.C_grow hB g0) at_)) ?_;rintro ⟨⟩ -)
 refine Zp J (Zza ?_)
 exact ⟨(),trivial,by unfold lateF;rw [if_neg h10];rfl,Lh⟩
theorem ck_answer (hS:St B [ckR b f a x s k] w) (g0:(Kd.int .i64).C B.e a.A0 f.fKinds) (at_:Int) :
 CW 212 #[.pointer (some ⟨b,0,none⟩),.int .i64 at_] w (Ret B (fun _:Unit=>True) (fun _=>.int .i64 (answF f.fKinds f.fClass at_)) (fun _=>[ckR b f a x s k])):=by
 refine ZX Tryz.func212 hS ?_
 refine Zh (Zi (Zp J (Zn (Za (Zh (Zh (Zi (Zo J (Z3 J (Zz (n:=0) (m:=0) J J J (Zz (n:=0) (m:=0) J J J (Zld ?_))))))))))))
 (refine ZC0 rfl ZK (fun w hS=>frame hS ZQ (fun B' hB hS'=>sig_Answers hS' f.fClass)) ?_;rintro ⟨⟩ -)
 refine Zno ?_
 refine Zn (Za (wC (fun h11=>?_) (fun h11=>?_)))
 refine Zh (Zi (Zo J (Zo J ?_)))
 (refine ZC0 rfl ZK (fun w hS=>frame hS ZQ (fun B' hB hS'=>ck_nothing hS' _ at_)) ?_;rintro ⟨⟩ -)
 refine Zp J (Zn (Za (Zl (Zc (Zw (fi1 J ?_))))))
 exact ⟨(),trivial,by unfold answF;rw [if_neg (by simpa using h11)];rfl,Lh⟩
 refine Zj (Zzn ?_)
 (refine ZC0 rfl ZK (fun w hS=>frame hS ZQ (fun B' hB hS'=>ck_number hS' (Kd.C_grow hB g0) at_)) ?_;rintro ⟨⟩ -)
 refine Zp J (Zza ?_)
 exact ⟨(),trivial,by unfold answF;rw [if_pos (by simpa using h11)];rfl,Lh⟩
theorem ck_call (hS:St B [ckR b f a x s k] w) (g0:(Kd.int .i64).C B.e a.A0 f.fKinds) (at_:Int) :
 CW 210 #[.pointer (some ⟨b,0,none⟩),.int .i64 at_] w (Ret B (fun _:Unit=>True) (fun _=>.int .i64 (callF f.fKinds k at_)) (fun _=>[ckR b f a x s k])):=by
 have hn:=nCall_in k
 have hml:((List.range (nCall k).toNat).map fun i:Nat=>slotF f.fKinds (IntKind.i64.wrap (at_+(i:Int))) 0).length=(nCall k).toNat:=by simp
 refine ZX Tryz.func210 hS ?_
 refine Zh (Zi (Zp J (Zn (Za (Zh (Zi (Zo J (Z3 J (Zz (n:=19) (m:=19) J J J (Zld ?_))))))))))
 (refine ZC0 rfl ZK (fun w hS=>frame hS ZQ (fun B' hB hS'=>sig_Params hS' k)) ?_;rintro ⟨⟩ -)
 refine Zp J (Zn (Za (Zh (Zh (Zi (Zo J (Zy J J (Zo J (ZS (ZT 15) (fun h15=>?_) (fun h15=>?_))))))))))
 refine Zq J J (Zo J (Zq J J (Z3 J (Zq J J (Zz (n:=19) (m:=19) J J J (Zzg ?_))))))
 refine Zq J J ?_
 (refine ZC0 rfl ZK (fun w hS=>frame hS ZQ (fun B' hB hS'=>sig_Answers hS' k)) ?_;rintro ⟨⟩ -)
 refine Zt J J (Zn (Za (wC (fun h21=>?_) (fun h21=>?_))))
 refine Zi (Zp J (Zn (Za (Zh (Zzi ?_)))))
 refine ZS0 (t:=5) (v':=.int .i64 (nCall k)) J (by unfold nCall;rw [if_pos (by simp_all)]) ?_
 refine ZS0 (t:=22) (v':=.int .i64 (nCall k)) J (by unfold nCall;rw [if_pos (by simp_all)]) ?_
 refine Zy J J (Zn (Za (wC (fun h23=>?_) (fun h23=>?_))))
 refine Zh (Zi (Zo J (Zo J ?_)))
 (refine ZC0 rfl ZK (fun w hS=>frame hS ZQ (fun B' hB hS'=>ck_nothing hS' _ at_)) ?_;rintro ⟨⟩ -)
 refine Zp J (Zn (Za (Zl (Zc (Zw (fi1 J ?_))))))
 exact ⟨(),trivial,by unfold callF;rw [if_pos h23];rfl,Lh⟩
 have h23:=h23
 refine Zj (Za (Zh (Zh (Zi (Zo J (Zo J (Zn (Za (Zk (wLoop (ι:=Nat) (fun i=>[(0,.pointer (some ⟨b,0,none⟩)),(1,.int .i64 at_),(27,.int .i64 (nCall k)),(28,.int .i64 (i:Int))]) (fun i=>[ckR b f a x s k]) (fun i=>i≤(nCall k).toNat∧fstE (((List.range (nCall k).toNat).map fun i:Nat=>slotF f.fKinds (IntKind.i64.wrap (at_+(i:Int))) 0).take i)=0) (fun i=>(nCall k).toNat-i) 0 ?_ cv (Leads.has ZQ) ?_))))))))))
 exact ⟨Nat.zero_le _,rfl⟩
 rintro i ⟨hi,hs⟩
 try dsimp only
 refine Zh (Zi (Zx J J (Zn (Za (Zh (wC (fun h29=>?_) (fun h29=>?_)))))))
 have hxe:((List.range (nCall k).toNat).map fun i:Nat=>slotF f.fKinds (IntKind.i64.wrap (at_+(i:Int))) 0)[i]?=some (slotF f.fKinds (IntKind.i64.wrap (at_+(i:Int))) 0):=by rw [List.getElem?_map,List.getElem?_range ZO];rfl
 refine Zj (Za (Zh (Zk (Zh (Zi (Zo J (Zp J (Zn (Za (Zh (Zi (Zo J (Zo J (Zo J (oAddW J J ?_)))))))))))))))
 (refine ZC0 rfl ZK (fun w hS=>frame hS ZQ (fun B' hB hS'=>ck_number hS' (Kd.C_grow hB g0) (IntKind.i64.wrap (at_+(i:Int))))) ?_;rintro ⟨⟩ -)
 refine Zp J (Zn (Za (Zh (Zi (Zo J (Z0 J J (Zn (Za (wC (fun h37=>?_) (fun h37=>?_))))))))))
 refine Zh (Zi (Zo J (Zzc ?_)))
 exact ⟨(),trivial,by unfold callF;rw [if_neg h23,fstE_stop hs hxe h37];rfl,Lh⟩
 refine Zj (Zze ?_)
 refine Zo J (Zn (Za ?_))
 exact ⟨rfl,i+1,⟨by omega,fstE_next hs hxe (Classical.not_not.1 h37)⟩,by omega,cv,Lh⟩
 refine Zm (Zzf ?_)
 obtain rfl:i=(nCall k).toNat:=by omega
 rw [List.take_of_length_le (by rw [hml];exact Nat.le_refl _)] at hs
 exact ⟨(),trivial,by unfold callF;rw [if_neg h23,hs];rfl,Lh⟩
 refine Zj (Za (Zh (Zzi ?_)))
 refine ZS0 (t:=5) (v':=.int .i64 (nCall k)) J (by unfold nCall;rw [if_neg (by simp_all)]) ?_
 refine ZS0 (t:=22) (v':=.int .i64 (nCall k)) J (by unfold nCall;rw [if_neg (by simp_all)]) ?_
 refine Zy J J (Zn (Za (wC (fun h23=>?_) (fun h23=>?_))))
 refine Zh (Zi (Zo J (Zo J ?_)))
 (refine ZC0 rfl ZK (fun w hS=>frame hS ZQ (fun B' hB hS'=>ck_nothing hS' _ at_)) ?_;rintro ⟨⟩ -)
 refine Zp J (Zn (Za (Zl (Zc (Zw (fi1 J ?_))))))
 exact ⟨(),trivial,by unfold callF;rw [if_pos h23];rfl,Lh⟩
 have h23:=h23
 refine Zj (Za (Zh (Zh (Zi (Zo J (Zo J (Zn (Za (Zk (wLoop (ι:=Nat) (fun i=>[(0,.pointer (some ⟨b,0,none⟩)),(1,.int .i64 at_),(27,.int .i64 (nCall k)),(28,.int .i64 (i:Int))]) (fun i=>[ckR b f a x s k]) (fun i=>i≤(nCall k).toNat∧fstE (((List.range (nCall k).toNat).map fun i:Nat=>slotF f.fKinds (IntKind.i64.wrap (at_+(i:Int))) 0).take i)=0) (fun i=>(nCall k).toNat-i) 0 ?_ cv (Leads.has ZQ) ?_))))))))))
 exact ⟨Nat.zero_le _,rfl⟩
 rintro i ⟨hi,hs⟩
 try dsimp only
 refine Zh (Zi (Zx J J (Zn (Za (Zh (wC (fun h29=>?_) (fun h29=>?_)))))))
 have hxe:((List.range (nCall k).toNat).map fun i:Nat=>slotF f.fKinds (IntKind.i64.wrap (at_+(i:Int))) 0)[i]?=some (slotF f.fKinds (IntKind.i64.wrap (at_+(i:Int))) 0):=by rw [List.getElem?_map,List.getElem?_range ZO];rfl
 refine Zj (Za (Zh (Zk (Zh (Zi (Zo J (Zp J (Zn (Za (Zh (Zi (Zo J (Zo J (Zo J (oAddW J J ?_)))))))))))))))
 (refine ZC0 rfl ZK (fun w hS=>frame hS ZQ (fun B' hB hS'=>ck_number hS' (Kd.C_grow hB g0) (IntKind.i64.wrap (at_+(i:Int))))) ?_;rintro ⟨⟩ -)
 refine Zp J (Zn (Za (Zh (Zi (Zo J (Z0 J J (Zn (Za (wC (fun h37=>?_) (fun h37=>?_))))))))))
 refine Zh (Zi (Zo J (Zzc ?_)))
 exact ⟨(),trivial,by unfold callF;rw [if_neg h23,fstE_stop hs hxe h37];rfl,Lh⟩
 refine Zj (Zze ?_)
 refine Zo J (Zn (Za ?_))
 exact ⟨rfl,i+1,⟨by omega,fstE_next hs hxe (Classical.not_not.1 h37)⟩,by omega,cv,Lh⟩
 refine Zm (Zzf ?_)
 obtain rfl:i=(nCall k).toNat:=by omega
 rw [List.take_of_length_le (by rw [hml];exact Nat.le_refl _)] at hs
 exact ⟨(),trivial,by unfold callF;rw [if_neg h23,hs];rfl,Lh⟩
 refine Zr J J J J (Zr J J J J (Zr J J J J (Zr J J J J (Zr J J J J (Zu J J (Zn (Za (wCondF J (Zj (Za (Zh (Zzi ?_))))))))))))
 refine ZS0 (t:=5) (v':=.int .i64 (nCall k)) J (by unfold nCall;rw [if_neg (by simp_all)]) ?_
 refine ZS0 (t:=22) (v':=.int .i64 (nCall k)) J (by unfold nCall;rw [if_neg (by simp_all)]) ?_
 refine Zy J J (Zn (Za (wC (fun h23=>?_) (fun h23=>?_))))
 refine Zh (Zi (Zo J (Zo J ?_)))
 (refine ZC0 rfl ZK (fun w hS=>frame hS ZQ (fun B' hB hS'=>ck_nothing hS' _ at_)) ?_;rintro ⟨⟩ -)
 refine Zp J (Zn (Za (Zl (Zc (Zw (fi1 J ?_))))))
 exact ⟨(),trivial,by unfold callF;rw [if_pos h23];rfl,Lh⟩
 have h23:=h23
 refine Zj (Za (Zh (Zh (Zi (Zo J (Zo J (Zn (Za (Zk (wLoop (ι:=Nat) (fun i=>[(0,.pointer (some ⟨b,0,none⟩)),(1,.int .i64 at_),(27,.int .i64 (nCall k)),(28,.int .i64 (i:Int))]) (fun i=>[ckR b f a x s k]) (fun i=>i≤(nCall k).toNat∧fstE (((List.range (nCall k).toNat).map fun i:Nat=>slotF f.fKinds (IntKind.i64.wrap (at_+(i:Int))) 0).take i)=0) (fun i=>(nCall k).toNat-i) 0 ?_ cv (Leads.has ZQ) ?_))))))))))
 exact ⟨Nat.zero_le _,rfl⟩
 rintro i ⟨hi,hs⟩
 try dsimp only
 refine Zh (Zi (Zx J J (Zn (Za (Zh (wC (fun h29=>?_) (fun h29=>?_)))))))
 have hxe:((List.range (nCall k).toNat).map fun i:Nat=>slotF f.fKinds (IntKind.i64.wrap (at_+(i:Int))) 0)[i]?=some (slotF f.fKinds (IntKind.i64.wrap (at_+(i:Int))) 0):=by rw [List.getElem?_map,List.getElem?_range ZO];rfl
 refine Zj (Za (Zh (Zk (Zh (Zi (Zo J (Zp J (Zn (Za (Zh (Zi (Zo J (Zo J (Zo J (oAddW J J ?_)))))))))))))))
 (refine ZC0 rfl ZK (fun w hS=>frame hS ZQ (fun B' hB hS'=>ck_number hS' (Kd.C_grow hB g0) (IntKind.i64.wrap (at_+(i:Int))))) ?_;rintro ⟨⟩ -)
 refine Zp J (Zn (Za (Zh (Zi (Zo J (Z0 J J (Zn (Za (wC (fun h37=>?_) (fun h37=>?_))))))))))
 refine Zh (Zi (Zo J (Zzc ?_)))
 exact ⟨(),trivial,by unfold callF;rw [if_neg h23,fstE_stop hs hxe h37];rfl,Lh⟩
 refine Zj (Zze ?_)
 refine Zo J (Zn (Za ?_))
 exact ⟨rfl,i+1,⟨by omega,fstE_next hs hxe (Classical.not_not.1 h37)⟩,by omega,cv,Lh⟩
 refine Zm (Zzf ?_)
 obtain rfl:i=(nCall k).toNat:=by omega
 rw [List.take_of_length_le (by rw [hml];exact Nat.le_refl _)] at hs
 exact ⟨(),trivial,by unfold callF;rw [if_neg h23,hs];rfl,Lh⟩
end
def kLook:Kd (ByteArray×Nat) where
  sz:=2
  K:=fun _ x cs=>cs=[.string x.1,.func (.func x.2) #[] #[]]
  K_len:=by rintro w x cs rfl;rfl
  K_one:=by
    rintro w x cs rfl u hu
    rcases List.mem_cons.1 hu with rfl | hu
    · rfl
    · obtain rfl:=List.mem_singleton.1 hu;rfl
  K_grow:=fun _ h=>h
def looksL:List (ByteArray×Nat):=[(⟨#[119,114]⟩,208),(⟨#[103,102]⟩,209),(⟨#[99]⟩,210),(⟨#[100]⟩,211),(⟨#[118]⟩,212),(⟨#[116,110,107,45]⟩,213)]
abbrev looksC:List Value:=[.string ⟨#[119,114]⟩,.func (.func 208) #[] #[],.string ⟨#[103,102]⟩,.func (.func 209) #[] #[],.string ⟨#[99]⟩,.func (.func 210) #[] #[],.string ⟨#[100]⟩,.func (.func 211) #[] #[],.string ⟨#[118]⟩,.func (.func 212) #[] #[],.string ⟨#[116,110,107,45]⟩,.func (.func 213) #[] #[]]
theorem cat_looks (w:World):Cat kLook w looksL looksC:=⟨[_,_],_,rfl,rfl,[_,_],_,rfl,rfl,[_,_],_,rfl,rfl,[_,_],_,rfl,rfl,[_,_],_,rfl,rfl,[_,_],_,rfl,rfl,rfl⟩
theorem verify_looks {B:Base}{w:World}(hS:St B [] w) :
 CW 185 #[] w (Ret B (fun _:Nat=>True) (fun b=>.slice (some ⟨b,0,none⟩) 6 6) (fun b=>[blk b 215 looksC])):=by
 refine ZX Tryz.func185 hS ?_
 refine Zh (Zi (Zp J (Zn (Za (Zh (Zi (oBuild (Parts.cons J (Parts.cons J Parts.nil)) J J (Built.cons (off:=0) (s:=1) J ZP J ZP (Built.cons (off:=1) (s:=1) J ZP J ZP Built.nil)) ?_)))))))
 refine oBuild (Parts.cons J (Parts.cons J Parts.nil)) J J (Built.cons (off:=0) (s:=1) J ZP J ZP (Built.cons (off:=1) (s:=1) J ZP J ZP Built.nil)) ?_
 refine oBuild (Parts.cons J (Parts.cons J Parts.nil)) J J (Built.cons (off:=0) (s:=1) J ZP J ZP (Built.cons (off:=1) (s:=1) J ZP J ZP Built.nil)) ?_
 refine oBuild (Parts.cons J (Parts.cons J Parts.nil)) J J (Built.cons (off:=0) (s:=1) J ZP J ZP (Built.cons (off:=1) (s:=1) J ZP J ZP Built.nil)) ?_
 refine oBuild (Parts.cons J (Parts.cons J Parts.nil)) J J (Built.cons (off:=0) (s:=1) J ZP J ZP (Built.cons (off:=1) (s:=1) J ZP J ZP Built.nil)) ?_
 refine oBuild (Parts.cons J (Parts.cons J Parts.nil)) J J (Built.cons (off:=0) (s:=1) J ZP J ZP (Built.cons (off:=1) (s:=1) J ZP J ZP Built.nil)) ?_
 refine oBuildSliceF (Parts.cons J (Parts.cons J (Parts.cons J (Parts.cons J (Parts.cons J (Parts.cons J Parts.nil)))))) J J J J J (Fulls.cons ZP J (Fulls.cons ZP J (Fulls.cons ZP J (Fulls.cons ZP J (Fulls.cons ZP J (Fulls.cons ZP J Fulls.nil ap) ap) ap) ap) ap) ap) (fun b7=>?_)
 refine Zp J (Zza ?_)
 exact ⟨b7,trivial,rfl,Lh⟩
def lookV (f:ApiFunc) (k n:Int) (j:Nat):Int:=[slotF f.fKinds n 0,slotF f.fKinds n (IntKind.i64.wrap (1+k)),callF f.fKinds k n,lateF f.fKinds k n,answF f.fKinds f.fClass n,0].getD j 0
theorem look_any {B:Base}{w:World}{b:Nat}{f:ApiFunc}{a:FunA}{x:ApiInstr}{s:ApiSymbol}{k:Int}(hS:St B [ckR b f a x s k] w) (g0:(Kd.int .i64).C B.e a.A0 f.fKinds) (n:Int) (j:Nat) (lk:ByteArray×Nat) (hj:looksL[j]?=some lk) :
    CW lk.2 #[.pointer (some ⟨b,0,none⟩),.int .i64 n] w (Ret B (fun _:Unit=>True) (fun _=>.int .i64 (lookV f k n j)) (fun _=>[ckR b f a x s k])):=by
  match j,hj with
  | 0,hj=>obtain rfl:=Option.some.inj hj;exact ck_number hS g0 n
  | 1,hj=>obtain rfl:=Option.some.inj hj;exact ck_function hS g0 n
  | 2,hj=>obtain rfl:=Option.some.inj hj;exact ck_call hS g0 n
  | 3,hj=>obtain rfl:=Option.some.inj hj;exact ck_later hS g0 n
  | 4,hj=>obtain rfl:=Option.some.inj hj;exact ck_answer hS g0 n
  | 5,hj=>obtain rfl:=Option.some.inj hj;exact ck_fineR hS n
  | j+6,hj=>cases hj
theorem look_good0:goodF Tryz.prog 208=true:=by kernel_rfl
theorem look_good1:goodF Tryz.prog 209=true:=by kernel_rfl
theorem look_good2:goodF Tryz.prog 210=true:=by kernel_rfl
theorem look_good3:goodF Tryz.prog 211=true:=by kernel_rfl
theorem look_good4:goodF Tryz.prog 212=true:=by kernel_rfl
theorem look_good5:goodF Tryz.prog 213=true:=by kernel_rfl
theorem look_good (j:Nat) (lk:ByteArray×Nat) (hj:looksL[j]?=some lk):goodF Tryz.prog lk.2=true:=by
  match j,hj with
  | 0,hj=>obtain rfl:=Option.some.inj hj;exact look_good0
  | 1,hj=>obtain rfl:=Option.some.inj hj;exact look_good1
  | 2,hj=>obtain rfl:=Option.some.inj hj;exact look_good2
  | 3,hj=>obtain rfl:=Option.some.inj hj;exact look_good3
  | 4,hj=>obtain rfl:=Option.some.inj hj;exact look_good4
  | 5,hj=>obtain rfl:=Option.some.inj hj;exact look_good5
  | j+6,hj=>cases hj
theorem index_rune {B:Base}{w:World}(hS:St B [] w) (l:List Int) (A:Option Addr) (cp:Nat) (hC:(Kd.int .i32).C B.e A l) (v:Int) :
 CW 214 #[.slice A l.length cp,.int .i32 v] w (Ret B (fun _:Unit=>True) (fun _=>.int .i64 (idxI (fun y=>decide (v=y)) l)) (fun _=>[])):=by
 have hl:=hC.1
 refine ZX Tryz.func214 hS ?_
 refine Zh (Zi (Zp J (Zn (Za (Zh (Zh (Zi (Zo J (Zv J J (Zo J (Zn (Za (Zk (wLoop (ι:=Nat) (fun i=>[(0,.slice A l.length cp),(1,.int .i32 v),(7,.int .i64 (l.length:Int)),(8,.int .i64 (i:Int))]) (fun i=>[]) (fun i=>i≤l.length∧∀ y ∈ l.take i,decide (v=y)=false) (fun i=>l.length-i) 0 ?_ cv (Leads.has ZQ) ?_))))))))))))))
 exact ⟨Nat.zero_le _,by simp⟩
 rintro i ⟨hi,hs⟩
 try dsimp only
 refine Zh (Zi (Zx J J (Zn (Za (Zh (wC (fun h9=>?_) (fun h9=>?_)))))))
 refine Zj (Za (Zh (Zk (Zh (Zi (Zo J (Zp J (Zn (Za (Zh (Zi (Zo J (Zo J (Zo J (oIdx J J (hC) J ZO J J (fun e14 u14 cs14 hu14 hk14 hc14=>?_))))))))))))))))
 obtain rfl:=hk14
 refine Zlx hc14 ?_
 refine Zy J J (Zn (Za (wC (fun h16=>?_) (fun h16=>?_))))
 refine Zh (Zi (Zo J (Zzc ?_)))
 exact ⟨(),trivial,by rw [idxI_stop (p:=fun y:Int=>decide (v=y)) hs hu14 (decide_eq_true h16)];rfl,Lh⟩
 refine Zj (Zze ?_)
 refine Zo J (Zn (Za ?_))
 exact ⟨rfl,i+1,⟨by omega,take_not (p:=fun y:Int=>decide (v=y)) hs hu14 (decide_eq_false h16)⟩,by omega,cv,Lh⟩
 refine Zm (Zzf ?_)
 obtain rfl:i=l.length:=by omega
 rw [List.take_length] at hs
 exact ⟨(),trivial,by rw [idxI_none (p:=fun y:Int=>decide (v=y)) hs];rfl,Lh⟩
theorem contains_rune {B:Base}{w:World}(hS:St B [] w) (l:List Int) (A:Option Addr) (cp:Nat) (hC:(Kd.int .i32).C B.e A l) (v:Int) :
 CW 186 #[.slice A l.length cp,.int .i32 v] w (Ret B (fun _:Unit=>True) (fun _=>.bool (l.any fun y=>decide (v=y))) (fun _=>[])):=by
 refine ZX Tryz.func186 hS ?_
 refine Zh (Zi (Zp J (Zn (Zzn ?_))))
 (refine ZC0 rfl ZK (fun w hS=>frame hS ZQ (fun B' hB hS'=>index_rune hS' l A cp (Kd.C_grow hB hC) v)) ?_;rintro ⟨⟩ -)
 refine Z2 J J (Zzh ?_)
 exact ⟨(),trivial,by show Value.bool (decide (0≤idxI (fun y:Int=>decide (v=y)) l))=_;congr 1;rw [Bool.eq_iff_iff,decide_eq_true_eq];exact idxI_iff,Lh⟩
def hasL (j:Nat) (letter:Int):Bool:=(runesL (looksL.getD j (ByteArray.empty,0)).1).any fun y=>decide (letter=y)
def lookE (f:ApiFunc) (k letter n:Int) (j:Nat):Int:=if hasL j letter then lookV f k n j else 0
def letE (f:ApiFunc) (k letter n:Int):Int:=fstE ((List.range 6).map (lookE f k letter n))
def opsE (f:ApiFunc) (x:ApiInstr) (k:Int) (i:Nat):Int:=letE f k (byteAt (shapeF x.fOp) i) (opdF x i)
def operF (f:ApiFunc) (x:ApiInstr) (k:Int):Int:=fstE ((List.range (shapeF x.fOp).size).map (opsE f x k))
theorem rmap_at {n i:Nat}{e:Nat→Int}(h:i<n):((List.range n).map e)[i]?=some (e i):=by rw [List.getElem?_map,List.getElem?_range h];rfl
theorem rmap_all {n:Nat}{e:Nat→Int} : ((List.range n).map e).take n=(List.range n).map e:=List.take_of_length_le (by simp)
theorem looks_ok:∀ j,j<6→Asc (looksL.getD j (ByteArray.empty,0)).1∧(looksL.getD j (ByteArray.empty,0)).1.size≤4:=by
 intro j hj
 have h1:∀ j,j<6→(looksL.getD j (ByteArray.empty,0)).1.size≤4:=by decide
 have h2:∀ j,j<6→∀ i,i<4→byteAt (looksL.getD j (ByteArray.empty,0)).1 i<128:=by decide
 exact ⟨fun i hi=>h2 j hj i (by have:=h1 j hj;omega),h1 j hj⟩
theorem ck_operands {B:Base}{w:World}{b:Nat}{f:ApiFunc}{a:FunA}{x:ApiInstr}{s:ApiSymbol}{k:Int}(hS:St B [ckR b f a x s k] w) (g0:(Kd.int .i64).C B.e a.A0 f.fKinds) :
 CW 159 #[.pointer (some ⟨b,0,none⟩)] w (Ret B (fun _:Unit=>True) (fun _=>.int .i64 (operF f x k)) (fun _=>[ckR b f a x s k])):=by
 have hsz:=shapeF_size x.fOp
 have hs4:(shapeF x.fOp).size≤4:=by rw [hsz];split <;> omega
 have hasc:=shapeF_asc x.fOp
 refine ZX Tryz.func159 hS ?_
 refine Zh (Zi (Zp J (Zn (Za (Zh (Zi ?_))))))
 (refine ZC0 rfl ZK (fun w hS=>frame hS ZQ (fun B' hB hS'=>verify_looks hS')) ?_;rintro b9 -)
 refine Zp J (Zn (Za (wFreeze [blk b9 215 looksC] ZQ (fun B1 hB1 hq1=>?_))))
 have hCl:kLook.C B1.e (some ⟨b9,0,none⟩) looksL:=C_blk (hq1 _ _ ZP) (by decide) (cat_looks _)
 have g0:=Kd.C_grow hB1 g0
 refine Zh (Zh (Zi (Zo J (Z3 J (Zz (n:=9) (m:=9) J J J (Zz (n:=0) (m:=9) J J J (Zld ?_)))))))
 (refine ZC0 rfl ZK (fun w hS=>frame hS ZQ (fun B' hB hS'=>op_Shape hS' x.fOp)) ?_;rintro ⟨⟩ -)
 refine oRangeStr J J (fun b16=>?_)
 refine Zn (Za (Zk (wLoop (ι:=Nat) (fun i=>[(0,.pointer (some ⟨b,0,none⟩)),(3,.slice (some ⟨b9,0,none⟩) 6 6),(16,.pointer (some ⟨b16,0,none⟩))]) (fun i=>[ckR b f a x s k,ob b16 (.stringIter (shapeF x.fOp) i)]) (fun i=>i≤(shapeF x.fOp).size∧fstE (((List.range (shapeF x.fOp).size).map (opsE f x k)).take i)=0) (fun i=>(shapeF x.fOp).size-i) 0 ?_ cv (Leads.has ZQ) ?_)))
 exact ⟨Nat.zero_le _,rfl⟩
 rintro i ⟨hi,hs⟩
 try dsimp only
 refine Zh (Zi (oNextStr J ZP ?_))
 refine oExtN J (Zn (Za (Zh (wC (fun h18=>?_) (fun h18=>?_)))))
 have hi4:i<(shapeF x.fOp).size:=h18
 have hl:=hasc i hi4
 rw [nextV_T hi4 hl,nextP_T hi4 hl]
 generalize hlet:byteAt (shapeF x.fOp) i=letter at *
 refine Zj (Za (Zk (Zh (Zi (oExt J ZP ?_)))))
 refine oExt J ZP ?_
 refine Zp J (Zp J (Zn (Za (Zh (Zi (Zo J (Zv J J (Zo J (Zn (Za (Zk (wLoop (ι:=Nat) (fun j=>[(0,.pointer (some ⟨b,0,none⟩)),(3,.slice (some ⟨b9,0,none⟩) 6 6),(4,.int .i64 (i:Int)),(5,.int .i32 letter),(16,.pointer (some ⟨b16,0,none⟩)),(21,.slice (some ⟨b9,0,none⟩) 6 6),(22,.int .i64 ((6:Nat):Int)),(23,.int .i64 (j:Int))]) (fun j=>[ckR b f a x s k,ob b16 (.stringIter (shapeF x.fOp) (i+1))]) (fun j=>j≤6∧fstE (((List.range 6).map (lookE f k letter (opdF x i))).take j)=0) (fun j=>6-j) 0 ?_ cv (Leads.has ZQ) ?_))))))))))))
 exact ⟨Nat.zero_le _,rfl⟩
 rintro j ⟨hj,hs2⟩
 try dsimp only
 refine Zh (Zi (Zx J J (Zn (Za (Zh (wC (fun h24=>?_) (fun h24=>?_)))))))
 have hj6:j<6:=by omega
 obtain ⟨lk,hlk⟩:∃ lk,looksL[j]?=some lk:=⟨_,List.getElem?_eq_getElem hj6⟩
 obtain ⟨e1,cs1,hE⟩:=hCl.elm hlk
 obtain rfl:=hE.K
 have hok:=looks_ok j hj6
 have hhas:hasL j letter=(runesL lk.1).any (fun y=>decide (letter=y)):=by unfold hasL;rw [List.getD_eq_getElem?_getD,hlk];rfl
 rw [List.getD_eq_getElem?_getD,hlk] at hok
 refine Zj (Za (Zh (Zk (Zh (Zi (oIdxE J J (hE) ZO J J ?_))))))
 have hc25:=(hE).cell
 refine Zlx hc25 ?_
 refine oAlloc J ZP (fun b7=>?_)
 refine Zsa ?_
 refine Zn (Za (Zh (Zh (Zi (Zz (n:=0) (m:=0) J J J (Zld ?_))))))
 refine oConvRunes (W:=B1.e) (e:=21) J J J J hok.1 (Nat.le_trans hok.2 (by decide)) (fun b29 c29=>?_)
 have hrl:(runesL lk.1).length=lk.1.size:=by simp [runesL]
 refine ZS0 (t:=29) (v':=.slice (some ⟨b29,0,none⟩) (runesL lk.1).length c29) rfl (by rw [hrl]) ?_
 refine Zo J ?_
 (refine ZD J (fun w B' hB hR hS'=>contains_rune hS' (runesL lk.1) (some ⟨b29,0,none⟩) c29 (row_Cs (W:=B1.e) (e:=21) (n:=lk.1.size) (cp:=c29) (hR _ _ ZP)) letter) ?_;rintro ⟨⟩ -)
 refine Zno ?_
 refine Zn (Za (wC (fun h32=>?_) (fun h32=>?_)))
 refine Zm (Zb (Ze (Za (Zi (Zsu ?_)))))
 refine Zo J (Zn (Za ?_))
 exact ⟨rfl,j+1,⟨by omega,fstE_next hs2 (rmap_at hj6) (by unfold lookE;rw [hhas,if_neg (by simpa only [Bool.not_eq_true',Bool.not_eq_true] using h32)])⟩,by omega,cv,Lh⟩
 refine Zj (Za (Zh (wDrawG J [0,1,2,3,7] [(4,[0,1,2,7],[5,6]),(8,[0,1,2],[]),(9,[],[])] [10] 24 ZK J J (fun w0=>?_))))
 refine Zz (n:=1) (m:=1) J J J (Zld ?_)
 refine Zo J (Zo J (Zo J (Z4 (Z5 J (Z3 J (ZG ?_ J (fun w0=>?_)))))))
 refine Z8 J J J J (fun w0=>?_) ?_
 refine Zz (n:=1) (m:=1) J J J ?_
 exact Z9 rfl
 refine Z8 J J J J (fun w0=>?_) ?_
 refine Zld ?_
 exact Z9 rfl
 refine Z8 J J J J (fun w0=>?_) ?_
 refine Zo J ?_
 exact Z9 rfl
 refine Z8 J J J J (fun w0=>?_) ?_
 refine Zo J ?_
 exact Z9 rfl
 exact AgainG.nil
 refine Zz (n:=9) (m:=9) J J J (Zla ?_)
 refine Z4 (Z5 J ?_)
 (refine ZC0 rfl ZK (fun w hS=>frame hS ZQ (fun B' hB hS'=>instr_Operand hS' x _ (kApiInstr_mk _ x) (i:Int))) ?_;rintro ⟨⟩ -)
 refine ZG ?_ J (fun w0=>?_)
 refine Z8 J J J J (fun w0=>?_) ?_
 refine Zz (n:=1) (m:=1) J J J ?_
 exact Z9 rfl
 refine Z8 J J J J (fun w0=>?_) ?_
 refine Zld ?_
 exact Z9 rfl
 refine Z8 J J J J (fun w0=>?_) ?_
 refine Zo J ?_
 exact Z9 rfl
 exact AgainG.nil
 refine Z4 (Z5 J ?_)
 (refine oCallV rfl rfl rfl (look_good j lk hlk) (fun w hS=>frame hS ZQ (fun B' hB hS'=>look_any (a:=a) hS' (Kd.C_grow hB g0) (opdF x i) j lk hlk)) ?_;rintro ⟨⟩ -)
 refine ZG ?_ J (fun w0=>?_)
 exact AgainG.nil
 refine Z6 (Zp J (Zn (Za (Zh (Zi (Zo J (Z0 J J (Zn (Za (wC (fun h44=>?_) (fun h44=>?_)))))))))))
 refine Zh (Zi (Zo J (Zp J (Zn (Za (Zl (Zf (Zc (Zc (Zf (Zf (Zc (Zf (Zc (Zw (fi1 J ?_))))))))))))))))
 exact ⟨(),trivial,by
 have hle:letE f k (byteAt (shapeF x.fOp) i) (opdF x i)=lookV f k (opdF x i) j:=by rw [hlet];unfold letE;rw [fstE_stop hs2 (rmap_at hj6) (by unfold lookE;rw [hhas,if_pos (by simpa only [Bool.not_eq_false'] using h32)];exact h44)];unfold lookE;rw [hhas,if_pos (by simpa only [Bool.not_eq_false'] using h32)]
 unfold operF
 rw [fstE_stop hs (rmap_at hi4) (by unfold opsE;rw [hle];exact h44)]
 unfold opsE
 rw [hle];rfl,Lh⟩
 refine Zj (Zze ?_)
 refine Zo J (Zn (Za ?_))
 exact ⟨rfl,j+1,⟨by omega,fstE_next hs2 (rmap_at hj6) (by unfold lookE;rw [hhas,if_pos (by simpa only [Bool.not_eq_false'] using h32)];exact Classical.not_not.1 h44)⟩,by omega,cv,Lh⟩
 obtain rfl:j=6:=by omega
 rw [rmap_all] at hs2
 have hs2:opsE f x k i=0:=by unfold opsE letE;rw [hlet];exact hs2
 refine Zm (Zb (Zb (Ze (Zd (Za ?_)))))
 exact ⟨rfl,i+1,⟨by omega,fstE_next hs (rmap_at hi4) hs2⟩,by omega,cv,Lh⟩
 refine Zm (Zzf ?_)
 obtain rfl:i=(shapeF x.fOp).size:=by omega
 rw [rmap_all] at hs
 exact ⟨(),trivial,by unfold operF;rw [hs];rfl,Lh⟩
def fitsF (need:Int) (s:ApiSymbol):Bool:=if need=3 then decide (s.fSort=2) && decide (s.fKind=0) else if need=4 then decide (s.fSort=2) && isC (IntKind.i64.wrap (s.fKind-1)) else decide (s.fSort=1)
theorem verify_fits {B:Base}{w:World}(hS:St B [] w) (need:Int) (s:ApiSymbol) (sc:List Value) (hs:kApiSymbol.K B.e s sc) :
 CW 183 #[.int .i64 need,.agg sc.toArray] w (Ret B (fun _:Unit=>True) (fun _=>.bool (fitsF need s)) (fun _=>[])):=by
 obtain rfl:=kApiSymbol_open hs
 refine ZX Tryz.func183 hS ?_
 refine Zh (Zi (oBox J ZP (fun b3=>?_)))
 refine Zp J (Zn (Za (Zh (Zh (Zi (Zo J (Zn (Za (Zk (Zh (Zi (Zy J J (Zp J (Zn (Za (wC (fun h8=>?_) (fun h8=>?_)))))))))))))))))
 refine Zh (Zi (Zz (n:=2) (m:=2) J J J (Zld ?_)))
 refine Zy J J (Zo J (ZS (ZT 13) (fun h13=>?_) (fun h13=>?_)))
 refine Zq J J (Zz (n:=3) (m:=3) J J J (Zzg ?_))
 refine Zq J J (Zy J J (Zt J J (Zzd ?_)))
 exact ⟨(),trivial,by simp_all [resVal,fitsF],Lh⟩
 refine Zr J J J J (Zr J J J J (Zr J J J J (Zu J J (Zzd ?_))))
 exact ⟨(),trivial,by simp_all [resVal,fitsF],Lh⟩
 refine Zh (Zi (Zy J J (Zp J (Zn (Za (wC (fun h18=>?_) (fun h18=>?_)))))))
 refine Zh (Zi (Zz (n:=3) (m:=3) J J J (Zld ?_)))
 (refine ZC0 rfl ZK (fun w hS=>frame hS ZQ (fun B' hB hS'=>sig_Class hS' s.fKind)) ?_;rintro ⟨⟩ -)
 refine Zo J (oExt J ZP ?_)
 refine oExt J ZP ?_
 refine Zp J (Zp J (Zn (Za (Zh (Zi (Zz (n:=2) (m:=2) J J J (Zld ?_)))))))
 refine Zy J J (Zo J (ZS (ZT 29) (fun h29=>?_) (fun h29=>?_)))
 refine Zq J J (Zo J (Zt J J (Zzd ?_)))
 exact ⟨(),trivial,by simp_all [resVal,fitsF],Lh⟩
 refine Zr J J J J (Zu J J (Zzd ?_))
 exact ⟨(),trivial,by simp_all [resVal,fitsF],Lh⟩
 refine Zj (Zd (Za (Zh (Zi (Zz (n:=2) (m:=2) J J J (Zld ?_))))))
 refine Zy J J (Zzh ?_)
 exact ⟨(),trivial,by simp_all [resVal,fitsF],Lh⟩
abbrev atR (i:Int) (r:ApiReloc):Bool:=decide (r.fAt=i)
def markF (f:ApiFunc) (i:Int):Int:=idxI (atR i) f.fRelocs
def symF (f:ApiFunc) (i:Int):Int:=if markF f i<0 then -1 else (f.fRelocs.getD (markF f i).toNat default).fSym
theorem indexFunc_rel {B:Base}{w:World}{R:Res}(hS:St B [R] w) (l:List ApiReloc) (A:Option Addr) (cp:Nat) (hC:kApiReloc.C B.e A l) (gf:Nat) (lb:Array Value) (p:ApiReloc→Bool) (hg:goodF Tryz.prog gf=true)
 (hh:∀ B' w (x:ApiReloc),Grow B.e B'.e→St B' [R] w→CW gf (#[]++[Value.agg #[.int .i64 x.fAt,.int .i64 x.fSym,.bool x.fWide]].toArray++lb) w (Ret B' (fun _:Unit=>True) (fun _=>.bool (p x)) (fun _=>[R]))) :
 CW 206 #[.slice A l.length cp,.func (.func gf) #[] lb] w (Ret B (fun _:Unit=>True) (fun _=>.int .i64 (idxI p l)) (fun _=>[R])):=by
 have hl:=hC.1
 refine ZX Tryz.func206 hS ?_
 refine Zh (Zi (Zp J (Zn (Za (Zh (Zh (Zi (Zo J (Zv J J (Zo J (Zn (Za (Zk (wLoop (ι:=Nat) (fun i=>[(0,.slice A l.length cp),(1,.func (.func gf) #[] lb),(7,.int .i64 (l.length:Int)),(8,.int .i64 (i:Int))]) (fun i=>[R]) (fun i=>i≤l.length∧∀ y ∈ l.take i,p y=false) (fun i=>l.length-i) 0 ?_ cv (Leads.has ZQ) ?_))))))))))))))
 exact ⟨Nat.zero_le _,by simp⟩
 rintro i ⟨hi,hs⟩
 try dsimp only
 refine Zh (Zi (Zx J J (Zn (Za (Zh (wC (fun h9=>?_) (fun h9=>?_)))))))
 obtain ⟨x,hx⟩:∃ x,l[i]?=some x:=⟨_,List.getElem?_eq_getElem ZO⟩
 obtain ⟨e1,cs1,hE⟩:=hC.elm hx
 obtain rfl:=kApiReloc_open hE.K
 refine Zj (Za (Zh (Zk (Zh (Zi (Zo J (Zp J (Zn (Za (Zh (Zi (Zo J (Zo J (Zo J (oIdxE J J (hE) ZO J J ?_)))))))))))))))
 have hc14:=(hE).cell
 refine Zlx hc14 ?_
 (refine oCallV rfl rfl rfl hg (fun w hS=>frame hS ZQ (fun B' hB hS'=>hh B' w x hB hS')) ?_;rintro ⟨⟩ -)
 refine Zn (Za (wC (fun h16=>?_) (fun h16=>?_)))
 refine Zh (Zi (Zo J (Zzc ?_)))
 exact ⟨(),trivial,by rw [idxI_stop hs hx (by simpa using h16)];rfl,Lh⟩
 refine Zj (Zze ?_)
 refine Zo J (Zn (Za ?_))
 exact ⟨rfl,i+1,⟨by omega,take_not hs hx (by simpa using h16)⟩,by omega,cv,Lh⟩
 refine Zm (Zzf ?_)
 obtain rfl:i=l.length:=by omega
 rw [List.take_length] at hs
 exact ⟨(),trivial,by rw [idxI_none hs];rfl,Lh⟩
theorem mark1 {B:Base}{w:World}{b1:Nat}{i:Int}(hS:St B [blk b1 3 [.int .i64 i]] w) (x:ApiReloc) :
 CW 207 #[.agg #[.int .i64 x.fAt,.int .i64 x.fSym,.bool x.fWide],.pointer (some ⟨b1,0,none⟩)] w (Ret B (fun _:Unit=>True) (fun _=>.bool (atR i x)) (fun _=>[blk b1 3 [.int .i64 i]])):=by
 refine ZX Tryz.func207 hS ?_
 refine Zh (Zi (oBox J ZP (fun b2=>?_)))
 refine Zp J (Zn (Za (Zh (Zi (Zz (n:=0) (m:=0) J J J (Zld ?_))))))
 refine Zld ?_
 refine Zy J J (Zzh ?_)
 exact ⟨(),trivial,rfl,Lh⟩
theorem verify_mark {B:Base}{w:World}(hS:St B [] w) (f:ApiFunc) (fc:List Value) (hf:kApiFunc.K B.e f fc) (i:Int) :
 CW 182 #[.agg fc.toArray,.int .i64 i] w (Ret B (fun _:Unit=>True) (fun _=>.int .i64 (markF f i)) (fun _=>[])):=by
 obtain ⟨A0,c0,A1,c1,A2,c2,A3,c3,rfl,l0,g0,l1,g1,l2,g2,l3,g3⟩:=kApiFunc_open hf
 refine ZX Tryz.func182 hS ?_
 refine Zh (Zi (oBox J ZP (fun b2=>?_)))
 refine oBox J ZP (fun b3=>?_)
 refine Zp J (Zn (Za (Zh (Zi (Zz (n:=8) (m:=8) J J J (Zld ?_))))))
 refine oMakeFunc J ?_
 (refine ZC0 rfl ZK (fun w hS=>frame hS ZQ (fun B' hB hS'=>indexFunc_rel hS' f.fRelocs A3 c3 (Kd.C_grow hB g3) _ _ (atR i) ZK (fun B2 w2 x hB2 hS2=>mark1 hS2 x))) ?_;rintro ⟨⟩ -)
 refine Zp J (Zza ?_)
 exact ⟨(),trivial,rfl,Lh⟩
theorem mark_at {f:ApiFunc}{i:Int}(h:0≤markF f i):∃ (m:Nat) (r:ApiReloc),markF f i=(m:Int)∧f.fRelocs[m]?=some r∧symF f i=r.fSym:=by
 obtain ⟨m,r,hm,hr,_⟩:=idxI_at h
 refine ⟨m,r,hm,hr,?_⟩
 unfold symF
 rw [if_neg ZO,show markF f i=(m:Int) from hm,Int.toNat_natCast,List.getD_eq_getElem?_getD,hr];rfl
def symAtF (f:ApiFunc) (l:List ApiSymbol) (i:Int):ApiSymbol:=l.getD (symF f i).toNat default
def codeAt (f:ApiFunc) (i:Int):ApiInstr:=f.fCode.getD i.toNat default
def refE (f:ApiFunc) (l:List ApiSymbol) (i:Int):Int:=if needF (codeAt f i).fOp=0∧markF f i<0 then 0 else if needF (codeAt f i).fOp=0∨markF f i<0∨symF f i<0∨(l.length:Int)≤symF f i then 11 else if fitsF (needF (codeAt f i).fOp) (symAtF f l i) then 0 else 8
def refS (f:ApiFunc) (l:List ApiSymbol) (i:Int):ApiSymbol:=if needF (codeAt f i).fOp=0∨refE f l i≠0 then default else symAtF f l i
theorem verify_refers {B:Base}{w:World}(hS:St B [] w) (f:ApiFunc) (fc:List Value) (hf:kApiFunc.K B.e f fc) (Al:Option Addr) (cl:Nat) (l:List ApiSymbol) (hl:kApiSymbol.C B.e Al l) (i:Nat) (hi:i<f.fCode.length) :
 CW 157 #[.agg fc.toArray,.slice Al l.length cl,.int .i64 (i:Int)] w (Ret B (fun _:Unit=>True) (fun _=>.tuple #[.agg (symL (refS f l i)).toArray,.int .i64 (refE f l i)]) (fun _=>[])):=by
 obtain ⟨A0,c0,A1,c1,A2,c2,A3,c3,rfl,l0,g0,l1,g1,l2,g2,l3,g3⟩:=kApiFunc_open hf
 obtain ⟨x,hx⟩:∃ x,f.fCode[i]?=some x:=⟨_,List.getElem?_eq_getElem hi⟩
 have hca:codeAt f (i:Int)=x:=by unfold codeAt;rw [Int.toNat_natCast,List.getD_eq_getElem?_getD,hx];rfl
 obtain ⟨e0,cs0,hE0⟩:=g2.elm hx
 obtain rfl:=kApiInstr_open hE0.K
 generalize hne:needF x.fOp=need
 refine ZX Tryz.func157 hS ?_
 refine Zh (Zi (oBox J ZP (fun b3=>?_)))
 refine oAlloc J ZP (fun b6=>?_)
 refine Zp J (Zn (Za (Zh (wDrawG J [0,1,2,3,4,5,7,8] [(6,[7,8],[]),(9,[],[])] [10,11] 24 ZK J J (fun w0=>?_)))))
 refine Zz (n:=7) (m:=7) J J J (Zld ?_)
 refine Zo J (oIdxE J J (hE0) ZO J J ?_)
 have hc14:=(hE0).cell
 refine ZF (ZT 0) (ZT 0) ?_
 refine Zlx hc14 ?_
 refine Zla ?_
 refine Zo J (Z4 (Z5 J ?_))
 (refine ZC0 rfl ZK (fun w hS=>frame hS ZQ (fun B' hB hS'=>op_Need hS' x.fOp)) ?_;rintro ⟨⟩ -)
 rw [hne]
 refine ZG ?_ J (fun w0=>?_)
 refine Z8 J J J J (fun w0=>?_) ?_
 refine Zla ?_
 exact Z9 rfl
 refine Z8 J J J J (fun w0=>?_) ?_
 refine Zo J ?_
 exact Z9 rfl
 exact AgainG.nil
 refine Z4 (Z5 J ?_)
 (refine ZC0 rfl ZK (fun w hS=>frame hS ZQ (fun B' hB hS'=>verify_mark hS' f _ (kApiFunc.K_grow hB hf) (i:Int))) ?_;rintro ⟨⟩ -)
 refine ZG ?_ J (fun w0=>?_)
 exact AgainG.nil
 refine Z6 (Zp J (Zp J (Zn (Za (Zh (Zk (Zh (Zi (Zo J (Zy J J (Zo J (ZS (ZT 24) (fun h24=>?_) (fun h24=>?_)))))))))))))
 refine Zq J J (Zo J (Zq J J (Zx J J (Zt J J (Zp J (Zn (Za (wC (fun h21=>?_) (fun h21=>?_)))))))))
 refine Zh (Zi (oBuild Parts.nil J J Built.nil (Zsa ?_)))
 refine Zp J (Zzl ?_)
 have he:refE f l i=0:=by unfold refE;rw [hca,hne,if_pos ⟨h24,h21⟩]
 have hr:refS f l i=default:=by unfold refS;rw [hca,hne,if_pos (.inl h24)]
 exact ⟨(),trivial,by rw [he,hr];rfl,Lh⟩
 refine Zh (Zh (Zi (Zo J (Zy J J (Zp J (Zn (Za (wC (fun h29=>?_) (fun h29=>?_)))))))))
 refine Zj (Za (ZY h29 ?_))
 refine Zh (Zi (oBuild Parts.nil J J Built.nil (Zsa ?_)))
 refine Zp J (Zzl ?_)
 have he:refE f l i=11:=by unfold refE;rw [hca,hne,if_neg ZO,if_pos ZO]
 have hr:refS f l i=default:=by unfold refS;rw [he,if_pos (.inr (by decide))]
 exact ⟨(),trivial,by rw [he,hr];rfl,Lh⟩
 refine Zh (Zi (Zo J (Zx J J (Zp J (Zn (Za (wC (fun h29=>?_) (fun h29=>?_))))))))
 refine Zj (Za (ZY h29 ?_))
 refine Zh (Zi (oBuild Parts.nil J J Built.nil (Zsa ?_)))
 refine Zp J (Zzl ?_)
 have he:refE f l i=11:=by unfold refE;rw [hca,hne,if_neg ZO,if_pos ZO]
 have hr:refS f l i=default:=by unfold refS;rw [he,if_pos (.inr (by decide))]
 exact ⟨(),trivial,by rw [he,hr];rfl,Lh⟩
 refine Zh (Zi (Zz (n:=8) (m:=8) J J J ?_))
 obtain ⟨m,r,hm,hr,hsy⟩:=mark_at (show 0≤markF f i by omega)
 rw [hm]
 obtain ⟨e1,cs1,hE1⟩:=g3.elm hr
 obtain rfl:=kApiReloc_open hE1.K
 have hml:=(List.getElem?_eq_some_iff.1 hr).1
 refine Zld ?_
 refine Zo J (oIdxE J J (hE1) ZO J J ?_)
 have hc37:=(hE1).cell
 refine ZF (ZT 1) (ZT 1) ?_
 refine Zlx hc37 ?_
 refine Zx J J (Zp J (Zn (Za (wC (fun h29=>?_) (fun h29=>?_)))))
 refine Zj (Za (ZY h29 ?_))
 refine Zh (Zi (oBuild Parts.nil J J Built.nil (Zsa ?_)))
 refine Zp J (Zzl ?_)
 have he:refE f l i=11:=by unfold refE;rw [hca,hne,if_neg ZO,if_pos ZO]
 have hr:refS f l i=default:=by unfold refS;rw [he,if_pos (.inr (by decide))]
 exact ⟨(),trivial,by rw [he,hr];rfl,Lh⟩
 refine Zi (Zz (n:=8) (m:=8) J J J (Zld ?_))
 refine Zo J (oIdxE J J (hE1) ZO J J ?_)
 have hc44:=(hE1).cell
 refine ZF (ZT 1) (ZT 1) ?_
 refine Zlx hc44 ?_
 refine Zo J (Zv J J (Z2 J J (Zp J (Zn (Za (wC (fun h29=>?_) (fun h29=>?_)))))))
 refine Zh (Zi (oBuild Parts.nil J J Built.nil (Zsa ?_)))
 refine Zp J (Zzl ?_)
 have he:refE f l i=11:=by unfold refE;rw [hca,hne,if_neg ZO,if_pos ZO]
 have hr:refS f l i=default:=by unfold refS;rw [he,if_pos (.inr (by decide))]
 exact ⟨(),trivial,by rw [he,hr];rfl,Lh⟩
 refine Zj (Zd (Za (Zzi ?_)))
 obtain ⟨n,hn⟩:=Int.eq_ofNat_of_zero_le (show 0≤r.fSym by omega)
 obtain ⟨s,hs⟩:∃ s,l[n]?=some s:=⟨_,List.getElem?_eq_getElem ZO⟩
 obtain ⟨e2,cs2,hE2⟩:=hl.elm hs
 obtain rfl:=kApiSymbol_open hE2.K
 have hsa:symAtF f l i=s:=by unfold symAtF;rw [hsy,hn,Int.toNat_natCast,List.getD_eq_getElem?_getD,hs];rfl
 refine Zz (n:=8) (m:=8) J J J (Zld ?_)
 refine Zo J (oIdxE J J (hE1) ZO J J ?_)
 have hc55:=(hE1).cell
 refine ZF (ZT 1) (ZT 1) ?_
 refine Zlx hc55 ?_
 rw [hn]
 refine oIdxE J J (hE2) (by obtain ⟨h,_⟩:=List.getElem?_eq_some_iff.1 hs;exact h) J J ?_
 have hc58:=(hE2).cell
 refine Zlx hc58 ?_
 refine oAlloc J ZP (fun b10=>?_)
 refine Zsa ?_
 refine Zn (Za (Zh (Zh (Zi (Zo J (Zla ?_))))))
 (refine ZC0 rfl ZK (fun w hS=>frame hS ZQ (fun B' hB hS'=>verify_fits hS' need s _ (kApiSymbol_mk _ s))) ?_;rintro ⟨⟩ -)
 refine Zno ?_
 refine Zn (Za (wC (fun h63=>?_) (fun h63=>?_)))
 refine Zh (Zi (oBuild Parts.nil J J Built.nil (Zsa ?_)))
 refine Zp J (Zzp ?_)
 have he:refE f l i=8:=by unfold refE;rw [hca,hne,hsa,if_neg ZO,if_neg ZO,if_neg (by simpa using h63)]
 have hr:refS f l i=default:=by unfold refS;rw [he,if_pos (.inr (by decide))]
 exact ⟨(),trivial,by rw [he,hr];rfl,Lh⟩
 refine Zj (Zzk ?_)
 refine Zsa ?_
 refine Zp J (Zn (Za (Zl (Zw (ZI2 ?_)))))
 have he:refE f l i=0:=by unfold refE;rw [hca,hne,hsa,if_neg ZO,if_neg ZO,if_pos (by simpa using h63)]
 have hr:refS f l i=s:=by unfold refS;rw [he,hca,hne,hsa,if_neg ZO]
 exact ⟨(),trivial,by rw [he,hr];rfl,Lh⟩
 refine Zr J J J J (Zr J J J J (Zu J J (Zp J (Zn (Za (wCondF J (Zh (Zh (Zi (Zo J (Zy J J (Zp J (Zn (Za (wC (fun h29=>?_) (fun h29=>?_))))))))))))))))
 refine Zj (Za (ZY h29 ?_))
 refine Zh (Zi (oBuild Parts.nil J J Built.nil (Zsa ?_)))
 refine Zp J (Zzl ?_)
 have he:refE f l i=11:=by unfold refE;rw [hca,hne,if_neg ZO,if_pos ZO]
 have hr:refS f l i=default:=by unfold refS;rw [he,if_pos (.inr (by decide))]
 exact ⟨(),trivial,by rw [he,hr];rfl,Lh⟩
 refine Zh (Zi (Zo J (Zx J J (Zp J (Zn (Za (wC (fun h29=>?_) (fun h29=>?_))))))))
 refine Zj (Za (ZY h29 ?_))
 refine Zh (Zi (oBuild Parts.nil J J Built.nil (Zsa ?_)))
 refine Zp J (Zzl ?_)
 have he:refE f l i=11:=by unfold refE;rw [hca,hne,if_neg ZO,if_pos ZO]
 have hr:refS f l i=default:=by unfold refS;rw [he,if_pos (.inr (by decide))]
 exact ⟨(),trivial,by rw [he,hr];rfl,Lh⟩
 refine Zh (Zi (Zz (n:=8) (m:=8) J J J ?_))
 obtain ⟨m,r,hm,hr,hsy⟩:=mark_at (show 0≤markF f i by omega)
 rw [hm]
 obtain ⟨e1,cs1,hE1⟩:=g3.elm hr
 obtain rfl:=kApiReloc_open hE1.K
 have hml:=(List.getElem?_eq_some_iff.1 hr).1
 refine Zld ?_
 refine Zo J (oIdxE J J (hE1) ZO J J ?_)
 have hc37:=(hE1).cell
 refine ZF (ZT 1) (ZT 1) ?_
 refine Zlx hc37 ?_
 refine Zx J J (Zp J (Zn (Za (wC (fun h29=>?_) (fun h29=>?_)))))
 refine Zj (Za (ZY h29 ?_))
 refine Zh (Zi (oBuild Parts.nil J J Built.nil (Zsa ?_)))
 refine Zp J (Zzl ?_)
 have he:refE f l i=11:=by unfold refE;rw [hca,hne,if_neg ZO,if_pos ZO]
 have hr:refS f l i=default:=by unfold refS;rw [he,if_pos (.inr (by decide))]
 exact ⟨(),trivial,by rw [he,hr];rfl,Lh⟩
 refine Zi (Zz (n:=8) (m:=8) J J J (Zld ?_))
 refine Zo J (oIdxE J J (hE1) ZO J J ?_)
 have hc44:=(hE1).cell
 refine ZF (ZT 1) (ZT 1) ?_
 refine Zlx hc44 ?_
 refine Zo J (Zv J J (Z2 J J (Zp J (Zn (Za (wC (fun h29=>?_) (fun h29=>?_)))))))
 refine Zh (Zi (oBuild Parts.nil J J Built.nil (Zsa ?_)))
 refine Zp J (Zzl ?_)
 have he:refE f l i=11:=by unfold refE;rw [hca,hne,if_neg ZO,if_pos ZO]
 have hr:refS f l i=default:=by unfold refS;rw [he,if_pos (.inr (by decide))]
 exact ⟨(),trivial,by rw [he,hr];rfl,Lh⟩
 refine Zj (Zd (Za (Zzi ?_)))
 obtain ⟨n,hn⟩:=Int.eq_ofNat_of_zero_le (show 0≤r.fSym by omega)
 obtain ⟨s,hs⟩:∃ s,l[n]?=some s:=⟨_,List.getElem?_eq_getElem ZO⟩
 obtain ⟨e2,cs2,hE2⟩:=hl.elm hs
 obtain rfl:=kApiSymbol_open hE2.K
 have hsa:symAtF f l i=s:=by unfold symAtF;rw [hsy,hn,Int.toNat_natCast,List.getD_eq_getElem?_getD,hs];rfl
 refine Zz (n:=8) (m:=8) J J J (Zld ?_)
 refine Zo J (oIdxE J J (hE1) ZO J J ?_)
 have hc55:=(hE1).cell
 refine ZF (ZT 1) (ZT 1) ?_
 refine Zlx hc55 ?_
 rw [hn]
 refine oIdxE J J (hE2) (by obtain ⟨h,_⟩:=List.getElem?_eq_some_iff.1 hs;exact h) J J ?_
 have hc58:=(hE2).cell
 refine Zlx hc58 ?_
 refine oAlloc J ZP (fun b10=>?_)
 refine Zsa ?_
 refine Zn (Za (Zh (Zh (Zi (Zo J (Zla ?_))))))
 (refine ZC0 rfl ZK (fun w hS=>frame hS ZQ (fun B' hB hS'=>verify_fits hS' need s _ (kApiSymbol_mk _ s))) ?_;rintro ⟨⟩ -)
 refine Zno ?_
 refine Zn (Za (wC (fun h63=>?_) (fun h63=>?_)))
 refine Zh (Zi (oBuild Parts.nil J J Built.nil (Zsa ?_)))
 refine Zp J (Zzp ?_)
 have he:refE f l i=8:=by unfold refE;rw [hca,hne,hsa,if_neg ZO,if_neg ZO,if_neg (by simpa using h63)]
 have hr:refS f l i=default:=by unfold refS;rw [he,if_pos (.inr (by decide))]
 exact ⟨(),trivial,by rw [he,hr];rfl,Lh⟩
 refine Zj (Zzk ?_)
 refine Zsa ?_
 refine Zp J (Zn (Za (Zl (Zw (ZI2 ?_)))))
 have he:refE f l i=0:=by unfold refE;rw [hca,hne,hsa,if_neg ZO,if_neg ZO,if_pos (by simpa using h63)]
 have hr:refS f l i=s:=by unfold refS;rw [he,hca,hne,hsa,if_neg ZO]
 exact ⟨(),trivial,by rw [he,hr];rfl,Lh⟩
def instrF (f:ApiFunc) (l:List ApiSymbol) (i:Int):Int:=if i<0∨(f.fCode.length:Int)≤i then 2 else if refE f l i≠0 then refE f l i else if (codeAt f i).fOp=20 then (if isC (codeAt f i).fC then operF f (codeAt f i) (codeAt f i).fC else 14) else if (codeAt f i).fOp=21 then (if latF (refS f l i).fKind then operF f (codeAt f i) (refS f l i).fKind else 14) else if (codeAt f i).fOp=18 then operF f (codeAt f i) (IntKind.i64.wrap ((refS f l i).fKind-1)) else operF f (codeAt f i) (refS f l i).fKind
theorem verify_Instr {B:Base}{w:World}(hS:St B [] w) (f:ApiFunc) (fc:List Value) (hf:kApiFunc.K B.e f fc) (Al:Option Addr) (cl:Nat) (l:List ApiSymbol) (hl:kApiSymbol.C B.e Al l) (i:Int) :
 CW 129 #[.agg fc.toArray,.slice Al l.length cl,.int .i64 i] w (Ret B (fun _:Unit=>True) (fun _=>.int .i64 (instrF f l i)) (fun _=>[])):=by
 obtain ⟨A0,c0,A1,c1,A2,c2,A3,c3,rfl,l0,g0,l1,g1,l2,g2,l3,g3⟩:=kApiFunc_open hf
 refine ZX Tryz.func129 hS ?_
 refine Zh (Zi (oBox J ZP (fun b3=>?_)))
 refine Zp J (Zn (Za (Zh (Zh (Zi (Zo J (Zx J J (Zo J (ZS (ZT 12) (fun h12=>?_) (fun h12=>?_))))))))))
 refine Zr J J J J (Zr J J J J (Zr J J J J (Zr J J J J (Zr J J J J (Zt J J (Zn (Za (wCondT J (Zh (Zi (Zzb ?_)))))))))))
 exact ⟨(),trivial,by unfold instrF;rw [if_pos (.inl h12)];rfl,Lh⟩
 refine Zq J J (Zo J (Zq J J (Zz (n:=7) (m:=7) J J J (Zzg ?_))))
 refine Zq J J (Zv J J (Zq J J (Z2 J J (Zu J J (Zn (Za (wC (fun h18=>?_) (fun h18=>?_))))))))
 refine Zh (Zi (Zzb ?_))
 exact ⟨(),trivial,by unfold instrF;rw [if_pos (.inr h18)];rfl,Lh⟩
 have hir:¬ (i<0∨(f.fCode.length:Int)≤i):=by omega
 obtain ⟨n,rfl⟩:=Int.eq_ofNat_of_zero_le (show 0≤i by omega)
 have hnl:n<f.fCode.length:=by omega
 obtain ⟨x,hx⟩:∃ x,f.fCode[n]?=some x:=⟨_,List.getElem?_eq_getElem hnl⟩
 have hca:codeAt f (n:Int)=x:=by unfold codeAt;rw [Int.toNat_natCast,List.getD_eq_getElem?_getD,hx];rfl
 obtain ⟨e0,cs0,hE0⟩:=g2.elm hx
 obtain rfl:=kApiInstr_open hE0.K
 refine Zj (Zzk ?_)
 refine Zo J (Zo J ?_)
 (refine ZC0 rfl ZK (fun w hS=>frame hS ZQ (fun B' hB hS'=>verify_refers hS' f _ (kApiFunc.K_grow hB hf) Al cl l (Kd.C_grow hB hl) n hnl)) ?_;rintro ⟨⟩ -)
 refine Zo J (oExt J ZP ?_)
 refine oExt J ZP ?_
 refine oAlloc J ZP (fun b7=>?_)
 refine Zsa ?_
 refine Zp J (Zn (Za (Zh (Zh (Zi (Zo J (Z0 J J (Zn (Za (wC (fun h27=>?_) (fun h27=>?_)))))))))))
 refine Zh (Zi (Zo J (Zzb ?_)))
 exact ⟨(),trivial,by unfold instrF;rw [if_neg hir,if_pos h27];rfl,Lh⟩
 generalize hs:refS f l (n:Int)=s
 refine Zj (Za (Zh (wDraw2 J J [3] [0,1,2,4,5,6,7,8,9] 10 ZK J J J (fun w0=>?_))))
 refine Zla ?_
 refine Zz (n:=7) (m:=7) J J J (Zld ?_)
 refine oIdxE J J (hE0) ZO J J ?_
 have hc33:=(hE0).cell
 refine Zlx hc33 ?_
 refine Zla ?_
 refine Zz (n:=3) (m:=3) J J J (Zld ?_)
 refine oBuild (Parts.cons J (Parts.cons J (Parts.cons J (Parts.cons J Parts.nil)))) J J (Built.cons (off:=0) (s:=9) J ZP J ZP (Built.cons (off:=9) (s:=5) J ZP J ZP (Built.cons (off:=14) (s:=5) J ZP J ZP (Built.cons (off:=19) (s:=1) J ZP J ZP Built.nil)))) ?_
 refine oHead (oBox J ZP (fun b39=>?_))
 refine Zp J (oNilT (Za (Zh (Zh (Zi (Zo J (Z3 J (Zz (n:=9) (m:=9) J J J (Zz (n:=0) (m:=9) J J J (Zld ?_))))))))))
 refine Zn (Za (Zk (Zh (Zi (Zy J J (Zp J (Zn (Za (wC (fun h45=>?_) (fun h45=>?_))))))))))
 refine Zh (Zi (Zo J (Zo J (Z3 J (Zz (n:=9) (m:=9) J J J (Zz (n:=3) (m:=12) J J J (Zld ?_)))))))
 refine Z3 J (Zz (n:=19) (m:=19) J J J (Zst ?_))
 refine Zn (Za (Zh (Zi (Zo J (Z3 J (Zz (n:=19) (m:=19) J J J (Zld ?_)))))))
 (refine ZC0 rfl ZK (fun w hS=>frame hS ZQ (fun B' hB hS'=>sig_Is hS' x.fC)) ?_;rintro ⟨⟩ -)
 refine Zno ?_
 refine Zn (Za (wC (fun h60=>?_) (fun h60=>?_)))
 refine Zh (Zi (Zzd ?_))
 exact ⟨(),trivial,by unfold instrF;rw [if_neg hir,if_neg h27,hca,if_pos h45,if_neg (by simpa using h60)];rfl,Lh⟩
 refine Zj (Zd (Za (Zzi ?_)))
 (refine ZC0 rfl ZK (fun w hS=>frame hS ZQ (fun B' hB hS'=>ck_operands (a:=⟨A0,c0,A1,c1,A2,c2,A3,c3⟩) (f:=f) (x:=x) (s:=s) (k:=x.fC) hS' (Kd.C_grow hB g0))) ?_;rintro ⟨⟩ -)
 refine Zp J (Zza ?_)
 exact ⟨(),trivial,by unfold instrF;rw [if_neg hir,if_neg h27,hca,if_pos h45,if_pos (by simpa using h60)];rfl,Lh⟩
 refine Zh (Zi (Zy J J (Zp J (Zn (Za (wC (fun h61=>?_) (fun h61=>?_)))))))
 refine Zh (Zi (Zo J (Z3 J (Zz (n:=19) (m:=19) J J J (Zld ?_)))))
 (refine ZC0 rfl ZK (fun w hS=>frame hS ZQ (fun B' hB hS'=>sig_Later hS' s.fKind)) ?_;rintro ⟨⟩ -)
 refine Zno ?_
 refine Zn (Za (wC (fun h68=>?_) (fun h68=>?_)))
 refine Zh (Zi (Zzd ?_))
 exact ⟨(),trivial,by unfold instrF;rw [if_neg hir,if_neg h27,hca,hs,if_neg h45,if_pos h61,if_neg (by simpa using h68)];rfl,Lh⟩
 refine Zj (Zd (Za (Zzi ?_)))
 (refine ZC0 rfl ZK (fun w hS=>frame hS ZQ (fun B' hB hS'=>ck_operands (a:=⟨A0,c0,A1,c1,A2,c2,A3,c3⟩) (f:=f) (x:=x) (s:=s) (k:=s.fKind) hS' (Kd.C_grow hB g0))) ?_;rintro ⟨⟩ -)
 refine Zp J (Zza ?_)
 exact ⟨(),trivial,by unfold instrF;rw [if_neg hir,if_neg h27,hca,hs,if_neg h45,if_pos h61,if_pos (by simpa using h68)];rfl,Lh⟩
 refine Zh (Zi (Zy J J (Zp J (Zn (Za (wC (fun h69=>?_) (fun h69=>?_)))))))
 refine Zi (Zo J (Z3 J (Zz (n:=19) (m:=19) J J J (Zld ?_))))
 refine oSubW J J (Z3 J (Zz (n:=19) (m:=19) J J J (Zst ?_)))
 refine Zn (Zd (Za (Zzi ?_)))
 (refine ZC0 rfl ZK (fun w hS=>frame hS ZQ (fun B' hB hS'=>ck_operands (a:=⟨A0,c0,A1,c1,A2,c2,A3,c3⟩) (f:=f) (x:=x) (s:=s) (k:=IntKind.i64.wrap (s.fKind-1)) hS' (Kd.C_grow hB g0))) ?_;rintro ⟨⟩ -)
 refine Zp J (Zza ?_)
 exact ⟨(),trivial,by unfold instrF;rw [if_neg hir,if_neg h27,hca,hs,if_neg h45,if_neg h61,if_pos h69];rfl,Lh⟩
 refine Zj (Zd (Za (Zzi ?_)))
 (refine ZC0 rfl ZK (fun w hS=>frame hS ZQ (fun B' hB hS'=>ck_operands (a:=⟨A0,c0,A1,c1,A2,c2,A3,c3⟩) (f:=f) (x:=x) (s:=s) (k:=s.fKind) hS' (Kd.C_grow hB g0))) ?_;rintro ⟨⟩ -)
 refine Zp J (Zza ?_)
 exact ⟨(),trivial,by unfold instrF;rw [if_neg hir,if_neg h27,hca,hs,if_neg h45,if_neg h61,if_neg h69];rfl,Lh⟩
def insL (f:ApiFunc) (l:List ApiSymbol):List Int:=(List.range f.fCode.length).map fun i:Nat=>instrF f l (i:Int)
abbrev non0 (e:Int):Bool:=decide (e≠0)
def chkE (f:ApiFunc) (l:List ApiSymbol):Int:=if funF f≠0 then funF f else fstE (insL f l)
def chkI (f:ApiFunc) (l:List ApiSymbol):Int:=if funF f≠0 then -1 else idxI non0 (insL f l)
theorem verify_Check {B:Base}{w:World}(hS:St B [] w) (f:ApiFunc) (fc:List Value) (hf:kApiFunc.K B.e f fc) (hsm:f.fRelocs.length≤1000) (Al:Option Addr) (cl:Nat) (l:List ApiSymbol) (hl:kApiSymbol.C B.e Al l) :
 CW 96 #[.agg fc.toArray,.slice Al l.length cl] w (Ret B (fun _:Unit=>True) (fun _=>.tuple #[.int .i64 (chkE f l),.int .i64 (chkI f l)]) (fun _=>[])):=by
 obtain ⟨A0,c0,A1,c1,A2,c2,A3,c3,rfl,l0,g0,l1,g1,l2,g2,l3,g3⟩:=kApiFunc_open hf
 have hcl:=g2.1
 have hil:(insL f l).length=f.fCode.length:=by simp [insL]
 refine ZX Tryz.func96 hS ?_
 refine Zh (Zi (oBox J ZP (fun b2=>?_)))
 refine Zp J (Zp J (Zn (Za (Zh (Zh (Zi (Zla ?_)))))))
 (refine ZC0 rfl ZK (fun w hS=>frame hS ZQ (fun B' hB hS'=>fun_Check hS' f _ (kApiFunc.K_grow hB hf) hsm)) ?_;rintro ⟨⟩ -)
 refine Zp J (Zn (Za (Zh (Zi (Zo J (Z0 J J (Zn (Za (wC (fun h12=>?_) (fun h12=>?_))))))))))
 refine Zh (Zi (Zo J (Zp J (Zp J (Zn (Za (Zl (Zc (Zw ?_)))))))))
 refine ⟨rfl,_,(ResL.cons (ResR.tmp rfl) (ResL.cons (ResR.tmp rfl) ResL.nil)),?_⟩
 exact ⟨(),trivial,by unfold chkE chkI;rw [if_pos h12,if_pos h12];rfl,Lh⟩
 refine Zj (Za (Zh (Zh (Zi (Zz (n:=7) (m:=7) J J J (Zld ?_))))))
 refine Zv J J (Zo J (Zn (Za (Zk (wLoop (ι:=Nat) (fun i=>[(1,.slice Al l.length cl),(2,.pointer (some ⟨b2,0,none⟩)),(16,.int .i64 (f.fCode.length:Int)),(17,.int .i64 (i:Int))]) (fun i=>[blk b2 51 [.int .i64 f.fClass,.slice A0 f.fKinds.length c0,.int .i64 f.fPad,.bool f.fNosplit,.int .i64 f.fFrom,.int .i64 f.fTo,.slice A1 f.fLines.length c1,.slice A2 f.fCode.length c2,.slice A3 f.fRelocs.length c3]]) (fun i=>i≤f.fCode.length∧fstE ((insL f l).take i)=0∧∀ y ∈ (insL f l).take i,non0 y=false) (fun i=>f.fCode.length-i) 0 ?_ cv (Leads.has ZQ) ?_)))))
 exact ⟨Nat.zero_le _,rfl,by simp⟩
 rintro i ⟨hi,hs,hs2⟩
 try dsimp only
 refine Zh (Zi (Zx J J (Zn (Za (Zh (wC (fun h18=>?_) (fun h18=>?_)))))))
 have hxe:(insL f l)[i]?=some (instrF f l (i:Int)):=rmap_at (e:=fun i:Nat=>instrF f l (i:Int)) ZO
 refine Zj (Za (Zh (Zk (Zh (Zi (Zo J (Zp J (Zn (Zzk ?_)))))))))
 refine Zo J (Zo J ?_)
 (refine ZC0 rfl ZK (fun w hS=>frame hS ZQ (fun B' hB hS'=>verify_Instr hS' f _ (kApiFunc.K_grow hB hf) Al cl l (Kd.C_grow hB hl) (i:Int))) ?_;rintro ⟨⟩ -)
 refine Zp J (Zn (Za (Zh (Zi (Zo J (Z0 J J (Zn (Za (wC (fun h25=>?_) (fun h25=>?_))))))))))
 refine Zh (Zi (Zo J (Zo J (Zp J (Zp J (Zn (Za (Zl (Zf (Zc (Zc (Zf (Zc (Zw ?_))))))))))))))
 refine ⟨rfl,_,(ResL.cons (ResR.tmp rfl) (ResL.cons (ResR.tmp rfl) ResL.nil)),?_⟩
 exact ⟨(),trivial,by unfold chkE chkI;rw [if_neg h12,if_neg h12,fstE_stop hs hxe h25,idxI_stop hs2 hxe (decide_eq_true h25)];rfl,Lh⟩
 refine Zj (Zze ?_)
 refine Zo J (Zn (Za ?_))
 exact ⟨rfl,i+1,⟨by omega,fstE_next hs hxe (Classical.not_not.1 h25),take_not hs2 hxe (decide_eq_false h25)⟩,by omega,cv,Lh⟩
 refine Zm (Zb (Zb (Ze (Za (Zh (Zi (Zp J (Zp J (Zn (Za (Zl (Zw ?_))))))))))))
 refine ⟨rfl,_,(ResL.cons (ResR.tmp rfl) (ResL.cons (ResR.tmp rfl) ResL.nil)),?_⟩
 obtain rfl:i=f.fCode.length:=by omega
 rw [← hil,List.take_length] at hs hs2
 exact ⟨(),trivial,by unfold chkE chkI;rw [if_neg h12,if_neg h12,hs,idxI_none hs2];rfl,Lh⟩
theorem bytesS_size (xs:List Int):(bytesS xs).size=xs.length:=by simp [bytesS,ByteArray.size]
theorem wrap8 {n:Int}(h:48≤n∧n≤57):IntKind.u8.wrap n=n:=by
 obtain ⟨m,rfl⟩:=Int.eq_ofNat_of_zero_le (show 0≤n by omega)
 have:∀ m,m<58→IntKind.u8.wrap ((m:Nat):Int)=((m:Nat):Int):=by decide
 exact this m ZO
theorem nextL_any (x:ApiInstr) (i:Int) (p:Int→Bool):(nextL x i).any p=(nextR x i).any p:=by
 rw [Bool.eq_iff_iff,List.any_eq_true,List.any_eq_true]
 constructor
 · rintro ⟨y,hy,h⟩;exact ⟨y,((sorted_spec _).2 y).1 hy,h⟩
 · rintro ⟨y,hy,h⟩;exact ⟨y,((sorted_spec _).2 y).2 hy,h⟩
theorem flowF_eq (code:List ApiInstr):flowF code=if code.length=0 then 3 else if 64<code.length then 6 else if (List.range code.length).any (fun i=>(nextR (code.getD i default) (i:Int)).any (outF code.length)) then 10 else 0:=by
 have h:(graphF code).any (fun l=>l.any (outF code.length))=(List.range code.length).any (fun i=>(nextR (code.getD i default) (i:Int)).any (outF code.length)):=by
  unfold graphF
  rw [List.any_map]
  rw [Bool.eq_iff_iff,List.any_eq_true,List.any_eq_true]
  have key:∀ i ∈ List.range code.length,((fun l:List Int=>l.any (outF code.length)) ∘ fun i:Nat=>nextF code (i:Int)) i=(nextR (code.getD i default) (i:Int)).any (outF code.length):=by
   intro i hi
   have:=List.mem_range.1 hi
   show (nextF code (i:Int)).any _=_
   unfold nextF
   rw [if_neg ZO,Int.toNat_natCast,nextL_any]
  constructor
  · rintro ⟨i,hi,hp⟩;exact ⟨i,hi,by rw [← key i hi];exact hp⟩
  · rintro ⟨i,hi,hp⟩;exact ⟨i,hi,by rw [key i hi];exact hp⟩
 unfold flowF
 rw [h]
def rnext (x:ApiInstr) (i:Int):List Int:=if x.fOp=11 then [x.fN] else if endsF x.fOp then [] else if x.fOp≠12∨x.fN=i+1 then [i+1] else if x.fN<i+1 then [x.fN,i+1] else [i+1,x.fN]
theorem rnext_any (x:ApiInstr) (i:Int) (p:Int→Bool):(rnext x i).any p=(nextR x i).any p:=by
  unfold rnext nextR
  by_cases h11:x.fOp=11
  · rw [if_pos h11,if_neg ZO,if_pos h11]
  · rw [if_neg h11]
    by_cases h12:x.fOp=12
    · rw [if_pos h12,if_neg (by unfold endsF;rw [h12];decide)]
      split
      · next h => rcases h with h | h
                  · exact absurd h12 h
                  · rw [h];simp
      · split
        · simp [Bool.or_comm]
        · simp
    · rw [if_neg h12,if_neg h11]
      by_cases he:endsF x.fOp=true
      · rw [if_pos he,if_pos he]
      · rw [if_neg he,if_neg he,if_pos (.inl h12)]
end Go.Proofs.YtpmdhkjbhjgoaaaGreatV
namespace Go.Proofs.YtpmdhkjbhjgoaaaGreatW
set_option maxRecDepth 100000
set_option maxHeartbeats 4000000
open Go.RowKit Go.Proofs.YtpmdhkjbhjgoaaaGreatK Go.Proofs.YtpmdhkjbhjgoaaaGreatT Go.Proofs.YtpmdhkjbhjgoaaaGreatL Go.Proofs.YtpmdhkjbhjgoaaaGreatV

def mayF (b:Int) (first:Bool):Bool:=(decide (97≤b) && decide (b≤122)) || decide (b=95) || decide (b=46) || (decide (48≤b) && decide (b≤57) && !first)
def badC (s:ByteArray) (i:Nat):Bool:=!mayF (byteAt s i) (decide (i=0))
def nameF4 (s:ByteArray):Int:=if 24<s.size then 6 else if s.size=0 then 7 else if (List.range s.size).any (badC s) then 7 else 0
theorem size_zero {s:ByteArray} : s=ByteArray.empty↔s.size=0:=by
 constructor
 · rintro rfl;rfl
 · intro h
   cases s with
   | mk d=>
    have:d=#[]:=Array.eq_empty_of_size_eq_zero h
    subst this;rfl
structure FewO (l:List ApiObject):Prop where
  len:l.length≤9
  syms:∀ o ∈ l,o.fSymbols.length≤60
  funcs:∀ o ∈ l,o.fFuncs.length≤20
  datas:∀ o ∈ l,o.fDatas.length≤20
  fun_:∀ o ∈ l,∀ f ∈ o.fFuncs,f.fKinds.length≤100∧f.fLines.length≤100∧f.fCode.length≤100∧f.fRelocs.length≤100
  data:∀ o ∈ l,∀ d ∈ o.fDatas,d.fWords.length≤100∧d.fRelocs.length≤100
theorem ref15_Few {B:Base}{w:World}(hS:St B [] w) (d:ApiData) (dc:List Value) (hd:kApiData.K B.e d dc) :
 CW 19 #[.agg dc.toArray] w (Ret B (fun r:Bool=>r=true→d.fWords.length≤100∧d.fRelocs.length≤100) (fun r=>.bool r) (fun _=>[])):=by
 obtain ⟨A0,c0,A1,c1,rfl,l0,g0,l1,g1⟩:=kApiData_open hd
 refine ZX Tryz.func19 hS ?_
 refine Zh (Zi (oBox J ZP (fun b1=>?_)))
 refine Zp J (Zn (Za (Zh (Zi (Zz (n:=1) (m:=1) J J J (Zld ?_))))))
 refine Zv J J (oLeq J J (Zo J (ZS (ZT 7) (fun h7=>?_) (fun h7=>?_))))
 refine Zq J J (Zz (n:=2) (m:=2) J J J (Zzg ?_))
 refine Zq J J (Zv J J (Zq J J (oLeq J J (Zt J J (Zzh ?_)))))
 exact ⟨_,(by intro h;first | focus (simp at h;done) | (have:=of_decide_eq_true h;constructor <;> omega)),rfl,Lh⟩
 refine Zr J J J J (Zzo ?_)
 exact ⟨_,(by intro h;first | focus (simp at h;done) | (have:=of_decide_eq_true h;constructor <;> omega)),rfl,Lh⟩
def dP (code:List ApiInstr) (k:Nat):Bool:=decide ((code.getD k default).fOp=21)
def dfr (code:List ApiInstr) (n:Nat):List Int:=((List.range n).filter (dP code)).map fun k=>((k:Nat):Int)
theorem dfr_succ (code:List ApiInstr) (n:Nat):dfr code (n+1)=dfr code n++(if dP code n=true then [(n:Int)] else []):=by
 unfold dfr
 rw [List.range_succ,List.filter_append,List.map_append]
 congr 1
 simp only [List.filter_cons,List.filter_nil]
 split <;> rfl
theorem dfr_len (code:List ApiInstr) (n:Nat):(dfr code n).length≤n:=by
 unfold dfr
 rw [List.length_map]
 exact Nat.le_trans (List.length_filter_le _ _) (by simp)
theorem dP_at {code:List ApiInstr}{k:Nat}{x:ApiInstr}(h:code[k]?=some x):dP code k=decide (x.fOp=21):=by
 unfold dP;rw [List.getD_eq_getElem?_getD,h];rfl
def rg (code:List ApiInstr):List (List Int):=(List.range code.length).map fun k=>rnext (code.getD k default) k
theorem rg_len (code:List ApiInstr):(rg code).length=code.length:=by simp [rg]
end Go.Proofs.YtpmdhkjbhjgoaaaGreatW
/-
  Package digraph: ends and its iterator; the library's AppendSeq and Collect over it.
-/
namespace Go.Proofs.YtpmdhkjbhjgoaaaGreatG
set_option maxRecDepth 100000
set_option maxHeartbeats 4000000
open Go.RowKit Go.Proofs.YtpmdhkjbhjgoaaaGreatK Go.Proofs.YtpmdhkjbhjgoaaaGreatT

abbrev kII:Kd (List Int):=Kd.slice (Kd.int .i64)
abbrev Graph:=List (List Int)
def inG (g:Graph) (x:Int):Bool:=decide (0≤x) && decide (x<(g.length:Int))
def endsOf (g:Graph) (a:Nat):List Int:=(g.getD a []).filter (inG g)
def intV (x:Int):List Value:=[.int .i64 x]
theorem getD_at {α:Type}{l:List α}{i:Nat}{o d:α}(h:l[i]?=some o):l.getD i d=o:=by rw [List.getD_eq_getElem?_getD,h];rfl
theorem filter_drop {u:List Int}{i:Nat}{x:Int}{P:Int→Bool}(h:u[i]?=some x):(u.drop i).filter P=if P x=true then x :: (u.drop (i+1)).filter P else (u.drop (i+1)).filter P:=by
 obtain ⟨hi,rfl⟩:=List.getElem?_eq_some_iff.1 h
 rw [List.drop_eq_getElem_cons hi,List.filter_cons]
theorem drop_cons {α:Type}{l:List α}{j:Nat}{y:α}{r:List α}(h:l.drop j=y :: r):∃ hj:j<l.length,l[j]=y∧l.drop (j+1)=r:=by
 have hj:j<l.length:=by
  rcases Nat.lt_or_ge j l.length with hj | hj
  · exact hj
  · rw [List.drop_of_length_le hj] at h;cases h
 rw [List.drop_eq_getElem_cons hj] at h
 injection h with h1 h2
 exact ⟨hj,h1,h2⟩

theorem ends_any {B:Base}{w:World}(hS:St B [] w) (A:Option Addr) (n cp:Nat) (a:Int) :
 CW 218 #[.slice A n cp,.int .i64 a] w (Ret B (fun _:Nat×Nat=>True) (fun p=>.func (.func 224) #[] #[.pointer (some ⟨p.1,0,none⟩),.pointer (some ⟨p.2,0,none⟩)]) (fun p=>[blk p.1 205 [.slice A n cp],blk p.2 3 [.int .i64 a]])):=by
 refine ZX Tryz.func218 hS ?_
 refine Zh (Zi (oBox J ZP (fun b2=>?_)))
 refine oBox J ZP (fun b3=>?_)
 refine Zp J (Zn (Za (Zh (Zi (oMakeFunc J (Zzh ?_))))))
 exact ⟨(b2,b3),trivial,rfl,Lh⟩

theorem ends1 {B:Base}(g:Graph) (A:Option Addr) (cp a p2 p3:Nat) (hC:kII.C B.e A g) (ha:a<g.length) :
 IterC Tryz.prog 224 #[.pointer (some ⟨p2,0,none⟩),.pointer (some ⟨p3,0,none⟩)] B ((endsOf g a).map intV) [blk p2 205 [.slice A g.length cp],blk p3 3 [.int .i64 (a:Int)]]:=by
 intro lp AI Ax r0 w hbody hA hS
 have hl1:=hC.1
 show CW 224 #[.func (.yield lp) #[] #[],.pointer (some ⟨p2,0,none⟩),.pointer (some ⟨p3,0,none⟩)] w _
 refine ZX Tryz.func224 hS ?_
 refine Zh (Zi (Zld ?_))
 refine Zld ?_
 refine oIdx J J (hC) J ZO J J (fun e8 u8 cs8 hu8 hk8 hc8=>?_)
 obtain ⟨A0,c0,rfl,hle8,g0⟩:=hk8
 have hbig8:=g0.1
 have hends:endsOf g a=u8.filter (inG g):=by unfold endsOf;rw [getD_at hu8]
 refine Zlx hc8 ?_
 refine Zv J J (Zo J (Zn (Za (Zk (wLoop (ι:=Nat×Nat×Res) (fun z=>[(0,.func (.yield lp) #[] #[]),(1,.pointer (some ⟨p2,0,none⟩)),(9,.slice A0 u8.length c0),(10,.int .i64 (u8.length:Int)),(11,.int .i64 (z.1:Int))]) (fun z=>[z.2.2,blk p2 205 [.slice A g.length cp],blk p3 3 [.int .i64 (a:Int)]]) (fun z=>z.1≤u8.length∧z.2.1≤(endsOf g a).length∧AI z.2.1 z.2.2∧(endsOf g a).drop z.2.1=(u8.drop z.1).filter (inG g)) (fun z=>u8.length-z.1) (0,0,r0) ?_ cv (Leads.has ZQ) ?_)))))
 exact ⟨Nat.zero_le _,Nat.zero_le _,hA,hends⟩
 rintro ⟨i,j,r⟩ ⟨hi,hj,hA,hd⟩
 dsimp only at hi hj hA hd
 try dsimp only
 refine Zh (Zi (Zx J J (Zn (Za (Zh (wC (fun h12=>?_) (fun h12=>?_)))))))
 refine Zj (Za (Zh (Zk (Zh (Zi (oIdx J J (g0) J ZO J J (fun e13 u13 cs13 hu13 hk13 hc13=>?_)))))))
 obtain rfl:=hk13
 have hfd:=filter_drop (P:=inG g) hu13
 refine Zlx hc13 ?_
 refine Zp J (Zn (Za (Zh (Zi (Zo J (Z2 J J (Zo J (ZS (ZT 17) (fun h17=>?_) (fun h17=>?_)))))))))
 refine Zq J J (Zo J (Zzg ?_))
 refine Zq J J (Zv J J (Zq J J (Zx J J (Zt J J (Zo J (ZS (ZT 23) (fun h23=>?_) (fun h23=>?_)))))))
 rw [if_pos (by simp [inG];omega)] at hfd
 obtain ⟨hjlt,hjg,hjd⟩:=drop_cons (hd.trans hfd)
 have hY:∀ Fr W1,St B (r :: Fr) W1→YieldAt Fence.wide 0 Tryz.prog lp (intV u13).toArray W1 (YEnd B j AI Ax Fr):=by
  intro Fr W1 h1
  have:=hbody j (by simpa using hjlt) r Fr W1 hA h1
  rwa [List.getElem_map,hjg] at this
 refine Zq J J (Zo J (Zq J J (Zo J (Zq J J (oYield J J J (fun w hS=>hY _ w (hS.perm (Pick.perm ZP))) ?_)))))
 rintro ⟨bb,r'⟩ hr'
 dsimp only at hr' ⊢
 refine Zq J J (Zno ?_)
 refine Zt J J (Zn (Za (wC (fun h28=>?_) (fun h28=>?_))))
 refine Zl (Zf (Zc (Zc (Zf (Zw ?_)))))
 refine ⟨rfl,_,ResL.nil,?_⟩
 exact ⟨r',.inr ⟨j,by simpa using hjlt,by rw [if_neg (by simpa using h28)] at hr';exact hr'⟩,rfl,Lh⟩
 refine Zj (Zze ?_)
 refine Zo J (Zn (Za ?_))
 exact ⟨rfl,(i+1,j+1,r'),⟨by show i+1≤_;omega,hjlt,by rw [if_pos (by simpa using h28)] at hr';exact hr',hjd⟩,by show u8.length-(i+1)<u8.length-i;omega,cv,Lh⟩
 refine Zr J J J J (Zr J J J J (Zr J J J J (Zr J J J J (Zu J J (Zn (Za (wCondF J (Zj (Zze ?_)))))))))
 refine Zo J (Zn (Za ?_))
 exact ⟨rfl,(i+1,j,r),⟨by show i+1≤_;omega,hj,hA,by rw [hd,hfd,if_neg (by simp [inG];omega)]⟩,by show u8.length-(i+1)<u8.length-i;omega,cv,Lh⟩
 refine Zr J J J J (Zr J J J J (Zr J J J J (Zr J J J J (Zu J J (Zo J (Zr J J J J (Zr J J J J (Zr J J J J (Zr J J J J (Zu J J (Zn (Za (wCondF J (Zj (Zze ?_)))))))))))))))
 refine Zo J (Zn (Za ?_))
 exact ⟨rfl,(i+1,j,r),⟨by show i+1≤_;omega,hj,hA,by rw [hd,hfd,if_neg (by simp [inG];omega)]⟩,by show u8.length-(i+1)<u8.length-i;omega,cv,Lh⟩
 refine Zm (Zb (Zb (Ze (fin_n ?_))))
 refine ⟨rfl,_,ResL.nil,?_⟩
 have hj:j=((endsOf g a).map intV).length:=by
  obtain rfl:i=u8.length:=by omega
  rw [List.drop_length] at hd
  have:=List.drop_eq_nil_iff.1 hd
  rw [List.length_map];omega
 exact ⟨r,.inl (hj ▸ hA),rfl,Lh⟩

end Go.Proofs.YtpmdhkjbhjgoaaaGreatG


/-
  Package digraph: Clean; the library's Sorted.
-/
namespace Go.Proofs.YtpmdhkjbhjgoaaaGreatG
set_option maxRecDepth 100000
set_option maxHeartbeats 4000000
open Go.RowKit Go.Proofs.YtpmdhkjbhjgoaaaGreatK Go.Proofs.YtpmdhkjbhjgoaaaGreatT Go.Proofs.YtpmdhkjbhjgoaaaGreatL

def SmallG (g:Graph):Prop:=g.length≤1000∧∀ l ∈ g,l.length≤1000
theorem ends_le {g:Graph}(h:SmallG g) (a:Nat):(endsOf g a).length≤1000:=by
 unfold endsOf
 refine Nat.le_trans (List.length_filter_le _ _) ?_
 by_cases ha:a<g.length
 · rw [getD_at (List.getElem?_eq_getElem ha)]
   exact h.2 _ (List.getElem_mem ha)
 · rw [List.getD_eq_getElem?_getD,List.getElem?_eq_none ZO];simp
def cl (g:Graph) (a:Nat):List Int:=Lib.compact ((endsOf g a).mergeSort leI)
end Go.Proofs.YtpmdhkjbhjgoaaaGreatG


/-
  Package digraph: Reach.
-/
namespace Go.Proofs.YtpmdhkjbhjgoaaaGreatG
set_option maxRecDepth 100000
set_option maxHeartbeats 4000000
open Go.RowKit Go.Proofs.YtpmdhkjbhjgoaaaGreatK Go.Proofs.YtpmdhkjbhjgoaaaGreatT Go.Proofs.YtpmdhkjbhjgoaaaGreatL

inductive RP (g:Graph) (from_:List Int):Int→Prop
  | start {a:Int} : a ∈ from_→inG g a=true→RP g from_ a
  | step {a:Nat}{b:Int} : RP g from_ (a:Int)→b ∈ endsOf g a→RP g from_ b
theorem inG_iff {g:Graph}{x:Int} : inG g x=true↔0≤x∧x<(g.length:Int):=by simp [inG]
theorem ends_in {g:Graph}{a:Nat}{b:Int}(h:b ∈ endsOf g a):inG g b=true:=(List.mem_filter.1 h).2
theorem RP.inG {g:Graph}{f:List Int}{x:Int}(h:RP g f x):inG g x=true:=by
 cases h with
 | start _ h=>exact h
 | step _ h=>exact ends_in h
structure RS (g:Graph) (from_:List Int) (out:List Bool) (wait:List Int):Prop where
  len:out.length=g.length
  sound:∀ i:Nat,out[i]?=some true→RP g from_ (i:Int)
  waits:∀ x ∈ wait,RP g from_ x
  starts:∀ x ∈ from_,inG g x=true→out[x.toNat]?=some true∨x ∈ wait
  closed:∀ i:Nat,out[i]?=some true→∀ b ∈ endsOf g i,out[b.toNat]?=some true∨b ∈ wait
theorem RS.done {g:Graph}{f:List Int}{out:List Bool}(h:RS g f out []):∀ x,RP g f x→out[x.toNat]?=some true:=by
 intro x hx
 induction hx with
 | start h1 h2=>
  rcases h.starts _ h1 h2 with h | h
  · exact h
  · cases h
 | step h1 h2 ih=>
  rcases h.closed _ (by simpa using ih) _ h2 with h | h
  · exact h
  · cases h
theorem RS.skip {g:Graph}{f:List Int}{out:List Bool}{wait:List Int}{x:Int}(h:RS g f out (wait++[x])) (hx:out[x.toNat]?=some true):RS g f out wait:=by
 refine ⟨h.len,h.sound,fun y hy=>h.waits y (List.mem_append_left _ hy),fun y hy hi=>?_,fun i hi b hb=>?_⟩
 · rcases h.starts y hy hi with h | h
   · exact .inl h
   · rcases List.mem_append.1 h with h | h
     · exact .inr h
     · rw [List.mem_singleton.1 h];exact .inl hx
 · rcases h.closed i hi b hb with h | h
   · exact .inl h
   · rcases List.mem_append.1 h with h | h
     · exact .inr h
     · rw [List.mem_singleton.1 h];exact .inl hx
theorem RS.take {g:Graph}{f:List Int}{out:List Bool}{wait:List Int}{a:Nat}(h:RS g f out (wait++[(a:Int)])) (ha:a<out.length):RS g f (out.set a true) (wait++endsOf g a):=by
 have hR:RP g f (a:Int):=h.waits _ (by simp)
 have hset:∀ i:Nat,out[i]?=some true→(out.set a true)[i]?=some true:=fun i hi=>by
  rw [List.getElem?_set]
  split
  · rename_i e;subst e;simp [ha]
  · exact hi
 have haa:(out.set a true)[a]?=some true:=by simp [ha]
 refine ⟨by rw [List.length_set];exact h.len,fun i hi=>?_,fun x hx=>?_,fun x hx hi=>?_,fun i hi b hb=>?_⟩
 · rw [List.getElem?_set] at hi
   split at hi
   · rename_i e;subst e;exact hR
   · exact h.sound i hi
 · rcases List.mem_append.1 hx with hx | hx
   · exact h.waits x (List.mem_append_left _ hx)
   · exact .step hR hx
 · rcases h.starts x hx hi with h | h
   · exact .inl (hset _ h)
   · rcases List.mem_append.1 h with h | h
     · exact .inr (List.mem_append_left _ h)
     · rw [List.mem_singleton.1 h];exact .inl (by simpa using haa)
 · by_cases e:i=a
   · subst e;exact .inr (List.mem_append_right _ hb)
   · have hi':out[i]?=some true:=by rw [List.getElem?_set,if_neg (fun h=>e h.symm)] at hi;exact hi
     rcases h.closed i hi' b hb with h | h
     · exact .inl (hset _ h)
     · rcases List.mem_append.1 h with h | h
       · exact .inr (List.mem_append_left _ h)
       · rw [List.mem_singleton.1 h];exact .inl (by simpa using haa)
theorem RS.init (g:Graph) (f:List Int):RS g f (List.replicate g.length false) (f.filter (inG g)):=by
 refine ⟨by simp,fun i h=>?_,fun x hx=>?_,fun x hx hi=>.inr (List.mem_filter.2 ⟨hx,hi⟩),fun i h=>?_⟩
 · rw [List.getElem?_replicate] at h;split at h <;> simp at h
 · obtain ⟨h1,h2⟩:=List.mem_filter.1 hx;exact .start h1 h2
 · rw [List.getElem?_replicate] at h;split at h <;> simp at h
def falses (out:List Bool):Nat:=(out.filter (fun b=>!b)).length
theorem falses_set {out:List Bool}{a:Nat}(h:out[a]?=some false):falses (out.set a true)+1=falses out:=by
 unfold falses
 induction out generalizing a with
 | nil=>simp at h
 | cons b out ih=>
  cases a with
  | zero=>simp at h;subst h;simp
  | succ a=>
   have:=ih (a:=a) (by simpa using h)
   cases b <;> simp_all <;> omega
theorem falses_le (out:List Bool):falses out≤out.length:=List.length_filter_le _ _
theorem filter_take {u:List Int}{i:Nat}{x:Int}{P:Int→Bool}(h:u[i]?=some x):(u.take (i+1)).filter P=(u.take i).filter P++(if P x=true then [x] else []):=by
 obtain ⟨hi,rfl⟩:=List.getElem?_eq_some_iff.1 h
 rw [List.take_succ_eq_append_getElem hi,List.filter_append,List.filter_cons,List.filter_nil]

theorem reach_any {B:Base}{w:World}(hS:St B [] w) (g:Graph) (A:Option Addr) (cp:Nat) (hC:kII.C B.e A g) (hsm:SmallG g) (from_:List Int) (A1:Option Addr) (cp1:Nat) (hC1:(Kd.int .i64).C B.e A1 from_) (hf:from_.length≤1000) (W0:World) :
 CW 189 #[.slice A g.length cp,.slice A1 from_.length cp1] w
  (Ret B (fun z:Option Addr×Nat×List Bool=>z.2.2.length=g.length∧∀ i:Nat,z.2.2[i]?=some true↔RP g from_ (i:Int)) (fun z=>.slice z.1 g.length z.2.1) (fun z=>[row Kd.bool W0 4 (.slice z.1 g.length z.2.1) z.2.2])):=by
 have hn:=hsm.1
 (refine enterM Tryz.func189 J J hS ?_;simp only [List.zipIdx_cons,List.zipIdx_nil,List.map_cons,List.map_nil,Nat.reduceAdd,Nat.zero_add])
 refine Zh (Zi (Zp J (Zn (Za (Zh (Zi (Zo J (Zv J J (oMake (kd:=Kd.bool) (W:=W0) false J J J J J J ZO J (fun g13=>?_))))))))))
 refine Zp J (Zn (Za (Zh (Zi (oAlloc J ZP (fun b6=>?_))))))
 refine Zn (Za (Zh (Zh (Zi (Zo J (Zv J J (Zo J (Zn (Za (Zk (wLoop (ι:=Nat×Option Addr×Nat) (fun z=>[(0,.slice A g.length cp),(5,.slice (some ⟨g13,0,none⟩) g.length g.length),(6,.pointer (some ⟨b6,0,none⟩)),(14,.slice A1 from_.length cp1),(15,.int .i64 (from_.length:Int)),(16,.int .i64 (z.1:Int))]) (fun z=>[row Kd.bool W0 4 (.slice (some ⟨g13,0,none⟩) g.length g.length) (List.replicate g.length false),blk b6 46 [.slice z.2.1 ((from_.take z.1).filter (inG g)).length z.2.2],row (Kd.int .i64) W0 3 (.slice z.2.1 ((from_.take z.1).filter (inG g)).length z.2.2) ((from_.take z.1).filter (inG g))]) (fun z=>z.1≤from_.length) (fun z=>from_.length-z.1) (0,none,0) ?_ cv (Leads.nilrow.trans Lh) ?_)))))))))))
 exact Nat.zero_le _
 rintro ⟨i,A2,c2⟩ hi
 dsimp only at hi
 have hle:((from_.take i).filter (inG g)).length≤1000:=Nat.le_trans (List.length_filter_le _ _) (by rw [List.length_take];omega)
 try dsimp only
 refine Zh (Zi (Zx J J (Zn (Za (Zh (wC (fun h17=>?_) (fun h17=>?_)))))))
 refine Zj (Za (Zh (Zk (Zh (Zi (oIdx J J (hC1) J ZO J J (fun e18 u18 cs18 hu18 hk18 hc18=>?_)))))))
 obtain rfl:=hk18
 have hft:=filter_take (P:=inG g) hu18
 refine Zlx hc18 ?_
 refine Zp J (Zn (Za (Zh (Zi (Zo J (Z2 J J (Zo J (ZS (ZT 22) (fun h22=>?_) (fun h22=>?_)))))))))
 refine Zq J J (Zo J (Zq J J (Zo J (Zq J J (Zv J J (Zq J J (Zx J J (Zt J J (Zn (Za (wC (fun h27=>?_) (fun h27=>?_))))))))))))
 refine Zi (Zld ?_)
 refine Zo J (oBuildSlice1 J J J J J ZP J (fun b30=>?_))
 refine oApp1 u18 J J J J ZP ZP J ZO J (fun g31 cp31=>?_)
 rw [if_pos (by simp [inG];omega)] at hft
 rw [show ((from_.take i).filter (inG g)).length+1=((from_.take (i+1)).filter (inG g)).length by rw [hft,List.length_append];rfl,← hft]
 refine Zst ?_
 refine Zn (Zze ?_)
 refine Zo J (Zn (Za ?_))
 exact ⟨rfl,(i+1,some ⟨g31,0,none⟩,cp31),by show i+1≤_;omega,by show from_.length-(i+1)<from_.length-i;omega,cv,Lh⟩
 refine Zj (Zze ?_)
 refine Zo J (Zn (Za ?_))
 rw [show (if inG g u18=true then [u18] else [])=[] by rw [if_neg];simp [inG];omega,List.append_nil] at hft
 exact ⟨rfl,(i+1,A2,c2),by show i+1≤_;omega,by show from_.length-(i+1)<from_.length-i;omega,cv,by dsimp only;rw [hft];exact Lh⟩
 refine Zr J J J J (Zr J J J J (Zr J J J J (Zr J J J J (Zu J J (Zn (Za (wCondF J (Zj (Zze ?_)))))))))
 refine Zo J (Zn (Za ?_))
 rw [show (if inG g u18=true then [u18] else [])=[] by rw [if_neg];simp [inG];omega,List.append_nil] at hft
 exact ⟨rfl,(i+1,A2,c2),by show i+1≤_;omega,by show from_.length-(i+1)<from_.length-i;omega,cv,by dsimp only;rw [hft];exact Lh⟩
 obtain rfl:i=from_.length:=by omega
 rw [List.take_length]
 refine Zm (Zb (Zb (Ze (Za (Zh (Zk (wLoopM (ι:=List Bool×List Int×Option Addr×Nat) (fun z=>[(0,.slice A g.length cp),(5,.slice (some ⟨g13,0,none⟩) g.length g.length),(6,.pointer (some ⟨b6,0,none⟩))]) (fun z=>[row Kd.bool W0 4 (.slice (some ⟨g13,0,none⟩) g.length g.length) z.1,blk b6 46 [.slice z.2.2.1 z.2.1.length z.2.2.2],row (Kd.int .i64) W0 3 (.slice z.2.2.1 z.2.1.length z.2.2.2) z.2.1]) (fun z=>RS g from_ z.1 z.2.1∧z.2.1.length+falses z.1 * 1000≤2000000) (fun z=>falses z.1 * 1001+z.2.1.length) (List.replicate g.length false,from_.filter (inG g),A2,c2) ?_ cv [] J (marks_nil.trans Lh) ?_)))))))
 exact ⟨RS.init g from_,by have h1:falses (List.replicate g.length false)≤g.length:=Nat.le_trans (falses_le _) (by simp);have h2:(from_.filter (inG g)).length≤from_.length:=List.length_filter_le _ _;show (from_.filter (inG g)).length+falses (List.replicate g.length false) * 1000≤2000000;omega⟩
 rintro ⟨out,wait,A3,c3⟩ Ms ⟨hrs,hbd⟩
 dsimp only at hrs hbd
 have hol:=hrs.len
 try dsimp only
 refine Zh (Zh (Zi (Zld ?_)))
 refine Zv J J (Z1 J J (Zn (Za (wC (fun h35=>?_) (fun h35=>?_)))))
 refine Zj (Za (Zk (Zh (Zi (Zld ?_)))))
 refine Zld ?_
 refine Zv J J ?_
 first | refine oSub rfl rfl ZO ?_ | refine oSubW rfl rfl ?_
 refine ZS0 (t:=39) (v':=.int .i64 ((wait.length-1:Nat):Int)) J (by congr 1;omega) ?_
 refine ZR J J ZP ZO J J (fun g40 hg40=>?_)
 first | subst hg40 | (injection hg40 with hg40;injection hg40 with hg40;subst hg40)
 refine ZR1 J ZP ZO J (fun u41 hu41=>?_)
 have hW:(wait.take (wait.length-1)).length=wait.length-1:=by simp
 have hw:wait=wait.take (wait.length-1)++[u41]:=by
  have h1:wait.length-1<wait.length:=by omega
  have h2:=(List.getElem?_eq_some_iff.1 hu41).2
  rw [← h2,← List.take_succ_eq_append_getElem h1,show wait.length-1+1=wait.length by omega,List.take_length]
 have hin:=inG_iff.1 (hrs.waits u41 (by rw [hw];simp)).inG
 obtain ⟨a,rfl⟩:=Int.eq_ofNat_of_zero_le hin.1
 have ha:a<g.length:=by omega
 have hel:=ends_le hsm a
 have hrs':RS g from_ out (wait.take (wait.length-1)++[(a:Int)]):=by rw [← hw];exact hrs
 refine Zp J (Zn (Za (Zh (Zi (Zld ?_)))))
 refine Zld ?_
 refine Zv J J ?_
 first | refine oSub rfl rfl ZO ?_ | refine oSubW rfl rfl ?_
 refine ZS0 (t:=45) (v':=.int .i64 ((wait.length-1:Nat):Int)) J (by congr 1;omega) ?_
 refine oSliceTo J J ZO J ZP ?_
 refine Zst ?_
 refine Zn (Za (Zh (Zh (Zi (Zo J (Zo J (ZR J J ZP ZO J J (fun g49 hg49=>?_))))))))
 first | subst hg49 | (injection hg49 with hg49;injection hg49 with hg49;subst hg49)
 refine ZR1 J ZP ZO J (fun u50 hu50=>?_)
 refine Zn (Za (wC (fun h50=>?_) (fun h50=>?_)))
 refine Zm (Zb (Ze (Za ?_)))
 exact ⟨Ms,rfl,(out,wait.take (wait.length-1),some ⟨g40,0,none⟩,c3),⟨hrs'.skip (by rw [Int.toNat_natCast,hu50,h50]),by show (wait.take (wait.length-1)).length+falses out * 1000≤2000000;rw [hW];omega⟩,by show falses out * 1001+(wait.take (wait.length-1)).length<falses out * 1001+wait.length;rw [hW];omega,cv,by (try dsimp only);rw [hW];exact Lh⟩
 have hfs:=falses_set (out:=out) (a:=a) (by rw [hu50,h50])
 refine Zj (Za (Zh (Zi (Zo J (Zo J (ZR J J ZP ZO J J (fun g53 hg53=>?_)))))))
 first | subst hg53 | (injection hg53 with hg53;injection hg53 with hg53;subst hg53)
 refine oStR _ J J J J ZP (by first | omega | (simp only [List.length_set];omega)) ?_
 refine Zn (Zzn ?_)
 (refine ZC0 rfl ZK (fun w hS=>frame hS ZQ (fun B' hB hS'=>ends_any hS' A g.length cp (a:Int))) ?_;rintro ⟨p2,p3⟩ -)
 refine Zn (Za (Zk ?_))
 refine wRange rfl rfl ZK (ends1 g A cp a p2 p3 hC ha) (by rintro _ h;obtain ⟨y,_,rfl⟩:=List.mem_map.1 h;rfl) rfl (ι:=Nat×Option Addr×Nat) (κ:=Unit) (fun j z=>z.1=j) (fun z=>[marksR Ms,row Kd.bool W0 4 (.slice (some ⟨g13,0,none⟩) g.length g.length) (out.set a true),blk b6 46 [.slice z.2.1 (wait.length-1+z.1) z.2.2],row (Kd.int .i64) W0 3 (.slice z.2.1 (wait.length-1+z.1) z.2.2) (wait.take (wait.length-1)++(endsOf g a).take z.1)]) (fun x z=>False) (fun x z=>[]) (0,some ⟨g40,0,none⟩,c3) rfl (by dsimp only;rw [List.take_zero,List.append_nil,Nat.add_zero];exact Lh) ?_ ?_ ?_
 intro lp4 B' R1 R2 j hj
 rintro ⟨i,A2,c2⟩ hB rfl
 dsimp only
 have hj':i<(endsOf g a).length:=by simpa using hj
 have hlt:(wait.take (wait.length-1)++(endsOf g a).take i).length=wait.length-1+i:=by rw [List.length_append,hW,List.length_take];omega
 have htk:wait.take (wait.length-1)++(endsOf g a).take i++[(endsOf g a)[i]]=wait.take (wait.length-1)++(endsOf g a).take (i+1):=by rw [List.append_assoc,List.take_succ_eq_append_getElem hj']
 rw [List.getElem_map]
 generalize (endsOf g a)[i]=x at *
 dsimp only [hand,intV]
 refine Zi (Zp J (Zn (aq_n ZP ?_)))
 refine Zk (Zi (Zld ?_))
 refine Zo J (oBuildSlice1 J J J J J ZP J (fun b60=>?_))
 refine oApp1 x J J J J ZP ZP J ZO J (fun g61 cp61=>?_)
 rw [hlt,htk]
 refine Zst ?_
 refine Zn (Zd (rq_n ?_))
 exact ⟨(i+1,some ⟨g61,0,none⟩,cp61),rfl,Lh⟩
 rintro ⟨i,A2,c2⟩ Dm4 h
 dsimp only at h
 rw [List.length_map] at h
 subst h
 dsimp only
 rw [List.take_length]
 try dsimp only
 refine Zd (Zd (Za ?_))
 exact ⟨Dm4 :: Ms,rfl,(out.set a true,wait.take (wait.length-1)++endsOf g a,A2,c2),⟨hrs'.take ZO,by show (wait.take (wait.length-1)++endsOf g a).length+falses (out.set a true) * 1000≤2000000;rw [List.length_append,hW];omega⟩,by show falses (out.set a true) * 1001+(wait.take (wait.length-1)++endsOf g a).length<falses out * 1001+wait.length;rw [List.length_append,hW];omega,cv,by (try dsimp only);rw [List.length_append,hW];exact (marks_push ZP ZP).trans Lh⟩
 rintro _ _ _ h;exact h.elim
 refine Zm (Zb (Zb (Ze (Za (Zh (Zi (Zo J (Zp J (Zn (Za (Zl (finMb_r (Ds:=Ms) J ZP (ResL.cons (ResR.tmp J) ResL.nil) ?_))))))))))))
 have hw0:wait=[]:=List.eq_nil_of_length_eq_zero ZO
 subst hw0
 exact ⟨(some ⟨g13,0,none⟩,g.length,out),⟨hrs.len,fun i=>⟨hrs.sound i,fun h=>by simpa using hrs.done _ h⟩⟩,rfl,Lh⟩
end Go.Proofs.YtpmdhkjbhjgoaaaGreatG


/-
  The references' small ones: Few, Edge, Ints, In, Member.
-/
namespace Go.Proofs.YtpmdhkjbhjgoaaaGreatG
set_option maxRecDepth 100000
set_option maxHeartbeats 4000000
open Go.RowKit Go.Proofs.YtpmdhkjbhjgoaaaGreatK Go.Proofs.YtpmdhkjbhjgoaaaGreatT Go.Proofs.YtpmdhkjbhjgoaaaGreatL

def edgeF (g:Graph) (a b:Int):Bool:=decide (0≤a) && decide (a<(g.length:Int)) && decide (0≤b) && decide (b<(g.length:Int)) && decide (b ∈ g.getD a.toNat [])
theorem ints_any {B:Base}{w:World}(hS:St B [] w) (A:Option Addr) (cp:Nat) (l:List Int) (hC:(Kd.int .i64).C B.e A l) (A1:Option Addr) (cp1:Nat) (k:List Int) (hC1:(Kd.int .i64).C B.e A1 k) :
 CW 79 #[.slice A l.length cp,.slice A1 k.length cp1] w (Ret B (fun _:Unit=>True) (fun _=>.bool (decide (l=k))) (fun _=>[])):=by
 have m0:=hC.1
 have m1:=hC1.1
 refine ZX Tryz.func79 hS ?_
 refine Zh (Zi (Zp J (Zn (Za (Zh (Zh (Zi (Zo J (Zv J J (Zo J (Zv J J (Z0 J J (Zn (Za (wC (fun h10=>?_) (fun h10=>?_))))))))))))))))
 refine Zh (Zi (Zzb ?_))
 exact ⟨(),trivial,by rw [decide_eq_false (show ¬ l=k by rintro rfl;exact h10 rfl)];rfl,Lh⟩
 refine Zj (Za (Zh (Zh (Zi (Zp J (Zn (Za (Zk (wLoop (ι:=Nat) (fun i=>[(0,.slice A l.length cp),(1,.slice A1 k.length cp1),(5,.int .i64 (i:Int))]) (fun i=>[]) (fun i=>i≤l.length∧∀ j,j<i→l[j]?=k[j]?) (fun i=>l.length-i) 0 ?_ cv (Leads.has ZQ) ?_)))))))))
 exact ⟨Nat.zero_le _,fun j hj=>by omega⟩
 rintro i ⟨hi,hs⟩
 try dsimp only
 refine Zh (Zh (Zi (Zo J (Zo J (Zv J J (Zx J J (Zn (Za (wC (fun h14=>?_) (fun h14=>?_))))))))))
 refine Zj (Za (Zh (Zk (Zh (wDraw2 J J [0,1,4,5] [2,3,6,7] 8 ZK J J J (fun w0=>?_))))))
 refine oIdx J J (hC) J ZO J J (fun e19 u19 cs19 hu19 hk19 hc19=>?_)
 obtain rfl:=hk19
 refine Zlx hc19 ?_
 refine oIdx J J (hC1) J ZO J J (fun e23 u23 cs23 hu23 hk23 hc23=>?_)
 obtain rfl:=hk23
 refine Zlx hc23 ?_
 refine oHead (Z0 J J (oNilT (Za (wC (fun h25=>?_) (fun h25=>?_)))))
 refine Zh (Zi (Zzc ?_))
 exact ⟨(),trivial,by rw [decide_eq_false (show ¬ l=k by rintro rfl;rw [hu19] at hu23;exact h25 (Option.some.inj hu23))];rfl,Lh⟩
 refine Zj (Zd (Za (Zi (Zo J (Zsu ?_)))))
 refine Zp J (Zn (Za ?_))
 exact ⟨rfl,i+1,⟨by omega,fun j hj=>by
 by_cases e:j=i
 · subst e;rw [hu19,hu23];congr 1;omega
 · exact hs j ZO⟩,by omega,cv,Lh⟩
 refine Zm (Zzf ?_)
 have hlk:l=k:=by
  apply List.ext_getElem?
  intro j
  rcases Nat.lt_or_ge j i with h | h
  · exact hs j h
  · rw [List.getElem?_eq_none ZO,List.getElem?_eq_none ZO]
 exact ⟨(),trivial,by rw [decide_eq_true hlk];rfl,Lh⟩
def memF (g:Graph) (ib:List Bool) (a:Int):Bool:=decide (0≤a) && decide (a<(g.length:Int)) && decide (a<(ib.length:Int)) && ib.getD a.toNat false
end Go.Proofs.YtpmdhkjbhjgoaaaGreatG


/-
  The reference's Reach.
-/
namespace Go.Proofs.YtpmdhkjbhjgoaaaGreatG
set_option maxRecDepth 100000
set_option maxHeartbeats 4000000
open Go.RowKit Go.Proofs.YtpmdhkjbhjgoaaaGreatK Go.Proofs.YtpmdhkjbhjgoaaaGreatT Go.Proofs.YtpmdhkjbhjgoaaaGreatL

def Tr (out:List Bool) (i:Nat):Prop:=out[i]?=some true
theorem Tr.set {out:List Bool}{i j:Nat}(h:Tr out i):Tr (out.set j true) i:=by
 unfold Tr at *
 rw [List.getElem?_set]
 split
 · rename_i e;subst e;have:=(List.getElem?_eq_some_iff.1 h).1;simp [this]
 · exact h
theorem Tr.of_set {out:List Bool}{i j:Nat}(h:Tr (out.set j true) i):Tr out i∨i=j:=by
 unfold Tr at *
 rw [List.getElem?_set] at h
 split at h
 · rename_i e;exact .inr e.symm
 · exact .inl h
theorem Tr.set_same {out:List Bool}{j:Nat}(h:Tr out j):out.set j true=out:=by
 obtain ⟨hj,he⟩:=List.getElem?_eq_some_iff.1 h
 rw [← he];exact List.set_getElem_self hj
def Closed (g:Graph) (out:List Bool):Prop:=∀ a,Tr out a→∀ b ∈ endsOf g a,Tr out b.toNat
theorem falses_mono:∀ {old out:List Bool},old.length=out.length→(∀ i,Tr old i→Tr out i)→falses out≤falses old∧(∀ i,old[i]?=some false→Tr out i→falses out<falses old)
 | [],[],_,_=>⟨Nat.le_refl _,fun i h=>by simp at h⟩
 | a :: old,b :: out,hl,h=>by
  obtain ⟨h1,h2⟩:=falses_mono (old:=old) (out:=out) (by simpa using hl) (fun i hi=>by simpa [Tr] using h (i+1) (by simpa [Tr] using hi))
  have h0:=h 0
  simp only [Tr,List.getElem?_cons_zero,Option.some.injEq] at h0
  have e1:falses (a :: old)=falses old+(if a then 0 else 1):=by unfold falses;cases a <;> simp
  have e2:falses (b :: out)=falses out+(if b then 0 else 1):=by unfold falses;cases b <;> simp
  rw [e1,e2]
  refine ⟨?_,fun i hi ht=>?_⟩
  · cases a <;> cases b <;> simp_all <;> omega
  · cases i with
    | zero=>
     simp only [List.getElem?_cons_zero,Option.some.injEq,Tr] at hi ht
     subst hi ht
     simp;omega
    | succ i=>
     have:=h2 i (by simpa using hi) (by simpa [Tr] using ht)
     cases a <;> cases b <;> simp_all <;> omega
structure RI (g:Graph) (f:List Int) (out:List Bool):Prop where
  len:out.length=g.length
  sound:∀ i,Tr out i→RP g f (i:Int)
theorem RI.set {g:Graph}{f:List Int}{out:List Bool}{j:Nat}(h:RI g f out) (hj:RP g f (j:Int)):RI g f (out.set j true):=
 ⟨by rw [List.length_set];exact h.len,fun i hi=>by
  rcases hi.of_set with hi | rfl
  · exact h.sound i hi
  · exact hj⟩
structure Rd (g:Graph) (f:List Int) (old out:List Bool) (a:Nat):Prop where
  ri:RI g f out
  mono:∀ i,Tr old i→Tr out i
  done:∀ a',a'<a→Tr old a'→∀ b ∈ endsOf g a',Tr out b.toNat
  same:Closed g old→out=old
theorem Rd.set {g:Graph}{f:List Int}{old out:List Bool}{a:Nat}{x:Int}(h:Rd g f old out a) (ha:Tr out a) (hx:x ∈ endsOf g a):Rd g f old (out.set x.toNat true) a:=by
 have hin:=inG_iff.1 (ends_in hx)
 refine ⟨h.ri.set ?_,fun i hi=>(h.mono i hi).set,fun a' h1 h2 b hb=>(h.done a' h1 h2 b hb).set,fun hc=>?_⟩
 · rw [Int.toNat_of_nonneg hin.1];exact .step (h.ri.sound a ha) hx
 · have e:=h.same hc
   subst e
   exact Tr.set_same (hc a ha x hx)
theorem Rd.next {g:Graph}{f:List Int}{old out:List Bool}{a:Nat}(h:Rd g f old out a) (hd:¬ Tr out a∨∀ b ∈ endsOf g a,Tr out b.toNat):Rd g f old out (a+1):=by
 refine ⟨h.ri,h.mono,fun a' h1 h2 b hb=>?_,h.same⟩
 by_cases e:a'=a
 · subst e
   rcases hd with hd | hd
   · exact absurd (h.mono _ h2) hd
   · exact hd b hb
 · exact h.done a' ZO h2 b hb
theorem Rd.end {g:Graph}{f:List Int}{old out:List Bool}{n:Nat}(h:Rd g f old out g.length) (hl:old.length=g.length) (hr:Closed g old∨falses old+n≤g.length):Closed g out∨falses out+(n+1)≤g.length:=by
 by_cases hc:Closed g old
 · rw [h.same hc];exact .inl hc
 · right
   rcases hr with hr | hr
   · exact absurd hr hc
   · obtain ⟨a, ha, b, hb, hn⟩ : ∃ a, Tr old a ∧ ∃ b, b ∈ endsOf g a ∧ ¬ Tr old b.toNat := by
      apply Classical.byContradiction
      intro hne
      apply hc
      intro a ha b hb
      apply Classical.byContradiction
      intro hn
      exact hne ⟨a,ha,b,hb,hn⟩
     have hin:=inG_iff.1 (ends_in hb)
     have hal:a<g.length:=by rw [← hl];exact (List.getElem?_eq_some_iff.1 ha).1
     have hbl:b.toNat<old.length:=by omega
     have hbf:old[b.toNat]?=some false:=by
      unfold Tr at hn
      rw [List.getElem?_eq_getElem hbl] at hn ⊢
      cases hv:old[b.toNat] with
      | true=>rw [hv] at hn;exact absurd rfl hn
      | false=>rfl
     have:=(falses_mono (by rw [hl,h.ri.len]) h.mono).2 _ hbf (h.done a hal ha b hb)
     omega
end Go.Proofs.YtpmdhkjbhjgoaaaGreatG


/-
  Graphs within members: the reference's Within and On.
-/
namespace Go.Proofs.YtpmdhkjbhjgoaaaGreatG
set_option maxRecDepth 100000
set_option maxHeartbeats 4000000
open Go.RowKit Go.Proofs.YtpmdhkjbhjgoaaaGreatK Go.Proofs.YtpmdhkjbhjgoaaaGreatT Go.Proofs.YtpmdhkjbhjgoaaaGreatL

def inP (g:Graph) (ib:List Bool) (a:Nat) (x:Int):Bool:=memF g ib (a:Int) && memF g ib x
def withinR (g:Graph) (ib:List Bool):Graph:=(List.range g.length).map fun a=>(g.getD a []).filter (inP g ib a)
end Go.Proofs.YtpmdhkjbhjgoaaaGreatG


/-
  Package cycle: within.
-/
namespace Go.Proofs.YtpmdhkjbhjgoaaaGreatG
set_option maxRecDepth 100000
set_option maxHeartbeats 4000000
open Go.RowKit Go.Proofs.YtpmdhkjbhjgoaaaGreatK Go.Proofs.YtpmdhkjbhjgoaaaGreatT Go.Proofs.YtpmdhkjbhjgoaaaGreatL

def memL (g:Graph) (ib:List Bool):List Bool:=ib.take g.length++(List.replicate g.length false).drop ib.length
def wp (g:Graph) (ib:List Bool) (a:Nat):List Int:=(cl g a).filter (inP g ib a)
end Go.Proofs.YtpmdhkjbhjgoaaaGreatG
namespace Go.Proofs.YtpmdhkjbhjgoaaaGreatW
set_option maxRecDepth 100000
set_option maxHeartbeats 4000000
open Go.RowKit Go.Proofs.YtpmdhkjbhjgoaaaGreatK Go.Proofs.YtpmdhkjbhjgoaaaGreatT Go.Proofs.YtpmdhkjbhjgoaaaGreatL Go.Proofs.YtpmdhkjbhjgoaaaGreatV Go.Proofs.YtpmdhkjbhjgoaaaGreatG

def fromL (code:List ApiInstr) (marks:List Nat):List Int:=(marks.map fun k=>rnext (code.getD k default) k).flatten
def dfrN (code:List ApiInstr):List Nat:=(List.range code.length).filter (dP code)
theorem dfr_N (code:List ApiInstr):dfr code code.length=(dfrN code).map fun k=>((k:Nat):Int):=rfl
theorem dfrN_lt {code:List ApiInstr}{k:Nat}(h:k ∈ dfrN code):k<code.length:=List.mem_range.1 (List.mem_filter.1 h).1
def inR (f:ApiFunc) (i:Int):Bool:=decide (f.fFrom≤i) && decide (i<f.fTo)
def outR (f:ApiFunc):Prop:=∃ i:Nat,i<f.fCode.length∧RP (rg f.fCode) (fromL f.fCode (dfrN f.fCode)) (i:Int)∧inR f (i:Int)=false
open Classical in
noncomputable def rangeF (f:ApiFunc):Int:=if outR f then 9 else 0
def dRelE (d:ApiData) (l:List ApiSymbol) (i:Nat) (x:ApiReloc):Int:=
  if d.fKind=0∨x.fAt<0∨(d.fWords.length:Int)≤x.fAt∨(0<i∧x.fAt≤(d.fRelocs.getD (i-1) default).fAt)∨x.fSym<0∨(l.length:Int)≤x.fSym then 11 else
  if (l.getD x.fSym.toNat default).fSort≠1∨(l.getD x.fSym.toNat default).fKind≠d.fKind-1 then 8 else 0
def relE (d:ApiData) (l:List ApiSymbol) (i:Nat):Int:=dRelE d l i (d.fRelocs.getD i default)
def dataF (d:ApiData) (l:List ApiSymbol):Int:=
  if textF d.fKind=ByteArray.empty then 8 else if 32<d.fWords.length then 6 else
  if d.fWords.any (fun w=>decide (d.fKind≠0∧w≠0)) then 2 else fstE ((List.range d.fRelocs.length).map (relE d l))
theorem relE_at {d:ApiData}{l:List ApiSymbol}{i:Nat}{x:ApiReloc}(h:d.fRelocs[i]?=some x):relE d l i=dRelE d l i x:=by
 unfold relE;rw [List.getD_eq_getElem?_getD,h];rfl
structure GoodO (o:ApiObject):Prop where
  v:vApiObject o
  syms:o.fSymbols.length≤300
  funcs:o.fFuncs.length≤300
  datas:o.fDatas.length≤300
  fun_:∀ f ∈ o.fFuncs,f.fKinds.length≤300∧f.fLines.length≤300∧f.fCode.length≤300∧f.fRelocs.length≤300
  data:∀ d ∈ o.fDatas,d.fWords.length≤300∧d.fRelocs.length≤300
theorem FewO.one {l:List ApiObject}(h:FewO l) (hv:∀ o ∈ l,vApiObject o) {o:ApiObject}(ho:o ∈ l):GoodO o:=⟨hv o ho,Nat.le_trans (h.syms o ho) (by decide),Nat.le_trans (h.funcs o ho) (by decide),Nat.le_trans (h.datas o ho) (by decide),fun f hf=>by have:=h.fun_ o ho f hf;omega,fun d hd=>by have:=h.data o ho d hd;omega⟩
def itemsF (o:ApiObject):Int:=(o.fFuncs.length:Int)+(o.fDatas.length:Int)
def definesF (o:ApiObject) (item:Int) (x:ApiSymbol):Bool:=if item<0∨itemsF o≤item then false else if item<(o.fFuncs.length:Int) then decide (x.fSort=1) && decide (x.fDef=item) else decide (x.fSort=2) && decide (x.fDef=item-(o.fFuncs.length:Int))
def definerF (o:ApiObject) (item:Int):Int:=idxI (definesF o item) o.fSymbols
def kindB (x:ApiSymbol):Bool:=(decide (x.fSort≠1) && decide (x.fSort≠2)) || (decide (x.fSort=1) && !isC x.fKind) || (decide (x.fSort=2) && decide (textF x.fKind=ByteArray.empty))
def nameP (x y:ApiSymbol):Bool:=decide (y.fName=x.fName)
def aheadP (x y:ApiSymbol):Bool:=decide (y.fSort=x.fSort) && decide (y.fDef≠-1)
def aheadN (x:ApiSymbol) (l:List ApiSymbol):Nat:=(l.filter (aheadP x)).length
def mostN (o:ApiObject) (x:ApiSymbol):Nat:=if x.fSort=2 then o.fDatas.length else o.fFuncs.length
def symX (o:ApiObject) (i:Nat) (x:ApiSymbol):Int:=
  if nameF4 x.fName≠0 then nameF4 x.fName else if kindB x=true then 8 else if (o.fSymbols.take i).any (nameP x)=true then 12 else
  if x.fDef≠-1∧(x.fDef≠(aheadN x (o.fSymbols.take i):Int)∨(mostN o x:Int)≤x.fDef) then 9 else if x.fLocal=true∧x.fDef = -1 then 13 else 0
def symE (o:ApiObject) (i:Nat):Int:=symX o i (o.fSymbols.getD i default)
theorem symE_at {o:ApiObject}{i:Nat}{x:ApiSymbol}(h:o.fSymbols[i]?=some x):symE o i=symX o i x:=by unfold symE;rw [List.getD_eq_getElem?_getD,h];rfl
theorem ahead_succ (x:ApiSymbol) {l:List ApiSymbol}{k:Nat}{y:ApiSymbol}(h:l[k]?=some y):aheadN x (l.take (k+1))=aheadN x (l.take k)+(if aheadP x y=true then 1 else 0):=by
 unfold aheadN
 rw [List.take_add_one,h,List.filter_append,List.length_append]
 congr 1
 show ((List.filter (aheadP x) [y]).length)=_
 rw [List.filter_cons]
 split <;> simp
theorem ahead_le (x:ApiSymbol) (l:List ApiSymbol):aheadN x l≤l.length:=List.length_filter_le _ _
def symsL (o:ApiObject):List Int:=(List.range o.fSymbols.length).map (symE o)
def dKind (o:ApiObject) (i:Nat):Int:=(o.fSymbols.getD (definerF o (i:Int)).toNat default).fKind
noncomputable def funE (o:ApiObject) (f:ApiFunc):Int:=if chkE f o.fSymbols≠0 then chkE f o.fSymbols else rangeF f
noncomputable def itemE (o:ApiObject) (i:Nat):Int:=
  if definerF o (i:Int)<0 then 13 else
  if o.fFuncs.length≤i then (if (o.fDatas.getD (i-o.fFuncs.length) default).fKind≠dKind o i then 14 else dataF (o.fDatas.getD (i-o.fFuncs.length) default) o.fSymbols) else
  if (o.fFuncs.getD i default).fClass≠dKind o i then 14 else funE o (o.fFuncs.getD i default)
noncomputable def itsL (o:ApiObject):List Int:=(List.range (o.fFuncs.length+o.fDatas.length)).map (itemE o)
def manyO (o:ApiObject):Prop:=32<o.fSymbols.length∨12<o.fFuncs.length∨8<o.fDatas.length
instance (o:ApiObject):Decidable (manyO o):=by unfold manyO;infer_instance
noncomputable def objE (o:ApiObject):Int:=if manyO o then 19 else if fstE (symsL o)≠0 then fstE (symsL o) else fstE (itsL o)
noncomputable def objI (o:ApiObject):Int:=if manyO o then -1 else if fstE (symsL o)≠0 then idxI non0 (symsL o) else idxI non0 (itsL o)
theorem definer_at {o:ApiObject}{item:Int}(h:0≤definerF o item):∃ (k:Nat) (x:ApiSymbol),definerF o item=(k:Int)∧o.fSymbols[k]?=some x∧definesF o item x=true:=idxI_at h
theorem ref16_FewA {B:Base}{w:World}(hS:St B [] w) (f:ApiFunc) (fc:List Value) (hf:kApiFunc.K B.e f fc) :
 CW 18 #[.agg fc.toArray] w (Ret B (fun r:Bool=>r=true→f.fKinds.length≤100∧f.fLines.length≤100∧f.fCode.length≤100∧f.fRelocs.length≤100) (fun r=>.bool r) (fun _=>[])):=by
 obtain ⟨A0,c0,A1,c1,A2,c2,A3,c3,rfl,l0,g0,l1,g1,l2,g2,l3,g3⟩:=kApiFunc_open hf
 refine ZX Tryz.func18 hS ?_
 refine Zh (Zi (oBox J ZP (fun b1=>?_)))
 refine Zp J (Zn (Za (Zh (Zi (Zz (n:=1) (m:=1) J J J (Zld ?_))))))
 refine Zv J J (oLeq J J (Zo J (ZS (ZT 7) (fun h7=>?_) (fun h7=>?_))))
 refine Zq J J (Zz (n:=6) (m:=6) J J J (Zzg ?_))
 refine Zq J J (Zv J J (Zq J J (oLeq J J (Zt J J (Zo J (ZS (ZT 13) (fun h13=>?_) (fun h13=>?_)))))))
 refine Zq J J (Zz (n:=7) (m:=7) J J J (Zzg ?_))
 refine Zq J J (Zv J J (Zq J J (oLeq J J (Zt J J (Zo J (ZS (ZT 19) (fun h19=>?_) (fun h19=>?_)))))))
 refine Zq J J (Zz (n:=8) (m:=8) J J J (Zzg ?_))
 refine Zq J J (Zv J J (Zq J J (oLeq J J (Zt J J (Zzh ?_)))))
 exact ⟨_,(by intro h;first | focus (simp at h;done) | (have:=of_decide_eq_true h;omega)),rfl,Lh⟩
 refine Zr J J J J (Zzo ?_)
 exact ⟨_,(by intro h;first | focus (simp at h;done) | (have:=of_decide_eq_true h;omega)),rfl,Lh⟩
 refine Zr J J J J (Zr J J J J (Zr J J J J (Zr J J J J (Zu J J (Zo J (Zr J J J J (Zzo ?_)))))))
 exact ⟨_,(by intro h;first | focus (simp at h;done) | (have:=of_decide_eq_true h;omega)),rfl,Lh⟩
 refine Zr J J J J (Zr J J J J (Zr J J J J (Zr J J J J (Zu J J (Zo J (Zr J J J J (Zr J J J J (Zr J J J J (Zr J J J J (Zu J J (Zo J (Zr J J J J (Zzo ?_)))))))))))))
 exact ⟨_,(by intro h;first | focus (simp at h;done) | (have:=of_decide_eq_true h;omega)),rfl,Lh⟩
structure FewB (o:ApiObject):Prop where
  syms:o.fSymbols.length≤60
  funcs:o.fFuncs.length≤20
  datas:o.fDatas.length≤20
  fun_:∀ f ∈ o.fFuncs,f.fKinds.length≤100∧f.fLines.length≤100∧f.fCode.length≤100∧f.fRelocs.length≤100
  data:∀ d ∈ o.fDatas,d.fWords.length≤100∧d.fRelocs.length≤100
theorem take_all {α:Type}{P:α→Prop}{l:List α}{i:Nat}{x:α}(h:∀ y ∈ l.take i,P y) (hi:l[i]?=some x) (hp:P x):∀ y ∈ l.take (i+1),P y:=by
 intro y hy
 rw [List.take_add_one,hi] at hy
 rcases List.mem_append.1 hy with k | k
 · exact h y k
 · obtain rfl:y=x:=by simpa using k
   exact hp
abbrev fewF (f:ApiFunc):Prop:=f.fKinds.length≤100∧f.fLines.length≤100∧f.fCode.length≤100∧f.fRelocs.length≤100
abbrev fewD (d:ApiData):Prop:=d.fWords.length≤100∧d.fRelocs.length≤100
theorem ref19_Few {B:Base}{w:World}(hS:St B [] w) (o:ApiObject) (oc:List Value) (ho:kApiObject.K B.e o oc) :
 CW 6 #[.agg oc.toArray] w (Ret B (fun r:Bool=>r=true→FewB o) (fun r=>.bool r) (fun _=>[])):=by
 obtain ⟨A0,c0,A1,c1,A2,c2,rfl,m0,q0,m1,q1,m2,q2⟩:=kApiObject_open ho
 have hl0:=q0.1
 have hl1:=q1.1
 have hl2:=q2.1
 refine ZX Tryz.func6 hS ?_
 refine Zh (Zi (oBox J ZP (fun b1=>?_)))
 refine Zp J (Zn (Za (Zh (Zh (Zi (Zp J (Zn (Za (Zk (wLoop (ι:=Nat) (fun i=>[(1,.pointer (some ⟨b1,0,none⟩)),(3,.int .i64 (i:Int))]) (fun i=>[blk b1 26 [.slice A0 o.fSymbols.length c0,.slice A1 o.fFuncs.length c1,.slice A2 o.fDatas.length c2]]) (fun i=>i≤o.fSymbols.length) (fun i=>o.fSymbols.length-i) 0 ?_ cv (Leads.has ZQ) ?_))))))))))
 exact Nat.zero_le _
 rintro i hi
 try dsimp only
 refine Zh (Zh (Zi (Zo J (Zz (n:=0) (m:=0) J J J (Zld ?_)))))
 refine Zv J J (Zx J J (Zn (Za (wC (fun h10=>?_) (fun h10=>?_)))))
 obtain ⟨x,hx⟩:∃ x,o.fSymbols[i]?=some x:=⟨_,List.getElem?_eq_getElem ZO⟩
 obtain ⟨e1,cs1,hE⟩:=q0.elm hx
 obtain rfl:=kApiSymbol_open hE.K
 refine Zj (Za (Zh (Zk (Zh (Zi (Zz (n:=0) (m:=0) J J J (Zld ?_)))))))
 refine Zo J (oIdxE J J (hE) ZO J J ?_)
 have hc16:=(hE).cell
 refine ZF (ZT 0) (ZT 0) ?_
 refine Zlx hc16 ?_
 refine oLenStr J J (Z1 J J (Zn (Za (wC (fun h20=>?_) (fun h20=>?_)))))
 refine Zh (Zi (Zzc ?_))
 exact ⟨false,(by intro h;cases h),rfl,Lh⟩
 refine Zj (Zd (Za (Zi (Zo J (Zsu ?_)))))
 refine Zp J (Zn (Za ?_))
 exact ⟨rfl,i+1,by omega,by omega,cv,Lh⟩
 refine Zm (Zb (Zb (Ze (Za (Zh (Zh (Zi (Zp J (Zn (Za (Zk (wLoop (ι:=Nat) (fun i=>[(1,.pointer (some ⟨b1,0,none⟩)),(4,.int .i64 (i:Int))]) (fun i=>[blk b1 26 [.slice A0 o.fSymbols.length c0,.slice A1 o.fFuncs.length c1,.slice A2 o.fDatas.length c2]]) (fun i=>i≤o.fFuncs.length∧i≤20∧∀ f ∈ o.fFuncs.take i,fewF f) (fun i=>o.fFuncs.length-i) 0 ?_ cv (Leads.has ZQ) ?_))))))))))))
 exact ⟨Nat.zero_le _,by omega,by simp⟩
 rintro i ⟨hi,hi2,hs⟩
 try dsimp only
 refine Zh (Zh (Zi (Zo J (Zz (n:=1) (m:=1) J J J (Zld ?_)))))
 refine Zv J J (Zx J J (Zn (Za (wC (fun h25=>?_) (fun h25=>?_)))))
 obtain ⟨f,hf⟩:∃ f,o.fFuncs[i]?=some f:=⟨_,List.getElem?_eq_getElem ZO⟩
 obtain ⟨e3,cs3,hE3⟩:=q1.elm hf
 obtain ⟨F0,f0,F1,f1,F2,f2,F3,f3,rfl,n0,r0,n1,r1,n2,r2,n3,r3⟩:=kApiFunc_open hE3.K
 refine Zj (Za (Zh (Zk (Zh (Zi (Zo J (Z2 J J (Zo J (ZS (ZT 30) (fun h30=>?_) (fun h30=>?_))))))))))
 refine Zr J J J J (Zr J J J J (Zr J J J J (Zr J J J J (Zr J J J J (Zr J J J J (Zr J J J J (Zt J J (Zn (Za (wCondT J (Zh (Zi (Zzc ?_)))))))))))))
 exact ⟨false,(by intro h;cases h),rfl,Lh⟩
 refine Zq J J (Zz (n:=1) (m:=1) J J J (Zzg ?_))
 refine Zq J J (Zo J (Zq J J (oIdxE J J (hE3) ZO J J ?_)))
 have hc34:=(hE3).cell
 refine Zq J J (Zlx hc34 ?_)
 refine Zq J J ?_
 (refine ZC0 rfl ZK (fun w hS=>frame hS ZQ (fun B' hB hS'=>ref16_FewA hS' f _ (kApiFunc_mk _ f n0 (Kd.C_grow hB r0) n1 (Kd.C_grow hB r1) n2 (Kd.C_grow hB r2) n3 (Kd.C_grow hB r3)))) ?_;rintro r36 h36)
 refine Zq J J (Zno ?_)
 refine Zu J J (Zn (Za (wC (fun h38=>?_) (fun h38=>?_))))
 refine Zh (Zi (Zzc ?_))
 exact ⟨false,(by intro h;cases h),rfl,Lh⟩
 refine Zj (Zd (Za (Zi (Zo J (Zsu ?_)))))
 refine Zp J (Zn (Za ?_))
 exact ⟨rfl,i+1,⟨by omega,by omega,take_all hs hf (h36 (by simp_all))⟩,by omega,cv,Lh⟩
 obtain rfl:i=o.fFuncs.length:=by omega
 rw [List.take_length] at hs
 have hsF:=hs
 have hsN:=hi2
 refine Zm (Zb (Zb (Ze (Za (Zh (Zh (Zi (Zp J (Zn (Za (Zk (wLoop (ι:=Nat) (fun i=>[(1,.pointer (some ⟨b1,0,none⟩)),(5,.int .i64 (i:Int))]) (fun i=>[blk b1 26 [.slice A0 o.fSymbols.length c0,.slice A1 o.fFuncs.length c1,.slice A2 o.fDatas.length c2]]) (fun i=>i≤o.fDatas.length∧i≤20∧∀ f ∈ o.fDatas.take i,fewD f) (fun i=>o.fDatas.length-i) 0 ?_ cv (Leads.has ZQ) ?_))))))))))))
 exact ⟨Nat.zero_le _,by omega,by simp⟩
 rintro i ⟨hi,hi2,hs⟩
 try dsimp only
 refine Zh (Zh (Zi (Zo J (Zz (n:=2) (m:=2) J J J (Zld ?_)))))
 refine Zv J J (Zx J J (Zn (Za (wC (fun h43=>?_) (fun h43=>?_)))))
 obtain ⟨d,hd⟩:∃ d,o.fDatas[i]?=some d:=⟨_,List.getElem?_eq_getElem ZO⟩
 obtain ⟨e2,cs2,hE2⟩:=q2.elm hd
 obtain ⟨D0,d0,D1,d1,rfl,n0,r0,n1,r1⟩:=kApiData_open hE2.K
 refine Zj (Za (Zh (Zk (Zh (Zi (Zo J (Z2 J J (Zo J (ZS (ZT 48) (fun h48=>?_) (fun h48=>?_))))))))))
 refine Zr J J J J (Zr J J J J (Zr J J J J (Zr J J J J (Zr J J J J (Zr J J J J (Zr J J J J (Zt J J (Zn (Za (wCondT J (Zh (Zi (Zzc ?_)))))))))))))
 exact ⟨false,(by intro h;cases h),rfl,Lh⟩
 refine Zq J J (Zz (n:=2) (m:=2) J J J (Zzg ?_))
 refine Zq J J (Zo J (Zq J J (oIdxE J J (hE2) ZO J J ?_)))
 have hc52:=(hE2).cell
 refine Zq J J (Zlx hc52 ?_)
 refine Zq J J ?_
 (refine ZC0 rfl ZK (fun w hS=>frame hS ZQ (fun B' hB hS'=>ref15_Few hS' d _ (kApiData_mk _ d n0 (Kd.C_grow hB r0) n1 (Kd.C_grow hB r1)))) ?_;rintro r54 h54)
 refine Zq J J (Zno ?_)
 refine Zu J J (Zn (Za (wC (fun h56=>?_) (fun h56=>?_))))
 refine Zh (Zi (Zzc ?_))
 exact ⟨false,(by intro h;cases h),rfl,Lh⟩
 refine Zj (Zd (Za (Zi (Zo J (Zsu ?_)))))
 refine Zp J (Zn (Za ?_))
 exact ⟨rfl,i+1,⟨by omega,by omega,take_all hs hd (h54 (by simp_all))⟩,by omega,cv,Lh⟩
 refine Zm (Zb (Zb (Ze (Za (Zh (Zi (Zz (n:=0) (m:=0) J J J (Zld ?_))))))))
 refine Zv J J (oLeq J J (Zzh ?_))
 obtain rfl:i=o.fDatas.length:=by omega
 rw [List.take_length] at hs
 exact ⟨_,(by intro h;have:=of_decide_eq_true h;exact ⟨by omega,hsN,hi2,hsF,hs⟩),rfl,Lh⟩
end Go.Proofs.YtpmdhkjbhjgoaaaGreatW
