/-
  Part 2 of the proof of LineInstrs: contracts of functions, and what follows from them; without conditions.
-/
import Derived.Test.YtpmdhkjbhjgoaaaGreatDoorLineInstrs1
set_option linter.unusedVariables false
set_option linter.unusedSimpArgs false
set_option linter.defProp false
namespace Go.Proofs.YtpmdhkjbhjgoaaaGreatDoorR
set_option maxRecDepth 100000
set_option maxHeartbeats 4000000
open Go.RowKit Go.Proofs.YtpmdhkjbhjgoaaaGreatDoorK Go.Proofs.YtpmdhkjbhjgoaaaGreatDoorT Go.Proofs.YtpmdhkjbhjgoaaaGreatDoorL
open Go.Proofs.YtpmdhkjbhjgoaaaGreatDoorN (ref_Digits decF)

theorem minus_iff {s:ByteArray}(h:0<s.size):byteAt s 0=45↔minus (toL s)=true:=by
 have e:(toL s).head?=(toL s)[0]?:=List.head?_eq_getElem?
 have e2:(toL s)[0]?=some ((toL s)[0]'(by rw [toL_size];exact h)):=List.getElem?_eq_getElem (by rw [toL_size];exact h)
 unfold minus
 rw [decide_eq_true_iff,e,e2]
 constructor
 · intro k;rw [(byte_is h 45).1 k]
 · intro k;exact (byte_is h 45).2 (Option.some.inj k)
theorem refV_step {s:ByteArray}{i:Nat}(h:i<s.size) (n:Int):refV ((toL s).drop i) n=if byteAt s i<48∨57<byteAt s i then none else refV ((toL s).drop (i+1)) (IntKind.i64.wrap (IntKind.i64.wrap (10 * n)-(byteAt s i-48))):=by
 have e:byteAt s i=(((toL s)[i]'(by rw [toL_size];exact h)).toNat:Int):=byteAt_eq h
 rw [drop_here h,e]
 show (if _∨_ then none else _)=_
 by_cases hc:((toL s)[i]'(by rw [toL_size];exact h)).toNat<48∨57<((toL s)[i]'(by rw [toL_size];exact h)).toNat
 · rw [if_pos hc,if_pos ZO]
 · rw [if_neg hc,if_neg ZO]
theorem refV_end {s:ByteArray}(n:Int):refV ((toL s).drop s.size) n=some n:=by
 rw [List.drop_eq_nil_of_le (by rw [toL_size];exact Nat.le_refl _)];rfl
def endN (s:ByteArray) (b:Bool) (n:Int):Int:=if b then n else IntKind.i64.wrap (0-n)
theorem refN_out {s:ByteArray}(h:s.size<1∨20<s.size):refN s=(0,false):=by unfold refN;rw [if_pos h]
theorem refN_none {s:ByteArray}{b:Bool}(h:¬ (s.size<1∨20<s.size)) (hm:minus (toL s)=b) (hv:refV ((toL s).drop (if b then 1 else 0)) 0=none):refN s=(0,false):=by
 unfold refN;rw [if_neg h,hm,hv]
theorem refN_some {s:ByteArray}{b:Bool}{n:Int}(h:¬ (s.size<1∨20<s.size)) (hm:minus (toL s)=b) (hv:refV ((toL s).drop (if b then 1 else 0)) 0=some n):refN s=if decS (endN s b n)=s then (endN s b n,true) else (0,false):=by
 unfold refN;rw [if_neg h,hm,hv];rfl
theorem byte8 (s:ByteArray) (i:Nat):0≤byteAt s i∧byteAt s i<256:=by
 unfold byteAt
 cases h:s[i]? with
 | none=>exact ⟨by decide,by decide⟩
 | some b=>
  show 0≤(b.toNat:Int)∧(b.toNat:Int)<256
  have:=b.toNat_lt
  omega
theorem wrap8b {n:Int}(h:0≤n∧n<256):IntKind.u8.wrap n=n:=by
 have e:IntKind.u8.wrap n=n % 256:=by simp [IntKind.wrap,IntKind.signed,IntKind.bits]
 rw [e];omega
theorem ref1_Number_m {B:Base}{w:World}(hS:St B [] w) (s:ByteArray) (hm:minus (toL s)=true) :
 CW 98 #[.string s] w (Ret B (fun _:Unit=>True) (fun _=>.tuple #[.int .i64 (refN s).1,.bool (refN s).2]) (fun _=>[])):=by
 refine ZX Tryz.func98 hS ?_
 refine Zh (Zi (Zp J (Zp J (Zn (Za (Zh (Zh (Zi (Zo J (oLenStr J J (Zx J J (Zo J (ZS (ZT 10) (fun h10=>?_) (fun h10=>?_))))))))))))))
 refine Zr J J J J (Zr J J J J (Zr J J J J (Zt J J (Zn (Za (wCondT J (Zh (Zzd ?_))))))))
 refine ⟨rfl,_,(ResL.cons (ResR.tmp rfl) (ResL.cons (ResR.tmp rfl) ResL.nil)),?_⟩
 exact ⟨(),trivial,by rw [refN_out ZO];rfl,Lh⟩
 refine Zq J J (Zo J (Zq J J (oLenStr J J (Zq J J (Z1 J J (Zu J J (Zn (Za (wC (fun h14=>?_) (fun h14=>?_))))))))))
 refine Zh (Zzd ?_)
 refine ⟨rfl,_,(ResL.cons (ResR.tmp rfl) (ResL.cons (ResR.tmp rfl) ResL.nil)),?_⟩
 exact ⟨(),trivial,by rw [refN_out ZO];rfl,Lh⟩
 refine Zj (Za (Zh (Zi (Zp J (Zn (Za (Zh (Zi (Zp J (Zn (Za (Zh (Zh (Zi (Zo J (oIndexStr (i:=0) J J J ZO ?_))))))))))))))))
 refine Zy J J (Zn (Za (wC (fun h17=>?_) (fun h17=>?_))))
 refine Zi (Zp J (Zn (Za (Zh (Zh (Zi (Zo J (Zp J (Zn (Za (Zk (wLoop (ι:=Int×Nat) (fun z=>[(0,.string s),(4,.int .i64 z.1),(5,.int .i64 1),(6,.int .i64 (z.2:Int))]) (fun z=>[]) (fun z=>in64 z.1∧z.2≤s.size∧refV ((toL s).drop 1) 0=refV ((toL s).drop z.2) z.1) (fun z=>s.size-z.2) (0,1) ?_ cv (Leads.has ZQ) ?_))))))))))))
 exact ⟨⟨by decide,by decide⟩,by show 1≤s.size;omega,rfl⟩
 rintro ⟨n,i⟩ ⟨hn,hi,hv⟩
 dsimp only at hn hi hv
 try dsimp only
 refine Zh (Zh (Zi (Zo J (Zo J (oLenStr J J (Zx J J (Zn (Za (wC (fun h22=>?_) (fun h22=>?_))))))))))
 have hi2:i<s.size:=by omega
 have hb:=refV_step hi2 n
 have h8:=byte8 s i
 refine Zj (Za (Zh (Zk (Zh (Zh (Zi (Zo J (Zo J (oIndexStr J J J hi2 (Zx J J (Zo J (ZS (ZT 29) (fun h29=>?_) (fun h29=>?_)))))))))))))
 refine Zr J J J J (Zr J J J J (Zr J J J J (Zr J J J J (Zt J J (Zn (Za (wCondT J (Zh (Zzh ?_)))))))))
 refine ⟨rfl,_,(ResL.cons (ResR.tmp rfl) (ResL.cons (ResR.tmp rfl) ResL.nil)),?_⟩
 exact ⟨(),trivial,by rw [refN_none ZO hm (hv.trans (by rw [hb,if_pos (.inl h29)]))];rfl,Lh⟩
 refine Zq J J (Zo J (Zq J J (Zo J (Zq J J (oIndexStr J J J hi2 (Zq J J (Z1 J J (Zu J J (Zn (Za (wC (fun h34=>?_) (fun h34=>?_))))))))))))
 refine Zh (Zzh ?_)
 refine ⟨rfl,_,(ResL.cons (ResR.tmp rfl) (ResL.cons (ResR.tmp rfl) ResL.nil)),?_⟩
 exact ⟨(),trivial,by rw [refN_none ZO hm (hv.trans (by rw [hb,if_pos (.inr h34)]))];rfl,Lh⟩
 refine Zj (Za (Zi (Zo J (oMulW J J (Zo J (Zo J (oIndexStr J J J hi2 (oSubW J J ?_))))))))
 rw [wrap8b (n:=byteAt s i-48) ZO]
 refine oConvInt (m:=byteAt s i-48) J J J (wrap_in ⟨by omega,by omega⟩) ?_
 refine oSubW J J (Zp J (Zn (Zd (Zze ?_))))
 refine Zp J (Zn (Za ?_))
 exact ⟨rfl,(IntKind.i64.wrap (IntKind.i64.wrap (10 * n)-(byteAt s i-48)),i+1),⟨in64_wrap _,by show i+1≤_;omega,by rw [hv,hb,if_neg ZO]⟩,by show s.size-(i+1)<s.size-i;omega,cv,Lh⟩
 obtain rfl:i=s.size:=by omega
 have he:=refN_some ZO hm (hv.trans (refV_end n))
 rw [show endN s true n=n from rfl] at he
 refine Zm (Zb (Zb (Ze (Za (Zh (Zh (Zi (Zo J (Zy J J (Zn (Za (wC (fun h44=>?_) (fun h44=>?_)))))))))))))
 exact absurd h44 (by decide)
 refine Zj (Za (Zh (Zh (Zi (Zo J ?_)))))
 (refine ZC0 rfl ZK (fun w hS=>frame hS ZQ (fun B' hB hS'=>ref_Digits hS' n hn)) ?_;rintro ⟨⟩ -)
 refine Zo J (oSNe J J (Zn (Za (wC (fun h50=>?_) (fun h50=>?_)))))
 refine Zh (Zzd ?_)
 refine ⟨rfl,_,(ResL.cons (ResR.tmp rfl) (ResL.cons (ResR.tmp rfl) ResL.nil)),?_⟩
 exact ⟨(),trivial,by rw [he,if_neg (fun k=>h50 ((decS_eq hn).symm.trans k))];rfl,Lh⟩
 refine Zj (Za (Zh (Zi (Zo J (Zp J (Zp J (Zn (Za (Zl (Zw ?_))))))))))
 refine ⟨rfl,_,(ResL.cons (ResR.tmp rfl) (ResL.cons (ResR.tmp rfl) ResL.nil)),?_⟩
 exact ⟨(),trivial,by rw [he,if_pos ((decS_eq hn).trans (Classical.not_not.1 h50))];rfl,Lh⟩
 exact absurd ((minus_iff ZO).2 hm) h17
theorem ref1_Number_p {B:Base}{w:World}(hS:St B [] w) (s:ByteArray) (hm:minus (toL s)=false) :
 CW 98 #[.string s] w (Ret B (fun _:Unit=>True) (fun _=>.tuple #[.int .i64 (refN s).1,.bool (refN s).2]) (fun _=>[])):=by
 refine ZX Tryz.func98 hS ?_
 refine Zh (Zi (Zp J (Zp J (Zn (Za (Zh (Zh (Zi (Zo J (oLenStr J J (Zx J J (Zo J (ZS (ZT 10) (fun h10=>?_) (fun h10=>?_))))))))))))))
 refine Zr J J J J (Zr J J J J (Zr J J J J (Zt J J (Zn (Za (wCondT J (Zh (Zzd ?_))))))))
 refine ⟨rfl,_,(ResL.cons (ResR.tmp rfl) (ResL.cons (ResR.tmp rfl) ResL.nil)),?_⟩
 exact ⟨(),trivial,by rw [refN_out ZO];rfl,Lh⟩
 refine Zq J J (Zo J (Zq J J (oLenStr J J (Zq J J (Z1 J J (Zu J J (Zn (Za (wC (fun h14=>?_) (fun h14=>?_))))))))))
 refine Zh (Zzd ?_)
 refine ⟨rfl,_,(ResL.cons (ResR.tmp rfl) (ResL.cons (ResR.tmp rfl) ResL.nil)),?_⟩
 exact ⟨(),trivial,by rw [refN_out ZO];rfl,Lh⟩
 refine Zj (Za (Zh (Zi (Zp J (Zn (Za (Zh (Zi (Zp J (Zn (Za (Zh (Zh (Zi (Zo J (oIndexStr (i:=0) J J J ZO ?_))))))))))))))))
 refine Zy J J (Zn (Za (wC (fun h17=>?_) (fun h17=>?_))))
 exact absurd ((minus_iff ZO).1 h17) (by rw [hm];simp)
 refine Zj (Za (Zh (Zh (Zi (Zo J (Zp J (Zn (Za (Zk (wLoop (ι:=Int×Nat) (fun z=>[(0,.string s),(4,.int .i64 z.1),(5,.int .i64 0),(6,.int .i64 (z.2:Int))]) (fun z=>[]) (fun z=>in64 z.1∧z.2≤s.size∧refV ((toL s).drop 0) 0=refV ((toL s).drop z.2) z.1) (fun z=>s.size-z.2) (0,0) ?_ cv (Leads.has ZQ) ?_))))))))))
 exact ⟨⟨by decide,by decide⟩,by show 0≤s.size;omega,rfl⟩
 rintro ⟨n,i⟩ ⟨hn,hi,hv⟩
 dsimp only at hn hi hv
 try dsimp only
 refine Zh (Zh (Zi (Zo J (Zo J (oLenStr J J (Zx J J (Zn (Za (wC (fun h22=>?_) (fun h22=>?_))))))))))
 have hi2:i<s.size:=by omega
 have hb:=refV_step hi2 n
 have h8:=byte8 s i
 refine Zj (Za (Zh (Zk (Zh (Zh (Zi (Zo J (Zo J (oIndexStr J J J hi2 (Zx J J (Zo J (ZS (ZT 29) (fun h29=>?_) (fun h29=>?_)))))))))))))
 refine Zr J J J J (Zr J J J J (Zr J J J J (Zr J J J J (Zt J J (Zn (Za (wCondT J (Zh (Zzh ?_)))))))))
 refine ⟨rfl,_,(ResL.cons (ResR.tmp rfl) (ResL.cons (ResR.tmp rfl) ResL.nil)),?_⟩
 exact ⟨(),trivial,by rw [refN_none ZO hm (hv.trans (by rw [hb,if_pos (.inl h29)]))];rfl,Lh⟩
 refine Zq J J (Zo J (Zq J J (Zo J (Zq J J (oIndexStr J J J hi2 (Zq J J (Z1 J J (Zu J J (Zn (Za (wC (fun h34=>?_) (fun h34=>?_))))))))))))
 refine Zh (Zzh ?_)
 refine ⟨rfl,_,(ResL.cons (ResR.tmp rfl) (ResL.cons (ResR.tmp rfl) ResL.nil)),?_⟩
 exact ⟨(),trivial,by rw [refN_none ZO hm (hv.trans (by rw [hb,if_pos (.inr h34)]))];rfl,Lh⟩
 refine Zj (Za (Zi (Zo J (oMulW J J (Zo J (Zo J (oIndexStr J J J hi2 (oSubW J J ?_))))))))
 rw [wrap8b (n:=byteAt s i-48) ZO]
 refine oConvInt (m:=byteAt s i-48) J J J (wrap_in ⟨by omega,by omega⟩) ?_
 refine oSubW J J (Zp J (Zn (Zd (Zze ?_))))
 refine Zp J (Zn (Za ?_))
 exact ⟨rfl,(IntKind.i64.wrap (IntKind.i64.wrap (10 * n)-(byteAt s i-48)),i+1),⟨in64_wrap _,by show i+1≤_;omega,by rw [hv,hb,if_neg ZO]⟩,by show s.size-(i+1)<s.size-i;omega,cv,Lh⟩
 obtain rfl:i=s.size:=by omega
 have he:=refN_some ZO hm (hv.trans (refV_end n))
 rw [show endN s false n=IntKind.i64.wrap (0-n) from rfl] at he
 refine Zm (Zb (Zb (Ze (Za (Zh (Zh (Zi (Zo J (Zy J J (Zn (Za (wC (fun h44=>?_) (fun h44=>?_)))))))))))))
 refine Zi (Zo J (oSubW J J (Zp J (Zn (Za (Zh (Zh (Zi (Zo J ?_)))))))))
 (refine ZC0 rfl ZK (fun w hS=>frame hS ZQ (fun B' hB hS'=>ref_Digits hS' (IntKind.i64.wrap (0-n)) (in64_wrap _))) ?_;rintro ⟨⟩ -)
 refine Zo J (oSNe J J (Zn (Za (wC (fun h50=>?_) (fun h50=>?_)))))
 refine Zh (Zzd ?_)
 refine ⟨rfl,_,(ResL.cons (ResR.tmp rfl) (ResL.cons (ResR.tmp rfl) ResL.nil)),?_⟩
 exact ⟨(),trivial,by rw [he,if_neg (fun k=>h50 ((decS_eq (in64_wrap _)).symm.trans k))];rfl,Lh⟩
 refine Zj (Za (Zh (Zi (Zo J (Zp J (Zp J (Zn (Za (Zl (Zw ?_))))))))))
 refine ⟨rfl,_,(ResL.cons (ResR.tmp rfl) (ResL.cons (ResR.tmp rfl) ResL.nil)),?_⟩
 exact ⟨(),trivial,by rw [he,if_pos ((decS_eq (in64_wrap _)).trans (Classical.not_not.1 h50))];rfl,Lh⟩
 exact absurd rfl h44
theorem ref1_Number {B:Base}{w:World}(hS:St B [] w) (s:ByteArray) :
 CW 98 #[.string s] w (Ret B (fun _:Unit=>True) (fun _=>.tuple #[.int .i64 (numF s).1,.bool (numF s).2]) (fun _=>[])):=by
 rw [← refN_law s]
 cases hm:minus (toL s) with
 | true=>exact ref1_Number_m hS s hm
 | false=>exact ref1_Number_p hS s hm

theorem trimS_size (s p:ByteArray):(trimS s p).size≤s.size:=by
 have e:(trimS s p).size=(Lib.trimSuffix s.data.toList p.data.toList).length:=by simp [trimS,ByteArray.size]
 rw [e,Lib.size_eq]
 unfold Lib.trimSuffix
 split
 · rw [List.length_take];omega
 · exact Nat.le_refl _
theorem wordsF_len (s:ByteArray):(wordsF s).length≤s.size+1:=Nat.le_trans (List.length_filter_le _ _) (pieces_le s ⟨#[32]⟩ (by decide))
theorem line_Split {B:Base}{w:World}(hS:St B [] w) (hm:IntAt B.e (laysn146_ren.g 1)) (s:ByteArray) (hs:s.size≤1000000) (W0:World) :
 CW 29 #[.string s] w (Ret B (fun _:Option Addr×Nat=>True) (fun z=>.slice z.1 (linesF s).length z.2) (fun z=>[row Kd.string W0 9 (.slice z.1 (linesF s).length z.2) (linesF s)])):=by
 have hts:=trimS_size s ⟨#[10]⟩
 refine ZX Tryz.func29 hS ?_
 refine Zh (Zi (Zp J (Zn (Za (Zh (Zh (Zi (Zo J (oSEq J J (Zn (Za (wC (fun h4=>?_) (fun h4=>?_)))))))))))))
 have he:linesF s=[]:=by unfold linesF;rw [if_pos (show s=ByteArray.empty from h4)]
 refine Zh (Zzb ?_)
 exact ⟨(none,0),trivial,by rw [he];rfl,by rw [he];exact Leads.nilrow.trans Lh⟩
 have he:linesF s=pieces (trimS s ⟨#[10]⟩) ⟨#[10]⟩:=by unfold linesF;rw [if_neg (show ¬ s=ByteArray.empty from h4)]
 refine Zj (Zzg ?_)
 (refine ZC0 rfl ZK (fun w hS=>frame hS ZQ (fun B' hB hS'=>trimSuf laysn102_at hS' s ⟨#[10]⟩ ZO)) ?_;rintro ⟨⟩ -)
 (refine ZC0 rfl ZK (fun w hS=>frame hS ZQ (fun B' hB hS'=>splitLib laysn146_at ZK hS' W0 (hm.grow hB) (trimS s ⟨#[10]⟩) ⟨#[10]⟩ ZO (by decide))) ?_;rintro b7 -)
 refine Zp J (Zzc ?_)
 exact ⟨(some ⟨b7,0,none⟩,_),trivial,by rw [he];rfl,by rw [he];exact Lh⟩
theorem filter_next {p:ByteArray→Bool}{l:List ByteArray}{i:Nat}{x:ByteArray}(h:l[i]?=some x):(l.take (i+1)).filter p=(l.take i).filter p++(if p x then [x] else []):=by
 rw [List.take_add_one,h,List.filter_append]
 congr 1
 cases hp:p x <;> simp [hp]
theorem line_Words {B:Base}{w:World}(hS:St B [] w) (hm:IntAt B.e (laysn146_ren.g 1)) (s:ByteArray) (hs:s.size≤1000000) (W0:World) :
 CW 30 #[.string s] w (Ret B (fun _:Option Addr×Nat=>True) (fun z=>.slice z.1 (wordsF s).length z.2) (fun z=>[row Kd.string W0 9 (.slice z.1 (wordsF s).length z.2) (wordsF s)])):=by
 have hpl:=pieces_le s ⟨#[32]⟩ (by decide)
 refine ZX Tryz.func30 hS ?_
 refine Zh (Zi (Zp J (Zn (Za (Zh (Zi (Zp J (Zn (Za (Zh (Zh (Zi (Zo J ?_)))))))))))))
 (refine ZC0 rfl ZK (fun w hS=>frame hS ZQ (fun B' hB hS'=>splitLib laysn146_at ZK hS' B.e (hm.grow hB) s ⟨#[32]⟩ ZO (by decide))) ?_;rintro b7 -)
 refine Zv J J (Zo J (Zn (Za (Zk (wLoop (ι:=Nat×Option Addr×Nat) (fun z=>[(3,.slice z.2.1 (((pieces s ⟨#[32]⟩).take z.1).filter fullB).length z.2.2),(7,.slice (some ⟨b7,0,none⟩) (pieces s ⟨#[32]⟩).length (pieces s ⟨#[32]⟩).length),(8,.int .i64 ((pieces s ⟨#[32]⟩).length:Int)),(9,.int .i64 (z.1:Int))]) (fun z=>[row Kd.string B.e 9 (.slice (some ⟨b7,0,none⟩) (pieces s ⟨#[32]⟩).length (pieces s ⟨#[32]⟩).length) (pieces s ⟨#[32]⟩),row Kd.string W0 9 (.slice z.2.1 (((pieces s ⟨#[32]⟩).take z.1).filter fullB).length z.2.2) (((pieces s ⟨#[32]⟩).take z.1).filter fullB)]) (fun z=>z.1≤(pieces s ⟨#[32]⟩).length) (fun z=>(pieces s ⟨#[32]⟩).length-z.1) (0,none,0) ?_ cv (Leads.nilrow.trans Lh) ?_)))))
 exact Nat.zero_le _
 rintro ⟨i,A2,c2⟩ hi
 dsimp only at hi
 have hle:(((pieces s ⟨#[32]⟩).take i).filter fullB).length≤1000001:=Nat.le_trans (List.length_filter_le _ _) (by rw [List.length_take];omega)
 try dsimp only
 refine Zh (Zi (Zx J J (Zn (Za (Zh (wC (fun h10=>?_) (fun h10=>?_)))))))
 refine Zj (Za (Zh (Zk (Zh (Zi (ZR J J ZP ZO J J (fun g11 hg11=>?_)))))))
 first | subst hg11 | (injection hg11 with hg11;injection hg11 with hg11;subst hg11)
 refine ZR1 J ZP ZO J (fun u12 hu12=>?_)
 refine Zp J (Zn (Za (Zh (Zi (Zo J (oSNe J J (Zn (Za (wC (fun h14=>?_) (fun h14=>?_))))))))))
 refine Zi (Zo J (Zo J (oBuildSlice1 J J J J J ZP J (fun b17=>?_))))
 refine oApp1 u12 J J J J ZP ZP J ZO J (fun g18 cp18=>?_)
 have hft:=filter_next (p:=fullB) hu12
 rw [if_pos (show fullB u12=true from decide_eq_true h14)] at hft
 rw [show (((pieces s ⟨#[32]⟩).take i).filter fullB).length+1=(((pieces s ⟨#[32]⟩).take (i+1)).filter fullB).length by rw [hft,List.length_append];rfl,← hft]
 refine Zp J (Zn (Zd (Za (Zi (Zsu ?_)))))
 refine Zo J (Zn (Za ?_))
 exact ⟨rfl,(i+1,some ⟨g18,0,none⟩,cp18),by show i+1≤_;omega,by show (pieces s ⟨#[32]⟩).length-(i+1)<(pieces s ⟨#[32]⟩).length-i;omega,cv,Lh⟩
 refine Zj (Zd (Za (Zi (Zsu ?_))))
 refine Zo J (Zn (Za ?_))
 have hft:=filter_next (p:=fullB) hu12
 rw [if_neg (show ¬ fullB u12=true from fun k=>h14 (of_decide_eq_true k)),List.append_nil] at hft
 exact ⟨rfl,(i+1,A2,c2),by show i+1≤_;omega,by show (pieces s ⟨#[32]⟩).length-(i+1)<(pieces s ⟨#[32]⟩).length-i;omega,by dsimp only;rw [hft];exact cv,by dsimp only;rw [hft];exact Lh⟩
 obtain rfl:i=(pieces s ⟨#[32]⟩).length:=by omega
 have hw:((pieces s ⟨#[32]⟩).take (pieces s ⟨#[32]⟩).length).filter fullB=wordsF s:=by rw [List.take_length];rfl
 rw [hw]
 refine Zm (Zb (Zb (Ze (Za (Zh (Zi (Zo J (Zp J (Zzc ?_)))))))))
 exact ⟨(A2,c2),trivial,rfl,Lh⟩
theorem wordR_step {s:ByteArray}{i:Nat}(h:i≤s.size) (a:Nat):wordR s (s.size+1-i) a=if i=s.size∨byteAt s i=32 then (if a<i then [s.extract a i] else [])++wordR s (s.size+1-(i+1)) (i+1) else wordR s (s.size+1-(i+1)) a:=by
 rw [show s.size+1-i=(s.size-i)+1 by omega,show s.size+1-(i+1)=s.size-i by omega]
 show (if s.size-i=0∨byteAt s (s.size-(s.size-i))=32 then (if a<s.size-(s.size-i) then [s.extract a (s.size-(s.size-i))] else [])++wordR s (s.size-i) (s.size-(s.size-i)+1) else wordR s (s.size-i) a)=_
 rw [show s.size-(s.size-i)=i by omega]
 by_cases hc:i=s.size∨byteAt s i=32
 · rw [if_pos hc,if_pos (hc.elim (fun e=>.inl ZO) .inr)]
 · rw [if_neg hc,if_neg (fun k=>hc (k.elim (fun e=>.inl ZO) .inr))]
theorem ref9_Words {B:Base}{w:World}(hS:St B [] w) (s:ByteArray) (hs:s.size≤1000000) (W0:World) :
 CW 51 #[.string s] w (Ret B (fun _:Option Addr×Nat=>True) (fun z=>.slice z.1 (wordsF s).length z.2) (fun z=>[row Kd.string W0 9 (.slice z.1 (wordsF s).length z.2) (wordsF s)])):=by
 have hll:=wordsF_len s
 have hlaw:=words_law s
 refine ZX Tryz.func51 hS ?_
 refine Zh (Zi (Zp J (Zn (Za (Zh (Zi (Zp J (Zn (Za (Zh (Zi (Zp J (Zn (Za (Zh (Zh (Zi (Zp J (Zn (Za (Zk (wLoop (ι:=Nat×Nat×Option Addr×Nat×List ByteArray) (fun z=>[(0,.string s),(3,.slice z.2.2.1 z.2.2.2.2.length z.2.2.2.1),(4,.int .i64 (z.2.1:Int)),(5,.int .i64 (z.1:Int))]) (fun z=>[row Kd.string W0 9 (.slice z.2.2.1 z.2.2.2.2.length z.2.2.2.1) z.2.2.2.2]) (fun z=>z.1≤s.size+1∧z.2.1≤z.1∧z.2.2.2.2++wordR s (s.size+1-z.1) z.2.1=wordsF s) (fun z=>s.size+1-z.1) (0,0,none,0,[]) ?_ cv (Leads.nilrow.trans Lh) ?_))))))))))))))))))))))
 exact ⟨Nat.zero_le _,Nat.le_refl _,hlaw⟩
 rintro ⟨i,a,A2,c2,out⟩ ⟨hi,ha,hv⟩
 dsimp only at hi ha hv
 have hol:out.length≤s.size+1:=by have:=congrArg List.length hv;rw [List.length_append] at this;omega
 try dsimp only
 refine Zh (Zh (Zi (Zo J (Zo J (oLenStr J J (oLeq J J (Zn (Za (wC (fun h9=>?_) (fun h9=>?_))))))))))
 have hi2:i≤s.size:=by omega
 have hst:=wordR_step hi2 a
 refine Zj (Za (Zh (Zk (Zh (Zi (Zo J (Zo J (oLenStr J J (Zy J J (Zo J (ZS (ZT 16) (fun h16=>?_) (fun h16=>?_))))))))))))
 refine Zr J J J J (Zr J J J J (Zr J J J J (Zr J J J J (Zt J J (Zn (Za (wCondT J (Zh (Zh (Zi (Zo J (Zo J (Z1 J J (Zn (Za (wC (fun h24=>?_) (fun h24=>?_)))))))))))))))))
 refine Zi (Zo J (Zo J (Zo J (Zo J (oSliceS J J J J ⟨ha,hi2⟩ (oBuildSlice1 J J J J J ZP J (fun b30=>?_)))))))
 refine oApp1 (s.extract a i) J J J J ZP ZP J ZO J (fun g31 cp31=>?_)
 refine Zp J (Zn (Zze ?_))
 refine Zp J (Zn (Zd (Zze ?_)))
 refine Zp J (Zn (Za ?_))
 exact ⟨rfl,(i+1,i+1,some ⟨g31,0,none⟩,cp31,out++[s.extract a i]),⟨by show i+1≤_;omega,Nat.le_refl _,by show (out++[_])++_=_;rw [List.append_assoc,← hv,hst,if_pos (.inl ZO),if_pos ZO]⟩,by show s.size+1-(i+1)<s.size+1-i;omega,by dsimp only;rw [List.length_append];exact cv,by dsimp only;rw [List.length_append];exact Lh⟩
 refine Zj (Zze ?_)
 refine Zp J (Zn (Zd (Zze ?_)))
 refine Zp J (Zn (Za ?_))
 exact ⟨rfl,(i+1,i+1,A2,c2,out),⟨by show i+1≤_;omega,Nat.le_refl _,by show out++_=_;rw [← hv,hst,if_pos (.inl ZO),if_neg ZO,List.nil_append]⟩,by show s.size+1-(i+1)<s.size+1-i;omega,cv,Lh⟩
 refine Zq J J (Zo J (Zq J J (Zo J (Zq J J (oIndexStr J J J ZO ?_)))))
 refine Zq J J (Zy J J (Zu J J (Zn (Za (wC (fun h21=>?_) (fun h21=>?_))))))
 refine Zh (Zh (Zi (Zo J (Zo J (Z1 J J (Zn (Za (wC (fun h24=>?_) (fun h24=>?_)))))))))
 refine Zi (Zo J (Zo J (Zo J (Zo J (oSliceS J J J J ⟨ha,hi2⟩ (oBuildSlice1 J J J J J ZP J (fun b30=>?_)))))))
 refine oApp1 (s.extract a i) J J J J ZP ZP J ZO J (fun g31 cp31=>?_)
 refine Zp J (Zn (Zze ?_))
 refine Zp J (Zn (Zd (Zze ?_)))
 refine Zp J (Zn (Za ?_))
 exact ⟨rfl,(i+1,i+1,some ⟨g31,0,none⟩,cp31,out++[s.extract a i]),⟨by show i+1≤_;omega,Nat.le_refl _,by show (out++[_])++_=_;rw [List.append_assoc,← hv,hst,if_pos (.inr h21),if_pos ZO]⟩,by show s.size+1-(i+1)<s.size+1-i;omega,by dsimp only;rw [List.length_append];exact cv,by dsimp only;rw [List.length_append];exact Lh⟩
 refine Zj (Zze ?_)
 refine Zp J (Zn (Zd (Zze ?_)))
 refine Zp J (Zn (Za ?_))
 exact ⟨rfl,(i+1,i+1,A2,c2,out),⟨by show i+1≤_;omega,Nat.le_refl _,by show out++_=_;rw [← hv,hst,if_pos (.inr h21),if_neg ZO,List.nil_append]⟩,by show s.size+1-(i+1)<s.size+1-i;omega,cv,Lh⟩
 refine Zj (Zd (Zze ?_))
 refine Zp J (Zn (Za ?_))
 exact ⟨rfl,(i+1,a,A2,c2,out),⟨by show i+1≤_;omega,by show a≤i+1;omega,by show out++_=_;rw [← hv,hst,if_neg (fun k=>k.elim (fun e=>by omega) h21)]⟩,by show s.size+1-(i+1)<s.size+1-i;omega,cv,Lh⟩
 obtain rfl:i=s.size+1:=by omega
 have hv2:out=wordsF s:=by rw [← hv,Nat.sub_self];show out=out++[];simp
 subst hv2
 refine Zm (Zb (Zb (Ze (Za (Zh (Zi (Zo J (Zp J (Zzc ?_)))))))))
 exact ⟨(A2,c2),trivial,rfl,Lh⟩
open Go.Proofs.YtpmdhkjbhjgoaaaGreatDoorV
open Go.Proofs.YtpmdhkjbhjgoaaaGreatDoorN (idxI idxI_stop idxI_none take_not)
def plcF (l:List ByteArray) (x:ByteArray):Int:=idxI (fun y=>decide (x=y)) l
theorem slices_IndexS {B:Base}{w:World}(hS:St B [] w) (A:Option Addr) (cp:Nat) (l:List ByteArray) (hC:Kd.string.C B.e A l) (hl:l.length≤1000000) (x:ByteArray) :
 CW 95 #[.slice A l.length cp,.string x] w (Ret B (fun _:Unit=>True) (fun _=>.int .i64 (plcF l x)) (fun _=>[])):=by
 refine ZX Tryz.func95 hS ?_
 refine Zh (Zi (Zp J (Zn (Za (Zh (Zh (Zi (Zo J (Zv J J (Zo J (Zn (Za (Zk (wLoop (ι:=Nat) (fun i=>[(0,.slice A l.length cp),(1,.string x),(7,.int .i64 (l.length:Int)),(8,.int .i64 (i:Int))]) (fun i=>[]) (fun i=>i≤l.length∧∀ y ∈ l.take i,decide (x=y)=false) (fun i=>l.length-i) 0 ?_ cv (Leads.has ZQ) ?_))))))))))))))
 exact ⟨Nat.zero_le _,fun y hy=>by simp at hy⟩
 rintro i ⟨hi,hv⟩
 try dsimp only
 refine Zh (Zi (Zx J J (Zn (Za (Zh (wC (fun h9=>?_) (fun h9=>?_)))))))
 obtain ⟨y,hy⟩:∃ y,l[i]?=some y:=⟨_,List.getElem?_eq_getElem ZO⟩
 obtain ⟨e1,cs1,hE⟩:=hC.elm hy
 obtain rfl:=(show cs1=[Value.string y] from hE.K)
 refine Zj (Za (Zh (Zk (Zh (Zi (Zo J (Zp J (Zn (Za (Zh (Zi (Zo J (Zo J (Zo J (oIdxE J J (hE) ZO J J ?_)))))))))))))))
 have hc14:=(hE).cell
 refine Zlx hc14 ?_
 refine oSEq J J (Zn (Za (wC (fun h16=>?_) (fun h16=>?_))))
 refine Zh (Zi (Zo J (Zp J (Zzf ?_))))
 exact ⟨(),trivial,by rw [show plcF l x=(i:Int) from idxI_stop hv hy (decide_eq_true h16)];rfl,Lh⟩
 refine Zj (Zd (Za (Zi (Zsu ?_))))
 refine Zo J (Zn (Za ?_))
 exact ⟨rfl,i+1,⟨by omega,take_not hv hy (decide_eq_false h16)⟩,by omega,cv,Lh⟩
 obtain rfl:i=l.length:=by omega
 rw [List.take_length] at hv
 refine Zm (Zb (Zb (Ze (Za (Zh (Zi (Zp J (Zzc ?_))))))))
 exact ⟨(),trivial,by rw [show plcF l x = -1 from idxI_none hv];rfl,Lh⟩
def findF (x:ByteArray):Int:=plcF namesL x+1
theorem plcF_in (l:List ByteArray) (x:ByteArray) : -1≤plcF l x∧plcF l x≤(l.length:Int):=by
 unfold plcF idxI
 split
 · next h=>
   have:l.findIdx (fun y=>decide (x=y))≤l.length:=List.findIdx_le_length
   omega
 · omega
theorem op_Find {B:Base}{w:World}(hS:St B [] w) (x:ByteArray) :
 CW 48 #[.string x] w (Ret B (fun _:Unit=>True) (fun _=>.int .i64 (findF x)) (fun _=>[])):=by
 have hpl:=plcF_in namesL x
 have hnl:namesL.length=28:=rfl
 refine ZX Tryz.func48 hS ?_
 refine Zh (Zi (Zp J (Zn (Za (Zh (Zi ?_))))))
 (refine ZC0 rfl ZK (fun w hS=>frame hS ZQ (fun B' hB hS'=>op_names hS')) ?_;rintro ⟨⟩ -)
 refine oAlloc J ZP (fun b3=>?_)
 refine Zsa ?_
 refine Zn (Za (Zh (Zi (oSliceAr J J (by decide) ?_))))
 refine Zo J ?_
 (refine ZD J (fun w B' hB hR hS'=>slices_IndexS hS' _ 28 namesL (C_blk (hR _ _ ZP) (by decide) (cat_scalar.2 rfl)) (by decide) x) ?_;rintro ⟨⟩ -)
 refine oAdd J J ZO ?_
 refine Zp J (Zzc ?_)
 exact ⟨(),trivial,rfl,Lh⟩
def kindF (x:ByteArray):Int:=if plcF textsL x<0 then 0 else plcF textsL x
def clsF (k:Int):Int×Bool:=(if isC (IntKind.i64.wrap (k-1)) then IntKind.i64.wrap (k-1) else 0,isC (IntKind.i64.wrap (k-1)))
theorem sig_Parse {B:Base}{w:World}(hS:St B [] w) (x:ByteArray) :
 CW 96 #[.string x] w (Ret B (fun _:Unit=>True) (fun _=>.tuple #[.int .i64 (kindF x),.bool (decide (0≤plcF textsL x))]) (fun _=>[])):=by
 refine ZX Tryz.func96 hS ?_
 refine Zh (Zi (Zp J (Zp J (Zn (Za (Zh (Zi ?_)))))))
 (refine ZC0 rfl ZK (fun w hS=>frame hS ZQ (fun B' hB hS'=>sig_texts hS' B.e)) ?_;rintro b5 -)
 refine Zo J ?_
 (refine ZD J (fun w B' hB hR hS'=>slices_IndexS hS' (some ⟨b5,0,none⟩) 9 textsL (row_Cs (W:=B.e) (e:=9) (n:=9) (cp:=9) (hR _ _ ZP)) (by decide) x) ?_;rintro ⟨⟩ -)
 refine Zp J (Zn (Za (Zh (Zi (Zo J (oMaxJ J J (Zo J (Z2 J J (Zp J (Zp J (Zn (Za (Zl (Zw ?_))))))))))))))
 refine ⟨rfl,_,(ResL.cons (ResR.tmp rfl) (ResL.cons (ResR.tmp rfl) ResL.nil)),?_⟩
 exact ⟨(),trivial,by simp [resVal,kindF],Lh⟩
def operF (k:Int) (x:ByteArray):Int×Bool:=if k=107 then ((clsF (kindF x)).1,decide (0≤plcF textsL x) && (clsF (kindF x)).2) else numF x
theorem line_operand {B:Base}{w:World}(hS:St B [] w) (hL:LnE B.e) (k:Int) (x:ByteArray) (hx:x.size≤1000000) :
 CW 49 #[.int .i32 k,.string x] w (Ret B (fun _:Unit=>True) (fun _=>.tuple #[.int .i64 (operF k x).1,.bool (operF k x).2]) (fun _=>[])):=by
 refine ZX Tryz.func49 hS ?_
 refine Zh (Zi (Zp J (Zp J (Zn (Za (Zh (Zh (Zi (Zo J (Z0 J J (Zn (Za (wC (fun h11=>?_) (fun h11=>?_))))))))))))))
 refine Zh (Zi (Zo J ?_))
 (refine ZC0 rfl ZK (fun w hS=>frameK hS ZQ (fun B' hB hK hS'=>line_Number hS' (hL.of hB hK) x hx)) ?_;rintro ⟨⟩ -)
 refine oExt J ZP ?_
 refine oExt J ZP ?_
 refine Zp J (Zp J (Zn (Za (Zl (Zc (Zw ?_))))))
 refine ⟨rfl,_,(ResL.cons (ResR.tmp rfl) (ResL.cons (ResR.tmp rfl) ResL.nil)),?_⟩
 exact ⟨(),trivial,by unfold operF;rw [if_neg h11];rfl,Lh⟩
 refine Zj (Zzg ?_)
 (refine ZC0 rfl ZK (fun w hS=>frame hS ZQ (fun B' hB hS'=>sig_Parse hS' x)) ?_;rintro ⟨⟩ -)
 refine Zo J (oExt J ZP ?_)
 refine oExt J ZP ?_
 refine Zp J (Zp J (Zn (Zzg ?_)))
 (refine ZC0 rfl ZK (fun w hS=>frame hS ZQ (fun B' hB hS'=>sig_Class hS' (kindF x))) ?_;rintro ⟨⟩ -)
 refine Zo J (oExt J ZP ?_)
 refine oExt J ZP ?_
 refine Zp J (Zp J (Zn (Za (Zh (Zi (Zo J (Zo J (Zo J (ZS (ZT 28) (fun h28=>?_) (fun h28=>?_))))))))))
 refine Zq J J (Zo J (Zt J J (Zp J (Zp J (Zn (Za (Zl (Zw ?_))))))))
 refine ⟨rfl,_,(ResL.cons (ResR.tmp rfl) (ResL.cons (ResR.tmp rfl) ResL.nil)),?_⟩
 exact ⟨(),trivial,by unfold operF;rw [if_pos (Classical.not_not.1 h11),decide_eq_true h28,Bool.true_and];rfl,Lh⟩
 refine Zr J J J J (Zu J J (Zp J (Zp J (Zn (Za (Zl (Zw ?_)))))))
 refine ⟨rfl,_,(ResL.cons (ResR.tmp rfl) (ResL.cons (ResR.tmp rfl) ResL.nil)),?_⟩
 exact ⟨(),trivial,by unfold operF;rw [if_pos (Classical.not_not.1 h11),decide_eq_false h28,Bool.false_and];rfl,Lh⟩
def withF (x:ApiInstr):Nat→Int→ApiInstr
  | 0,n=>⟨x.fOp,n,x.fB,x.fC,x.fN⟩
  | 1,n=>⟨x.fOp,x.fA,n,x.fC,x.fN⟩
  | 2,n=>⟨x.fOp,x.fA,x.fB,n,x.fN⟩
  | _,n=>⟨x.fOp,x.fA,x.fB,x.fC,n⟩
def insV (x:ApiInstr):Value:=.agg #[.int .i64 x.fOp,.int .i64 x.fA,.int .i64 x.fB,.int .i64 x.fC,.int .i64 x.fN]
theorem instr_With0 {B:Base}{w:World}(hS:St B [] w) (x:ApiInstr) (n:Int) :
 CW 50 #[insV x,.int .i64 0,.int .i64 n] w (Ret B (fun _:Unit=>True) (fun _=>insV (withF x 0 n)) (fun _=>[])):=by
 unfold insV
 refine ZX Tryz.func50 hS ?_
 refine Zh (Zi (oBox J ZP (fun b3=>?_)))
 refine oAlloc J ZP (fun b6=>?_)
 refine Zn (Za (Zh (Zh (Zi (Zo J (Zy J J (Zn (Za (wC (fun h9=>?_) (fun h9=>?_))))))))))
 exact absurd h9 (by decide)
 refine Zj (Za (Zh (Zi (Zz (n:=1) (m:=1) J J J (Zz (n:=2) (m:=2) J J J (Zz (n:=3) (m:=3) J J J (oBuildArr (Parts.cons J (Parts.cons J (Parts.cons J Parts.nil))) J J (Built.cons (off:=0) (s:=1) J ZP J ZP (Built.cons (off:=1) (s:=1) J ZP J ZP (Built.cons (off:=2) (s:=1) J ZP J ZP Built.nil))) ?_)))))))
 refine oAlloc J ZP (fun b7=>?_)
 refine Zsa ?_
 refine Zn (Za (Zh (Zh (Zi (Zo J (Z2 J J (Zo J (ZS0 (t:=19) (v':=.bool true) J J (Zq J J (Zo J (Zq J J (Zx J J (Zt J J (ZS0 (t:=22) (v':=.bool true) J J (Zn (Za (wCondT J (Zi (Zo J (oIdxA (s:=1) (i:=0) (m:=0) J J J J (by decide) J ?_))))))))))))))))))))
 refine Zld ?_
 refine Zo J (Z3 J (Zst ?_))
 refine Zn (Za (Zh (Zi (Zla ?_))))
 refine Zsa ?_
 refine Zn (Za (Zl (Zw (ZI ?_))))
 exact ⟨(),trivial,rfl,Lh⟩
theorem instr_With1 {B:Base}{w:World}(hS:St B [] w) (x:ApiInstr) (n:Int) :
 CW 50 #[insV x,.int .i64 1,.int .i64 n] w (Ret B (fun _:Unit=>True) (fun _=>insV (withF x 1 n)) (fun _=>[])):=by
 unfold insV
 refine ZX Tryz.func50 hS ?_
 refine Zh (Zi (oBox J ZP (fun b3=>?_)))
 refine oAlloc J ZP (fun b6=>?_)
 refine Zn (Za (Zh (Zh (Zi (Zo J (Zy J J (Zn (Za (wC (fun h9=>?_) (fun h9=>?_))))))))))
 exact absurd h9 (by decide)
 refine Zj (Za (Zh (Zi (Zz (n:=1) (m:=1) J J J (Zz (n:=2) (m:=2) J J J (Zz (n:=3) (m:=3) J J J (oBuildArr (Parts.cons J (Parts.cons J (Parts.cons J Parts.nil))) J J (Built.cons (off:=0) (s:=1) J ZP J ZP (Built.cons (off:=1) (s:=1) J ZP J ZP (Built.cons (off:=2) (s:=1) J ZP J ZP Built.nil))) ?_)))))))
 refine oAlloc J ZP (fun b7=>?_)
 refine Zsa ?_
 refine Zn (Za (Zh (Zh (Zi (Zo J (Z2 J J (Zo J (ZS0 (t:=19) (v':=.bool true) J J (Zq J J (Zo J (Zq J J (Zx J J (Zt J J (ZS0 (t:=22) (v':=.bool true) J J (Zn (Za (wCondT J (Zi (Zo J (oIdxA (s:=1) (i:=1) (m:=1) J J J J (by decide) J ?_))))))))))))))))))))
 refine Zld ?_
 refine Zo J (Z3 J (Zst ?_))
 refine Zn (Za (Zh (Zi (Zla ?_))))
 refine Zsa ?_
 refine Zn (Za (Zl (Zw (ZI ?_))))
 exact ⟨(),trivial,rfl,Lh⟩
theorem instr_With2 {B:Base}{w:World}(hS:St B [] w) (x:ApiInstr) (n:Int) :
 CW 50 #[insV x,.int .i64 2,.int .i64 n] w (Ret B (fun _:Unit=>True) (fun _=>insV (withF x 2 n)) (fun _=>[])):=by
 unfold insV
 refine ZX Tryz.func50 hS ?_
 refine Zh (Zi (oBox J ZP (fun b3=>?_)))
 refine oAlloc J ZP (fun b6=>?_)
 refine Zn (Za (Zh (Zh (Zi (Zo J (Zy J J (Zn (Za (wC (fun h9=>?_) (fun h9=>?_))))))))))
 exact absurd h9 (by decide)
 refine Zj (Za (Zh (Zi (Zz (n:=1) (m:=1) J J J (Zz (n:=2) (m:=2) J J J (Zz (n:=3) (m:=3) J J J (oBuildArr (Parts.cons J (Parts.cons J (Parts.cons J Parts.nil))) J J (Built.cons (off:=0) (s:=1) J ZP J ZP (Built.cons (off:=1) (s:=1) J ZP J ZP (Built.cons (off:=2) (s:=1) J ZP J ZP Built.nil))) ?_)))))))
 refine oAlloc J ZP (fun b7=>?_)
 refine Zsa ?_
 refine Zn (Za (Zh (Zh (Zi (Zo J (Z2 J J (Zo J (ZS0 (t:=19) (v':=.bool true) J J (Zq J J (Zo J (Zq J J (Zx J J (Zt J J (ZS0 (t:=22) (v':=.bool true) J J (Zn (Za (wCondT J (Zi (Zo J (oIdxA (s:=1) (i:=2) (m:=2) J J J J (by decide) J ?_))))))))))))))))))))
 refine Zld ?_
 refine Zo J (Z3 J (Zst ?_))
 refine Zn (Za (Zh (Zi (Zla ?_))))
 refine Zsa ?_
 refine Zn (Za (Zl (Zw (ZI ?_))))
 exact ⟨(),trivial,rfl,Lh⟩
theorem instr_With3 {B:Base}{w:World}(hS:St B [] w) (x:ApiInstr) (n:Int) :
 CW 50 #[insV x,.int .i64 3,.int .i64 n] w (Ret B (fun _:Unit=>True) (fun _=>insV (withF x 3 n)) (fun _=>[])):=by
 unfold insV
 refine ZX Tryz.func50 hS ?_
 refine Zh (Zi (oBox J ZP (fun b3=>?_)))
 refine oAlloc J ZP (fun b6=>?_)
 refine Zn (Za (Zh (Zh (Zi (Zo J (Zy J J (Zn (Za (wC (fun h9=>?_) (fun h9=>?_))))))))))
 refine Zh (Zi (Zo J (Zz (n:=4) (m:=4) J J J (Zst ?_))))
 refine Zn (Za (Zh (Zi (Zla ?_))))
 refine Zsa ?_
 refine Zn (Za (Zl (Zc (Zw (ZI ?_)))))
 exact ⟨(),trivial,rfl,Lh⟩
 exact absurd rfl h9
theorem instr_With {B:Base}{w:World}(hS:St B [] w) (x:ApiInstr) (i:Nat) (hi:i<4) (n:Int) :
 CW 50 #[insV x,.int .i64 (i:Int),.int .i64 n] w (Ret B (fun _:Unit=>True) (fun _=>insV (withF x i n)) (fun _=>[])):=by
 obtain rfl | rfl | rfl | rfl:i=0∨i=1∨i=2∨i=3:=by omega
 · exact instr_With0 hS x n
 · exact instr_With1 hS x n
 · exact instr_With2 hS x n
 · exact instr_With3 hS x n
def opW (x:ApiInstr) (i:Nat):List ByteArray:=if byteAt (shapeF x.fOp) i=45 then [] else if byteAt (shapeF x.fOp) i=107 then [textF (1+x.fC)] else [decS (opdF x i)]
def badK (x:ApiInstr) (i:Nat):Bool:=decide (byteAt (shapeF x.fOp) i=107) && !isC x.fC
def wordsT (x:ApiInstr) (i:Nat):List ByteArray:=nameF x.fOp :: ((List.range i).map (opW x)).flatten
theorem wordsT_next (x:ApiInstr) (i:Nat):wordsT x (i+1)=wordsT x i++opW x i:=by
 unfold wordsT
 rw [List.range_succ,List.map_append,List.flatten_append]
 simp
def spB:ByteArray:=⟨#[32]⟩
def textLF (x:ApiInstr):ByteArray×Int:=
  if icF x≠0 then (ByteArray.empty,icF x) else if ownF x.fOp=false then (ByteArray.empty,8) else if (List.range 4).any (badK x) then (ByteArray.empty,9) else (joinT (wordsT x 4) spB,0)
theorem nums_in {x:ApiInstr}(h:icF x=0):(0≤x.fA∧x.fA≤255)∧(0≤x.fB∧x.fB≤255)∧(0≤x.fC∧x.fC≤255)∧(-2147483648≤x.fN∧x.fN≤2147483647)∧(List.range (shapeF x.fOp).size).any (badS x)=false:=by
 unfold icF at h
 split at h
 · cases h
 · split at h
   · cases h
   · next hA=>
     split at h
     · cases h
     · next hN=>
       split at h
       · cases h
       · next hB=>
         have hA':(List.range 3).any (badA x)=false:=by simpa using hA
         have hb:∀ j,j<3→badA x j=false:=fun j hj=>by
          have:=List.any_eq_false.1 hA' j (List.mem_range.2 hj)
          simpa using this
         have h0:=of_decide_eq_false (hb 0 (by decide))
         have h1:=of_decide_eq_false (hb 1 (by decide))
         have h2:=of_decide_eq_false (hb 2 (by decide))
         have e0:(numsL x).getD (1+0) 0=x.fA:=rfl
         have e1:(numsL x).getD (1+1) 0=x.fB:=rfl
         have e2:(numsL x).getD (1+2) 0=x.fC:=rfl
         rw [e0] at h0
         rw [e1] at h1
         rw [e2] at h2
         exact ⟨by omega,by omega,by omega,by omega,by simpa using hB⟩
theorem opd_in {x:ApiInstr}(h:icF x=0) (i:Nat) (hi:i<4):in64 (opdF x i):=by
 obtain ⟨h1,h2,h3,h4,_⟩:=nums_in h
 unfold in64
 obtain rfl | rfl | rfl | rfl:i=0∨i=1∨i=2∨i=3:=by omega
 · show _≤x.fA∧x.fA≤_;omega
 · show _≤x.fB∧x.fB≤_;omega
 · show _≤x.fC∧x.fC≤_;omega
 · show _≤x.fN∧x.fN≤_;omega
theorem nameF_size (o:Int):(nameF o).size≤10:=by
 unfold nameF
 split
 · have:∀ n,n<28→(namesL.getD n ByteArray.empty).size≤10:=by decide
   exact this _ ZO
 · exact Nat.zero_le _
theorem textF_size (k:Int):(textF k).size≤10:=by
 unfold textF
 split
 · have:∀ n,n<9→(textsL.getD n ByteArray.empty).size≤10:=by decide
   exact this _ ZO
 · exact Nat.zero_le _
theorem opW_len (x:ApiInstr) (i:Nat):(opW x i).length≤1:=by
 unfold opW
 split
 · exact Nat.zero_le _
 · split <;> exact Nat.le_refl _
theorem wordsT_len (x:ApiInstr):∀ i,(wordsT x i).length≤i+1
 | 0=>Nat.le_refl _
 | i+1=>by
  rw [wordsT_next,List.length_append]
  have:=wordsT_len x i
  have:=opW_len x i
  omega
theorem wordsT_size {x:ApiInstr}(h:icF x=0):∀ i,i≤4→∀ s ∈ wordsT x i,s.size≤20
 | 0,_=>by
  intro s hs
  obtain rfl:=List.mem_singleton.1 hs
  have:=nameF_size x.fOp
  omega
 | i+1,hi=>by
  intro s hs
  rw [wordsT_next] at hs
  rcases List.mem_append.1 hs with k | k
  · exact wordsT_size h i ZO s k
  · unfold opW at k
    split at k
    · cases k
    · split at k
      · obtain rfl:=List.mem_singleton.1 k
        have:=textF_size (1+x.fC)
        omega
      · obtain rfl:=List.mem_singleton.1 k
        exact decS_size (opd_in h i ZO)
theorem joinT_le (m:Nat):∀ (n:Nat) (l:List ByteArray),l.length=n→(∀ s ∈ l,s.size≤m)→(joinT l spB).size≤n * (m+1)
 | 0,l,hl,_=>by rw [List.eq_nil_of_length_eq_zero hl];exact Nat.zero_le _
 | n+1,l,hl,h=>by
  have hr:l≠[]:=by intro e;subst e;cases hl
  obtain ⟨r,x,rfl⟩:∃ r x,l=r++[x]:=⟨l.dropLast,l.getLast hr,(List.dropLast_concat_getLast hr).symm⟩
  have ih:=joinT_le m n r (by simpa using hl) (fun s hs=>h s (List.mem_append_left _ hs))
  have hx:=h x (by simp)
  have hs:=joinT_snoc r x
  show (joinT (r++[x]) ⟨#[32]⟩).size≤_
  rw [hs]
  have e1:(⟨#[32]⟩:ByteArray).size=1:=rfl
  have ih':(joinT r ⟨#[32]⟩).size≤n * (m+1):=ih
  rw [Nat.succ_mul]
  split
  · rw [ByteArray.size_append,ByteArray.size_append];omega
  · omega
theorem bad_next {p:Nat→Bool}{i:Nat}(h:∀ j,j<i→p j=false) (k:p i=false):∀ j,j<i+1→p j=false:=fun j hj=>by
 by_cases e:j=i
 · subst e;exact k
 · exact h j ZO
theorem any4_F {p:Nat→Bool}(h:∀ j,j<4→p j=false):(List.range 4).any p=false:=any_F h
theorem line_Text {B:Base}{w:World}(hS:St B [] w) (hT:TabP Tryz.prog B.e) (x:ApiInstr) :
 CW 7 #[insV x] w (Ret B (fun _:Unit=>True) (fun _=>.tuple #[.string (textLF x).1,.int .i64 (textLF x).2]) (fun _=>[])):=by
 unfold insV
 have hsz:=shapeF_size x.fOp
 have hasc:=shapeF_asc x.fOp
 refine ZX Tryz.func7 hS ?_
 refine Zh (Zi (oBox J ZP (fun b1=>?_)))
 refine Zp J (Zp J (Zn (Za (Zh (Zh (Zi (Zla ?_)))))))
 (refine ZC0 rfl ZK (fun w hS=>frame hS ZQ (fun B' hB hS'=>instr_Check hS' x _ (kApiInstr_mk _ x))) ?_;rintro ⟨⟩ -)
 refine Zp J (Zn (Za (Zh (Zi (Zo J (Z0 J J (Zn (Za (wC (fun h11=>?_) (fun h11=>?_))))))))))
 refine Zh (Zi (Zo J (Zp J (Zp J (Zn (Za (Zl (Zc (Zw ?_)))))))))
 refine ⟨rfl,_,(ResL.cons (ResR.tmp rfl) (ResL.cons (ResR.tmp rfl) ResL.nil)),?_⟩
 exact ⟨(),trivial,by unfold textLF;rw [if_pos (show icF x≠0 from h11)];rfl,Lh⟩
 have hic:icF x=0:=Classical.not_not.1 h11
 refine Zj (Za (Zh (Zh (Zi (Zz (n:=0) (m:=0) J J J (Zld ?_))))))
 (refine ZC0 rfl ZK (fun w hS=>frame hS ZQ (fun B' hB hS'=>op_Own hS' x.fOp)) ?_;rintro ⟨⟩ -)
 refine Zno ?_
 refine Zn (Za (wC (fun h16=>?_) (fun h16=>?_)))
 have ho:ownF x.fOp=false:=by simpa using h16
 refine Zh (Zzd ?_)
 refine ⟨rfl,_,(ResL.cons (ResR.tmp rfl) (ResL.cons (ResR.tmp rfl) ResL.nil)),?_⟩
 exact ⟨(),trivial,by unfold textLF;rw [if_neg (fun k=>k hic),if_pos ho];rfl,Lh⟩
 have ho:ownF x.fOp=true:=by simpa using h16
 rw [if_pos ho] at hsz
 refine Zj (Za (Zh (Zi (Zz (n:=0) (m:=0) J J J (Zld ?_)))))
 (refine ZC0 rfl ZK (fun w hS=>frame hS ZQ (fun B' hB hS'=>op_Name hS' x.fOp)) ?_;rintro ⟨⟩ -)
 refine oBuildSlice1 J J J J J ZP J (fun b20=>?_)
 refine Zp J (Zn (Za (Zh (Zh (Zi (Zz (n:=0) (m:=0) J J J (Zld ?_)))))))
 (refine ZC0 rfl ZK (fun w hS=>frame hS ZQ (fun B' hB hS'=>op_Shape hS' x.fOp)) ?_;rintro ⟨⟩ -)
 refine oRangeStr J J (fun b24=>?_)
 refine Zn (Za (Zk (wLoop (ι:=Nat×Option Addr×Nat) (fun z=>[(1,.pointer (some ⟨b1,0,none⟩)),(5,.slice z.2.1 (wordsT x z.1).length z.2.2),(24,.pointer (some ⟨b24,0,none⟩))]) (fun z=>[blk b1 23 [.int .i64 x.fOp,.int .i64 x.fA,.int .i64 x.fB,.int .i64 x.fC,.int .i64 x.fN],row Kd.string B.e 9 (.slice z.2.1 (wordsT x z.1).length z.2.2) (wordsT x z.1),ob b24 (.stringIter (shapeF x.fOp) z.1)]) (fun z=>z.1≤4∧∀ j,j<z.1→badK x j=false) (fun z=>4-z.1) (0,some ⟨b20,0,none⟩,1) ?_ cv (Leads.trans (blk_row (enc:=Value.string) (h1:=fun _=>J) (W:=B.e) (xs:=[nameF x.fOp]) ZP J J (show 1≤maxLen by decide)) Lh) ?_)))
 exact ⟨Nat.zero_le _,fun j hj=>absurd hj (Nat.not_lt_zero _)⟩
 rintro ⟨i,A2,c2⟩ ⟨hi,hv⟩
 dsimp only at hi hv
 have hlw:=wordsT_len x i
 try dsimp only
 refine Zh (Zi (oNextStr J ZP ?_))
 refine oExtN J (Zn (Za (Zh (wC (fun h26=>?_) (fun h26=>?_)))))
 have hil:i<(shapeF x.fOp).size:=h26
 rw [nextV_T hil (hasc i hil),nextP_T hil (hasc i hil)]
 refine Zj (Za (Zk (Zh (Zi (oExt J ZP ?_)))))
 refine oExt J ZP ?_
 refine Zp J (Zp J (Zn (Za (Zh (Zi (Zo J (Zn (Za (Zk (Zh (Zi (Zy J J (Zp J (Zn (Za (wC (fun h37=>?_) (fun h37=>?_)))))))))))))))))
 refine Zj (Zd (Zd (Za ?_)))
 have hft:=wordsT_next x i
 rw [show opW x i=[] from (by unfold opW;rw [if_pos h37]),List.append_nil] at hft
 exact ⟨rfl,(i+1,A2,c2),⟨by show i+1≤_;omega,bad_next hv (by unfold badK;rw [decide_eq_false ZO];rfl)⟩,by show 4-(i+1)<4-i;omega,by dsimp only;rw [hft];exact cv,by dsimp only;rw [hft];exact Lh⟩
 refine Zh (Zi (Zy J J (Zp J (Zn (Za (wC (fun h39=>?_) (fun h39=>?_)))))))
 refine Zh (Zh (Zi (Zz (n:=3) (m:=3) J J J (Zld ?_))))
 (refine ZC0 rfl ZK (fun w hS=>frame hS ZQ (fun B' hB hS'=>sig_Is hS' x.fC)) ?_;rintro ⟨⟩ -)
 refine Zno ?_
 refine Zn (Za (wC (fun h44=>?_) (fun h44=>?_)))
 refine Zh (Zi (Zp J (Zp J (Zn (Za (Zl (Zc (Zf (Zf (Zc (Zf (Zc (Zw ?_)))))))))))))
 refine ⟨rfl,_,(ResL.cons (ResR.tmp rfl) (ResL.cons (ResR.tmp rfl) ResL.nil)),?_⟩
 exact ⟨(),trivial,by unfold textLF;rw [if_neg (fun k=>k hic),if_neg (by rw [ho];simp),if_pos (any_T (show i<4 by omega) (by unfold badK;rw [decide_eq_true h39];simpa using h44))];rfl,Lh⟩
 have hc:isC x.fC=true:=by simpa using h44
 have hc2:=isC_iff.1 hc
 refine Zj (Za (Zi (Zo J (Zz (n:=3) (m:=3) J J J (Zld ?_)))))
 refine oAdd J J ZO ?_
 (refine ZC0 rfl ZK (fun w hS=>frame hS ZQ (fun B' hB hS'=>sig_Text hS' (1+x.fC))) ?_;rintro ⟨⟩ -)
 refine oBuildSlice1 J J J J J ZP J (fun b50=>?_)
 refine oApp1 (textF (1+x.fC)) J J J J ZP ZP J ZO J (fun g51 cp51=>?_)
 have hft:=wordsT_next x i
 rw [show opW x i=[textF (1+x.fC)] from (by unfold opW;rw [if_neg h37,if_pos h39])] at hft
 rw [show (wordsT x i).length+1=(wordsT x (i+1)).length by rw [hft,List.length_append];rfl,← hft]
 refine Zp J (Zn (Zd (Zd (Za ?_))))
 exact ⟨rfl,(i+1,some ⟨g51,0,none⟩,cp51),⟨by show i+1≤_;omega,bad_next hv (by unfold badK;rw [hc];simp)⟩,by show 4-(i+1)<4-i;omega,cv,Lh⟩
 refine Zi (Zo J (Zla ?_))
 refine Zo J ?_
 (refine ZC0 rfl ZK (fun w hS=>frame hS ZQ (fun B' hB hS'=>instr_Operand hS' x _ (kApiInstr_mk _ x) (i:Int))) ?_;rintro ⟨⟩ -)
 (refine ZC0 rfl ZK (fun w hS=>frameK hS ZQ (fun B' hB hK hS'=>line_Decimal hS' (Keeps.tab hK hT) (opdF x i) (opd_in hic i ZO))) ?_;rintro ⟨⟩ -)
 refine oBuildSlice1 J J J J J ZP J (fun b35=>?_)
 refine oApp1 (decS (opdF x i)) J J J J ZP ZP J ZO J (fun g36 cp36=>?_)
 have hft:=wordsT_next x i
 rw [show opW x i=[decS (opdF x i)] from (by unfold opW;rw [if_neg h37,if_neg h39])] at hft
 rw [show (wordsT x i).length+1=(wordsT x (i+1)).length by rw [hft,List.length_append];rfl,← hft]
 refine Zp J (Zn (Zd (Zd (Za ?_))))
 exact ⟨rfl,(i+1,some ⟨g36,0,none⟩,cp36),⟨by show i+1≤_;omega,bad_next hv (by unfold badK;rw [decide_eq_false h39];rfl)⟩,by show 4-(i+1)<4-i;omega,cv,Lh⟩
 have hi4:i=4:=by omega
 subst hi4
 have hjl:=joinT_le 20 _ (wordsT x 4) rfl (wordsT_size hic 4 (Nat.le_refl _))
 refine Zm (Zb (Zb (Ze (Za (Zh (Zi (Zo J (oRoom ZP (fun hn5 hc5=>?_)))))))))
 (refine ZD J (fun w B' hB hR hS'=>line_Join hS' A2 c2 (wordsT x 4) (row_Cs (W:=B.e) (e:=9) (n:=(wordsT x 4).length) (cp:=c2) (hR _ _ ZP)) hc5 (by unfold spB at hjl;have:=Nat.mul_le_mul_right 21 hlw;omega) ZO) ?_;rintro ⟨⟩ -)
 refine Zp J (Zp J (Zn (Za (Zl (Zw ?_)))))
 refine ⟨rfl,_,(ResL.cons (ResR.tmp rfl) (ResL.cons (ResR.tmp rfl) ResL.nil)),?_⟩
 exact ⟨(),trivial,by unfold textLF;rw [if_neg (fun k=>k hic),if_neg (by rw [ho];simp),if_neg (by rw [any4_F hv];simp)];rfl,Lh⟩
end Go.Proofs.YtpmdhkjbhjgoaaaGreatDoorR
namespace Go.Proofs.YtpmdhkjbhjgoaaaGreatDoorK
open Go.RowKit

def stepL (F:Fence) (n:Nat) (P:Program) (ops:Array Oper) (Q:Exit→Act→World→Prop) (K:Act→World→Prop):List Oper→Act→World→Prop
  | [],a,w=>K a w
  | o :: rest,a,w=>
    if Region.wanted o (yielded ops a.tmps) then o.wpIn F n P a w (stepL F n P ops Q K rest) Q
    else (∀ f,o.about P w a.eval=some f→F.fn f)∧stepL F n P ops Q K rest (a.put o.dst undef) w
def Me.step (c:Cx) (ops:Array Oper) (Q:Post) (K:Act→World→Prop):Me c where
  X:=stepL c.F 0 c.P ops (lift c Q) K
  ops:=ops
  calm o rest a w v hw hp hr hK:=by
    simp only [stepL,hw,if_true]
    exact ⟨fun f _=>c.fn f,by rw [semAt_plain' _ _ _ hp,hr];exact hK⟩
  skip o rest a w hw hK:=by
    simp only [stepL,hw]
    exact ⟨fun f _=>c.fn f,hK⟩
  want dst op ty pos af g rest a w hw h:=by
    simp only [stepL] at h ⊢
    rw [if_pos hw]
    rw [if_pos (show Region.wanted { dst:=dst,op:=op,type:=ty,pos:=pos,after:=af,guard:=none } (yielded ops a.tmps)=true from rfl)] at h
    exact h
  eff o rest a w v w' hw hp hr hK:=by
    simp only [stepL]
    rw [if_pos (show Region.wanted o (yielded ops a.tmps)=true from hw)]
    exact ⟨fun f _=>c.fn f,by rw [semAt_plain' _ _ _ hp,hr];exact hK⟩
  effs o rest a w w' hw hp hr hK:=by
    simp only [stepL]
    rw [if_pos (show Region.wanted o (yielded ops a.tmps)=true from hw)]
    exact ⟨fun f _=>c.fn f,by rw [semAt_plain' _ _ _ hp,hr];exact hK⟩
  enter o rest a w g args w1 hw hp hr hK:=by
    simp only [stepL]
    rw [if_pos (show Region.wanted o (yielded ops a.tmps)=true from hw)]
    refine ⟨fun f _=>c.fn f,?_⟩
    rw [semAt_plain' _ _ _ hp,hr]
    refine ⟨fun h=>absurd h (by rw [c.dp];simp),(c.call hK).mono ?_⟩
    rintro e w2 ⟨v,rfl,hx⟩
    exact hx
inductive AllN (c:Cx) (ops:Array Oper) (Q:Post) (f:Nat) (listed:Array Bool) (E:Env) (D:List Deferred) (H:List Res):List Nat→Prop
  | nil:AllN c ops Q f listed E D H []
  | cons {i:Nat}{o:Oper}{rs:List Nat}(ho:ops[i]?=some o) (h:O (Me.step c ops Q (wpAnyIn c.F 0 c.P .any ops (lift c Q) f (listed.setIfInBounds i true))).toMd [o] E D H) (k:AllN c ops Q f listed E D H rs):AllN c ops Q f listed E D H (i :: rs)
section
variable {c : Cx} {Q : Post} {ops : Array Oper} {E : Env} {D : List Deferred} {H : List Res} {f : Nat} {listed : Array Bool}
theorem AllN.get {rs:List Nat}(h:AllN c ops Q f listed E D H rs):∀ i ∈ rs,∀ a w,Ok c.N E D a→St c.B H w→wpOpIn c.F 0 c.P ops (lift c Q) i (wpAnyIn c.F 0 c.P .any ops (lift c Q) f (listed.setIfInBounds i true)) a w:=by
 induction h with
 | nil=>intro i hi;cases hi
 | @cons j o rs ho h k ih=>
  intro i hi a w ha hw
  rcases List.mem_cons.1 hi with rfl | hi
  · have:=h a w ha hw
    simp only [Me.step,stepL] at this
    unfold wpOpIn
    rw [ho]
    exact this
  · exact ih i hi a w ha hw
end
section
variable {c : Cx} {N : Md c} {M : Me c} {d : Nat} {ty t t' : TypeId} {pos : String} {af : Array Edge} {rest : List Oper} {E : Env} {D : List Deferred} {H H' : List Res} {x y : Operand}
theorem oSliceV {k:IntKind}{A:Option Addr}{n cp m s:Nat}{e':TypeId}(hx:E.op x=some (.slice A n cp)) (hy:E.op y=some (.int k (m:Int))) (hm:m≤n) (hnc:n≤cp) (ht:elemT c.P t=some (e',s))
 (h:O N rest ((d,.slice (if cp=m then A else A.map (·.add (m * s))) (n-m) (cp-m)) :: E) D H) (hN:Nat.blt d c.N=true:=by rfl):O N (⟨some d,.slice t x (some y) none none,ty,pos,af,none⟩ :: rest) E D H:=
 oC _ rfl hN (fun a w ha hw=>by
  obtain ⟨h1,inf,h2,h3⟩:=run_elemT ht
  simp [execOp,ha.op hx,ha.op hy,Instr.sliceAt,Instr.slice,run_underlying h1,Instr.sliceBounds,Instr.sliceBound,asIntOf,hm,sizeOf,typeInfo,h2,h3]) h
end
end Go.Proofs.YtpmdhkjbhjgoaaaGreatDoorK
namespace Go.Proofs.YtpmdhkjbhjgoaaaGreatDoorK
open Go.RowKit
def ZA:=@AllN.cons
def ZB:=@AllN.nil
end Go.Proofs.YtpmdhkjbhjgoaaaGreatDoorK
namespace Go.Proofs.YtpmdhkjbhjgoaaaGreatDoorK
open Go.RowKit
section
variable {c : Cx} {Q : Post} {E E' : Env} {D : List Deferred} {H : List Res} {P : Program} {ops : Array Oper} {a A : Act} {w w' w0 : World}
variable {ts : List Nat} {listed : Array Bool} {f : Nat}
def statT (ops:Array Oper) (ts:List Nat) (f:Nat):Bool:=
  plainB ops && Region.noSelect ops && ts.all (fun t=>Nat.blt t ops.size) && (List.range ops.size).all (fun i=>match ops[i]? with
    | some o => o.after.all (fun e => !(Region.binds .any e) || Nat.blt e.on i) && (ts.contains i || ((match o.guard with | none => true | some g => !(ts.contains g.1) && waitsP .any ops f i g.1) && (List.range ops.size).all (fun j => match ops[j]? with
        | some o'=>ts.contains j || ((Nat.beq i j || o'.dst != o.dst || o.dst.isNone) && (opTmps o).all (fun t=>o'.dst != some t || waitsP .any ops f i j))
        | none=>true)))
    | none=>true) && ts.all (fun t=>(List.range ops.size).all fun i=>ts.contains i || waitsP .any ops f t i)
theorem stat_opT (hB:statT ops ts f=true) {i:Nat}{o:Oper}(ho:ops[i]?=some o) (hit:i ∉ ts):(∀ g,o.guard=some g→g.1 ∉ ts∧waitsP .any ops f i g.1=true)∧(∀ j o',ops[j]?=some o'→j ∉ ts→j≠i→o.dst≠none→o'.dst≠o.dst)∧(∀ t ∈ opTmps o,∀ j o',ops[j]?=some o'→j ∉ ts→o'.dst=some t→waitsP .any ops f i j=true):=by
 simp only [statT,Bool.and_eq_true] at hB
 have hi:=(Array.getElem?_eq_some_iff.1 ho).1
 have h1:=List.all_eq_true.1 hB.1.2 i (List.mem_range.2 hi)
 rw [ho] at h1
 simp only [Bool.and_eq_true,Bool.or_eq_true] at h1
 rcases h1.2 with h2 | ⟨h2,h4⟩
 · exact absurd (by simpa using h2) hit
 · refine ⟨fun g hg=>?_,fun j o' ho' hjt hji hdn=>?_,fun t ht j o' ho' hjt hd=>?_⟩
   · rw [hg] at h2
     simp only [Bool.and_eq_true] at h2
     exact ⟨by simpa using h2.1,h2.2⟩
   · have hj:=(Array.getElem?_eq_some_iff.1 ho').1
     have h5:=List.all_eq_true.1 h4 j (List.mem_range.2 hj)
     rw [ho'] at h5
     simp only [Bool.or_eq_true,Bool.and_eq_true,Nat.beq_eq,bne_iff_ne,ne_eq] at h5
     rcases h5 with h5 | ⟨h5,_⟩
     · exact absurd (by simpa using h5) hjt
     · rcases h5 with (h5 | h5) | h5
       · exact absurd h5.symm hji
       · exact h5
       · exact absurd (by simpa using h5) hdn
   · have hj:=(Array.getElem?_eq_some_iff.1 ho').1
     have h5:=List.all_eq_true.1 h4 j (List.mem_range.2 hj)
     rw [ho'] at h5
     simp only [Bool.or_eq_true,Bool.and_eq_true] at h5
     rcases h5 with h5 | ⟨_,h5⟩
     · exact absurd (by simpa using h5) hjt
     · have h6:=List.all_eq_true.1 h5 t ht
       simp only [Bool.or_eq_true,bne_iff_ne,ne_eq] at h6
       rcases h6 with h6 | h6
       · exact absurd hd h6
       · exact h6
theorem inv_execT (hB:statT ops ts f=true) {A a:Act}(inv:Inv ops ts A listed a) {i:Nat}{o:Oper}(ho:ops[i]?=some o) (hit:i ∉ ts) (hr:i ∈ Region.ready .any ops listed):execOp a.eval o=execOp A.eval o:=by
 obtain ⟨_,_,h4⟩:=stat_opT hB ho hit
 have hsel:Region.noSelect ops=true:=by simp only [statT,Bool.and_eq_true] at hB;exact hB.1.1.1.2
 refine execOp_congr o (fun cs b=>Region.noSelect_spec hsel i o cs b ho) (fun x hx=>?_)
 cases x with
 | tmp t=>
  show a.tmps.getD t undef=A.tmps.getD t undef
  have ht:t ∈ opTmps o:=List.mem_filterMap.2 ⟨.tmp t,by simpa using hx,rfl⟩
  by_cases h:∃ j o',ops[j]?=some o'∧j ∉ ts∧o'.dst=some t
  · obtain ⟨j,o',ho',hjt,hd⟩:=h
    exact inv.v1 j o' t ho' hjt hd (waitsP_ready inv.hi.closed hr (h4 t ht j o' ho' hjt hd))
  · exact inv.v2 t (fun j o' ho' hjt hd=>h ⟨j,o',ho',hjt,hd⟩)
 | const v=>rfl
 | global g=>rfl
 | func g=>rfl
theorem inv_wantedT (hB:statT ops ts f=true) {A a:Act}(inv:Inv ops ts A listed a) {i:Nat}{o:Oper}(ho:ops[i]?=some o) (hit:i ∉ ts) (hr:i ∈ Region.ready .any ops listed):Region.wanted o (yielded ops a.tmps)=Region.wanted o (yielded ops A.tmps):=by
 obtain ⟨h1,_,_⟩:=stat_opT hB ho hit
 unfold Region.wanted
 cases hg:o.guard with
 | none=>rfl
 | some g=>
  obtain ⟨h2,h3⟩:=h1 g hg
  simp only
  congr 1
  unfold yielded
  cases hog:ops[g.1]? with
  | none=>rfl
  | some og=>
   simp only [Option.bind_some]
   cases hd:og.dst with
   | none=>rfl
   | some d=>
    have:=inv.v1 g.1 og d hog h2 hd (waitsP_ready inv.hi.closed hr h3)
    simp only [Option.bind_some]
    rw [get_eq inv.size d this]
theorem inv_turnT (hB:statT ops ts f=true) {A a:Act}(inv:Inv ops ts A listed a) {i d:Nat}{o:Oper}{v:Value}(ho:ops[i]?=some o) (hit:i ∉ ts) (hr:i ∈ Region.ready .any ops listed) (hd:o.dst=some d) (hdl:d<A.tmps.size):Inv ops ts (A.put o.dst v) (listed.setIfInBounds i true) (a.put o.dst v):=by
 obtain ⟨_,h3,_⟩:=stat_opT hB ho hit
 rw [hd]
 refine ⟨inv.hi.set hr hit,by simp [Act.put,inv.size],inv.dfr,fun j o' d' ho' hjt hd' hl=>?_,fun t ht=>?_⟩
 · by_cases hji:j=i
   · subst hji
     have:o'=o:=Option.some.inj (ho'.symm.trans ho)
     subst this
     have:d'=d:=Option.some.inj (hd'.symm.trans hd)
     subst this
     simp [Act.put,inv.size,hdl]
   · rw [getD_set_ne false (Ne.symm hji)] at hl
     have hne:d≠d':=by rintro rfl;exact h3 j o' ho' hjt hji (by rw [hd];simp) (hd'.trans hd.symm)
     have:=inv.v1 j o' d' ho' hjt hd' hl
     simp only [Act.put,Array.getD_eq_getD_getElem?,Array.getElem?_setIfInBounds,if_neg hne] at this ⊢
     exact this
 · have hne:d≠t:=by rintro rfl;exact ht i o ho hit hd
   have:=inv.v2 t ht
   simp only [Act.put,Array.getD_eq_getD_getElem?,Array.getElem?_setIfInBounds,if_neg hne] at this ⊢
   exact this
theorem inv_putT (hB:statT ops ts f=true) {A a:Act}(inv:Inv ops ts A listed a) {i d:Nat}{o:Oper}(ho:ops[i]?=some o) (hit:i ∉ ts) (hr:i ∈ Region.ready .any ops listed) (hd:o.dst=some d) (hdl:d<A.tmps.size):Inv ops ts A (listed.setIfInBounds i true) (a.put o.dst (A.tmps.getD d undef)):=by
 have h:=inv_turnT (v:=A.tmps.getD d undef) hB inv ho hit hr hd hdl
 have e:A.put o.dst (A.tmps.getD d undef)=A:=by
  rw [hd]
  obtain ⟨At,Ad⟩:=A
  show Act.mk _ _=_
  congr 1
  exact put_same hdl
 rw [e] at h
 exact h
theorem step_valT (hB:statT ops ts f=true) {A a:Act}(inv:Inv ops ts A listed a) {Q':Exit→Act→World→Prop}{i:Nat}(hit:i ∉ ts) (hr:i ∈ Region.ready .any ops listed) {w:World}(hdl:∀ (i:Nat) (o:Oper) (d:Nat),ops[i]?=some o→o.dst=some d→d<A.tmps.size) (h:lkG c.P ops A w i) {K:Act→World→Prop}
 (hK:∀ a',Inv ops ts A (listed.setIfInBounds i true) a'→K a' w):wpOpIn c.F 0 c.P ops Q' i K a w:=by
 obtain ⟨o,d,ho,hd,hrun⟩:=h
 have hpl:plainB ops=true:=by simp only [statT,Bool.and_eq_true] at hB;exact hB.1.1.1.1
 unfold wpOpIn
 simp only [ho]
 have hp:=inv_putT hB inv ho hit hr hd (hdl i o d ho hd)
 rw [inv_wantedT hB inv ho hit hr]
 by_cases hwd:Region.wanted o (yielded ops A.tmps)=true
 · rw [if_pos hwd] at hrun ⊢
   refine ⟨fun g _=>c.fn g,?_⟩
   rw [semAt_plain' _ _ _ (plain_at hpl ho),inv_execT hB inv ho hit hr,hrun]
   exact hK _ hp
 · rw [if_neg hwd] at hrun ⊢
   refine ⟨fun g _=>c.fn g,?_⟩
   rw [hrun] at hp
   exact hK _ hp
theorem step_turnT (hB:statT ops ts f=true) {A a:Act}(inv:Inv ops ts A listed a) {Q':Exit→Act→World→Prop}{i:Nat}{o:Oper}(ho:ops[i]?=some o) (hit:i ∉ ts) (hr:i ∈ Region.ready .any ops listed) {w:World}{K K':Act→World→Prop}(h:rnC c.P ops K [o] A w) (hK:∀ v w',K (A.put o.dst v) w'→K' (a.put o.dst v) w'):wpOpIn c.F 0 c.P ops Q' i K' a w:=by
 have hpl:plainB ops=true:=by simp only [statT,Bool.and_eq_true] at hB;exact hB.1.1.1.1
 simp only [rnC] at h
 unfold wpOpIn
 simp only [ho]
 rw [inv_wantedT hB inv ho hit hr]
 by_cases hwd:Region.wanted o (yielded ops A.tmps)=true
 · rw [if_pos hwd] at h ⊢
   refine ⟨fun g _=>c.fn g,?_⟩
   rw [semAt_plain' _ _ _ (plain_at hpl ho),inv_execT hB inv ho hit hr]
   rcases h with ⟨v,w',h1,h2⟩ | ⟨w',h1,h2⟩ | ⟨g,args,w1,h1,h2⟩
   · rw [h1];exact hK _ _ h2
   · rw [h1];exact hK _ _ h2
   · rw [h1]
     refine ⟨fun h=>(by rw [c.dp] at h;cases h),c.call (h2.mono ?_)⟩
     rintro e w2 ⟨v,rfl,h3⟩
     exact hK _ _ h3
 · rw [if_neg hwd] at h ⊢
   exact ⟨fun g _=>c.fn g,hK _ _ h⟩
theorem inv_turnN {A a:Act}(inv:Inv ops ts A listed a) {i:Nat}{o:Oper}{v:Value}(ho:ops[i]?=some o) (hit:i ∉ ts) (hr:i ∈ Region.ready .any ops listed) (hd:o.dst=none):Inv ops ts (A.put o.dst v) (listed.setIfInBounds i true) (a.put o.dst v):=by
 rw [hd]
 refine ⟨inv.hi.set hr hit,inv.size,inv.dfr,fun j o' d' ho' hjt hd' hl=>?_,fun t ht=>inv.v2 t ht⟩
 by_cases hji:j=i
 · subst hji
   have:o'=o:=Option.some.inj (ho'.symm.trans ho)
   subst this
   rw [hd] at hd';cases hd'
 · rw [getD_set_ne false (Ne.symm hji)] at hl
   exact inv.v1 j o' d' ho' hjt hd' hl
theorem inv_turnA (hB:statT ops ts f=true) {A a:Act}(inv:Inv ops ts A listed a) {i:Nat}{o:Oper}{v:Value}(ho:ops[i]?=some o) (hit:i ∉ ts) (hr:i ∈ Region.ready .any ops listed) (hdl:∀ d,o.dst=some d→d<A.tmps.size):Inv ops ts (A.put o.dst v) (listed.setIfInBounds i true) (a.put o.dst v):=by
 cases hd:o.dst with
 | none=>have:=inv_turnN (v:=v) inv ho hit hr hd;rw [hd] at this;exact this
 | some d=>have:=inv_turnT (v:=v) hB inv ho hit hr hd (hdl d hd);rw [hd] at this;exact this
inductive TreeG where
  | tail
  | stop
  | alt (e:Nat) (res nw:List Nat) (sub more:TreeG)
def TreeG.alts:TreeG→List Nat
  | .alt e _ _ _ more=>e :: more.alts
  | _=>[]
def segT (c:Cx) (ops:Array Oper) (Q:Post) (tl:List Oper):TreeG→Act→World→Prop
  | .tail,a,w=>wpListIn c.F 0 c.P ops (lift c Q) tl a w
  | .stop,_,_=>True
  | .alt e res nw sub more,a,w=>(∃ o,ops[e]?=some o∧rnC c.P ops (fun a' w'=>(∀ i ∈ res,lkG c.P ops a' w' i)∧∃ l,nw.mapM (fun k=>ops[k]?)=some l∧lkX c.P ops w' (fun a''=>segT c ops Q tl sub a'' w') l a') [o] a w)∧segT c ops Q tl more a w
def altB (ops:Array Oper) (N:Nat) (ts lks:List Nat) (f:Nat) (es:List Nat) (e:Nat) (res nw:List Nat):Bool:=
  !(ts.contains e) && !(lks.contains e) && !(es.contains e) && Nat.blt e ops.size && orderG ops N nw && (res.all fun i=>lks.contains i && nw.all fun j=>keepG ops i j) && (nw.all fun i=>!(ts.contains i) && lks.contains i && waitsP .any ops f i e)
def covB (ops:Array Oper) (ts:List Nat) (f:Nat) (es ls al:List Nat):Bool:=(List.range ops.size).all fun i=>ts.contains i || ls.contains i || al.contains i || es.any (fun e=>Nat.beq e i || waitsP .any ops f e i) || al.any (fun e=>waitsP .any ops f i e)
def phT (ops:Array Oper) (N:Nat) (ts lks:List Nat) (f:Nat):Bool→List Nat→List Nat→TreeG→Bool
  | true,es,ls,.tail=>covB ops ts f es ls []
  | false,_,_,.tail=>false
  | true,_,_,.stop=>false
  | false,_,_,.stop=>true
  | b,es,ls,.alt e res nw sub more=>(!b || covB ops ts f es ls (e :: more.alts)) && altB ops N ts lks f es e res nw && phT ops N ts lks f true (e :: es) (res++nw) sub && phT ops N ts lks f false es ls more
theorem alt_of {N:Nat}{lks es ls:List Nat}{tl:List Oper}{A:Act}{w:World}{i:Nat} : ∀ {T:TreeG}{b:Bool},i ∈ T.alts→phT ops N ts lks f b es ls T=true→segT c ops Q tl T A w→∃ res nw sub o,altB ops N ts lks f es i res nw=true∧phT ops N ts lks f true (i :: es) (res++nw) sub=true∧ops[i]?=some o∧rnC c.P ops (fun a' w'=>(∀ i ∈ res,lkG c.P ops a' w' i)∧∃ l,nw.mapM (fun k=>ops[k]?)=some l∧lkX c.P ops w' (fun a''=>segT c ops Q tl sub a'' w') l a') [o] A w
 | .tail,_,hi,_,_=>by simp [TreeG.alts] at hi
 | .stop,_,hi,_,_=>by simp [TreeG.alts] at hi
 | .alt e res nw sub more,b,hi,hp,hs=>by
  simp only [phT,Bool.and_eq_true] at hp
  obtain ⟨⟨o,ho,hr⟩,hm⟩:=hs
  rcases List.mem_cons.1 hi with rfl | hi
  · exact ⟨res,nw,sub,o,hp.1.1.2,hp.1.2,ho,hr⟩
  · exact alt_of hi hp.2 hm
theorem alt_B {N:Nat}{lks es ls:List Nat}{i:Nat} : ∀ {T:TreeG}{b:Bool},i ∈ T.alts→phT ops N ts lks f b es ls T=true→∃ res nw,altB ops N ts lks f es i res nw=true
 | .tail,_,hi,_=>by simp [TreeG.alts] at hi
 | .stop,_,hi,_=>by simp [TreeG.alts] at hi
 | .alt e res nw sub more,b,hi,hp=>by
  simp only [phT,Bool.and_eq_true] at hp
  rcases List.mem_cons.1 hi with rfl | hi
  · exact ⟨res,nw,hp.1.1.2⟩
  · exact alt_B hi hp.2
theorem phT_cov {N:Nat}{lks es ls:List Nat}{T:TreeG}(h:phT ops N ts lks f true es ls T=true):covB ops ts f es ls T.alts=true∧(T=.tail∨T.alts≠[]):=by
 cases T with
 | tail=>exact ⟨h,.inl rfl⟩
 | stop=>cases h
 | alt e res nw sub more=>
  simp only [phT,Bool.and_eq_true,Bool.not_true,Bool.false_or] at h
  exact ⟨h.1.1.1,.inr (by simp [TreeG.alts])⟩
theorem phasesT (hB:statT ops ts f=true) {tl:List Oper}(htl:ts.mapM (fun t=>ops[t]?)=some tl) (hseq:seqT .any ops ts (doneL ops ts)=true) {M:Nat}{lks:List Nat}(hlkt:∀ i ∈ lks,i ∉ ts) (hdl:∀ (i:Nat) (o:Oper) (d:Nat),ops[i]?=some o→o.dst=some d→d<M) :
 ∀ (n:Nat) (T:TreeG) (ls es:List Nat) (listed:Array Bool) (A a:Act) (w:World),cnt ops ts listed=n→A.tmps.size=M→Inv ops ts A listed a→(∀ i ∈ ls,i ∈ lks∧lkG c.P ops A w i)→segT c ops Q tl T A w→phT ops M ts lks f true es ls T=true→
  (∀ e ∈ es,listed.getD e false=true)→(∀ i,listed.getD i false=true→i ∈ es∨i ∈ lks)→wpAnyIn c.F 0 c.P .any ops (lift c Q) (n+ts.length) listed a w:=by
 have hB':=hB
 simp only [statT,Bool.and_eq_true] at hB'
 have unl:∀ {T:TreeG}{es ls:List Nat}{listed:Array Bool}{i:Nat},phT ops M ts lks f true es ls T=true→(∀ i,listed.getD i false=true→i ∈ es∨i ∈ lks)→i ∈ T.alts→i ∉ ts∧i<ops.size∧listed.getD i false=false:=by
  intro T es ls listed i hph hli hi
  obtain ⟨res,nw,hb⟩:=alt_B hi hph
  simp only [altB,Bool.and_eq_true,Nat.blt_eq] at hb
  refine ⟨by simpa using hb.1.1.1.1.1.1,hb.1.1.1.2,?_⟩
  cases hl:listed.getD i false with
  | false=>rfl
  | true=>
   have h1:i ∉ lks:=by simpa using hb.1.1.1.1.1.2
   have h2:i ∉ es:=by simpa using hb.1.1.1.1.2
   exact ((hli i hl).elim h2 h1).elim
 intro n
 induction n with
 | zero=>
  intro T ls es listed A a w hc hM inv hl hcan hph hes hli
  have hlist:∀ i,i<ops.size→i ∉ ts→listed.getD i true=true:=fun i hi hit=>by
   cases hv:listed.getD i true with
   | true=>rfl
   | false=>
    have hm:i ∈ (List.range ops.size).filter fun i=>!(ts.contains i) && !(listed.getD i true):=List.mem_filter.2 ⟨List.mem_range.2 hi,by simp [hit,hv]⟩
    unfold cnt at hc
    rw [List.eq_nil_of_length_eq_zero hc] at hm
    cases hm
  rcases (phT_cov hph).2 with rfl | hne
  · have hcan:wpListIn c.F 0 c.P ops (lift c Q) tl A w:=hcan
    have hL:listed=doneL ops ts:=by
     apply Array.ext
     · rw [inv.hi.size];simp [doneL]
     · intro i h1 h2
       have hi:i<ops.size:=by rw [← inv.hi.size];exact h1
       have e1:listed[i]=listed.getD i true:=by simp [h1]
       rw [e1]
       simp only [doneL,List.getElem_toArray,List.getElem_map,List.getElem_range]
       by_cases hit:i ∈ ts
       · rw [inv.hi.tail i hit];simp [hit]
       · rw [hlist i hi hit];simp [hit]
    have hA:a=A:=by
     obtain ⟨at_,ad⟩:=a
     obtain ⟨At,Ad⟩:=A
     have h1:=inv.dfr
     simp only at h1
     subst h1
     congr 1
     apply Array.ext
     · exact inv.size
     · intro t h1 h2
       have key:at_.getD t undef=At.getD t undef:=by
        by_cases h:∃ j o',ops[j]?=some o'∧j ∉ ts∧o'.dst=some t
        · obtain ⟨j,o',ho',hjt,hd⟩:=h
          exact inv.v1 j o' t ho' hjt hd (by
           have hj:=(Array.getElem?_eq_some_iff.1 ho').1
           have:=hlist j hj hjt
           simp [inv.hi.size,hj] at this ⊢
           exact this)
        · exact inv.v2 t (fun j o' ho' hjt hd=>h ⟨j,o',ho',hjt,hd⟩)
       simpa [h1,h2] using key
    subst hA
    rw [Nat.zero_add]
    exact wpAnyIn_of_seqT ts tl listed a w htl (by rw [hL];exact hseq) hcan
  · obtain ⟨e,he⟩:=List.exists_mem_of_ne_nil _ hne
    obtain ⟨h1,h2,h3⟩:=unl hph hli he
    have h4:=hlist e h2 h1
    have h5:e<listed.size:=by rw [inv.hi.size];exact h2
    simp [h5] at h3 h4
    rw [h3] at h4;cases h4
 | succ n ih=>
  intro T ls es listed A a w hc hM inv hl hcan hph hes hli
  have hdl':∀ (i:Nat) (o:Oper) (d:Nat),ops[i]?=some o→o.dst=some d→d<A.tmps.size:=fun i o d h1 h2=>hM ▸ hdl i o d h1 h2
  rw [show n+1+ts.length=(n+ts.length)+1 by omega]
  have hne:Region.ready .any ops listed≠[]:=by
   have hex:∃ i,i<ops.size∧listed.getD i true=false:=by
    apply Classical.byContradiction
    intro h
    have:(List.range ops.size).filter (fun i=>!(ts.contains i) && !(listed.getD i true))=[]:=List.filter_eq_nil_iff.2 (fun i hi=>by
     have:=List.mem_range.1 hi
     cases hv:listed.getD i true with
     | true=>simp
     | false=>exact absurd ⟨i,this,hv⟩ h)
    unfold cnt at hc
    rw [this] at hc
    cases hc
   have hmin:∀ n i,i<n→i<ops.size→listed.getD i true=false→Region.ready .any ops listed≠[]:=by
    intro n
    induction n with
    | zero=>intro i hi;omega
    | succ n ihn=>
     intro i hin hi hun
     by_cases hlow:∃ k,k<i∧listed.getD k true=false
     · obtain ⟨k,hk,hku⟩:=hlow
       exact ihn k (by omega) (by omega) hku
     · intro hr
       have:i ∈ Region.ready .any ops listed:=mem_ready.2 ⟨hun,ops[i],Array.getElem?_eq_getElem hi,fun e he hb=>by
        have h1:=List.all_eq_true.1 hB'.1.2 i (List.mem_range.2 hi)
        rw [Array.getElem?_eq_getElem hi] at h1
        simp only [Bool.and_eq_true] at h1
        have h2:=Array.all_eq_true'.1 h1.1 e he
        rw [hb] at h2
        have h3:e.on<i:=by simpa [Nat.blt_eq] using h2
        have h4:listed.getD e.on true≠false:=fun h=>hlow ⟨e.on,h3,h⟩
        have h5:e.on<listed.size:=by rw [inv.hi.size];omega
        simp [h5] at h4 ⊢
        exact h4⟩
       rw [hr] at this;cases this
   obtain ⟨i,hi,hun⟩:=hex
   exact hmin (i+1) i (by omega) hi hun
  refine ⟨fun h=>absurd h hne,fun i hir=>?_⟩
  obtain ⟨hun,oi,hoi,_⟩:=mem_ready.1 hir
  have hi:=(Array.getElem?_eq_some_iff.1 hoi).1
  have hit:i ∉ ts:=fun h=>by
   have h1:=List.all_eq_true.1 hB'.2 i h
   have hz:cnt ops ts listed=0:=by
    unfold cnt
    rw [List.length_eq_zero_iff,List.filter_eq_nil_iff]
    intro k hk
    have h2:=List.all_eq_true.1 h1 k hk
    rw [Bool.or_eq_true] at h2
    rcases h2 with h2 | h2
    · simp only [h2];simp
    · have h3:=waitsP_ready inv.hi.closed hir h2
      have:listed.getD k true=true:=by
       have hk':=List.mem_range.1 hk
       simp [inv.hi.size,hk'] at h3 ⊢;exact h3
      rw [this];simp
   omega
  have hc':cnt ops ts (listed.setIfInBounds i true)=n:=by have:=cnt_set hi inv.hi.size hit hun;omega
  have hes':∀ es':List Nat,(∀ e ∈ es',listed.getD e false=true)→∀ e ∈ es',(listed.setIfInBounds i true).getD e false=true:=fun es' h e he=>getD_set_true (h e he)
  have nolist:¬ listed.getD i false=true:=fun h=>by rw [getD_both hun] at h;cases h
  have byes:es.any (fun e'=>Nat.beq e' i || waitsP .any ops f e' i)=true→False:=fun h=>by
   obtain ⟨e',he',h⟩:=List.any_eq_true.1 h
   simp only [Bool.or_eq_true,Nat.beq_eq] at h
   rcases h with rfl | h
   · exact nolist (hes _ he')
   · exact nolist (waitsP_listed inv.hi.closed f e' i (hes _ he') h)
  have hli':∀ es':List Nat,(∀ e ∈ es,e ∈ es')→(i ∈ es'∨i ∈ lks)→∀ k,(listed.setIfInBounds i true).getD k false=true→k ∈ es'∨k ∈ lks:=fun es' h0 h1 k hk=>by
   by_cases hki:k=i
   · subst hki;exact h1
   · rw [getD_set_ne false (Ne.symm hki)] at hk
     exact (hli k hk).imp (h0 k) id
  have h1:=List.all_eq_true.1 (phT_cov hph).1 i (List.mem_range.2 hi)
  simp only [Bool.or_eq_true] at h1
  rcases h1 with (((h1 | h1) | h1) | h1) | h1
  · exact absurd (by simpa using h1) hit
  · have hil:i ∈ ls:=by simpa using h1
    exact step_valT hB inv hit hir hdl' (hl i hil).2 (fun a' inv'=>ih T ls es _ A a' w hc' hM inv' hl hcan hph (hes' es hes) (hli' es (fun _ h=>h) (.inr (hl i hil).1)))
  · obtain ⟨res,nw,sub,o,hab,hps,ho,hrn⟩:=alt_of (by simpa using h1) hph hcan
    have hsel:Region.noSelect ops=true:=hB'.1.1.1.2
    simp only [altB,Bool.and_eq_true] at hab
    obtain ⟨⟨⟨-,hn1⟩,hn2⟩,hn3⟩:=hab
    refine step_turnT hB inv ho hit hir hrn (fun v w' hk=>?_)
    obtain ⟨hre,l,hml,hlk⟩:=hk
    have hM':(A.put o.dst v).tmps.size=M:=by cases hd:o.dst <;> simpa [Act.put] using hM
    obtain ⟨A2,hA1,hA2,hA3,hA4,hA5⟩:=lk_canG (c:=c) hsel nw l res (A.put o.dst v) hml hn1 hM' hre (fun i hi j hj=>by
     have h2:=List.all_eq_true.1 hn2 i hi
     rw [Bool.and_eq_true] at h2
     exact List.all_eq_true.1 h2.2 j hj) hlk
    have inv1:=inv_turnA (v:=v) hB inv ho hit hir (fun d hd=>hdl' i o d ho hd)
    have hnw:∀ j ∈ nw,j ∉ ts∧j ∈ lks∧waitsP .any ops f j i=true:=fun j hj=>by
     have h2:=List.all_eq_true.1 hn3 j hj
     simp only [Bool.and_eq_true] at h2
     exact ⟨by simpa using h2.1.1,by simpa using h2.1.2,h2.2⟩
    have hnl:∀ j ∈ nw,j ∉ ts∧(listed.setIfInBounds i true).getD j false=true→False:=fun j hj hl=>by
     have h1:=hnw j hj
     by_cases hji:j=i
     · subst hji
       have:=waitsP_ready inv.hi.closed hir h1.2.2
       exact nolist this
     · have h2:listed.getD j false=true:=by rw [← getD_set_ne false (Ne.symm hji)];exact hl.2
       exact nolist (waitsP_listed inv.hi.closed f j i h2 h1.2.2)
    have inv2:Inv ops ts A2 (listed.setIfInBounds i true) (a.put o.dst v):=by
     refine ⟨inv1.hi,by rw [inv1.size,hA1,hM'],by rw [inv1.dfr,hA2],fun j o' d' ho' hjt hd' hl=>?_,fun t ht=>?_⟩
     · rw [inv1.v1 j o' d' ho' hjt hd' hl]
       refine (hA3 d' (fun k hk ok hok hdk=>?_)).symm
       have hkt:k ∉ ts:=(hnw k hk).1
       by_cases hkj:k=j
       · subst hkj;exact hnl k hk ⟨hjt,hl⟩
       · exact (stat_opT hB ho' hjt).2.1 k ok hok hkt hkj (by rw [hd'];simp) (hdk.trans hd'.symm)
     · rw [inv1.v2 t ht]
       refine (hA3 t (fun k hk ok hok hdk=>?_)).symm
       exact ht k ok hok (hnw k hk).1 hdk
    refine ih sub (res++nw) (i :: es) _ A2 _ w' hc' hA1 inv2 (fun k hk=>⟨?_,hA4 k hk⟩) hA5 hps (fun e he=>?_) (hli' _ (fun _ h=>List.mem_cons_of_mem _ h) (.inl List.mem_cons_self))
    · rcases List.mem_append.1 hk with hk | hk
      · have h2:=List.all_eq_true.1 hn2 k hk
        rw [Bool.and_eq_true] at h2
        simpa using h2.1
      · exact (hnw k hk).2.1
    · rcases List.mem_cons.1 he with rfl | he
      · simp [inv.hi.size,hi]
      · exact getD_set_true (hes e he)
  · exact (byes h1).elim
  · obtain ⟨e,he,hw⟩:=List.any_eq_true.1 h1
    have h2:=waitsP_ready inv.hi.closed hir hw
    have h3:=(unl hph hli he).2.2
    rw [h3] at h2;cases h2
def drawR (ops:Array Oper) (N:Nat) (ks lks:List Nat) (T:TreeG) (ts:List Nat) (f:Nat):Bool:=
  statT ops ts f && orderG ops N ks && phT ops N ts lks f true [] ks T && seqT .any ops ts (doneL ops ts) && ops.all (fun o=>o.dst.all fun d=>Nat.blt d N) &&
    ks.all (fun k=>lks.contains k) && lks.all (fun k=>!(ts.contains k)) && Nat.beq (cnt ops ts (Array.replicate ops.size false)+ts.length) ops.size
theorem wDrawR (hm:c.P.follows .mixedOrders=true) {id:Nat}{l hd tl:List Oper}(ks lks:List Nat) (T:TreeG) (ts:List Nat) (f:Nat) (hB:drawR l.toArray c.N ks lks T ts f=true) (hk:ks.mapM (fun k=>l[k]?)=some hd) (htl:ts.mapM (fun k=>l[k]?)=some tl)
 (h:∀ w0,O (Md.lk c l.toArray w0 (fun a=>segT c l.toArray Q tl T a w0)) hd E D H):W c (.region id l.toArray true) Q E D H:=by
 intro a w ha hw
 refine wpIn_region_any hm ?_
 simp only [drawR,Bool.and_eq_true,decide_eq_true_eq,Nat.beq_eq] at hB
 obtain ⟨⟨⟨⟨⟨⟨⟨hst,hor⟩,hph⟩,hseq⟩,hN⟩,hkl⟩,hlt⟩,hcnt⟩:=hB
 have hst':=hst
 simp only [statT,Bool.and_eq_true] at hst'
 have hsel:Region.noSelect l.toArray=true:=hst'.1.1.1.2
 have htr:=hst'.1.1.2
 have hlt:∀ k ∈ lks,k ∉ ts:=fun k hk=>by simpa using List.all_eq_true.1 hlt k hk
 have hkl:∀ k ∈ ks,k ∈ lks:=fun k hk=>by simpa using List.all_eq_true.1 hkl k hk
 have hks:ks.mapM (fun k=>l.toArray[k]?)=some hd:=by simpa using hk
 have htl':ts.mapM (fun k=>l.toArray[k]?)=some tl:=by simpa using htl
 obtain ⟨A,hA1,hA2,hA3,hA4,hA5⟩:=lk_canG (c:=c) hsel ks hd [] a hks hor ha.size (by simp) (by simp) (h w.drew a w.drew ha hw.drew rfl)
 rw [List.nil_append] at hA4
 have hdl:∀ (i:Nat) (o:Oper) (d:Nat),l.toArray[i]?=some o→o.dst=some d→d<c.N:=fun i o d ho hd=>by
  obtain ⟨hi,he⟩:=Array.getElem?_eq_some_iff.1 ho
  have h1:=Array.all_eq_true.1 hN i hi
  rw [he,hd] at h1
  simpa [Nat.blt_eq] using h1
 have inv:Inv l.toArray ts A (Array.replicate l.toArray.size false) a:=by
  refine ⟨⟨by simp,fun j oj _ hl=>(by rw [getD_replicate_false] at hl;cases hl),fun t ht=>getD_in (by have:=List.all_eq_true.1 htr t ht;simpa [Nat.blt_eq] using this) (getD_replicate_false _ _)⟩,by rw [hA1,ha.size],hA2.symm,fun i o d ho hit hd hl=>(by rw [getD_replicate_false] at hl;cases hl),fun t ht=>(hA3 t (fun j hj o ho hd=>?_)).symm⟩
  exact ht j o ho (hlt j (hkl j hj)) hd
 have hgo:=phasesT (c:=c) (Q:=Q) hst htl' hseq hlt hdl _ T ks [] (Array.replicate l.toArray.size false) A a w.drew rfl hA1 inv (fun i hi=>⟨hkl i hi,hA4 i hi⟩) hA5 hph (by simp) (fun i hl=>(by rw [getD_replicate_false] at hl;cases hl))
 rw [hcnt] at hgo
 exact hgo
theorem oAltT {tl:List Oper}{e:Nat}{res nw:List Nat}{sub more:TreeG}{w0:World}{o:Oper}(he:ops[e]?=some o) (h:O (Me.rnC c ops (fun a' w'=>(∀ i ∈ res,lkG c.P ops a' w' i)∧∃ l,nw.mapM (fun k=>ops[k]?)=some l∧lkX c.P ops w' (fun a''=>segT c ops Q tl sub a'' w') l a')).toMd [o] E D H)
 (k:O (Md.lk c ops w0 (fun a=>segT c ops Q tl more a w0)) [] E D H):O (Md.lk c ops w0 (fun a=>segT c ops Q tl (.alt e res nw sub more) a w0)) [] E D H:=by
 rintro a w ha hw rfl
 exact ⟨⟨o,he,h a w ha hw⟩,k a w ha hw rfl⟩
theorem oStopT {tl:List Oper}{w0:World} : O (Md.lk c ops w0 (fun a=>segT c ops Q tl .stop a w0)) [] E D H:=fun _ _ _ _ _=>trivial
theorem oAgainT {tl:List Oper}{res nw:List Nat}{sub:TreeG}{l:List Oper}(hre:AgainG c ops E D H res) (hl:nw.mapM (fun k=>ops[k]?)=some l) (h:∀ w0,O (Md.lk c ops w0 (fun a''=>segT c ops Q tl sub a'' w0)) l E D H):O (Me.rnC c ops (fun a' w'=>(∀ i ∈ res,lkG c.P ops a' w' i)∧∃ l,nw.mapM (fun k=>ops[k]?)=some l∧lkX c.P ops w' (fun a''=>segT c ops Q tl sub a'' w') l a')).toMd [] E D H:=
 fun a w ha hw=>⟨hre a w ha hw,l,hl,h w a w ha hw rfl⟩
theorem oTailT {tl:List Oper}{w0:World}(h:O (Me.list c ops Q).toMd tl E D H):O (Md.lk c ops w0 (fun a=>segT c ops Q tl .tail a w0)) [] E D H:=by
 rintro a w ha hw rfl
 exact h a w ha hw
end
end Go.Proofs.YtpmdhkjbhjgoaaaGreatDoorK
namespace Go.Proofs.YtpmdhkjbhjgoaaaGreatDoorR
set_option maxRecDepth 100000
set_option maxHeartbeats 4000000
open Go.RowKit Go.Proofs.YtpmdhkjbhjgoaaaGreatDoorK Go.Proofs.YtpmdhkjbhjgoaaaGreatDoorT Go.Proofs.YtpmdhkjbhjgoaaaGreatDoorL Go.Proofs.YtpmdhkjbhjgoaaaGreatDoorV

def parR (sh:ByteArray):Nat→ApiInstr→List ByteArray→Option (ApiInstr×List ByteArray)
  | 0,x,ws=>some (x,ws)
  | n+1,x,ws=>if byteAt sh (4-(n+1))=45 then parR sh n x ws else match ws with
    | []=>none
    | u :: r=>if (operF (byteAt sh (4-(n+1))) u).2 then parR sh n (withF x (4-(n+1)) (operF (byteAt sh (4-(n+1))) u).1) r else none
theorem parR_dash {sh:ByteArray}{i:Nat}{x:ApiInstr}{ws:List ByteArray}(hi:i<4) (h:byteAt sh i=45):parR sh (4-i) x ws=parR sh (4-(i+1)) x ws:=by
 rw [show 4-i=(4-(i+1))+1 by omega]
 show (if byteAt sh (4-((4-(i+1))+1))=45 then _ else _)=_
 rw [show 4-((4-(i+1))+1)=i by omega,if_pos h]
theorem parR_none {sh:ByteArray}{i:Nat}{x:ApiInstr}(hi:i<4) (h:¬ byteAt sh i=45):parR sh (4-i) x []=none:=by
 rw [show 4-i=(4-(i+1))+1 by omega]
 show (if byteAt sh (4-((4-(i+1))+1))=45 then _ else none)=_
 rw [show 4-((4-(i+1))+1)=i by omega,if_neg h]
theorem parR_word {sh:ByteArray}{i:Nat}{x:ApiInstr}{u:ByteArray}{r:List ByteArray}(hi:i<4) (h:¬ byteAt sh i=45):parR sh (4-i) x (u :: r)=if (operF (byteAt sh i) u).2 then parR sh (4-(i+1)) (withF x i (operF (byteAt sh i) u).1) r else none:=by
 rw [show 4-i=(4-(i+1))+1 by omega]
 show (if byteAt sh (4-((4-(i+1))+1))=45 then _ else (if (operF (byteAt sh (4-((4-(i+1))+1))) u).2 then parR sh (4-(i+1)) (withF x (4-((4-(i+1))+1)) (operF (byteAt sh (4-((4-(i+1))+1))) u).1) r else none))=_
 rw [show 4-((4-(i+1))+1)=i by omega,if_neg h]
def zeroI:ApiInstr:=⟨0,0,0,0,0⟩
def parE (o:Option (ApiInstr×List ByteArray)):ApiInstr×Int:=match o with
  | none=>(zeroI,3)
  | some (x,r)=>if r≠[] then (zeroI,3) else if icF x≠0 then (zeroI,icF x) else (x,0)
def parseF (s:ByteArray):ApiInstr×Int:=match wordsF s with
  | []=>(zeroI,3)
  | u :: r=>if ownF (findF u)=false then (zeroI,3) else parE (parR (shapeF (findF u)) 4 ⟨findF u,0,0,0,0⟩ r)
theorem splitA_le (c:UInt8):∀ (l acc:List UInt8),∀ p ∈ splitA c acc l,p.length≤acc.length+l.length
 | [],acc=>by intro p hp;obtain rfl:=List.mem_singleton.1 hp;simp
 | b :: l,acc=>by
  intro p hp
  unfold splitA at hp
  split at hp
  · rcases List.mem_cons.1 hp with rfl | hp
    · omega
    · have:=splitA_le c l [] p hp
      simp only [List.length_nil,List.length_cons] at *
      omega
  · have:=splitA_le c l _ p hp
    simp only [List.length_append,List.length_cons,List.length_nil] at *
    omega
theorem wordsF_size {s:ByteArray} : ∀ u ∈ wordsF s,u.size≤s.size:=by
 intro u hu
 have h1:toL u ∈ wordsL (toL s):=by rw [← wordsF_L];exact List.mem_map_of_mem hu
 have h2:=splitA_le 32 (toL s) [] _ (List.mem_filter.1 h1).1
 rw [toL_size,toL_size] at h2
 simpa using h2
theorem rdr_tail {B:Base}{Φ Φ':List Res}{S:Nat→Prop}{A:Option Addr}{u:ByteArray}{xs:List ByteArray}{cp:Nat}(hp:Pick Φ (rdr B.e S Kd.string A (u :: xs)) Φ') (hc:(u :: xs).length≤cp):Leads B Φ (rdr B.e S Kd.string (if cp=1 then A else A.map (·.add (1 * 1))) xs :: Φ'):=fun w hw=>by
 refine hw.upd' hp (Chg.refl _ _) ⟨fun k hk=>(hw.get hp).1 k hk,fun w' g hs=>?_⟩ (fun k hk=>.inl hk)
 obtain ⟨hl,hC⟩:=(hw.get hp).2 w' g hs
 rw [List.length_cons] at hl hc
 refine ⟨by omega,fun h0=>?_⟩
 obtain ⟨ad,rfl,hcell⟩:=hC (by rw [List.length_cons];omega)
 refine ⟨ad.add (1 * 1),by rw [if_neg ZO];rfl,fun j v hj=>?_⟩
 obtain ⟨cs,hK,hce⟩:=hcell (j+1) v (by rw [List.getElem?_cons_succ];exact hj)
 refine ⟨cs,hK,fun i z hz=>?_⟩
 rw [Addr.add_add,show 1 * 1+(j * (Kd.string).sz+i)=(j+1) * (Kd.string).sz+i by rw [Nat.add_mul,show (Kd.string).sz=1 from rfl];omega]
 exact hce i z hz
theorem line_Parse_none {B:Base}{w:World}(hS:St B [] w) (hL:LnE B.e) (s:ByteArray) (hs:s.size≤100000) (hw:wordsF s=[]) :
 CW 9 #[.string s] w (Ret B (fun _:Unit=>True) (fun _=>.tuple #[insV (parseF s).1,.int .i64 (parseF s).2]) (fun _=>[])):=by
 have he:parseF s=(zeroI,3):=by unfold parseF;rw [hw]
 rw [he]
 refine ZX Tryz.func9 hS ?_
 refine Zh (Zi (oAlloc J ZP (fun b2=>?_)))
 refine Zp J (Zn (Zzg ?_))
 (refine ZC0 rfl ZK (fun w hS=>frame hS ZQ (fun B' hB hS'=>line_Words hS' (hL.max.grow hB) s ZO B.e)) ?_;rintro ⟨A12,c12⟩ -)
 rw [hw]
 refine Zp J (Zn (Za (Zh (Zh (Zi (Zo J (Zv J J (Zy J J (Zo J (ZS0 (t:=16) (v':=.bool true) J J (Zr J J J J (Zr J J J J (Zr J J J J (Zr J J J J (Zr J J J J (Zr J J J J (Zt J J (Zn (Za (wCondT J (Zh (Zi (oBuild Parts.nil J J Built.nil (Zsa ?_))))))))))))))))))))))))
 refine Zp J (Zn (Za (Zl (Zc (Zw (ZI2 ?_))))))
 exact ⟨(),trivial,rfl,Lh⟩
theorem line_Parse_some {B:Base}{w:World}(hS:St B [] w) (hL:LnE B.e) (s:ByteArray) (hs:s.size≤100000) (u:ByteArray) (r:List ByteArray) (hw:wordsF s=u :: r) :
 CW 9 #[.string s] w (Ret B (fun _:Unit=>True) (fun _=>.tuple #[insV (parseF s).1,.int .i64 (parseF s).2]) (fun _=>[])):=by
 have hsz:∀ v ∈ u :: r,v.size≤s.size:=fun v hv=>wordsF_size v (by rw [hw];exact hv)
 have hwl:=wordsF_len s
 rw [hw,List.length_cons] at hwl
 have hpf:parseF s=if ownF (findF u)=false then (zeroI,3) else parE (parR (shapeF (findF u)) 4 ⟨findF u,0,0,0,0⟩ r):=by unfold parseF;rw [hw]
 rw [hpf]
 generalize hfo:findF u=o
 have hss:=shapeF_size o
 have hasc:=shapeF_asc o
 refine ZX Tryz.func9 hS ?_
 refine Zh (Zi (oAlloc J ZP (fun b2=>?_)))
 refine Zp J (Zn (Zzg ?_))
 (refine ZC0 rfl ZK (fun w hS=>frame hS ZQ (fun B' hB hS'=>line_Words hS' (hL.max.grow hB) s ZO B.e)) ?_;rintro ⟨A12,c12⟩ -)
 rw [hw]
 refine oRoom ZP (fun hn12 hc12=>?_)
 refine oSeal (W:=B.e) (kd:=Kd.string) (A:=A12) (xs:=u :: r) [row Kd.string B.e 9 _ (u :: r)] ZQ (fun w hq g=>(row_C (hq _ _ ZP) g).2.2.1) (fun S0=>?_)
 refine ZS0 (t:=12) (v':=.slice A12 (r.length+1) c12) J J (Zp J (Zn (Za (Zh (Zh (Zi (Zo J (Zv J J (Zy J J (Zo J ?_))))))))))
 refine ZS0 (t:=16) (v':=.bool false) J (by simp <;> omega) ?_
 refine Zq J J (Zo J (Zq J J ?_))
 refine oIdxD rfl rfl ZP (by first | rfl | (simp only [List.length_map];done)) (show 0<(u :: r).length from Nat.succ_pos _) rfl rfl (fun g18 hg18=>?_)
 refine Zq J J (oLdD J ZP hg18 (show 0<(u :: r).length from Nat.succ_pos _) J J (fun u19 cs19 hu19 hk19=>?_))
 obtain ⟨w19,hk19⟩:=hk19
 obtain rfl:=(show cs19=[Value.string u19] from hk19)
 refine ⟨_,rfl,?_⟩
 refine Zq J J ?_
 (refine ZC0 rfl ZK (fun w hS=>frame hS ZQ (fun B' hB hS'=>op_Find hS' u19)) ?_;rintro ⟨⟩ -)
 obtain rfl:u=u19:=Option.some.inj hu19
 rw [hfo]
 refine Zq J J ?_
 (refine ZC0 rfl ZK (fun w hS=>frame hS ZQ (fun B' hB hS'=>op_Own hS' o)) ?_;rintro ⟨⟩ -)
 refine Zq J J (Zno ?_)
 refine Zu J J (Zn (Za (wC (fun h23=>?_) (fun h23=>?_))))
 have ho:ownF o=false:=by simpa using h23
 refine Zh (Zi (oBuild Parts.nil J J Built.nil (Zsa ?_)))
 refine Zp J (Zn (Za (Zl (Zc (Zw (ZI2 ?_))))))
 exact ⟨(),trivial,by rw [if_pos ho];rfl,Lh⟩
 have ho:ownF o=true:=by simpa using h23
 rw [if_neg (show ¬ ownF o=false by rw [ho];simp)]
 rw [if_pos ho] at hss
 refine Zj (Zzg ?_)
 refine oIdxD rfl rfl ZP (by first | rfl | (simp only [List.length_map];done)) (show 0<(u :: r).length from Nat.succ_pos _) rfl rfl (fun g26 hg26=>?_)
 refine oLdD J ZP hg26 (show 0<(u :: r).length from Nat.succ_pos _) J J (fun u27 cs27 hu27 hk27=>?_)
 obtain ⟨w27,hk27⟩:=hk27
 obtain rfl:=(show cs27=[Value.string u27] from hk27)
 refine ⟨_,rfl,?_⟩
 (refine ZC0 rfl ZK (fun w hS=>frame hS ZQ (fun B' hB hS'=>op_Find hS' u27)) ?_;rintro ⟨⟩ -)
 obtain rfl:u=u27:=Option.some.inj hu27
 rw [hfo]
 refine oBuild (Parts.cons J Parts.nil) J J (Built.cons (off:=0) (s:=1) J ZP J ZP Built.nil) ?_
 refine oAlloc J ZP (fun b5=>?_)
 refine Zsa ?_
 refine Zn (Za (Zh (Zi (Zo J (oSliceFrom (m:=1) J J ZP J ZO ZO J J (fun A31 c31 hc31=>?_))))))
 refine Zp J (Zn (Za (Zh (Zh (Zi (Zz (n:=0) (m:=0) J J J (Zld ?_)))))))
 (refine ZC0 rfl ZK (fun w hS=>frame hS ZQ (fun B' hB hS'=>op_Shape hS' o)) ?_;rintro ⟨⟩ -)
 refine oRangeStr J J (fun b35=>?_)
 refine Zn (Za (Zk (wLoop (ι:=Nat×ApiInstr×List ByteArray×Option Addr×Nat) (fun z=>[(2,.pointer (some ⟨b2,0,none⟩)),(4,.slice z.2.2.2.1 z.2.2.1.length z.2.2.2.2),(5,.pointer (some ⟨b5,0,none⟩)),(35,.pointer (some ⟨b35,0,none⟩))]) (fun z=>[blk b2 23 [.int .i64 0,.int .i64 0,.int .i64 0,.int .i64 0,.int .i64 0],blk b5 23 [.int .i64 z.2.1.fOp,.int .i64 z.2.1.fA,.int .i64 z.2.1.fB,.int .i64 z.2.1.fC,.int .i64 z.2.1.fN],rdr B.e S0 Kd.string z.2.2.2.1 z.2.2.1,ob b35 (.stringIter (shapeF o) z.1)]) (fun z=>z.1≤4∧z.2.2.1.length≤z.2.2.2.2∧z.2.2.1.length≤100000∧(∀ v ∈ z.2.2.1,v.size≤s.size)∧parR (shapeF o) (4-z.1) z.2.1 z.2.2.1=parR (shapeF o) 4 ⟨o,0,0,0,0⟩ r) (fun z=>4-z.1) (0,⟨o,0,0,0,0⟩,r,A31,c31) ?_ cv (Leads.has ZQ) ?_)))
 exact ⟨Nat.zero_le _,by show r.length≤c31;omega,by show r.length≤100000;omega,fun v hv=>hsz v (List.mem_cons_of_mem _ hv),rfl⟩
 rintro ⟨i,x,ws,A2,c2⟩ ⟨hi,hcw,hlw,hzw,hv⟩
 dsimp only at hi hcw hlw hzw hv
 try dsimp only
 refine Zh (Zi (oNextStr J ZP ?_))
 refine oExtN J (Zn (Za (Zh (wC (fun h37=>?_) (fun h37=>?_)))))
 have hil:i<(shapeF o).size:=h37
 rw [nextV_T hil (hasc i hil),nextP_T hil (hasc i hil)]
 refine Zj (Za (Zk (Zh (Zi (oExt J ZP ?_)))))
 refine oExt J ZP ?_
 refine Zp J (Zp J (Zn (Za (Zh (Zh (Zi (Zo J (Zy J J (Zn (Za (wC (fun h41=>?_) (fun h41=>?_))))))))))))
 refine Zm (Zb (Ze (Za ?_)))
 exact ⟨rfl,(i+1,x,ws,A2,c2),⟨by show i+1≤_;omega,hcw,hlw,hzw,by rw [← hv,parR_dash ZO h41]⟩,by show 4-(i+1)<4-i;omega,cv,Lh⟩
 refine Zj (Za (Zh (Zh (Zi (Zo J (Zv J J (Zy J J (Zn (Za (wC (fun h44=>?_) (fun h44=>?_)))))))))))
 have hwe:ws=[]:=List.eq_nil_of_length_eq_zero ZO
 subst hwe
 refine Zh (Zi (oBuild Parts.nil J J Built.nil (Zsa ?_)))
 refine Zp J (Zn (Za (Zl (Zc (Zf (Zc (Zf (Zc (Zw (ZI2 ?_))))))))))
 exact ⟨(),trivial,by rw [← hv,parR_none ZO h41];rfl,Lh⟩
 obtain ⟨y,r2,rfl⟩:∃ y r2,ws=y :: r2:=by
  cases ws with
  | nil=>exact absurd rfl h44
  | cons y r2=>exact ⟨y,r2,rfl⟩
 refine Zj (Za (Zh (Zi (Zo J (Zo J ?_)))))
 refine oIdxD rfl rfl ZP (by first | rfl | (simp only [List.length_map];done)) (show 0<(y :: r2).length from Nat.succ_pos _) rfl rfl (fun g49 hg49=>?_)
 refine oLdD J ZP hg49 (show 0<(y :: r2).length from Nat.succ_pos _) J J (fun u50 cs50 hu50 hk50=>?_)
 obtain ⟨w50,hk50⟩:=hk50
 obtain rfl:=(show cs50=[Value.string u50] from hk50)
 refine ⟨_,rfl,?_⟩
 obtain rfl:y=u50:=Option.some.inj hu50
 (refine ZC0 rfl ZK (fun w hS=>frameK hS ZQ (fun B' hB hK hS'=>line_operand hS' (hL.of hB hK) (byteAt (shapeF o) i) y (Nat.le_trans (hzw y List.mem_cons_self) ZO))) ?_;rintro ⟨⟩ -)
 refine Zo J (oExt J ZP ?_)
 refine oExt J ZP ?_
 refine Zp J (Zp J (Zn (Za (Zh (Zh (Zi (Zo J (Zno ?_))))))))
 refine Zn (Za (wC (fun h55=>?_) (fun h55=>?_)))
 refine Zh (Zi (oBuild Parts.nil J J Built.nil (Zsa ?_)))
 refine Zp J (Zn (Za (Zl (Zc (Zf (Zc (Zf (Zc (Zw (ZI2 ?_))))))))))
 exact ⟨(),trivial,by rw [← hv,parR_word ZO h41,if_neg (by simpa using h55)];rfl,Lh⟩
 refine Zj (Za (wDrawR J [0,1,2,4,5] [0,1,2,4,5] (.alt 3 [4,5] [] (.alt 6 [4,5] [] .tail .stop) .stop) [7] 24 ZK J J (fun w0=>?_)))
 refine Zla ?_
 refine Zo J (Zo J (Zo J (oSliceV (m:=1) J J (show 1≤(y :: r2).length from Nat.succ_pos _) hcw J (oAltT J ?_ ?_))))
 (refine ZC0 rfl ZK (fun w hS=>frame hS ZQ (fun B' hB hS'=>instr_With hS' x i ZO (operF (byteAt (shapeF o) i) y).1)) ?_;rintro ⟨⟩ -)
 refine oAgainT ?_ J (fun w0=>?_)
 refine Z8 J J J J (fun w0=>?_) ?_
 refine Zo J ?_
 exact Z9 rfl
 refine Z8 J J J J (fun w0=>?_) ?_
 refine oSliceV (m:=1) J J (show 1≤(y :: r2).length from Nat.succ_pos _) hcw J ?_
 exact Z9 rfl
 exact AgainG.nil
 refine oAltT J ?_ ?_
 refine Zsa ?_
 refine oAgainT ?_ J (fun w0=>?_)
 refine Z8 J J J J (fun w0=>?_) ?_
 refine Zo J ?_
 exact Z9 rfl
 refine Z8 J J J J (fun w0=>?_) ?_
 refine oSliceV (m:=1) J J (show 1≤(y :: r2).length from Nat.succ_pos _) hcw J ?_
 exact Z9 rfl
 exact AgainG.nil
 refine oTailT (Zp J (Zn (Zd (Za ?_))))
 exact ⟨rfl,(i+1,withF x i (operF (byteAt (shapeF o) i) y).1,r2,(if c2=1 then A2 else A2.map (·.add (1 * 1))),c2-1),⟨by show i+1≤_;omega,by show r2.length≤c2-1;rw [List.length_cons] at hcw;omega,by show r2.length≤100000;rw [List.length_cons] at hlw;omega,fun v hv=>hzw v (List.mem_cons_of_mem _ hv),by rw [← hv,parR_word ZO h41,if_pos (show (operF (byteAt (shapeF o) i) y).2=true by simpa using h55)]⟩,by show 4-(i+1)<4-i;omega,cv,Leads.trans (rdr_tail ZP hcw) Lh⟩
 exact oStopT
 exact oStopT
 have hi4:i=4:=by omega
 subst hi4
 have hv2:parR (shapeF o) 4 ⟨o,0,0,0,0⟩ r=some (x,ws):=hv.symm
 refine Zm (Zb (Zb (Ze (Za (Zh (Zh (Zi (Zo J (Zv J J (Z1 J J (Zn (Za (wC (fun h65=>?_) (fun h65=>?_))))))))))))))
 refine Zh (Zi (oBuild Parts.nil J J Built.nil (Zsa ?_)))
 refine Zp J (Zn (Za (Zl (Zc (Zw (ZI2 ?_))))))
 exact ⟨(),trivial,by rw [hv2];show _=Value.tuple #[insV (if ws≠[] then _ else _:ApiInstr×Int).1,.int .i64 (if ws≠[] then _ else _:ApiInstr×Int).2];rw [if_pos (fun e=>by subst e;exact absurd h65 (by decide))];rfl,Lh⟩
 obtain rfl:ws=[]:=List.eq_nil_of_length_eq_zero ZO
 refine Zj (Za (Zh (Zh (Zi (Zla ?_)))))
 (refine ZC0 rfl ZK (fun w hS=>frame hS ZQ (fun B' hB hS'=>instr_Check hS' x _ (kApiInstr_mk _ x))) ?_;rintro ⟨⟩ -)
 refine Zp J (Zn (Za (Zh (Zi (Zo J (Z0 J J (Zn (Za (wC (fun h70=>?_) (fun h70=>?_))))))))))
 refine Zh (Zi (oBuild Parts.nil J J Built.nil (Zo J (Zsa ?_))))
 refine Zp J (Zn (Za (Zl (Zc (Zw (ZI2 ?_))))))
 exact ⟨(),trivial,by rw [hv2];show _=Value.tuple #[insV (if _≠[] then _ else if icF x≠0 then _ else _:ApiInstr×Int).1,.int .i64 (if _≠[] then _ else if icF x≠0 then _ else _:ApiInstr×Int).2];rw [if_neg (fun k=>k rfl),if_pos h70];rfl,Lh⟩
 refine Zj (Za (Zh (Zi (Zla ?_))))
 refine Zsa ?_
 refine Zp J (Zn (Za (Zl (Zw (ZI2 ?_)))))
 exact ⟨(),trivial,by rw [hv2];show _=Value.tuple #[insV (if _≠[] then _ else if icF x≠0 then _ else _:ApiInstr×Int).1,.int .i64 (if _≠[] then _ else if icF x≠0 then _ else _:ApiInstr×Int).2];rw [if_neg (fun k=>k rfl),if_neg h70];rfl,Lh⟩
theorem line_Parse {B:Base}{w:World}(hS:St B [] w) (hL:LnE B.e) (s:ByteArray) (hs:s.size≤100000) :
 CW 9 #[.string s] w (Ret B (fun _:Unit=>True) (fun _=>.tuple #[insV (parseF s).1,.int .i64 (parseF s).2]) (fun _=>[])):=by
 cases hw:wordsF s with
 | nil=>exact line_Parse_none hS hL s hs hw
 | cons u r=>exact line_Parse_some hS hL s hs u r hw
open Go.Proofs.YtpmdhkjbhjgoaaaGreatDoorN (idxI ref_Digits decF)
theorem ins_eql (x:ApiInstr) (w:World):(binOp .eql 23 (insV x) (insV x)).run Tryz.prog w=.ok (.bool true) w:=by
 simp [go_sem,binOp,Op.equal,Op.maxDepth,insV]
theorem wordsF_eq (s:ByteArray):wordsF s=(wordsL (toL s)).map ofL:=by
 rw [← wordsF_L,List.map_map,show ofL ∘ toL=id from funext fun s=>ofL_toL s,List.map_id]
theorem dec1 (u:Nat) (h:u<10):decS (u:Int)=⟨#[UInt8.ofNat (48+u)]⟩:=by
 unfold decS
 rw [Lib.itoa_nonneg,Lib.decDigits_one h]
theorem dec5:decS (-5)=⟨#[45,53]⟩:=by
 have h:Lib.itoa (-((5:Nat):Int))=45 :: Lib.decDigits 5:=Lib.itoa_neg 5 (by decide)
 rw [Lib.decDigits_one (by decide)] at h
 unfold decS
 rw [show (-5:Int) = -((5:Nat):Int) from rfl,h];rfl
theorem dec12:decS (-12)=⟨#[45,49,50]⟩:=by
 have h:Lib.itoa (-((12:Nat):Int))=45 :: Lib.decDigits 12:=Lib.itoa_neg 12 (by decide)
 rw [Lib.decDigits_two (by decide) (by decide)] at h
 unfold decS
 rw [show (-12:Int) = -((12:Nat):Int) from rfl,h];rfl
theorem kn_num:numF ⟨#[45,49,50]⟩=(-12,true):=by rw [← dec12];exact numF_dec ⟨by decide,by decide⟩
theorem kn_lines:(linesF ⟨#[97,10,10,98]⟩).length=3:=by
 rw [← List.length_map (f:=toL),linesF_L];rfl
theorem kn_words:(wordsF ⟨#[32,97,32,32,98]⟩).length=2:=by
 rw [wordsF_eq,List.length_map];rfl
theorem kn_join:joinT [⟨#[97]⟩,⟨#[98]⟩] ⟨#[32]⟩=⟨#[97,32,98]⟩:=rfl
theorem parE_ok {x:ApiInstr}(h:icF x=0):parE (some (x,[]))=(x,0):=by
 show (if ([]:List ByteArray)≠[] then (zeroI,3) else if icF x≠0 then (zeroI,icF x) else (x,0))=_
 rw [if_neg (fun k=>k rfl),if_neg (fun k=>k h)]
def viaI:ApiInstr:=⟨20,3,1,5,0⟩
theorem n3:decS 3=⟨#[51]⟩:=dec1 3 (by decide)
theorem n1:decS 1=⟨#[49]⟩:=dec1 1 (by decide)
theorem kn_text:textLF viaI=(⟨#[118,105,97,32,51,32,49,32,102,50,114]⟩,0):=by
 have hw:wordsT viaI 4=[⟨#[118,105,97]⟩,decS 3,decS 1,⟨#[102,50,114]⟩]:=rfl
 unfold textLF
 rw [if_neg (fun k=>k (by decide)),if_neg (by decide),if_neg (by decide),hw,n3,n1];rfl
theorem kn_parse:parseF ⟨#[118,105,97,32,32,51,32,49,32,102,50,114]⟩=(viaI,0):=by
 have hw:wordsF ⟨#[118,105,97,32,32,51,32,49,32,102,50,114]⟩=[⟨#[118,105,97]⟩,⟨#[51]⟩,⟨#[49]⟩,⟨#[102,50,114]⟩]:=by rw [wordsF_eq];rfl
 have hf:findF ⟨#[118,105,97]⟩=20:=by decide
 have h3:operF 99 ⟨#[51]⟩=(3,true):=by unfold operF;rw [if_neg (by decide),← n3];exact numF_dec ⟨by decide,by decide⟩
 have h1:operF 102 ⟨#[49]⟩=(1,true):=by unfold operF;rw [if_neg (by decide),← n1];exact numF_dec ⟨by decide,by decide⟩
 have hk:operF 107 ⟨#[102,50,114]⟩=(5,true):=by unfold operF;rw [if_pos rfl];decide
 unfold parseF
 rw [hw]
 show (if ownF (findF ⟨#[118,105,97]⟩)=false then _ else _)=_
 rw [hf,if_neg (by decide)]
 have e0:byteAt (shapeF 20) 0=99:=by decide
 have e1:byteAt (shapeF 20) 1=102:=by decide
 have e2:byteAt (shapeF 20) 2=107:=by decide
 have e3:byteAt (shapeF 20) 3=45:=by decide
 have q0:=parR_word (sh:=shapeF 20) (i:=0) (x:=⟨20,0,0,0,0⟩) (u:=⟨#[51]⟩) (r:=[⟨#[49]⟩,⟨#[102,50,114]⟩]) (by decide) (by rw [e0];decide)
 rw [e0,h3] at q0
 have q1:=parR_word (sh:=shapeF 20) (i:=1) (x:=⟨20,3,0,0,0⟩) (u:=⟨#[49]⟩) (r:=[⟨#[102,50,114]⟩]) (by decide) (by rw [e1];decide)
 rw [e1,h1] at q1
 have q2:=parR_word (sh:=shapeF 20) (i:=2) (x:=⟨20,3,1,0,0⟩) (u:=⟨#[102,50,114]⟩) (r:=[]) (by decide) (by rw [e2];decide)
 rw [e2,hk] at q2
 have q3:=parR_dash (sh:=shapeF 20) (i:=3) (x:=viaI) (ws:=[]) (by decide) e3
 have q:parR (shapeF 20) 4 ⟨20,0,0,0,0⟩ [⟨#[51]⟩,⟨#[49]⟩,⟨#[102,50,114]⟩]=some (viaI,[]):=q0.trans (q1.trans (q2.trans q3))
 rw [q]
 exact parE_ok (by decide)
theorem kn_bad:parseF ⟨#[115,101,116,32,49]⟩=(zeroI,3):=by
 have hw:wordsF ⟨#[115,101,116,32,49]⟩=[⟨#[115,101,116]⟩,⟨#[49]⟩]:=by rw [wordsF_eq];rfl
 have hf:findF ⟨#[115,101,116]⟩=2:=by decide
 have h1:operF 119 ⟨#[49]⟩=(1,true):=by unfold operF;rw [if_neg (by decide),← n1];exact numF_dec ⟨by decide,by decide⟩
 unfold parseF
 rw [hw]
 show (if ownF (findF ⟨#[115,101,116]⟩)=false then _ else _)=_
 rw [hf,if_neg (by decide)]
 have e0:byteAt (shapeF 2) 0=119:=by decide
 have e1:byteAt (shapeF 2) 1=45:=by decide
 have e2:byteAt (shapeF 2) 2=45:=by decide
 have e3:¬ byteAt (shapeF 2) 3=45:=by decide
 have q0:=parR_word (sh:=shapeF 2) (i:=0) (x:=⟨2,0,0,0,0⟩) (u:=⟨#[49]⟩) (r:=[]) (by decide) (by rw [e0];decide)
 rw [e0,h1] at q0
 have q1:=parR_dash (sh:=shapeF 2) (i:=1) (x:=⟨2,1,0,0,0⟩) (ws:=[]) (by decide) e1
 have q2:=parR_dash (sh:=shapeF 2) (i:=2) (x:=⟨2,1,0,0,0⟩) (ws:=[]) (by decide) e2
 have q3:=parR_none (sh:=shapeF 2) (i:=3) (x:=⟨2,1,0,0,0⟩) (by decide) e3
 have q:parR (shapeF 2) 4 ⟨2,0,0,0,0⟩ [⟨#[49]⟩]=none:=q0.trans (q1.trans (q2.trans q3))
 rw [q];rfl
theorem known9 {B:Base}{w:World}(hS:St B [] w) (hL:LnE B.e) :
 CW 6 #[] w (Ret B (fun _:Unit=>True) (fun _=>.bool true) (fun _=>[])):=by
 refine ZX Tryz.func6 hS ?_
 refine Zh (Zi (Zp J (Zn (Za (Zh (Zi ?_))))))
 (refine ZC0 rfl ZK (fun w hS=>frameK hS ZQ (fun B' hB hK hS'=>line_Parse hS' (hL.of hB hK) ⟨#[118,105,97,32,32,51,32,49,32,102,50,114]⟩ (by decide))) ?_;rintro ⟨⟩ -)
 rw [kn_parse]
 refine Zo J (oExt J ZP ?_)
 refine oExt J ZP ?_
 refine oAlloc J ZP (fun b1=>?_)
 refine Zsa ?_
 refine Zp J (Zn (Za (Zh (Zi (oBuild (Parts.cons J (Parts.cons J (Parts.cons J (Parts.cons J Parts.nil)))) J J (Built.cons (off:=0) (s:=1) J ZP J ZP (Built.cons (off:=1) (s:=1) J ZP J ZP (Built.cons (off:=2) (s:=1) J ZP J ZP (Built.cons (off:=3) (s:=1) J ZP J ZP Built.nil)))) ?_)))))
 (refine ZC0 rfl ZK (fun w hS=>frameK hS ZQ (fun B' hB hK hS'=>line_Text hS' (Keeps.tab hK hL.tab) viaI)) ?_;rintro ⟨⟩ -)
 rw [kn_text]
 refine Zo J (oExt J ZP ?_)
 refine oExt J ZP ?_
 refine Zp J (Zp J (Zn (Za (Zh (Zi ?_)))))
 (refine ZC0 rfl ZK (fun w hS=>frameK hS ZQ (fun B' hB hK hS'=>line_Parse hS' (hL.of hB hK) ⟨#[115,101,116,32,49]⟩ (by decide))) ?_;rintro ⟨⟩ -)
 rw [kn_bad]
 refine Zo J (oExt J ZP ?_)
 refine oExt J ZP ?_
 refine oAlloc J ZP (fun b5=>?_)
 refine Zsa ?_
 refine Zp J (Zn (Za (Zh (Zi ?_))))
 (refine ZC0 rfl ZK (fun w hS=>frameK hS ZQ (fun B' hB hK hS'=>line_Number hS' (hL.of hB hK) ⟨#[45,49,50]⟩ (by decide))) ?_;rintro ⟨⟩ -)
 rw [kn_num]
 refine Zo J (oExt J ZP ?_)
 refine oExt J ZP ?_
 refine Zp J (Zp J (Zn (Za (Zh (Zi (Zla ?_))))))
 refine oBuild (Parts.cons J (Parts.cons J (Parts.cons J (Parts.cons J Parts.nil)))) J J (Built.cons (off:=0) (s:=1) J ZP J ZP (Built.cons (off:=1) (s:=1) J ZP J ZP (Built.cons (off:=2) (s:=1) J ZP J ZP (Built.cons (off:=3) (s:=1) J ZP J ZP Built.nil)))) ?_
 refine oBinJ (r:=.bool true) J J (fun w=>run_eqGuard_agg w .eql _ _ _ _ _ Tryz.eqGuardType23) (fun w=>ins_eql viaI w) ?_
 refine Zo J (ZS0 (t:=29) (v':=.bool true) J J (Zq J J (Zo J (Zq J J (Zy J J (Zt J J (Zo J (ZS0 (t:=33) (v':=.bool true) J J (Zq J J (Zo J (Zq J J (oSEq J J (Zt J J (Zo J (ZS0 (t:=37) (v':=.bool true) J J (Zq J J (Zo J (Zq J J (Zy J J (Zt J J (Zo J (ZS0 (t:=41) (v':=.bool true) J J (Zq J J (Zo J (Zq J J (Zy J J (Zt J J (Zo J (ZS0 (t:=45) (v':=.bool true) J J ?_)))))))))))))))))))))))))))))
 refine Zq J J (Zo J (Zq J J (Zy J J (Zt J J (Zo J (ZS0 (t:=49) (v':=.bool true) J J (Zq J J (Zo J (Zt J J (Zo J (ZS0 (t:=52) (v':=.bool true) J J (Zq J J ?_))))))))))))
 (refine ZC0 rfl ZK (fun w hS=>frame hS ZQ (fun B' hB hS'=>line_Split hS' (hL.max.grow hB) ⟨#[97,10,10,98]⟩ (by decide) B.e)) ?_;rintro ⟨A53,c53⟩ -)
 rw [kn_lines]
 refine Zq J J (Zv J J (Zq J J (Zy J J (Zt J J (Zo J (ZS0 (t:=57) (v':=.bool true) J J (Zq J J ?_)))))))
 (refine ZC0 rfl ZK (fun w hS=>frame hS ZQ (fun B' hB hS'=>line_Words hS' (hL.max.grow hB) ⟨#[32,97,32,32,98]⟩ (by decide) B.e)) ?_;rintro ⟨A58,c58⟩ -)
 rw [kn_words]
 refine Zq J J (Zv J J (Zq J J (Zy J J (Zt J J (Zo J (ZS0 (t:=62) (v':=.bool true) J J (Zq J J ?_)))))))
 refine oBuildSliceF (Parts.cons J (Parts.cons J Parts.nil)) J J J J J (Fulls.cons ZP J (Fulls.cons ZP J Fulls.nil ap) ap) (fun b63=>?_)
 refine Zq J J ?_
 (refine ZD J (fun w B' hB hR hS'=>line_Join hS' _ 2 [⟨#[97]⟩,⟨#[98]⟩] (C_blk (hR _ _ ZP) (by decide) (cat_scalar.2 rfl)) (Nat.le_refl _) (by decide) (by decide)) ?_;rintro ⟨⟩ -)
 rw [kn_join]
 refine Zq J J (oSEq J J (Zt J J (Zo J (ZS0 (t:=67) (v':=.bool true) J J (Zq J J ?_)))))
 (refine ZC0 rfl ZK (fun w hS=>frameK hS ZQ (fun B' hB hK hS'=>line_Decimal hS' (Keeps.tab hK hL.tab) (-5) ⟨by decide,by decide⟩)) ?_;rintro ⟨⟩ -)
 rw [dec5]
 refine Zq J J (oSEq J J (Zt J J (Zp J (Zzc ?_))))
 exact ⟨(),trivial,rfl,Lh⟩
end Go.Proofs.YtpmdhkjbhjgoaaaGreatDoorR
namespace Go.Proofs.YtpmdhkjbhjgoaaaGreatDoorV
set_option maxRecDepth 100000
set_option maxHeartbeats 4000000
open Go.RowKit Go.Proofs.YtpmdhkjbhjgoaaaGreatDoorK Go.Proofs.YtpmdhkjbhjgoaaaGreatDoorT Go.Proofs.YtpmdhkjbhjgoaaaGreatDoorL
theorem ref5_Is {B:Base}{w:World}(hS:St B [] w) (c:Int) :
 CW 44 #[.int .i64 c] w (Ret B (fun _:Unit=>True) (fun _=>.bool (isC c)) (fun _=>[])):=by
 refine ZX Tryz.func44 hS ?_
 refine Zh (Zi (Zp J (Zn (Za (Zh (Zi (Zo J (Z2 J J (Zo J (ZS (ZT 5) (fun h5=>?_) (fun h5=>?_)))))))))))
 refine Zq J J (Zo J (Zq J J (oLeq J J (Zt J J (Zp J (Zzc ?_))))))
 exact ⟨(),trivial,by simp_all [resVal,isC] <;> omega,Lh⟩
 refine Zr J J J J (Zr J J J J (Zu J J (Zp J (Zzc ?_))))
 exact ⟨(),trivial,by simp_all [resVal,isC] <;> omega,Lh⟩

def digB (k:Int):Int:=48+((k.tmod 10).natAbs:Int)
def digS:Nat→Int→ByteArray→ByteArray
  | 0,_,s=>s
  | f+1,k,s=>if k=0 then s else digS f (k.tdiv 10) (bytesS [digB k]++s)
def decF (n:Int):ByteArray:=if n=0 then ⟨#[48]⟩ else if n<0 then ⟨#[45]⟩++digS 20 n ByteArray.empty else digS 20 n ByteArray.empty
theorem digB_in (k:Int):48≤digB k∧digB k≤57:=by
 unfold digB
 have h:(k.tmod 10).natAbs<10:=by
  rw [Int.natAbs_tmod]
  exact Nat.mod_lt _ (by decide)
 omega
theorem bytesS_size (xs:List Int):(bytesS xs).size=xs.length:=by simp [bytesS,ByteArray.size]
theorem digS_size:∀ (f:Nat) (k:Int) (s:ByteArray),(digS f k s).size≤f+s.size
 | 0,_,s=>by simp [digS]
 | f+1,k,s=>by
  unfold digS
  split
  · omega
  · have:=digS_size f (k.tdiv 10) (bytesS [digB k]++s)
    rw [ByteArray.size_append,bytesS_size] at this
    simp only [List.length_cons,List.length_nil] at this
    omega
theorem decF_size (n:Int):(decF n).size≤21:=by
 have h:=digS_size 20 n ByteArray.empty
 have h0:ByteArray.empty.size=0:=rfl
 unfold decF
 split
 · decide
 · split
   · rw [ByteArray.size_append]
     have:(⟨#[45]⟩:ByteArray).size=1:=rfl
     omega
   · omega
theorem wrap8 {n:Int}(h:48≤n∧n≤57):IntKind.u8.wrap n=n:=by
 obtain ⟨m,rfl⟩:=Int.eq_ofNat_of_zero_le (show 0≤n by omega)
 have:∀ m,m<58→IntKind.u8.wrap ((m:Nat):Int)=((m:Nat):Int):=by decide
 exact this m ZO
theorem in64_tdiv {k:Int}(h:in64 k):in64 (k.tdiv 10):=by
 have h1:(k.tdiv 10).natAbs≤k.natAbs / 10:=by rw [Int.natAbs_tdiv];exact Nat.le_refl _
 unfold in64 at *
 omega
theorem tdiv_small {k:Int}{m:Nat}(h:k.natAbs<10 * m):(k.tdiv 10).natAbs<m:=by
 rw [Int.natAbs_tdiv]
 exact Nat.div_lt_of_lt_mul (by simpa using h)
theorem ref_Digits {B:Base}{w:World}(hS:St B [] w) (n:Int) (hn:in64 n) :
 CW 46 #[.int .i64 n] w (Ret B (fun _:Unit=>True) (fun _=>.string (decF n)) (fun _=>[])):=by
 have hnn:n.natAbs<10 ^ 20:=by unfold in64 at hn;omega
 refine ZX Tryz.func46 hS ?_
 refine Zh (Zi (Zp J (Zn (Za (Zh (Zh (Zi (Zo J (Zy J J (Zn (Za (wC (fun h7=>?_) (fun h7=>?_)))))))))))))
 refine Zh (Zzb ?_)
 exact ⟨(),trivial,by unfold decF;rw [if_pos h7];rfl,Lh⟩
 refine Zj (Za (Zh (Zi (Zp J (Zn (Za (Zh (Zh (Zi (Zo J (Zp J (Zn (Za (Zk (wLoop (ι:=Nat×Int×ByteArray) (fun z=>[(0,.int .i64 n),(3,.string z.2.2),(4,.int .i64 z.2.1)]) (fun z=>[]) (fun z=>in64 z.2.1∧z.1≤20∧z.2.1.natAbs<10 ^ z.1∧digS 20 n ByteArray.empty=digS z.1 z.2.1 z.2.2∧z.1+z.2.2.size≤20) (fun z=>z.1) (20,n,ByteArray.empty) ?_ cv (Leads.has ZQ) ?_)))))))))))))))
 exact ⟨hn,Nat.le_refl _,hnn,rfl,Nat.le_refl _⟩
 rintro ⟨f,k,s⟩ ⟨hk64,hf,hk,hd,hsz⟩
 dsimp only at hk64 hf hk hd hsz
 try dsimp only
 refine Zh (Zh (Zi (Zo J (Z0 J J (Zn (Za (wC (fun h10=>?_) (fun h10=>?_))))))))
 obtain ⟨f,rfl⟩:∃ f',f=f'+1:=⟨f-1,by cases f with | zero=>simp at hk;omega | succ f=>rfl⟩
 have hkb:k.natAbs<10 ^ 20:=Nat.lt_of_lt_of_le hk (Nat.pow_le_pow_right (by decide) hf)
 have hdb:=digB_in k
 have hk64':=hk64
 unfold in64 at hk64'
 have hq:∀ z,z=digB k→IntKind.u8.wrap z=digB k:=fun z hz=>by rw [hz];exact wrap8 hdb
 refine Zj (Za (Zh (Zk (Zh (Zi (Zo J (oRem J J (by decide) ?_)))))))
 refine Zp J (Zn (Za (Zh (Zh (Zi (Zo J (Zx J J (Zn (Za (wC (fun h16=>?_) (fun h16=>?_)))))))))))
 refine Zi (Zo J ?_)
 refine oSub J J (by have:=digB_in k;unfold digB at this;omega) ?_
 refine Zp J (Zn (Za (Zi (Zo J ?_))))
 refine oAdd J J (by have:=digB_in k;unfold digB at this;omega) ?_
 refine oConvInt (m:=digB k) J J J (hq _ (by unfold digB;omega)) ?_
 refine oBuildSlice1 J J J J J ZP J (fun b22=>?_)
 refine oConvBS (xs:=[digB k]) J J J J ZP J J (by intro v hv;obtain J:=List.mem_singleton.1 hv;omega) ?_
 refine Zo J ?_
 refine oAddStr rfl rfl (by rw [bytesS_size];simp only [List.length_cons,List.length_nil];omega) ?_
 refine Zp J (Zn (Zd (Za (Zi (Zo J (oQuo J J ZO ?_))))))
 refine Zp J (Zn (Za ?_))
 exact ⟨rfl,(f,k.tdiv 10,bytesS [digB k]++s),⟨in64_tdiv hk64,by show f≤20;omega,tdiv_small (by show k.natAbs<10 * 10 ^ f;rw [Nat.pow_succ] at hk;omega),by rw [hd];show (if k=0 then s else _)=_;rw [if_neg h10],by show f+(bytesS [digB k]++s).size≤20;rw [ByteArray.size_append,bytesS_size];simp only [List.length_cons,List.length_nil];omega⟩,by show f<f+1;omega,cv,Lh⟩
 refine Zj (Za (Zi (Zo J ?_)))
 refine oAdd J J (by have:=digB_in k;unfold digB at this;omega) ?_
 refine oConvInt (m:=digB k) J J J (hq _ (by unfold digB;omega)) ?_
 refine oBuildSlice1 J J J J J ZP J (fun b22=>?_)
 refine oConvBS (xs:=[digB k]) J J J J ZP J J (by intro v hv;obtain J:=List.mem_singleton.1 hv;omega) ?_
 refine Zo J ?_
 refine oAddStr rfl rfl (by rw [bytesS_size];simp only [List.length_cons,List.length_nil];omega) ?_
 refine Zp J (Zn (Zd (Za (Zi (Zo J (oQuo J J ZO ?_))))))
 refine Zp J (Zn (Za ?_))
 exact ⟨rfl,(f,k.tdiv 10,bytesS [digB k]++s),⟨in64_tdiv hk64,by show f≤20;omega,tdiv_small (by show k.natAbs<10 * 10 ^ f;rw [Nat.pow_succ] at hk;omega),by rw [hd];show (if k=0 then s else _)=_;rw [if_neg h10],by show f+(bytesS [digB k]++s).size≤20;rw [ByteArray.size_append,bytesS_size];simp only [List.length_cons,List.length_nil];omega⟩,by show f<f+1;omega,cv,Lh⟩
 obtain rfl:k=0:=by omega
 have hd0:digS 20 n ByteArray.empty=s:=by rw [hd];cases f with | zero=>rfl | succ f=>show (if (0:Int)=0 then s else _)=s;rw [if_pos rfl]
 refine Zm (Zb (Zb (Ze (Za (Zh (Zh (Zi (Zo J (Zx J J (Zn (Za (wC (fun h27=>?_) (fun h27=>?_)))))))))))))
 refine Zh (Zi (Zo J ?_))
 refine oAddStr J J (by show 1+_≤_;omega) ?_
 refine Zp J (Zn (Za (Zl (Zc (Zw (fi1 J ?_))))))
 exact ⟨(),trivial,by unfold decF;rw [if_neg h7,if_pos h27,hd0];rfl,Lh⟩
 refine Zj (Za (Zh (Zi (Zo J (Zp J (Zzc ?_))))))
 exact ⟨(),trivial,by unfold decF;rw [if_neg h7,if_neg h27,hd0];rfl,Lh⟩
theorem ref5_Class {B:Base}{w:World}(hS:St B [] w) (k:Int) :
 CW 94 #[.int .i64 k] w (Ret B (fun _:Unit=>True) (fun _=>.tuple #[.int .i64 (if isC (IntKind.i64.wrap (k-1)) then IntKind.i64.wrap (k-1) else 0),.bool (isC (IntKind.i64.wrap (k-1)))]) (fun _=>[])):=by
 generalize hz:IntKind.i64.wrap (k-1)=z
 refine ZX Tryz.func94 hS ?_
 refine Zh (Zi (Zp J (Zp J (Zn (Za (Zh (Zh (Zi (Zo J (oSubW J J ?_))))))))))
 rw [hz]
 (refine ZC0 rfl ZK (fun w hS=>frame hS ZQ (fun B' hB hS'=>ref5_Is hS' z)) ?_;rintro ⟨⟩ -)
 refine Zno ?_
 refine Zn (Za (wC (fun h7=>?_) (fun h7=>?_)))
 refine Zh (Zzd ?_)
 refine ⟨rfl,_,(ResL.cons (ResR.tmp rfl) (ResL.cons (ResR.tmp rfl) ResL.nil)),?_⟩
 exact ⟨(),trivial,by simp_all [resVal],Lh⟩
 refine Zj (Za (Zh (Zi (Zo J (oSubW J J ?_)))))
 rw [hz]
 refine Zp J (Zp J (Zn (Za (Zl (Zw ?_)))))
 refine ⟨rfl,_,(ResL.cons (ResR.tmp rfl) (ResL.cons (ResR.tmp rfl) ResL.nil)),?_⟩
 exact ⟨(),trivial,by simp_all [resVal],Lh⟩
theorem textF_some:∀ k:Nat,k<8→(⟨#[102]⟩++decF ((k / 2:Nat):Int))++(if k % 2=1 then (⟨#[114]⟩:ByteArray) else ByteArray.empty)=textF ((k+1:Nat):Int):=by decide
theorem emp_app (s:ByteArray):s++ByteArray.empty=s:=by simp
theorem ref5_Text {B:Base}{w:World}(hS:St B [] w) (k:Int) (hk:in64 k) :
 CW 45 #[.int .i64 k] w (Ret B (fun _:Unit=>True) (fun _=>.string (textF k)) (fun _=>[])):=by
 have hw:isC (IntKind.i64.wrap (k-1))=decide (1≤k∧k<9):=by
  unfold in64 at hk
  by_cases h : -9223372036854775808≤k-1
  · rw [wrap_in (by unfold in64;omega)];unfold isC;rw [← Bool.decide_and];exact decide_eq_decide.2 ZO
  · obtain rfl:k = -9223372036854775808:=by omega
    decide
 refine ZX Tryz.func45 hS ?_
 refine Zh (Zi (Zp J (Zn (Za (Zh (Zh (Zi (Zo J (Zy J J (Zn (Za (wC (fun h7=>?_) (fun h7=>?_)))))))))))))
 refine Zh (Zzb ?_)
 exact ⟨(),trivial,by subst h7;rfl,Lh⟩
 refine Zj (Zzg ?_)
 (refine ZC0 rfl ZK (fun w hS=>frame hS ZQ (fun B' hB hS'=>ref5_Class hS' k)) ?_;rintro ⟨⟩ -)
 rw [hw]
 refine Zo J (oExt J ZP ?_)
 refine oExt J ZP ?_
 refine Zp J (Zp J (Zn (Za (Zh (Zh (Zi (Zo J (Zno ?_))))))))
 refine Zn (Za (wC (fun h14=>?_) (fun h14=>?_)))
 refine Zh (Zzb ?_)
 exact ⟨(),trivial,by rw [textF_no.2 ZO];rfl,Lh⟩
 have hk9:1≤k∧k<9:=by omega
 rw [if_pos (by simpa using hk9),wrap_in (by unfold in64;omega)]
 obtain ⟨m,hm⟩:=Int.eq_ofNat_of_zero_le (show 0≤k-1 by omega)
 have htf:=textF_some m ZO
 rw [hm]
 refine Zj (Za (Zh (Zi (Zo J (oQuo J J ZO ?_)))))
 refine ZS0 (t:=16) (v':=.int .i64 ((m / 2:Nat):Int)) rfl (by rw [Int.tdiv_eq_ediv_of_nonneg ZO];rfl) ?_
 (refine ZC0 rfl ZK (fun w hS=>frame hS ZQ (fun B' hB hS'=>ref_Digits hS' ((m / 2:Nat):Int) (by unfold in64;omega))) ?_;rintro ⟨⟩ -)
 have hds:(decF ((m / 2:Nat):Int)).size≤21:=decF_size _
 refine oAddStr J J (by show 1+_≤_;omega) ?_
 refine Zp J (Zn (Za (Zh (Zh (Zi (Zo J (oRem J J (by decide) ?_)))))))
 rw [Int.tmod_eq_emod_of_nonneg ZO]
 refine Zy J J (Zn (Za (wC (fun h21=>?_) (fun h21=>?_))))
 refine Zi (Zo J ?_)
 refine oAddStr rfl rfl (by rw [ByteArray.size_append];show 1+_+1≤_;omega) ?_
 refine Zp J (Zn (Za (Zh (Zi (Zo J (Zp J (Zzc ?_)))))))
 exact ⟨(),trivial,by rw [if_pos ZO] at htf;rw [show k=((m+1:Nat):Int) by omega,← htf];rfl,Lh⟩
 refine Zj (Za (Zh (Zi (Zo J (Zp J (Zzc ?_))))))
 exact ⟨(),trivial,by rw [if_neg ZO,emp_app] at htf;rw [show k=((m+1:Nat):Int) by omega,← htf];rfl,Lh⟩
theorem name_case {s:ByteArray}(n:Nat) (hn:∀ k,k<28→namesL.getD k ByteArray.empty=s→k=n) (hs:s≠ByteArray.empty) {o:Int}(h:nameF o=s):o=(n:Int)+1:=by
 unfold nameF at h
 split at h
 · next k=>have:=hn (o-1).toNat ZO h;omega
 · exact absurd h.symm hs
theorem name_not {s:ByteArray}(n:Nat) (hn:n<28) (hs:namesL.getD n ByteArray.empty=s) {o:Int}(h:¬ nameF o=s):o≠(n:Int)+1:=by
 rintro rfl
 apply h
 unfold nameF
 rw [if_pos ZO,← hs]
 congr 1
 omega
theorem ref7_Own {B:Base}{w:World}(hS:St B [] w) (o:Int) :
 CW 41 #[.int .i64 o] w (Ret B (fun _:Unit=>True) (fun _=>.bool (ownF o)) (fun _=>[])):=by
 refine ZX Tryz.func41 hS ?_
 refine Zh (Zi (Zp J (Zn (Za (Zh (Zi (Zo J (Z2 J J (Zo J (ZS (ZT 5) (fun h5=>?_) (fun h5=>?_)))))))))))
 refine Zq J J (Zo J (Zq J J (oLeq J J (Zt J J (Zp J (Zzc ?_))))))
 exact ⟨(),trivial,by simp_all [resVal,ownF] <;> omega,Lh⟩
 refine Zr J J J J (Zr J J J J (Zu J J (Zp J (Zzc ?_))))
 exact ⟨(),trivial,by simp_all [resVal,ownF] <;> omega,Lh⟩
theorem ref7_names {B:Base}{w:World}(hS:St B [] w) (W0:World) :
 CW 93 #[] w (Ret B (fun _:Nat=>True) (fun b=>.slice (some ⟨b,0,none⟩) 28 28) (fun b=>[row Kd.string W0 9 (.slice (some ⟨b,0,none⟩) 28 28) namesL])):=by
 refine ZX Tryz.func93 hS ?_
 refine Zh (Zi (Zp J (Zn (Za (Zh (Zi ?_))))))
 refine oBuildSliceF (Parts.cons J (Parts.cons J (Parts.cons J (Parts.cons J (Parts.cons J (Parts.cons J (Parts.cons J (Parts.cons J (Parts.cons J (Parts.cons J (Parts.cons J (Parts.cons J (Parts.cons J (Parts.cons J (Parts.cons J (Parts.cons J (Parts.cons J (Parts.cons J (Parts.cons J (Parts.cons J (Parts.cons J (Parts.cons J (Parts.cons J (Parts.cons J (Parts.cons J (Parts.cons J (Parts.cons J (Parts.cons J Parts.nil)))))))))))))))))))))))))))) J J J J J (Fulls.cons ZP J (Fulls.cons ZP J (Fulls.cons ZP J (Fulls.cons ZP J (Fulls.cons ZP J (Fulls.cons ZP J (Fulls.cons ZP J (Fulls.cons ZP J (Fulls.cons ZP J (Fulls.cons ZP J (Fulls.cons ZP J (Fulls.cons ZP J (Fulls.cons ZP J (Fulls.cons ZP J (Fulls.cons ZP J (Fulls.cons ZP J (Fulls.cons ZP J (Fulls.cons ZP J (Fulls.cons ZP J (Fulls.cons ZP J (Fulls.cons ZP J (Fulls.cons ZP J (Fulls.cons ZP J (Fulls.cons ZP J (Fulls.cons ZP J (Fulls.cons ZP J (Fulls.cons ZP J (Fulls.cons ZP J Fulls.nil ap) ap) ap) ap) ap) ap) ap) ap) ap) ap) ap) ap) ap) ap) ap) ap) ap) ap) ap) ap) ap) ap) ap) ap) ap) ap) ap) ap) (fun b1=>?_)
 refine Zp J (Zzc ?_)
 exact ⟨b1,trivial,rfl,Leads.trans (blk_row (enc:=Value.string) (h1:=fun _=>rfl) (W:=W0) (xs:=namesL) ZP rfl rfl (by decide)) Lh⟩
theorem ref7_Name {B:Base}{w:World}(hS:St B [] w) (o:Int) :
 CW 42 #[.int .i64 o] w (Ret B (fun _:Unit=>True) (fun _=>.string (nameF o)) (fun _=>[])):=by
 refine ZX Tryz.func42 hS ?_
 refine Zh (Zi (Zp J (Zn (Za (Zh (Zi ?_))))))
 (refine ZC0 rfl ZK (fun w hS=>frame hS ZQ (fun B' hB hS'=>ref7_names hS' B.e)) ?_;rintro b4 -)
 refine Zp J (Zn (Za (Zh (Zh (Zi (Zo J (Zx J J (Zo J (ZS (ZT 7) (fun h7=>?_) (fun h7=>?_))))))))))
 refine Zr J J J J (Zr J J J J (Zr J J J J (Zr J J J J (Zt J J (Zn (Za (wCondT J (Zh (Zzb ?_)))))))))
 exact ⟨(),trivial,by unfold nameF;rw [if_neg ZO];rfl,Lh⟩
 refine Zq J J (Zo J (Zq J J (Zo J (Zq J J (Zv J J (Zq J J (Z1 J J (Zu J J (Zn (Za (wC (fun h12=>?_) (fun h12=>?_))))))))))))
 refine Zh (Zzb ?_)
 exact ⟨(),trivial,by unfold nameF;rw [if_neg ZO];rfl,Lh⟩
 obtain ⟨n,hn⟩:=Int.eq_ofNat_of_zero_le (show 0≤o-1 by omega)
 have hn28:n<28:=by omega
 refine Zj (Za (Zh (Zi (Zo J (Zo J ?_)))))
 first | refine oSub rfl rfl ZO ?_ | refine oSubW rfl rfl ?_
 rw [hn]
 refine ZR J J ZP (by first | exact hn28 | (show n<28;omega)) J J (fun g16 hg16=>?_)
 first | subst hg16 | (injection hg16 with hg16;injection hg16 with hg16;subst hg16)
 refine ZR1 J ZP (by first | exact hn28 | (show n<28;omega)) J (fun u17 hu17=>?_)
 obtain rfl:u17=namesL.getD n ByteArray.empty:=by rw [List.getD_eq_getElem?_getD,hu17];rfl
 refine Zp J (Zzc ?_)
 exact ⟨(),trivial,by unfold nameF;rw [if_pos ZO,hn,Int.toNat_natCast];rfl,Lh⟩
theorem shapeF_rr {o:Int}(h:4≤o∧o≤10):shapeF o=⟨#[119,114,114,45]⟩:=by
 have h1:∀ n,n<7→shapesL.getD (n+3) ByteArray.empty=⟨#[119,114,114,45]⟩:=by decide
 unfold shapeF
 rw [if_pos (ownF_iff.2 ZO)]
 have:=h1 (o-4).toNat ZO
 rwa [show (o-4).toNat+3=(o-1).toNat by omega] at this
theorem shapeF_out {o:Int}(h:¬ (1≤o∧o≤24)):shapeF o=ByteArray.empty:=by
 unfold shapeF
 rw [if_neg (fun k=>h (ownF_iff.1 k))]
theorem ref7_Shape {B:Base}{w:World}(hS:St B [] w) (o:Int) :
 CW 43 #[.int .i64 o] w (Ret B (fun _:Unit=>True) (fun _=>.string (shapeF o)) (fun _=>[])):=by
 refine ZX Tryz.func43 hS ?_
 refine Zh (Zi (Zp J (Zn (Za (Zh (Zh (Zi (Zo J (Z2 J J (Zo J (ZS (ZT 5) (fun h5=>?_) (fun h5=>?_))))))))))))
 refine Zq J J (Zo J (Zq J J (oLeq J J (Zt J J (Zn (Za (wC (fun h8=>?_) (fun h8=>?_))))))))
 refine Zh (Zzb ?_)
 exact ⟨(),trivial,by rw [shapeF_rr ZO];rfl,Lh⟩
 refine Zj (Zzg ?_)
 (refine ZC0 rfl ZK (fun w hS=>frame hS ZQ (fun B' hB hS'=>ref7_Name hS' o)) ?_;rintro ⟨⟩ -)
 refine Zn (Za (Zk (Zh (Zi (oSEq J J (Zp J (Zn (Za (wC (fun h11=>?_) (fun h11=>?_))))))))))
 refine Zh (Zza ?_)
 have ho:=name_case 0 (by decide) (by decide) h11
 exact ⟨(),trivial,by subst ho;rfl,Lh⟩
 refine Zh (Zi (oSEq J J (Zp J (Zn (Za (wC (fun h13=>?_) (fun h13=>?_)))))))
 refine Zh (Zza ?_)
 have ho:=name_case 1 (by decide) (by decide) h13
 exact ⟨(),trivial,by subst ho;rfl,Lh⟩
 refine Zh (Zh (Zi (oSEq J J (Zp J (Zn (Za (wC (fun h15=>?_) (fun h15=>?_))))))))
 refine Zj (Za (ZY h15 ?_))
 refine Zh (Zza ?_)
 have ho:o=3∨o=15:=by first | exact .inl (name_case 2 (by decide) (by decide) h15) | exact .inr (name_case 14 (by decide) (by decide) h15)
 exact ⟨(),trivial,by rcases ho with rfl | rfl <;> rfl,Lh⟩
 refine Zi (oSEq J J ?_)
 have n15:=name_not 2 (by decide) rfl h15
 refine Zp J (Zn (Za (wC (fun h15=>?_) (fun h15=>?_))))
 refine Zh (Zza ?_)
 have ho:o=3∨o=15:=by first | exact .inl (name_case 2 (by decide) (by decide) h15) | exact .inr (name_case 14 (by decide) (by decide) h15)
 exact ⟨(),trivial,by rcases ho with rfl | rfl <;> rfl,Lh⟩
 refine Zh (Zi (oSEq J J (Zp J (Zn (Za (wC (fun h18=>?_) (fun h18=>?_)))))))
 refine Zh (Zza ?_)
 have ho:=name_case 10 (by decide) (by decide) h18
 exact ⟨(),trivial,by subst ho;rfl,Lh⟩
 refine Zh (Zi (oSEq J J (Zp J (Zn (Za (wC (fun h20=>?_) (fun h20=>?_)))))))
 refine Zh (Zza ?_)
 have ho:=name_case 11 (by decide) (by decide) h20
 exact ⟨(),trivial,by subst ho;rfl,Lh⟩
 refine Zh (Zi (oSEq J J (Zp J (Zn (Za (wC (fun h22=>?_) (fun h22=>?_)))))))
 refine Zh (Zza ?_)
 have ho:=name_case 12 (by decide) (by decide) h22
 exact ⟨(),trivial,by subst ho;rfl,Lh⟩
 refine Zh (Zh (Zi (oSEq J J (Zp J (Zn (Za (wC (fun h24=>?_) (fun h24=>?_))))))))
 refine Zj (Za (ZY h24 ?_))
 refine Zh (Zza ?_)
 have ho:o=14∨o=22:=by first | exact .inl (name_case 13 (by decide) (by decide) h24) | exact .inr (name_case 21 (by decide) (by decide) h24)
 exact ⟨(),trivial,by rcases ho with rfl | rfl <;> rfl,Lh⟩
 refine Zi (oSEq J J ?_)
 have n24:=name_not 13 (by decide) rfl h24
 refine Zp J (Zn (Za (wC (fun h24=>?_) (fun h24=>?_))))
 refine Zh (Zza ?_)
 have ho:o=14∨o=22:=by first | exact .inl (name_case 13 (by decide) (by decide) h24) | exact .inr (name_case 21 (by decide) (by decide) h24)
 exact ⟨(),trivial,by rcases ho with rfl | rfl <;> rfl,Lh⟩
 refine Zh (Zi (oSEq J J (Zp J (Zn (Za (wC (fun h27=>?_) (fun h27=>?_)))))))
 refine Zh (Zza ?_)
 have ho:=name_case 15 (by decide) (by decide) h27
 exact ⟨(),trivial,by subst ho;rfl,Lh⟩
 refine Zh (Zi (oSEq J J (Zp J (Zn (Za (wC (fun h29=>?_) (fun h29=>?_)))))))
 refine Zh (Zza ?_)
 have ho:=name_case 16 (by decide) (by decide) h29
 exact ⟨(),trivial,by subst ho;rfl,Lh⟩
 refine Zh (Zi (oSEq J J (Zp J (Zn (Za (wC (fun h31=>?_) (fun h31=>?_)))))))
 refine Zh (Zza ?_)
 have ho:=name_case 17 (by decide) (by decide) h31
 exact ⟨(),trivial,by subst ho;rfl,Lh⟩
 refine Zh (Zi (oSEq J J (Zp J (Zn (Za (wC (fun h33=>?_) (fun h33=>?_)))))))
 refine Zh (Zza ?_)
 have ho:=name_case 18 (by decide) (by decide) h33
 exact ⟨(),trivial,by subst ho;rfl,Lh⟩
 refine Zh (Zi (oSEq J J (Zp J (Zn (Za (wC (fun h35=>?_) (fun h35=>?_)))))))
 refine Zh (Zza ?_)
 have ho:=name_case 19 (by decide) (by decide) h35
 exact ⟨(),trivial,by subst ho;rfl,Lh⟩
 refine Zh (Zi (oSEq J J (Zp J (Zn (Za (wC (fun h37=>?_) (fun h37=>?_)))))))
 refine Zh (Zza ?_)
 have ho:=name_case 20 (by decide) (by decide) h37
 exact ⟨(),trivial,by subst ho;rfl,Lh⟩
 refine Zh (Zi (oSEq J J (Zp J (Zn (Za (wC (fun h39=>?_) (fun h39=>?_)))))))
 refine Zh (Zza ?_)
 have ho:=name_case 22 (by decide) (by decide) h39
 exact ⟨(),trivial,by subst ho;rfl,Lh⟩
 refine Zh (Zi (oSEq J J (Zp J (Zn (Za (wC (fun h41=>?_) (fun h41=>?_)))))))
 refine Zh (Zza ?_)
 have ho:=name_case 23 (by decide) (by decide) h41
 exact ⟨(),trivial,by subst ho;rfl,Lh⟩
 refine Zh (Zza ?_)
 have n1:=name_not 0 (by decide) rfl h11
 have n2:=name_not 1 (by decide) rfl h13
 have n3:=name_not 14 (by decide) rfl h15
 have n4:=name_not 10 (by decide) rfl h18
 have n5:=name_not 11 (by decide) rfl h20
 have n6:=name_not 12 (by decide) rfl h22
 have n7:=name_not 21 (by decide) rfl h24
 have n8:=name_not 15 (by decide) rfl h27
 have n9:=name_not 16 (by decide) rfl h29
 have n10:=name_not 17 (by decide) rfl h31
 have n11:=name_not 18 (by decide) rfl h33
 have n12:=name_not 19 (by decide) rfl h35
 have n13:=name_not 20 (by decide) rfl h37
 have n14:=name_not 22 (by decide) rfl h39
 have n16:=name_not 23 (by decide) rfl h41
 exact ⟨(),trivial,by rw [shapeF_out ZO];rfl,Lh⟩
 refine Zr J J J J (Zr J J J J (Zu J J (Zn (Za (wCondF J (Zj (Zzg ?_)))))))
 (refine ZC0 rfl ZK (fun w hS=>frame hS ZQ (fun B' hB hS'=>ref7_Name hS' o)) ?_;rintro ⟨⟩ -)
 refine Zn (Za (Zk (Zh (Zi (oSEq J J (Zp J (Zn (Za (wC (fun h11=>?_) (fun h11=>?_))))))))))
 refine Zh (Zza ?_)
 have ho:=name_case 0 (by decide) (by decide) h11
 exact ⟨(),trivial,by subst ho;rfl,Lh⟩
 refine Zh (Zi (oSEq J J (Zp J (Zn (Za (wC (fun h13=>?_) (fun h13=>?_)))))))
 refine Zh (Zza ?_)
 have ho:=name_case 1 (by decide) (by decide) h13
 exact ⟨(),trivial,by subst ho;rfl,Lh⟩
 refine Zh (Zh (Zi (oSEq J J (Zp J (Zn (Za (wC (fun h15=>?_) (fun h15=>?_))))))))
 refine Zj (Za (ZY h15 ?_))
 refine Zh (Zza ?_)
 have ho:o=3∨o=15:=by first | exact .inl (name_case 2 (by decide) (by decide) h15) | exact .inr (name_case 14 (by decide) (by decide) h15)
 exact ⟨(),trivial,by rcases ho with rfl | rfl <;> rfl,Lh⟩
 refine Zi (oSEq J J ?_)
 have n15:=name_not 2 (by decide) rfl h15
 refine Zp J (Zn (Za (wC (fun h15=>?_) (fun h15=>?_))))
 refine Zh (Zza ?_)
 have ho:o=3∨o=15:=by first | exact .inl (name_case 2 (by decide) (by decide) h15) | exact .inr (name_case 14 (by decide) (by decide) h15)
 exact ⟨(),trivial,by rcases ho with rfl | rfl <;> rfl,Lh⟩
 refine Zh (Zi (oSEq J J (Zp J (Zn (Za (wC (fun h18=>?_) (fun h18=>?_)))))))
 refine Zh (Zza ?_)
 have ho:=name_case 10 (by decide) (by decide) h18
 exact ⟨(),trivial,by subst ho;rfl,Lh⟩
 refine Zh (Zi (oSEq J J (Zp J (Zn (Za (wC (fun h20=>?_) (fun h20=>?_)))))))
 refine Zh (Zza ?_)
 have ho:=name_case 11 (by decide) (by decide) h20
 exact ⟨(),trivial,by subst ho;rfl,Lh⟩
 refine Zh (Zi (oSEq J J (Zp J (Zn (Za (wC (fun h22=>?_) (fun h22=>?_)))))))
 refine Zh (Zza ?_)
 have ho:=name_case 12 (by decide) (by decide) h22
 exact ⟨(),trivial,by subst ho;rfl,Lh⟩
 refine Zh (Zh (Zi (oSEq J J (Zp J (Zn (Za (wC (fun h24=>?_) (fun h24=>?_))))))))
 refine Zj (Za (ZY h24 ?_))
 refine Zh (Zza ?_)
 have ho:o=14∨o=22:=by first | exact .inl (name_case 13 (by decide) (by decide) h24) | exact .inr (name_case 21 (by decide) (by decide) h24)
 exact ⟨(),trivial,by rcases ho with rfl | rfl <;> rfl,Lh⟩
 refine Zi (oSEq J J ?_)
 have n24:=name_not 13 (by decide) rfl h24
 refine Zp J (Zn (Za (wC (fun h24=>?_) (fun h24=>?_))))
 refine Zh (Zza ?_)
 have ho:o=14∨o=22:=by first | exact .inl (name_case 13 (by decide) (by decide) h24) | exact .inr (name_case 21 (by decide) (by decide) h24)
 exact ⟨(),trivial,by rcases ho with rfl | rfl <;> rfl,Lh⟩
 refine Zh (Zi (oSEq J J (Zp J (Zn (Za (wC (fun h27=>?_) (fun h27=>?_)))))))
 refine Zh (Zza ?_)
 have ho:=name_case 15 (by decide) (by decide) h27
 exact ⟨(),trivial,by subst ho;rfl,Lh⟩
 refine Zh (Zi (oSEq J J (Zp J (Zn (Za (wC (fun h29=>?_) (fun h29=>?_)))))))
 refine Zh (Zza ?_)
 have ho:=name_case 16 (by decide) (by decide) h29
 exact ⟨(),trivial,by subst ho;rfl,Lh⟩
 refine Zh (Zi (oSEq J J (Zp J (Zn (Za (wC (fun h31=>?_) (fun h31=>?_)))))))
 refine Zh (Zza ?_)
 have ho:=name_case 17 (by decide) (by decide) h31
 exact ⟨(),trivial,by subst ho;rfl,Lh⟩
 refine Zh (Zi (oSEq J J (Zp J (Zn (Za (wC (fun h33=>?_) (fun h33=>?_)))))))
 refine Zh (Zza ?_)
 have ho:=name_case 18 (by decide) (by decide) h33
 exact ⟨(),trivial,by subst ho;rfl,Lh⟩
 refine Zh (Zi (oSEq J J (Zp J (Zn (Za (wC (fun h35=>?_) (fun h35=>?_)))))))
 refine Zh (Zza ?_)
 have ho:=name_case 19 (by decide) (by decide) h35
 exact ⟨(),trivial,by subst ho;rfl,Lh⟩
 refine Zh (Zi (oSEq J J (Zp J (Zn (Za (wC (fun h37=>?_) (fun h37=>?_)))))))
 refine Zh (Zza ?_)
 have ho:=name_case 20 (by decide) (by decide) h37
 exact ⟨(),trivial,by subst ho;rfl,Lh⟩
 refine Zh (Zi (oSEq J J (Zp J (Zn (Za (wC (fun h39=>?_) (fun h39=>?_)))))))
 refine Zh (Zza ?_)
 have ho:=name_case 22 (by decide) (by decide) h39
 exact ⟨(),trivial,by subst ho;rfl,Lh⟩
 refine Zh (Zi (oSEq J J (Zp J (Zn (Za (wC (fun h41=>?_) (fun h41=>?_)))))))
 refine Zh (Zza ?_)
 have ho:=name_case 23 (by decide) (by decide) h41
 exact ⟨(),trivial,by subst ho;rfl,Lh⟩
 refine Zh (Zza ?_)
 have n1:=name_not 0 (by decide) rfl h11
 have n2:=name_not 1 (by decide) rfl h13
 have n3:=name_not 14 (by decide) rfl h15
 have n4:=name_not 10 (by decide) rfl h18
 have n5:=name_not 11 (by decide) rfl h20
 have n6:=name_not 12 (by decide) rfl h22
 have n7:=name_not 21 (by decide) rfl h24
 have n8:=name_not 15 (by decide) rfl h27
 have n9:=name_not 16 (by decide) rfl h29
 have n10:=name_not 17 (by decide) rfl h31
 have n11:=name_not 18 (by decide) rfl h33
 have n12:=name_not 19 (by decide) rfl h35
 have n13:=name_not 20 (by decide) rfl h37
 have n14:=name_not 22 (by decide) rfl h39
 have n16:=name_not 23 (by decide) rfl h41
 exact ⟨(),trivial,by rw [shapeF_out ZO];rfl,Lh⟩
theorem opd_at (x:ApiInstr) {i:Nat}(h:i<4):opdF x (i:Int)=(numsL x).getD (1+i) 0:=by
 unfold opdF
 rw [if_neg ZO,Int.toNat_natCast]
theorem ref8_Operand {B:Base}{w:World}(hS:St B [] w) (x:ApiInstr) (xc:List Value) (hx:kApiInstr.K B.e x xc) (i:Int) :
 CW 47 #[.agg xc.toArray,.int .i64 i] w (Ret B (fun _:Unit=>True) (fun _=>.int .i64 (opdF x i)) (fun _=>[])):=by
 obtain rfl:=kApiInstr_open hx
 refine ZX Tryz.func47 hS ?_
 refine Zh (Zi (oBox J ZP (fun b2=>?_)))
 refine Zp J (Zn (Za (Zh (Zi (Zo J (Zn (Za (Zk (Zh (Zi (Zy J J (Zp J (Zn (Za (wC (fun h6=>?_) (fun h6=>?_))))))))))))))))
 refine Zh (Zi (Zz (n:=1) (m:=1) J J J (Zld ?_)))
 refine Zp J (Zn (Za (Zl (Zf (Zw (fi1 J ?_))))))
 exact ⟨(),trivial,by subst h6;rfl,Lh⟩
 refine Zh (Zi (Zy J J (Zp J (Zn (Za (wC (fun h10=>?_) (fun h10=>?_)))))))
 refine Zh (Zi (Zz (n:=2) (m:=2) J J J (Zld ?_)))
 refine Zp J (Zn (Za (Zl (Zf (Zw (fi1 J ?_))))))
 exact ⟨(),trivial,by subst h10;rfl,Lh⟩
 refine Zh (Zi (Zy J J (Zp J (Zn (Za (wC (fun h14=>?_) (fun h14=>?_)))))))
 refine Zh (Zi (Zz (n:=3) (m:=3) J J J (Zld ?_)))
 refine Zp J (Zn (Za (Zl (Zf (Zw (fi1 J ?_))))))
 exact ⟨(),trivial,by subst h14;rfl,Lh⟩
 refine Zh (Zi (Zy J J (Zp J (Zn (Za (wC (fun h18=>?_) (fun h18=>?_)))))))
 refine Zh (Zi (Zz (n:=4) (m:=4) J J J (Zld ?_)))
 refine Zp J (Zn (Za (Zl (Zf (Zw (fi1 J ?_))))))
 exact ⟨(),trivial,by subst h18;rfl,Lh⟩
 refine Zh (Zza ?_)
 exact ⟨(),trivial,by unfold opdF;rw [if_pos ZO];rfl,Lh⟩
theorem ref8_Check {B:Base}{w:World}(hS:St B [] w) (x:ApiInstr) (xc:List Value) (hx:kApiInstr.K B.e x xc) :
 CW 40 #[.agg xc.toArray] w (Ret B (fun _:Unit=>True) (fun _=>.int .i64 (icF x)) (fun _=>[])):=by
 obtain rfl:=kApiInstr_open hx
 have hsz:=shapeF_size x.fOp
 refine ZX Tryz.func40 hS ?_
 refine Zh (Zi (oBox J ZP (fun b1=>?_)))
 refine Zp J (Zn (Za (Zh (Zh (Zi (Zz (n:=0) (m:=0) J J J (Zld ?_)))))))
 (refine ZC0 rfl ZK (fun w hS=>frame hS ZQ (fun B' hB hS'=>ref7_Name hS' x.fOp)) ?_;rintro ⟨⟩ -)
 refine oSEq J J (Zn (Za (wC (fun h9=>?_) (fun h9=>?_))))
 refine Zh (Zzb ?_)
 exact ⟨(),trivial,by unfold icF;rw [if_pos (show nameF x.fOp=ByteArray.empty from h9)];rfl,Lh⟩
 have hnm:¬ nameF x.fOp=ByteArray.empty:=h9
 refine Zj (Za (Zh (Zh (Zi (Zp J (Zn (Za (Zk (wLoop (ι:=Nat) (fun i=>[(1,.pointer (some ⟨b1,0,none⟩)),(3,.int .i64 (i:Int))]) (fun i=>[blk b1 23 [.int .i64 x.fOp,.int .i64 x.fA,.int .i64 x.fB,.int .i64 x.fC,.int .i64 x.fN]]) (fun i=>i≤3∧∀ j,j<i→badA x j=false) (fun i=>3-i) 0 ?_ cv (Leads.has ZQ) ?_)))))))))
 exact ⟨Nat.zero_le _,fun j hj=>by omega⟩
 rintro i ⟨hi,hs⟩
 try dsimp only
 refine Zh (Zh (Zi (Zo J (Zx J J (Zn (Za (wC (fun h11=>?_) (fun h11=>?_))))))))
 have hi3:i<3:=by omega
 have hoa:=opd_at x (show i<4 by omega)
 refine Zj (Za (Zh (Zk (Zh (Zi (Zla ?_))))))
 refine Zo J ?_
 (refine ZC0 rfl ZK (fun w hS=>frame hS ZQ (fun B' hB hS'=>ref8_Operand hS' x _ (kApiInstr_mk _ x) (i:Int))) ?_;rintro ⟨⟩ -)
 rw [hoa]
 refine Zx J J (Zo J (ZS (ZT 18) (fun h18=>?_) (fun h18=>?_)))
 refine Zr J J J J (Zr J J J J (Zr J J J J (Zr J J J J (Zt J J (Zn (Za (wCondT J (Zh (Zi (Zp J (Zzf ?_)))))))))))
 exact ⟨(),trivial,by unfold icF;rw [if_neg hnm,if_pos (any_T hi3 (by unfold badA;exact decide_eq_true (.inl h18)))];rfl,Lh⟩
 refine Zq J J (Zla ?_)
 refine Zq J J (Zo J (Zq J J ?_))
 (refine ZC0 rfl ZK (fun w hS=>frame hS ZQ (fun B' hB hS'=>ref8_Operand hS' x _ (kApiInstr_mk _ x) (i:Int))) ?_;rintro ⟨⟩ -)
 rw [hoa]
 refine Zq J J (Z1 J J (Zu J J (Zn (Za (wC (fun h23=>?_) (fun h23=>?_))))))
 refine Zh (Zi (Zp J (Zzf ?_)))
 exact ⟨(),trivial,by unfold icF;rw [if_neg hnm,if_pos (any_T hi3 (by unfold badA;exact decide_eq_true (.inr h23)))];rfl,Lh⟩
 refine Zj (Zd (Zze ?_))
 refine Zp J (Zn (Za ?_))
 exact ⟨rfl,i+1,⟨by omega,fun j hj=>by
 by_cases e:j=i
 · subst e;unfold badA;exact decide_eq_false ZO
 · exact hs j ZO⟩,by omega,cv,Lh⟩
 obtain rfl:i=3:=by omega
 have hA:=any_F hs
 refine Zm (Zb (Zb (Ze (Za (Zh (Zh (Zi (Zz (n:=4) (m:=4) J J J (Zld ?_)))))))))
 refine Zx J J (Zo J (ZS (ZT 27) (fun h27=>?_) (fun h27=>?_)))
 refine Zr J J J J (Zr J J J J (Zr J J J J (Zt J J (Zn (Za (wCondT J (Zh (Zzb ?_))))))))
 exact ⟨(),trivial,by unfold icF;rw [if_neg hnm,if_neg (by rw [hA];simp),if_pos (.inl h27)];rfl,Lh⟩
 refine Zq J J (Zz (n:=4) (m:=4) J J J (Zq J J (Zld ?_)))
 refine Zq J J (Z1 J J (Zu J J (Zn (Za (wC (fun h31=>?_) (fun h31=>?_))))))
 refine Zh (Zzb ?_)
 exact ⟨(),trivial,by unfold icF;rw [if_neg hnm,if_neg (by rw [hA];simp),if_pos (.inr h31)];rfl,Lh⟩
 refine Zj (Za (Zh (Zi (Zz (n:=0) (m:=0) J J J (Zld ?_)))))
 (refine ZC0 rfl ZK (fun w hS=>frame hS ZQ (fun B' hB hS'=>ref7_Shape hS' x.fOp)) ?_;rintro ⟨⟩ -)
 refine Zp J (Zn (Za (Zh (Zh (Zi (Zp J (Zn (Za (Zk (wLoop (ι:=Nat) (fun i=>[(1,.pointer (some ⟨b1,0,none⟩)),(4,.string (shapeF x.fOp)),(5,.int .i64 (i:Int))]) (fun i=>[blk b1 23 [.int .i64 x.fOp,.int .i64 x.fA,.int .i64 x.fB,.int .i64 x.fC,.int .i64 x.fN]]) (fun i=>i≤(shapeF x.fOp).size∧∀ j,j<i→badS x j=false) (fun i=>(shapeF x.fOp).size-i) 0 ?_ cv (Leads.has ZQ) ?_))))))))))
 exact ⟨Nat.zero_le _,fun j hj=>by omega⟩
 rintro i ⟨hi,hs⟩
 try dsimp only
 refine Zh (Zh (Zi (Zo J (Zo J (oLenStr J J (Zx J J (Zn (Za (wC (fun h38=>?_) (fun h38=>?_))))))))))
 have hi4:i<(shapeF x.fOp).size:=by omega
 have hi5:i<4:=by rw [hsz] at hi4;split at hi4 <;> omega
 have hoa:=opd_at x hi5
 refine Zj (Za (Zh (Zk (Zh (Zi (Zo J (Zo J (oIndexStr J J J hi4 (Zy J J (Zo J (ZS (ZT 45) (fun h45=>?_) (fun h45=>?_))))))))))))
 refine Zq J J (Zla ?_)
 refine Zq J J (Zo J (Zq J J ?_))
 (refine ZC0 rfl ZK (fun w hS=>frame hS ZQ (fun B' hB hS'=>ref8_Operand hS' x _ (kApiInstr_mk _ x) (i:Int))) ?_;rintro ⟨⟩ -)
 rw [hoa]
 refine Zq J J (Z0 J J (Zt J J (Zn (Za (wC (fun h50=>?_) (fun h50=>?_))))))
 refine Zh (Zi (Zp J (Zzf ?_)))
 exact ⟨(),trivial,by unfold icF;rw [if_neg hnm,if_neg (by rw [hA];simp),if_neg ZO,if_pos (any_T hi4 (by unfold badS;simp_all))];rfl,Lh⟩
 refine Zj (Zd (Zze ?_))
 refine Zp J (Zn (Za ?_))
 exact ⟨rfl,i+1,⟨by omega,fun j hj=>by
 by_cases e:j=i
 · subst e;unfold badS;simp_all
 · exact hs j ZO⟩,by omega,cv,Lh⟩
 refine Zr J J J J (Zr J J J J (Zr J J J J (Zr J J J J (Zu J J (Zn (Za (wCondF J (Zj (Zd (Zze ?_))))))))))
 refine Zp J (Zn (Za ?_))
 exact ⟨rfl,i+1,⟨by omega,fun j hj=>by
 by_cases e:j=i
 · subst e;unfold badS;simp_all
 · exact hs j ZO⟩,by omega,cv,Lh⟩
 refine Zm (Zb (Zb (Ze (Za (Zh (Zi (Zp J (Zzc ?_))))))))
 obtain rfl:i=(shapeF x.fOp).size:=by omega
 exact ⟨(),trivial,by unfold icF;rw [if_neg hnm,if_neg (by rw [hA];simp),if_neg ZO,if_neg (by rw [any_F hs];simp)];rfl,Lh⟩
end Go.Proofs.YtpmdhkjbhjgoaaaGreatDoorV
namespace Go.Proofs.YtpmdhkjbhjgoaaaGreatDoorR
set_option maxRecDepth 100000
set_option maxHeartbeats 4000000
open Go.RowKit Go.Proofs.YtpmdhkjbhjgoaaaGreatDoorK Go.Proofs.YtpmdhkjbhjgoaaaGreatDoorT Go.Proofs.YtpmdhkjbhjgoaaaGreatDoorL
open Go.Proofs.YtpmdhkjbhjgoaaaGreatDoorV (isC isC_iff textsL textF textF_no strs_at ownF ownF_iff shapesL namesL shapeF nameF shapeF_size shapeF_asc numsL nums_at opdF badA badS icF ref5_Text ref5_Is ref5_Class ref7_Own ref7_Name ref7_names ref7_Shape ref8_Check ref8_Operand)
open Go.Proofs.YtpmdhkjbhjgoaaaGreatDoorN (idxI idxI_stop idxI_none take_not ref_Digits decF)

theorem text_at {n:Nat}(h:n<9):textsL[n]?=some (textF (n:Int)):=by
 have e:textF (n:Int)=textsL.getD n ByteArray.empty:=by unfold textF;rw [if_pos ZO,Int.toNat_natCast]
 rw [e,List.getD_eq_getElem?_getD,List.getElem?_eq_getElem (show n<textsL.length from h)];rfl
theorem ref5_Parse {B:Base}{w:World}(hS:St B [] w) (x:ByteArray) :
 CW 99 #[.string x] w (Ret B (fun _:Unit=>True) (fun _=>.tuple #[.int .i64 (kindF x),.bool (decide (0≤plcF textsL x))]) (fun _=>[])):=by
 refine ZX Tryz.func99 hS ?_
 refine Zh (Zi (Zp J (Zp J (Zn (Za (Zh (Zh (Zi (Zp J (Zn (Za (Zk (wLoop (ι:=Nat) (fun i=>[(0,.string x),(4,.int .i64 (i:Int))]) (fun i=>[]) (fun i=>i≤9∧∀ y ∈ textsL.take i,decide (x=y)=false) (fun i=>9-i) 0 ?_ cv (Leads.has ZQ) ?_)))))))))))))
 exact ⟨Nat.zero_le _,fun y hy=>by simp at hy⟩
 rintro i ⟨hi,hv⟩
 try dsimp only
 refine Zh (Zh (Zi (Zo J (oLeq J J (Zn (Za (wC (fun h6=>?_) (fun h6=>?_))))))))
 refine Zj (Za (Zh (Zk (Zh (Zi (Zo J ?_))))))
 (refine ZC0 rfl ZK (fun w hS=>frame hS ZQ (fun B' hB hS'=>ref5_Text hS' (i:Int) (by unfold in64;omega))) ?_;rintro ⟨⟩ -)
 refine Zo J (oSEq J J (Zn (Za (wC (fun h12=>?_) (fun h12=>?_)))))
 refine Zh (Zi (Zo J (Zp J (Zp J (Zn (Za (Zl (Zf (Zc (Zc (Zf (Zc (Zw ?_)))))))))))))
 refine ⟨rfl,_,(ResL.cons (ResR.tmp rfl) (ResL.cons (ResR.tmp rfl) ResL.nil)),?_⟩
 have hp:plcF textsL x=(i:Int):=idxI_stop hv (text_at ZO) (decide_eq_true h12.symm)
 exact ⟨(),trivial,by unfold kindF;rw [hp,if_neg ZO,decide_eq_true ZO];rfl,Lh⟩
 refine Zj (Zd (Zze ?_))
 refine Zp J (Zn (Za ?_))
 exact ⟨rfl,i+1,⟨by omega,take_not hv (text_at ZO) (decide_eq_false (fun e=>h12 e.symm))⟩,by omega,cv,Lh⟩
 refine Zm (Zb (Zb (Ze (Za (Zh (Zi (Zp J (Zp J (Zn (Za (Zl (Zw ?_))))))))))))
 refine ⟨rfl,_,(ResL.cons (ResR.tmp rfl) (ResL.cons (ResR.tmp rfl) ResL.nil)),?_⟩
 obtain rfl:i=9:=by omega
 have hp:plcF textsL x = -1:=idxI_none hv
 exact ⟨(),trivial,by unfold kindF;rw [hp];rfl,Lh⟩
theorem ref7_Find {B:Base}{w:World}(hS:St B [] w) (x:ByteArray) :
 CW 52 #[.string x] w (Ret B (fun _:Unit=>True) (fun _=>.int .i64 (findF x)) (fun _=>[])):=by
 refine ZX Tryz.func52 hS ?_
 refine Zh (Zi (Zp J (Zn (Za (Zh (Zi ?_))))))
 (refine ZC0 rfl ZK (fun w hS=>frame hS ZQ (fun B' hB hS'=>ref7_names hS' B.e)) ?_;rintro b5 -)
 refine Zp J (Zn (Za (Zh (Zh (Zi (Zp J (Zn (Za (Zk (wLoop (ι:=Nat) (fun i=>[(0,.string x),(3,.slice (some ⟨b5,0,none⟩) 28 28),(4,.int .i64 (i:Int))]) (fun i=>[row Kd.string B.e 9 (.slice (some ⟨b5,0,none⟩) 28 28) namesL]) (fun i=>i≤28∧∀ y ∈ namesL.take i,decide (x=y)=false) (fun i=>28-i) 0 ?_ cv (Leads.has ZQ) ?_))))))))))
 exact ⟨Nat.zero_le _,fun y hy=>by simp at hy⟩
 rintro i ⟨hi,hv⟩
 try dsimp only
 refine Zh (Zh (Zi (Zo J (Zo J (Zv J J (Zx J J (Zn (Za (wC (fun h9=>?_) (fun h9=>?_))))))))))
 refine Zj (Za (Zh (Zk (Zh (Zi (Zo J (Zo J ?_)))))))
 refine ZR J J ZP (by first | (show i<28;omega) | (show i<namesL.length;rw [show namesL.length=28 from J];omega)) J J (fun g14 hg14=>?_)
 first | subst hg14 | (injection hg14 with hg14;injection hg14 with hg14;subst hg14)
 refine ZR1 J ZP (by first | (show i<28;omega) | (show i<namesL.length;rw [show namesL.length=28 from J];omega)) J (fun u15 hu15=>?_)
 refine Zo J (oSEq J J (Zn (Za (wC (fun h17=>?_) (fun h17=>?_)))))
 refine Zh (Zi (Zo J (Zsu ?_)))
 refine Zp J (Zzf ?_)
 have hp:plcF namesL x=(i:Int):=idxI_stop hv hu15 (decide_eq_true h17.symm)
 exact ⟨(),trivial,by unfold findF;rw [hp];rfl,Lh⟩
 refine Zj (Zd (Zze ?_))
 refine Zp J (Zn (Za ?_))
 exact ⟨rfl,i+1,⟨by omega,take_not hv hu15 (decide_eq_false (fun e=>h17 e.symm))⟩,by omega,cv,Lh⟩
 refine Zm (Zb (Zb (Ze (Za (Zh (Zi (Zp J (Zzc ?_))))))))
 obtain rfl:i=28:=by omega
 have hp:plcF namesL x = -1:=idxI_none hv
 exact ⟨(),trivial,by unfold findF;rw [hp];rfl,Lh⟩
theorem opk_zero {x:ByteArray}(h:kindF x=0):operF 107 x=(0,false):=by
 unfold operF
 rw [if_pos rfl,h]
 have e:clsF 0=(0,false):=by decide
 rw [e];simp
theorem opk_pos {x:ByteArray}(h:¬ kindF x=0):operF 107 x=(kindF x-1,true):=by
 have hp:=plcF_in textsL x
 have hl:textsL.length=9:=rfl
 unfold kindF at h ⊢
 split at h
 · exact absurd rfl h
 · next k=>
   rw [if_neg k]
   have h9:plcF textsL x≤8:=by
    unfold plcF at k h ⊢
    obtain ⟨m,y,e,hy,_⟩:=Go.Proofs.YtpmdhkjbhjgoaaaGreatDoorN.idxI_at (show 0≤idxI (fun y=>decide (x=y)) textsL by omega)
    have:=(List.getElem?_eq_some_iff.1 hy).1
    omega
   unfold operF clsF kindF
   rw [if_pos rfl,if_neg k,wrap_in ⟨by omega,by omega⟩,decide_eq_true ZO,Bool.true_and]
   have hc:isC (plcF textsL x-1)=true:=isC_iff.2 ZO
   rw [hc];rfl
theorem kind_in (x:ByteArray):0≤kindF x∧kindF x≤9:=by
 have hp:=plcF_in textsL x
 have hl:textsL.length=9:=rfl
 unfold kindF
 split <;> omega
theorem kind_no {x:ByteArray}(h:¬ 0≤plcF textsL x):kindF x=0:=by unfold kindF;rw [if_pos ZO]
theorem ref9_operand {B:Base}{w:World}(hS:St B [] w) (k:Int) (x:ByteArray) :
 CW 53 #[.int .u8 k,.string x] w (Ret B (fun _:Unit=>True) (fun _=>.tuple #[.int .i64 (operF k x).1,.bool (operF k x).2]) (fun _=>[])):=by
 have hki:=kind_in x
 refine ZX Tryz.func53 hS ?_
 refine Zh (Zi (Zp J (Zp J (Zn (Za (Zh (Zh (Zi (Zo J (Z0 J J (Zn (Za (wC (fun h9=>?_) (fun h9=>?_))))))))))))))
 refine Zh (Zi (Zo J ?_))
 (refine ZC0 rfl ZK (fun w hS=>frame hS ZQ (fun B' hB hS'=>ref1_Number hS' x)) ?_;rintro ⟨⟩ -)
 refine oExt J ZP ?_
 refine oExt J ZP ?_
 refine Zp J (Zp J (Zn (Za (Zl (Zc (Zw ?_))))))
 refine ⟨rfl,_,(ResL.cons (ResR.tmp rfl) (ResL.cons (ResR.tmp rfl) ResL.nil)),?_⟩
 exact ⟨(),trivial,by unfold operF;rw [if_neg h9];rfl,Lh⟩
 obtain rfl:k=107:=Classical.not_not.1 h9
 refine Zj (Zzg ?_)
 (refine ZC0 rfl ZK (fun w hS=>frame hS ZQ (fun B' hB hS'=>ref5_Parse hS' x)) ?_;rintro ⟨⟩ -)
 refine Zo J (oExt J ZP ?_)
 refine oExt J ZP ?_
 refine Zp J (Zp J (Zn (Za (Zh (Zh (Zi (Zo J (Zno ?_))))))))
 refine Zo J (ZS (ZT 21) (fun h21=>?_) (fun h21=>?_))
 refine Zr J J J J (Zr J J J J (Zt J J (Zn (Za (wCondT J (Zh (Zzd ?_)))))))
 refine ⟨rfl,_,(ResL.cons (ResR.tmp rfl) (ResL.cons (ResR.tmp rfl) ResL.nil)),?_⟩
 exact ⟨(),trivial,by rw [opk_zero (kind_no (by simpa using h21))];rfl,Lh⟩
 refine Zq J J (Zo J (Zq J J (Zy J J (Zu J J (Zn (Za (wC (fun h24=>?_) (fun h24=>?_))))))))
 refine Zh (Zzd ?_)
 refine ⟨rfl,_,(ResL.cons (ResR.tmp rfl) (ResL.cons (ResR.tmp rfl) ResL.nil)),?_⟩
 exact ⟨(),trivial,by rw [opk_zero h24];rfl,Lh⟩
 refine Zj (Za (Zh (Zi (Zo J (oSub J J ZO ?_)))))
 refine Zp J (Zp J (Zn (Za (Zl (Zw ?_)))))
 refine ⟨rfl,_,(ResL.cons (ResR.tmp rfl) (ResL.cons (ResR.tmp rfl) ResL.nil)),?_⟩
 exact ⟨(),trivial,by rw [opk_pos h24];rfl,Lh⟩
theorem ref8_With0 {B:Base}{w:World}(hS:St B [] w) (x:ApiInstr) (n:Int) :
 CW 54 #[insV x,.int .i64 0,.int .i64 n] w (Ret B (fun _:Unit=>True) (fun _=>insV (withF x 0 n)) (fun _=>[])):=by
 unfold insV
 refine ZX Tryz.func54 hS ?_
 refine Zh (Zi (oBox J ZP (fun b3=>?_)))
 refine oAlloc J ZP (fun b6=>?_)
 refine Zn (Za (Zh (Zh (Zi (Zo J (Zn (Za (Zk (Zh (Zi (Zy J J (Zp J (Zn (Za (wC (fun h8=>?_) (fun h8=>?_))))))))))))))))
 refine Zi (Zo J (Zz (n:=1) (m:=1) J J J (Zst ?_)))
 refine Zn (Zd (Za (Zh (Zi (Zla ?_)))))
 refine Zsa ?_
 refine Zn (Za (Zl (Zw (ZI ?_))))
 exact ⟨(),trivial,rfl,Lh⟩
 exact absurd rfl h8
theorem ref8_With1 {B:Base}{w:World}(hS:St B [] w) (x:ApiInstr) (n:Int) :
 CW 54 #[insV x,.int .i64 1,.int .i64 n] w (Ret B (fun _:Unit=>True) (fun _=>insV (withF x 1 n)) (fun _=>[])):=by
 unfold insV
 refine ZX Tryz.func54 hS ?_
 refine Zh (Zi (oBox J ZP (fun b3=>?_)))
 refine oAlloc J ZP (fun b6=>?_)
 refine Zn (Za (Zh (Zh (Zi (Zo J (Zn (Za (Zk (Zh (Zi (Zy J J (Zp J (Zn (Za (wC (fun h8=>?_) (fun h8=>?_))))))))))))))))
 exact absurd h8 (by decide)
 refine Zh (Zi (Zy J J (Zp J (Zn (Za (wC (fun h12=>?_) (fun h12=>?_)))))))
 refine Zi (Zo J (Zz (n:=2) (m:=2) J J J (Zst ?_)))
 refine Zn (Zd (Za (Zh (Zi (Zla ?_)))))
 refine Zsa ?_
 refine Zn (Za (Zl (Zw (ZI ?_))))
 exact ⟨(),trivial,rfl,Lh⟩
 exact absurd rfl h12
theorem ref8_With2 {B:Base}{w:World}(hS:St B [] w) (x:ApiInstr) (n:Int) :
 CW 54 #[insV x,.int .i64 2,.int .i64 n] w (Ret B (fun _:Unit=>True) (fun _=>insV (withF x 2 n)) (fun _=>[])):=by
 unfold insV
 refine ZX Tryz.func54 hS ?_
 refine Zh (Zi (oBox J ZP (fun b3=>?_)))
 refine oAlloc J ZP (fun b6=>?_)
 refine Zn (Za (Zh (Zh (Zi (Zo J (Zn (Za (Zk (Zh (Zi (Zy J J (Zp J (Zn (Za (wC (fun h8=>?_) (fun h8=>?_))))))))))))))))
 exact absurd h8 (by decide)
 refine Zh (Zi (Zy J J (Zp J (Zn (Za (wC (fun h12=>?_) (fun h12=>?_)))))))
 exact absurd h12 (by decide)
 refine Zh (Zi (Zy J J (Zp J (Zn (Za (wC (fun h16=>?_) (fun h16=>?_)))))))
 refine Zi (Zo J (Zz (n:=3) (m:=3) J J J (Zst ?_)))
 refine Zn (Zd (Za (Zh (Zi (Zla ?_)))))
 refine Zsa ?_
 refine Zn (Za (Zl (Zw (ZI ?_))))
 exact ⟨(),trivial,rfl,Lh⟩
 exact absurd rfl h16
theorem ref8_With3 {B:Base}{w:World}(hS:St B [] w) (x:ApiInstr) (n:Int) :
 CW 54 #[insV x,.int .i64 3,.int .i64 n] w (Ret B (fun _:Unit=>True) (fun _=>insV (withF x 3 n)) (fun _=>[])):=by
 unfold insV
 refine ZX Tryz.func54 hS ?_
 refine Zh (Zi (oBox J ZP (fun b3=>?_)))
 refine oAlloc J ZP (fun b6=>?_)
 refine Zn (Za (Zh (Zh (Zi (Zo J (Zn (Za (Zk (Zh (Zi (Zy J J (Zp J (Zn (Za (wC (fun h8=>?_) (fun h8=>?_))))))))))))))))
 exact absurd h8 (by decide)
 refine Zh (Zi (Zy J J (Zp J (Zn (Za (wC (fun h12=>?_) (fun h12=>?_)))))))
 exact absurd h12 (by decide)
 refine Zh (Zi (Zy J J (Zp J (Zn (Za (wC (fun h16=>?_) (fun h16=>?_)))))))
 exact absurd h16 (by decide)
 refine Zh (Zi (Zy J J (Zp J (Zn (Za (wC (fun h20=>?_) (fun h20=>?_)))))))
 refine Zi (Zo J (Zz (n:=4) (m:=4) J J J (Zst ?_)))
 refine Zn (Zd (Za (Zh (Zi (Zla ?_)))))
 refine Zsa ?_
 refine Zn (Za (Zl (Zw (ZI ?_))))
 exact ⟨(),trivial,rfl,Lh⟩
 exact absurd rfl h20
theorem ref8_With {B:Base}{w:World}(hS:St B [] w) (x:ApiInstr) (i:Nat) (hi:i<4) (n:Int) :
 CW 54 #[insV x,.int .i64 (i:Int),.int .i64 n] w (Ret B (fun _:Unit=>True) (fun _=>insV (withF x i n)) (fun _=>[])):=by
 obtain rfl | rfl | rfl | rfl:i=0∨i=1∨i=2∨i=3:=by omega
 · exact ref8_With0 hS x n
 · exact ref8_With1 hS x n
 · exact ref8_With2 hS x n
 · exact ref8_With3 hS x n
theorem join_first (x:ApiInstr):joinT (wordsT x 0) ⟨#[32]⟩=nameF x.fOp:=joinT_snoc [] (nameF x.fOp)
theorem textF_size' (k:Int):(textF k).size≤10:=textF_size k
theorem any4_T {p:Nat→Bool}{j:Nat}(hj:j<4) (h:p j=true):(List.range 4).any p=true:=List.any_eq_true.2 ⟨j,List.mem_range.2 hj,h⟩
theorem parE_more {x:ApiInstr}{r:List ByteArray}(h:¬ r=[]):parE (some (x,r))=(zeroI,3):=by
 show (if r≠[] then (zeroI,3) else if icF x≠0 then (zeroI,icF x) else (x,0))=_
 rw [if_pos h]
theorem parE_bad {x:ApiInstr}(h:¬ icF x=0):parE (some (x,[]))=(zeroI,icF x):=by
 show (if ([]:List ByteArray)≠[] then (zeroI,3) else if icF x≠0 then (zeroI,icF x) else (x,0))=_
 rw [if_neg (fun k=>k rfl),if_pos h]
theorem wordsT_pos (x:ApiInstr) (i:Nat):0<(wordsT x i).length:=Nat.succ_pos _
theorem joinT_next {x:ApiInstr}{i:Nat}{u:ByteArray}(h:opW x i=[u]):joinT (wordsT x (i+1)) ⟨#[32]⟩=joinT (wordsT x i) ⟨#[32]⟩++⟨#[32]⟩++u:=by
 rw [wordsT_next,h,joinT_snoc,if_pos (wordsT_pos x i)]
theorem joinT_part {x:ApiInstr}(h:icF x=0) {i:Nat}(hi:i≤4):(joinT (wordsT x i) ⟨#[32]⟩).size≤1000:=by
 have h1:=joinT_le 20 _ (wordsT x i) rfl (wordsT_size h i hi)
 have h2:=wordsT_len x i
 have h3:=Nat.mul_le_mul_right 21 h2
 unfold spB at h1
 omega
theorem ref9_Text {B:Base}{w:World}(hS:St B [] w) (x:ApiInstr) :
 CW 8 #[insV x] w (Ret B (fun _:Unit=>True) (fun _=>.tuple #[.string (textLF x).1,.int .i64 (textLF x).2]) (fun _=>[])):=by
 unfold insV
 have hsz:=shapeF_size x.fOp
 refine ZX Tryz.func8 hS ?_
 refine Zh (Zi (oBox J ZP (fun b1=>?_)))
 refine Zp J (Zp J (Zn (Za (Zh (Zh (Zi (Zla ?_)))))))
 (refine ZC0 rfl ZK (fun w hS=>frame hS ZQ (fun B' hB hS'=>ref8_Check hS' x _ (kApiInstr_mk _ x))) ?_;rintro ⟨⟩ -)
 refine Zp J (Zn (Za (Zh (Zi (Zo J (Z0 J J (Zn (Za (wC (fun h11=>?_) (fun h11=>?_))))))))))
 refine Zh (Zi (Zo J (Zp J (Zp J (Zn (Za (Zl (Zc (Zw ?_)))))))))
 refine ⟨rfl,_,(ResL.cons (ResR.tmp rfl) (ResL.cons (ResR.tmp rfl) ResL.nil)),?_⟩
 exact ⟨(),trivial,by unfold textLF;rw [if_pos (show icF x≠0 from h11)];rfl,Lh⟩
 have hic:icF x=0:=Classical.not_not.1 h11
 refine Zj (Za (Zh (Zh (Zi (Zz (n:=0) (m:=0) J J J (Zld ?_))))))
 (refine ZC0 rfl ZK (fun w hS=>frame hS ZQ (fun B' hB hS'=>ref7_Own hS' x.fOp)) ?_;rintro ⟨⟩ -)
 refine Zno ?_
 refine Zn (Za (wC (fun h16=>?_) (fun h16=>?_)))
 have ho:ownF x.fOp=false:=by simpa using h16
 refine Zh (Zzd ?_)
 refine ⟨rfl,_,(ResL.cons (ResR.tmp rfl) (ResL.cons (ResR.tmp rfl) ResL.nil)),?_⟩
 exact ⟨(),trivial,by unfold textLF;rw [if_neg (fun k=>k hic),if_pos ho];rfl,Lh⟩
 have ho:ownF x.fOp=true:=by simpa using h16
 rw [if_pos ho] at hsz
 refine Zj (Za (Zh (Zi (Zz (n:=0) (m:=0) J J J (Zld ?_)))))
 (refine ZC0 rfl ZK (fun w hS=>frame hS ZQ (fun B' hB hS'=>ref7_Name hS' x.fOp)) ?_;rintro ⟨⟩ -)
 refine ZS0 (t:=19) (v':=.string (joinT (wordsT x 0) ⟨#[32]⟩)) rfl (by rw [join_first]) ?_
 refine Zp J (Zn (Za (Zh (Zi (Zz (n:=0) (m:=0) J J J (Zld ?_))))))
 (refine ZC0 rfl ZK (fun w hS=>frame hS ZQ (fun B' hB hS'=>ref7_Shape hS' x.fOp)) ?_;rintro ⟨⟩ -)
 refine Zp J (Zn (Za (Zh (Zh (Zi (Zp J (Zn (Za (Zk (wLoop (ι:=Nat) (fun i=>[(1,.pointer (some ⟨b1,0,none⟩)),(5,.string (joinT (wordsT x i) ⟨#[32]⟩)),(6,.string (shapeF x.fOp)),(7,.int .i64 (i:Int))]) (fun i=>[blk b1 23 [.int .i64 x.fOp,.int .i64 x.fA,.int .i64 x.fB,.int .i64 x.fC,.int .i64 x.fN]]) (fun i=>i≤4∧∀ j,j<i→badK x j=false) (fun i=>4-i) 0 ?_ cv (Leads.has ZQ) ?_))))))))))
 exact ⟨Nat.zero_le _,fun j hj=>absurd hj (Nat.not_lt_zero _)⟩
 rintro i ⟨hi,hv⟩
 have hjp:=joinT_part hic hi
 try dsimp only
 refine Zh (Zh (Zi (Zo J (Zo J (oLenStr J J (Zx J J (Zn (Za (wC (fun h26=>?_) (fun h26=>?_))))))))))
 have hil:i<(shapeF x.fOp).size:=by omega
 have h1b:(⟨#[32]⟩:ByteArray).size=1:=rfl
 have htz:=textF_size' (1+x.fC)
 have hdz:=decS_size (opd_in hic i ZO)
 refine Zj (Za (Zh (Zk (Zh (Zi (Zo J (Zo J (oIndexStr J J J hil (Zy J J (Zn (Za (wC (fun h32=>?_) (fun h32=>?_)))))))))))))
 refine Zh (Zh (Zi (Zz (n:=3) (m:=3) J J J (Zld ?_))))
 (refine ZC0 rfl ZK (fun w hS=>frame hS ZQ (fun B' hB hS'=>ref5_Is hS' x.fC)) ?_;rintro ⟨⟩ -)
 refine Zno ?_
 refine Zn (Za (wC (fun h36=>?_) (fun h36=>?_)))
 refine Zh (Zzh ?_)
 refine ⟨rfl,_,(ResL.cons (ResR.tmp rfl) (ResL.cons (ResR.tmp rfl) ResL.nil)),?_⟩
 exact ⟨(),trivial,by unfold textLF;rw [if_neg (fun k=>k hic),if_neg (by rw [ho];simp),if_pos (any4_T (show i<4 by omega) (by unfold badK;rw [decide_eq_true h32];simpa using h36))];rfl,Lh⟩
 have hc:isC x.fC=true:=by simpa using h36
 have hc2:=isC_iff.1 hc
 refine Zj (Za (Zi (Zo J (oAddStr (r:=⟨#[32]⟩) J J ZO ?_))))
 refine Zz (n:=3) (m:=3) J J J (Zld ?_)
 refine oAdd J J ZO ?_
 (refine ZC0 rfl ZK (fun w hS=>frame hS ZQ (fun B' hB hS'=>ref5_Text hS' (1+x.fC) (by unfold in64;omega))) ?_;rintro ⟨⟩ -)
 refine oAddStr rfl rfl (by rw [ByteArray.size_append];omega) ?_
 refine Zp J (Zn (Zd (Zze ?_)))
 refine Zp J (Zn (Za ?_))
 exact ⟨rfl,i+1,⟨by omega,bad_next hv (by unfold badK;rw [hc];simp)⟩,by omega,by rw [joinT_next (show opW x i=[textF (1+x.fC)] from (by unfold opW;rw [if_neg ZO,if_pos h32]))];exact cv,Lh⟩
 refine Zh (Zi (Zo J (Zo J (oIndexStr J J J hil (Z0 J J (Zn (Za (wC (fun h47=>?_) (fun h47=>?_)))))))))
 refine Zi (Zo J (oAddStr (r:=⟨#[32]⟩) J J ZO ?_))
 refine Zla ?_
 refine Zo J ?_
 (refine ZC0 rfl ZK (fun w hS=>frame hS ZQ (fun B' hB hS'=>ref8_Operand hS' x _ (kApiInstr_mk _ x) (i:Int))) ?_;rintro ⟨⟩ -)
 (refine ZC0 rfl ZK (fun w hS=>frame hS ZQ (fun B' hB hS'=>ref_Digits hS' (opdF x i) (opd_in hic i ZO))) ?_;rintro ⟨⟩ -)
 rw [← decS_eq (opd_in hic i ZO)]
 refine oAddStr rfl rfl (by rw [ByteArray.size_append];omega) ?_
 refine Zp J (Zn (Zd (Zze ?_)))
 refine Zp J (Zn (Za ?_))
 exact ⟨rfl,i+1,⟨by omega,bad_next hv (by unfold badK;rw [decide_eq_false h32];rfl)⟩,by omega,by rw [joinT_next (show opW x i=[decS (opdF x i)] from (by unfold opW;rw [if_neg h47,if_neg h32]))];exact cv,Lh⟩
 refine Zj (Zd (Zze ?_))
 refine Zp J (Zn (Za ?_))
 have hft:=wordsT_next x i
 rw [show opW x i=[] from (by unfold opW;rw [if_pos (Classical.not_not.1 h47)]),List.append_nil] at hft
 exact ⟨rfl,i+1,⟨by omega,bad_next hv (by unfold badK;rw [decide_eq_false h32];rfl)⟩,by omega,by rw [hft];exact cv,Lh⟩
 obtain rfl:i=4:=by omega
 refine Zm (Zb (Zb (Ze (Za (Zh (Zi (Zo J (Zp J (Zp J (Zn (Za (Zl (Zw ?_)))))))))))))
 refine ⟨rfl,_,(ResL.cons (ResR.tmp rfl) (ResL.cons (ResR.tmp rfl) ResL.nil)),?_⟩
 exact ⟨(),trivial,by unfold textLF;rw [if_neg (fun k=>k hic),if_neg (by rw [ho];simp),if_neg (by rw [any4_F hv];simp)];rfl,Lh⟩
theorem ref9_Parse {B:Base}{w:World}(hS:St B [] w) (s:ByteArray) (hs:s.size≤100000) :
 CW 10 #[.string s] w (Ret B (fun _:Unit=>True) (fun _=>.tuple #[insV (parseF s).1,.int .i64 (parseF s).2]) (fun _=>[])):=by
 have hwl:=wordsF_len s
 refine ZX Tryz.func10 hS ?_
 refine Zh (Zi (oAlloc J ZP (fun b2=>?_)))
 refine Zp J (Zn (Zzg ?_))
 (refine ZC0 rfl ZK (fun w hS=>frame hS ZQ (fun B' hB hS'=>ref9_Words hS' s ZO B.e)) ?_;rintro ⟨A13,c13⟩ -)
 refine Zp J (Zn (Za (Zh (Zh (Zi (Zo J (Zv J J (Zy J J (Zn (Za (wC (fun h16=>?_) (fun h16=>?_))))))))))))
 have hw:wordsF s=[]:=List.eq_nil_of_length_eq_zero ZO
 refine Zh (Zi (oBuild Parts.nil J J Built.nil (Zsa ?_)))
 refine Zp J (Zn (Za (Zl (Zc (Zw (ZI2 ?_))))))
 exact ⟨(),trivial,by unfold parseF;rw [hw];rfl,Lh⟩
 obtain ⟨u,r,hw⟩:∃ u r,wordsF s=u :: r:=by
  cases hws:wordsF s with
  | nil=>exact absurd (by rw [hws];rfl) h16
  | cons u r=>exact ⟨u,r,rfl⟩
 have hpf:parseF s=if ownF (findF u)=false then (zeroI,3) else parE (parR (shapeF (findF u)) 4 ⟨findF u,0,0,0,0⟩ r):=by unfold parseF;rw [hw]
 rw [hpf]
 generalize hfo:findF u=o
 have hss:=shapeF_size o
 have h0l:0<(wordsF s).length:=by rw [hw];exact Nat.succ_pos _
 refine Zj (Za (Zh (Zi (Zo J (ZR J J ZP h0l J J (fun g19 hg19=>?_))))))
 first | subst hg19 | (injection hg19 with hg19;injection hg19 with hg19;subst hg19)
 refine ZR1 J ZP h0l J (fun u20 hu20=>?_)
 obtain rfl:u=u20:=(by rw [hw] at hu20;exact Option.some.inj hu20)
 (refine ZC0 rfl ZK (fun w hS=>frame hS ZQ (fun B' hB hS'=>ref7_Find hS' u)) ?_;rintro ⟨⟩ -)
 rw [hfo]
 refine oBuild (Parts.cons J Parts.nil) J J (Built.cons (off:=0) (s:=1) J ZP J ZP Built.nil) ?_
 refine oAlloc J ZP (fun b5=>?_)
 refine Zsa ?_
 refine Zn (Za (Zh (Zh (Zi (Zz (n:=0) (m:=0) J J J (Zld ?_))))))
 (refine ZC0 rfl ZK (fun w hS=>frame hS ZQ (fun B' hB hS'=>ref7_Own hS' o)) ?_;rintro ⟨⟩ -)
 refine Zno ?_
 refine Zn (Za (wC (fun h26=>?_) (fun h26=>?_)))
 have ho:ownF o=false:=by simpa using h26
 refine Zh (Zi (oBuild Parts.nil J J Built.nil (Zsa ?_)))
 refine Zp J (Zn (Za (Zl (Zc (Zw (ZI2 ?_))))))
 exact ⟨(),trivial,by rw [if_pos ho];rfl,Lh⟩
 have ho:ownF o=true:=by simpa using h26
 rw [if_neg (show ¬ ownF o=false by rw [ho];simp)]
 rw [if_pos ho] at hss
 refine Zj (Za (Zh (Zi (Zz (n:=0) (m:=0) J J J (Zld ?_)))))
 (refine ZC0 rfl ZK (fun w hS=>frame hS ZQ (fun B' hB hS'=>ref7_Shape hS' o)) ?_;rintro ⟨⟩ -)
 refine Zp J (Zn (Za (Zh (Zi (Zp J (Zn (Za (Zh (Zh (Zi (Zp J (Zn (Za (Zk (wLoop (ι:=Nat×Nat×ApiInstr) (fun z=>[(2,.pointer (some ⟨b2,0,none⟩)),(4,.slice (some ⟨g19,0,none⟩) (wordsF s).length c13),(5,.pointer (some ⟨b5,0,none⟩)),(6,.string (shapeF o)),(7,.int .i64 (z.2.1:Int)),(8,.int .i64 (z.1:Int))]) (fun z=>[blk b2 23 [.int .i64 0,.int .i64 0,.int .i64 0,.int .i64 0,.int .i64 0],blk b5 23 [.int .i64 z.2.2.fOp,.int .i64 z.2.2.fA,.int .i64 z.2.2.fB,.int .i64 z.2.2.fC,.int .i64 z.2.2.fN],row Kd.string B.e 9 (.slice (some ⟨g19,0,none⟩) (wordsF s).length c13) (wordsF s)]) (fun z=>z.1≤4∧z.2.1≤(wordsF s).length∧parR (shapeF o) (4-z.1) z.2.2 ((wordsF s).drop z.2.1)=parR (shapeF o) 4 ⟨o,0,0,0,0⟩ r) (fun z=>4-z.1) (0,1,⟨o,0,0,0,0⟩) ?_ cv (Leads.has ZQ) ?_)))))))))))))))
 exact ⟨Nat.zero_le _,h0l,by rw [hw];rfl⟩
 rintro ⟨i,a,x⟩ ⟨hi,ha,hv⟩
 dsimp only at hi ha hv
 try dsimp only
 refine Zh (Zh (Zi (Zo J (Zo J (oLenStr J J (Zx J J (Zn (Za (wC (fun h34=>?_) (fun h34=>?_))))))))))
 have hil:i<(shapeF o).size:=by omega
 refine Zj (Za (Zh (Zk (Zh (Zh (Zi (Zo J (Zo J (oIndexStr J J J hil (Zy J J (Zn (Za (wC (fun h40=>?_) (fun h40=>?_))))))))))))))
 refine Zm (Zb (Ze (Zze ?_)))
 refine Zp J (Zn (Za ?_))
 exact ⟨rfl,(i+1,a,x),⟨by show i+1≤_;omega,ha,by rw [← hv,parR_dash ZO h40]⟩,by show 4-(i+1)<4-i;omega,cv,Lh⟩
 refine Zj (Za (Zh (Zh (Zi (Zo J (Zo J (Zv J J (Z2 J J (Zn (Za (wC (fun h44=>?_) (fun h44=>?_))))))))))))
 have hdn:(wordsF s).drop a=[]:=List.drop_eq_nil_of_le ZO
 refine Zh (Zi (oBuild Parts.nil J J Built.nil (Zsa ?_)))
 refine Zp J (Zn (Za (Zl (Zc (Zf (Zc (Zc (Zf (Zc (Zw (ZI2 ?_)))))))))))
 exact ⟨(),trivial,by rw [← hv,hdn,parR_none ZO h40];rfl,Lh⟩
 have hal:a<(wordsF s).length:=by omega
 obtain ⟨y,hy⟩:∃ y,(wordsF s)[a]?=some y:=⟨_,List.getElem?_eq_getElem hal⟩
 have hdr:(wordsF s).drop a=y :: (wordsF s).drop (a+1):=by rw [List.drop_eq_getElem_cons hal];congr 1;exact Option.some.inj ((List.getElem?_eq_getElem hal).symm.trans hy)
 refine Zj (Za (Zh (wDrawG J [0,1,2,3,4,5,6] [(7,[],[8,9,10,11])] [12] 24 ZK J J (fun w0=>?_))))
 refine Zo J (Zo J (oIndexStr J J J hil (Zo J (Zo J (ZR J J ZP ZO J J (fun g52 hg52=>?_))))))
 first | subst hg52 | (injection hg52 with hg52;injection hg52 with hg52;subst hg52)
 refine ZR1 J ZP ZO J (fun u53 hu53=>?_)
 refine Z4 (Z5 J ?_)
 obtain rfl:y=u53:=Option.some.inj (hy.symm.trans hu53)
 (refine ZC0 rfl ZK (fun w hS=>frame hS ZQ (fun B' hB hS'=>ref9_operand hS' (byteAt (shapeF o) i) y)) ?_;rintro ⟨⟩ -)
 refine ZG ?_ J (fun w0=>?_)
 exact AgainG.nil
 refine Zo J (oExt J ZP ?_)
 refine oExt J ZP ?_
 refine Zp J (Z6 (Zp J (Zn (Za (Zh (Zh (Zi (Zo J (Zno ?_)))))))))
 refine Zn (Za (wC (fun h58=>?_) (fun h58=>?_)))
 refine Zh (Zi (oBuild Parts.nil J J Built.nil (Zsa ?_)))
 refine Zp J (Zn (Za (Zl (Zc (Zf (Zc (Zc (Zf (Zc (Zw (ZI2 ?_)))))))))))
 exact ⟨(),trivial,by rw [← hv,hdr,parR_word ZO h40,if_neg (by simpa using h58)];rfl,Lh⟩
 refine Zj (Za (Zh (Zi (Zla ?_))))
 refine Zo J (Zo J ?_)
 (refine ZC0 rfl ZK (fun w hS=>frame hS ZQ (fun B' hB hS'=>ref8_With hS' x i ZO (operF (byteAt (shapeF o) i) y).1)) ?_;rintro ⟨⟩ -)
 refine Zsa ?_
 refine Zn (Zze ?_)
 refine Zp J (Zn (Zd (Zze ?_)))
 refine Zp J (Zn (Za ?_))
 exact ⟨rfl,(i+1,a+1,withF x i (operF (byteAt (shapeF o) i) y).1),⟨by show i+1≤_;omega,by show a+1≤_;omega,by rw [← hv,hdr,parR_word ZO h40,if_pos (show (operF (byteAt (shapeF o) i) y).2=true by simpa using h58)]⟩,by show 4-(i+1)<4-i;omega,cv,Lh⟩
 have hi4:i=4:=by omega
 subst hi4
 have hv2:parR (shapeF o) 4 ⟨o,0,0,0,0⟩ r=some (x,(wordsF s).drop a):=hv.symm
 rw [hv2]
 refine Zm (Zb (Zb (Ze (Za (Zh (Zh (Zi (Zo J (Zo J (Zv J J (Z0 J J (Zn (Za (wC (fun h69=>?_) (fun h69=>?_)))))))))))))))
 refine Zh (Zi (oBuild Parts.nil J J Built.nil (Zsa ?_)))
 refine Zp J (Zn (Za (Zl (Zc (Zw (ZI2 ?_))))))
 exact ⟨(),trivial,by rw [parE_more (fun e=>h69 (by have:=congrArg List.length e;rw [List.length_drop] at this;simp at this;omega))];rfl,Lh⟩
 have hdn:(wordsF s).drop a=[]:=List.drop_eq_nil_of_le ZO
 rw [hdn]
 refine Zj (Za (Zh (Zh (Zi (Zla ?_)))))
 (refine ZC0 rfl ZK (fun w hS=>frame hS ZQ (fun B' hB hS'=>ref8_Check hS' x _ (kApiInstr_mk _ x))) ?_;rintro ⟨⟩ -)
 refine Zp J (Zn (Za (Zh (Zi (Zo J (Z0 J J (Zn (Za (wC (fun h74=>?_) (fun h74=>?_))))))))))
 refine Zh (Zi (oBuild Parts.nil J J Built.nil (Zo J (Zsa ?_))))
 refine Zp J (Zn (Za (Zl (Zc (Zw (ZI2 ?_))))))
 exact ⟨(),trivial,by rw [parE_bad h74];rfl,Lh⟩
 refine Zj (Za (Zh (Zi (Zla ?_))))
 refine Zsa ?_
 refine Zp J (Zn (Za (Zl (Zw (ZI2 ?_)))))
 exact ⟨(),trivial,by rw [parE_ok (Classical.not_not.1 h74)];rfl,Lh⟩
theorem lineInstrs {B:Base}{w:World}(hS:St B [] w) (hL:LnE B.e) (x:ApiInstr) (xc:List Value) (hx:kApiInstr.K B.e x xc) (s:ByteArray) :
 CW 3 #[.agg xc.toArray,.string s] w (Ret B (fun _:Unit=>True) (fun _=>.bool true) (fun _=>[])):=by
 obtain rfl:=kApiInstr_open hx
 refine ZX Tryz.func3 hS ?_
 refine Zh (Zi (oBox J ZP (fun b2=>?_)))
 refine Zp J (Zn (Za (Zh (Zh (Zi (Zo J (oLenStr J J (Z1 J J (Zn (Za (wC (fun h15=>?_) (fun h15=>?_))))))))))))
 refine Zh (Zi ?_)
 (refine ZC0 rfl ZK (fun w hS=>frameK hS ZQ (fun B' hB hK hS'=>known9 hS' (hL.of hB hK))) ?_;rintro ⟨⟩ -)
 refine Zp J (Zn (Za (Zl (Zc (Zw (fi1 J ?_))))))
 exact ⟨(),trivial,rfl,Lh⟩
 refine Zj (Za (Zh (Zi (Zla ?_))))
 (refine ZC0 rfl ZK (fun w hS=>frameK hS ZQ (fun B' hB hK hS'=>line_Text hS' (Keeps.tab hK hL.tab) x)) ?_;rintro ⟨⟩ -)
 refine Zo J (oExt J ZP ?_)
 refine oExt J ZP ?_
 refine Zp J (Zp J (Zn (Za (Zh (Zi (Zla ?_))))))
 (refine ZC0 rfl ZK (fun w hS=>frame hS ZQ (fun B' hB hS'=>ref9_Text hS' x)) ?_;rintro ⟨⟩ -)
 refine Zo J (oExt J ZP ?_)
 refine oExt J ZP ?_
 refine Zp J (Zp J (Zn (Zzg ?_)))
 (refine ZC0 rfl ZK (fun w hS=>frameK hS ZQ (fun B' hB hK hS'=>line_Parse hS' (hL.of hB hK) s ZO)) ?_;rintro ⟨⟩ -)
 refine Zo J (oExt J ZP ?_)
 refine oExt J ZP ?_
 refine oAlloc J ZP (fun b9=>?_)
 refine Zsa ?_
 refine Zp J (Zn (Zzg ?_))
 (refine ZC0 rfl ZK (fun w hS=>frame hS ZQ (fun B' hB hS'=>ref9_Parse hS' s ZO)) ?_;rintro ⟨⟩ -)
 refine Zo J (oExt J ZP ?_)
 refine oExt J ZP ?_
 refine oAlloc J ZP (fun b11=>?_)
 refine Zsa ?_
 refine Zp J (Zn (Za (Zh (Zi (Zo J (Zo J (oSEq J J (Zo J (ZS0 (t:=40) (v':=.bool true) J (by simp) ?_)))))))))
 refine Zq J J (Zo J (Zq J J (Zo J (Zq J J (Zy J J (Zt J J (Zo J (ZS0 (t:=45) (v':=.bool true) J (by simp) ?_))))))))
 refine Zq J J (Zla ?_)
 refine Zq J J (Zla ?_)
 refine Zq J J (oBinJ (r:=.bool true) J J (fun w=>run_eqGuard_agg w .eql _ _ _ _ _ Tryz.eqGuardType23) (fun w=>ins_eql (parseF s).1 w) ?_)
 refine Zt J J (Zo J (ZS0 (t:=50) (v':=.bool true) J (by simp) ?_))
 refine Zq J J (Zo J (Zq J J (Zo J (Zq J J (Zy J J (Zt J J (Zo J (ZS0 (t:=55) (v':=.bool true) J (by simp) ?_))))))))
 refine Zq J J ?_
 (refine ZC0 rfl ZK (fun w hS=>frameK hS ZQ (fun B' hB hK hS'=>known9 hS' (hL.of hB hK))) ?_;rintro ⟨⟩ -)
 refine Zt J J (Zp J (Zzc ?_))
 exact ⟨(),trivial,rfl,Lh⟩
end Go.Proofs.YtpmdhkjbhjgoaaaGreatDoorR
