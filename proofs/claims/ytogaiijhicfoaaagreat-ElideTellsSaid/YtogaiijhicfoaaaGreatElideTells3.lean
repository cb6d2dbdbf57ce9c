/-
  Part 3 of the proof of ElideTells: contracts of functions, and what follows from them; without conditions.
-/
import Derived.Test.YtogaiijhicfoaaaGreatElideTells2
set_option linter.unusedVariables false
set_option linter.unusedSimpArgs false
set_option linter.defProp false
namespace Go.Proofs.YtogaiijhicfoaaaGreatU
set_option maxRecDepth 100000
set_option maxHeartbeats 4000000
open Go.RowKit Go.Proofs.YtogaiijhicfoaaaGreatK Go.Proofs.YtogaiijhicfoaaaGreatT Go.Proofs.YtogaiijhicfoaaaGreatL Go.Proofs.YtogaiijhicfoaaaGreatV Go.Proofs.YtogaiijhicfoaaaGreatG

theorem grTo_dead {p:ApiProgram}{i:Nat}(h:i<p.fFuns.length) (hr:rowF p i=[]):grTo p (i+1)=grTo p i:=by
 rw [← grTo_succ h hr,set_id (grTo_at h)]
theorem gr_small {p:ApiProgram}(hsm:SmallP p) (i:Nat):SmallG (grTo p i):=by
 have:=hsm.funs
 refine ⟨by rw [grTo_len];omega,fun l hl=>?_⟩
 obtain ⟨k,_,rfl⟩:=List.mem_map.1 hl
 split
 · unfold rowF
   split
   · exact Nat.le_trans (partF_len hsm _ _) (by decide)
   · simp
 · simp
noncomputable def graphF (p:ApiProgram):List (List Int):=(List.range p.fFuns.length).map fun i=>ris (rowF p i) p.fFuns.length
theorem graphF_len (p:ApiProgram):(graphF p).length=p.fFuns.length:=by unfold graphF;simp
theorem grG_small {p:ApiProgram}(hsm:SmallP p):SmallG (graphF p):=by
 have:=hsm.funs
 refine ⟨by rw [graphF_len];omega,fun l hl=>?_⟩
 obtain ⟨k,_,rfl⟩:=List.mem_map.1 hl
 exact Nat.le_trans (ris_len _ _) ZO
theorem grTo_get {p:ApiProgram}{a:Nat}(h:a<p.fFuns.length):(grTo p p.fFuns.length).getD a []=rowF p a:=by
 refine getD_at ?_
 unfold grTo
 rw [List.getElem?_map,List.getElem?_range h]
 simp [h]
theorem clean_gr (p:ApiProgram):cleanG (grTo p p.fFuns.length)=graphF p:=by
 unfold cleanG graphF
 rw [grTo_len]
 refine List.map_congr_left (fun a ha=>?_)
 have ha:=List.mem_range.1 ha
 unfold cl endsOf
 rw [grTo_get ha,← ris_eq]
 unfold leftL
 congr 2
 refine List.filter_congr (fun x _=>?_)
 unfold inG badM
 rw [grTo_len,Bool.eq_iff_iff]
 simp only [Bool.and_eq_true,decide_eq_true_eq,Bool.not_eq_true',Bool.or_eq_false_iff,decide_eq_false_iff_not]
 omega
theorem prog_Graph {B:Base}{w:World}(hS:St B [] w) (p:ApiProgram) (pc:List Value) (hp:kApiProgram.K B.e p pc) (hsm:SmallP p) (W0:World) :
 CW 35 #[.agg pc.toArray] w (Ret B (fun z:Option Addr×Nat×List Hdr=>z.2.2.length=p.fFuns.length) (fun z=>.slice z.1 p.fFuns.length z.2.1) (fun z=>[row kHdr W0 42 (.slice z.1 p.fFuns.length z.2.1) z.2.2,bun (rws (Kd.int .i64) W0 3 z.2.2 (graphF p))])):=by
 obtain ⟨A0,c0,A1,c1,rfl,l0,g0,l1,g1⟩:=kApiProgram_open hp
 have hn:=hsm.funs
 have hll:=liveL_len p
 (refine enterM Tryz.func35 J J hS ?_;simp only [List.zipIdx_cons,List.zipIdx_nil,List.map_cons,List.map_nil,Nat.reduceAdd,Nat.zero_add])
 refine Zh (Zi (oBox J ZP (fun b1=>?_)))
 refine Zp J (Zn (Za (Zh (Zi (Zz (n:=0) (m:=0) J J J (Zld ?_))))))
 refine Zv J J (oMake (kd:=kHdr) (W:=B.e) ((none,0,0):Hdr) J J J J J J ZO J (fun g15=>?_))
 refine oConv (rws_new (kd:=Kd.int .i64) (W:=B.e) (ei:=3) p.fFuns.length) (oAlloc J ZP (fun b3=>?_))
 refine Zst ?_
 refine Zn (Za (Zh (wDrawG J [0,2,4] [(1,[2,4],[]),(3,[4],[]),(5,[],[])] [6,7,8] 24 ZK J J (fun w0=>?_))))
 refine Zla ?_
 refine Zla ?_
 refine Zla ?_
 refine Z4 (Z5 J ?_)
 (refine ZC0 rfl ZK (fun w hS=>frame hS ZQ (fun B' hB hS'=>prog_Direct hS' p _ (gPg hB hp) hsm B.e)) ?_;rintro ⟨A17,c17,hs17⟩ hl17)
 refine ZG ?_ J (fun w0=>?_)
 refine Z8 J J J J (fun w0=>?_) ?_
 refine Zla ?_
 exact Z9 rfl
 refine Z8 J J J J (fun w0=>?_) ?_
 refine Zla ?_
 exact Z9 rfl
 exact AgainG.nil
 refine Z4 (Z5 J ?_)
 (refine ZC0 rfl ZK (fun w hS=>frame hS ZQ (fun B' hB hS'=>prog_Vias hS' p _ (gPg hB hp) hsm B.e)) ?_;rintro ⟨A19,c19,hs19⟩ hl19)
 refine ZG ?_ J (fun w0=>?_)
 refine Z8 J J J J (fun w0=>?_) ?_
 refine Zla ?_
 exact Z9 rfl
 exact AgainG.nil
 refine Z4 (Z5 J ?_)
 (refine ZC0 rfl ZK (fun w hS=>frame hS ZQ (fun B' hB hS'=>prog_Taken hS' p _ (gPg hB hp) hsm B.e)) ?_;rintro ⟨A21,c21⟩ -)
 refine ZG ?_ J (fun w0=>?_)
 exact AgainG.nil
 refine Z6 (Zp J (Zp J (Zp J (Zn (Za (wFreeze [row kHdr B.e 42 (.slice A19 p.fFuns.length c19) hs19,bun (rws (Kd.int .i64) B.e 3 hs19 (p.fFuns.map viasF)),row Kd.bool B.e 4 (.slice A21 p.fFuns.length c21) (takenL p)] ZQ (fun B1 hB1 hq1=>?_)))))))
 have hVi:(Kd.slice (Kd.int .i64)).C B1.e A19 (p.fFuns.map viasF):=grid_C (kd:=Kd.int .i64) (W:=B.e) (W0:=B.e) (n:=p.fFuns.length) (cp:=c19) (hq1 _ _ ZP) (hq1 _ _ ZP) (by rw [hl19,List.length_map]) hB1
 have hT:Kd.bool.C B1.e A21 (takenL p):=row_Cs (W:=B.e) (e:=4) (n:=p.fFuns.length) (cp:=c21) (hq1 _ _ ZP)
 have hp1:=kApiProgram.K_grow hB1 hp
 refine Zh (Zh (Zi (Zla ?_)))
 (refine ZC0 rfl ZK (fun w hS=>frame hS ZQ (fun B' hB hS'=>prog_Live hS' p _ (gPg hB hp1) hsm B1.e)) ?_;rintro ⟨A23,c23⟩ -)
 refine Zv J J (Zo J (Zn (Za (Zk ?_))))
 refine wLoopM (ι:=Nat×List Hdr) (fun z=>[(1,.pointer (some ⟨b1,0,none⟩)),(3,.pointer (some ⟨b3,0,none⟩)),(4,.slice A17 p.fFuns.length c17),(5,.slice A19 p.fFuns.length c19),(6,.slice A21 p.fFuns.length c21),(23,.slice A23 p.fFuns.length c23),(24,.int .i64 (p.fFuns.length:Int)),(25,.int .i64 (z.1:Int))]) (fun z=>[blk b1 29 (pcL p A0 c0 A1 c1),blk b3 38 [.slice (some ⟨g15,0,none⟩) p.fFuns.length p.fFuns.length],row kHdr B.e 42 (.slice (some ⟨g15,0,none⟩) p.fFuns.length p.fFuns.length) z.2,bun (rws (Kd.int .i64) B.e 3 z.2 (grTo p z.1)),row kHdr B.e 42 (.slice A17 p.fFuns.length c17) hs17,bun ((rws (Kd.int .i64) B.e 3 hs17 (p.fFuns.map (directF p))).drop z.1),row Kd.bool B1.e 4 (.slice A23 p.fFuns.length c23) (liveL p)]) (fun z=>z.1≤p.fFuns.length∧z.2.length=p.fFuns.length) (fun z=>p.fFuns.length-z.1) (0,List.replicate p.fFuns.length (none,0,0)) ?_ cv [] J (marks_nil.trans (by dsimp only;rw [grTo_zero,List.drop_zero];exact (Leads.has ZQ))) ?_
 exact ⟨Nat.zero_le _,by simp⟩
 rintro ⟨i,hsO⟩ Ms ⟨hi,hlO⟩
 dsimp only at hi hlO
 try dsimp only
 refine Zh (Zi (Zx J J (Zn (Za (Zh (wC (fun h26=>?_) (fun h26=>?_)))))))
 obtain ⟨f,hf⟩:∃ f,p.fFuns[i]?=some f:=⟨_,List.getElem?_eq_getElem ZO⟩
 have hil:i<p.fFuns.length:=by omega
 have hs17l:hs17.length=p.fFuns.length:=hl17
 obtain ⟨u17,hu17⟩:∃ u,hs17[i]?=some u:=⟨_,List.getElem?_eq_getElem (by rw [hl17];omega)⟩
 have hfd:(p.fFuns.map (directF p))[i]?=some (directF p f):=by rw [List.getElem?_map,hf];rfl
 rw [rws_drop hu17 hfd]
 obtain ⟨e1,cs1,hE⟩:=hVi.elm (i:=i) (u:=viasF f) (by rw [List.getElem?_map,hf];rfl)
 obtain ⟨X1,n1,rfl,hn1,hX1⟩:=hE.K
 have hvl:(viasF f).length≤8:=ris_len _ _
 refine Zj (Za (Zh (Zk (Zh (Zi (Zo J (ZR J J ZP ZO J J (fun g28 hg28=>?_))))))))
 first | subst hg28 | (injection hg28 with hg28;injection hg28 with hg28;subst hg28)
 refine ZR1 J ZP ZO J (fun u29 hu29=>?_)
 have hlv:(liveL p).getD i false=u29:=getD_at hu29
 refine oAlloc J ZP (fun b7=>?_)
 refine Zst ?_
 refine Zp J (Zn (Za (Zh (Zh (Zi (Zo J (Zno ?_)))))))
 refine Zn (Za (wC (fun h31=>?_) (fun h31=>?_)))
 have hrow:rowF p i=[]:=by unfold rowF;rw [if_neg (by rw [hlv];simpa using h31)]
 refine Zm (Zb (Ze (Za (Zi (Zsu ?_)))))
 refine Zo J (Zn (Za ?_))
 exact ⟨Ms,rfl,(i+1,hsO),⟨by show i+1≤_;omega,hlO⟩,by show p.fFuns.length-(i+1)<p.fFuns.length-i;omega,cv,(bun_pop ZP).trans (by dsimp only;rw [grTo_dead hil hrow];exact (Leads.has ZQ))⟩
 have hrow:rowF p i=partF p f (viasF f).length:=by unfold rowF;rw [if_pos (by rw [hlv];simpa using h31),getD_at hf]
 refine Zj (Za (Zh (wDraw2 J J [2] [0,1,3,4,5,6] 7 ZK J J J (fun w0=>?_))))
 refine Zld ?_
 refine Zld ?_
 refine Zld ?_
 refine ZR J J ZP ZO J J (fun g36 hg36=>?_)
 first | subst hg36 | (injection hg36 with hg36;injection hg36 with hg36;subst hg36)
 refine ZR1 J ZP ZO J (fun u37 hu37=>?_)
 obtain ⟨A37,n37,c37⟩:=u37
 obtain rfl:=Option.some.inj (hu17.symm.trans hu37)
 refine ZS0 (t:=37) (v':=.slice A37 n37 c37) J J (ZR J J ZP ZO J J (fun g38 hg38=>?_))
 first | subst hg38 | (injection hg38 with hg38;injection hg38 with hg38;subst hg38)
 refine oHead ?_
 obtain ⟨uO,huO⟩:∃ u,hsO[i]?=some u:=⟨_,List.getElem?_eq_getElem ZO⟩
 refine oConv (bun_pop ZP) ?_
 refine oFocus (i:=i) ZP huO (grTo_at hil) ?_
 refine oBack (kd:=Kd.int .i64) (W:=B.e) (ei:=3) (hs:=hsO) (xss:=grTo p i) (i:=i) (u:=(A37,n37,c37)) (xs:=directF p f) ZP ZP ZO (by rw [grTo_len];exact hlO) ?_
 refine oStR (enc:=hV) (A37,n37,c37) J J J J ZP ZO ?_
 refine oNilT (Za (Zh (Zi (Zo J (Zld ?_)))))
 refine oIdxE J J (hE) ZO J J ?_
 have hc41:=(hE).cell
 refine Zlx hc41 ?_
 refine Zv J J (Zo J (Zn (Za (Zk ?_))))
 refine wLoopM (ι:=Nat×List Hdr) (fun z=>[(1,.pointer (some ⟨b1,0,none⟩)),(3,.pointer (some ⟨b3,0,none⟩)),(4,.slice (some ⟨g36,0,none⟩) p.fFuns.length c17),(5,.slice A19 p.fFuns.length c19),(6,.slice A21 p.fFuns.length c21),(23,.slice (some ⟨g28,0,none⟩) p.fFuns.length c23),(24,.int .i64 (p.fFuns.length:Int)),(25,.int .i64 (i:Int)),(7,.pointer (some ⟨b7,0,none⟩)),(42,.slice X1 (viasF f).length n1),(43,.int .i64 ((viasF f).length:Int)),(44,.int .i64 (z.1:Int))]) (fun z=>[blk b1 29 (pcL p A0 c0 A1 c1),blk b3 38 [.slice (some ⟨g15,0,none⟩) p.fFuns.length p.fFuns.length],row kHdr B.e 42 (.slice (some ⟨g15,0,none⟩) p.fFuns.length p.fFuns.length) z.2,bun (rws (Kd.int .i64) B.e 3 z.2 ((grTo p i).set i (partF p f z.1))),row kHdr B.e 42 (.slice (some ⟨g36,0,none⟩) p.fFuns.length c17) hs17,bun ((rws (Kd.int .i64) B.e 3 hs17 (p.fFuns.map (directF p))).drop (i+1)),row Kd.bool B1.e 4 (.slice (some ⟨g28,0,none⟩) p.fFuns.length c23) (liveL p),blk b7 3 [.int .i64 (i:Int)]]) (fun z=>z.1≤(viasF f).length∧z.2.length=p.fFuns.length) (fun z=>(viasF f).length-z.1) (0,hsO.set i (A37,n37,c37)) ?_ cv Ms J (by dsimp only;rw [partF_zero];exact (Leads.has ZQ)) ?_
 exact ⟨Nat.zero_le _,by show (hsO.set _ _).length=_;rw [List.length_set];exact hlO⟩
 rintro ⟨q,hs2⟩ Ms ⟨hj,hl2⟩
 dsimp only at hj hl2
 try dsimp only
 refine Zh (Zi (Zx J J (Zn (Za (Zh (wC (fun h45=>?_) (fun h45=>?_)))))))
 obtain ⟨c,hc⟩:∃ c,(viasF f)[q]?=some c:=⟨_,List.getElem?_eq_getElem ZO⟩
 obtain ⟨e2,cs2,hE2⟩:=hX1.elm hc
 obtain rfl:=(show cs2=[Value.int .i64 c] from hE2.K)
 refine Zj (Za (Zh (Zk (Zh (Zi (oIdxE J J (hE2) ZO J J ?_))))))
 have hc46:=(hE2).cell
 refine Zlx hc46 ?_
 refine Zp J (Zn (Zzk ?_))
 refine Zo J (Zo J ?_)
 (refine ZC0 rfl ZK (fun w hS=>frame hS ZQ (fun B' hB hS'=>ofClass_any hS' _ A21 p.fFuns.length c21 c)) ?_;rintro ⟨x1,x2,x3⟩ -)
 refine Zn (Za (Zk ?_))
 refine wRange rfl rfl ZK (ofClass1 p _ hp1 ZO (takenL p) A21 c21 hT (takenL_len p) c x1 x2 x3) (by rintro _ h;obtain ⟨y,_,rfl⟩:=List.mem_map.1 h;rfl) rfl (ι:=Nat×List Hdr) (κ:=Unit) (fun j z=>z.1=j∧z.2.length=p.fFuns.length) (fun z=>[marksR Ms,blk b1 29 (pcL p A0 c0 A1 c1),blk b3 38 [.slice (some ⟨g15,0,none⟩) p.fFuns.length p.fFuns.length],row kHdr B.e 42 (.slice (some ⟨g15,0,none⟩) p.fFuns.length p.fFuns.length) z.2,bun (rws (Kd.int .i64) B.e 3 z.2 ((grTo p i).set i (partF p f q++(classL p (takenL p) c).take z.1))),row kHdr B.e 42 (.slice (some ⟨g36,0,none⟩) p.fFuns.length c17) hs17,bun ((rws (Kd.int .i64) B.e 3 hs17 (p.fFuns.map (directF p))).drop (i+1)),row Kd.bool B1.e 4 (.slice (some ⟨g28,0,none⟩) p.fFuns.length c23) (liveL p),blk b7 3 [.int .i64 (i:Int)]]) (fun x z=>False) (fun x z=>[]) (0,hs2) ⟨rfl,hl2⟩ (by dsimp only;rw [List.take_zero,List.append_nil];exact (Leads.has ZQ)) ?_ ?_ ?_
 intro lp4 B' R1 R2 j hj
 rintro ⟨k,hsk⟩ hB ⟨rfl,hlk⟩
 dsimp only at hlk ⊢
 have hj':k<(classL p (takenL p) c).length:=by simpa using hj
 have htk:(classL p (takenL p) c).take (k+1)=(classL p (takenL p) c).take k++[(classL p (takenL p) c)[k]]:=List.take_succ_eq_append_getElem hj'
 rw [List.getElem_map]
 generalize (classL p (takenL p) c)[k]=x at *
 have hxl:(partF p f q++(classL p (takenL p) c).take k).length≤400:=by rw [List.length_append,List.length_take];have h1:=partF_len hsm f q;have h2:=cls_len p (takenL p) c;omega
 have hxi:((grTo p i).set i (partF p f q++(classL p (takenL p) c).take k))[i]?=some (partF p f q++(classL p (takenL p) c).take k):=by rw [List.getElem?_set_self (by rw [grTo_len];exact hil)]
 dsimp only [hand,intV]
 refine Zi (Zp J ?_)
 obtain ⟨u,hu⟩:∃ u,hsk[i]?=some u:=⟨_,List.getElem?_eq_getElem ZO⟩
 obtain ⟨A58,n58,c58⟩:=u
 refine oFocus (i:=i) ZP hu hxi ?_
 refine oRoom (A:=A58) (n:=n58) (cp:=c58) (xs:=partF p f q++(classL p (takenL p) c).take k) (kd:=Kd.int .i64) (W0:=B.e) (e:=3) ZP (fun hn58 hc58=>?_)
 refine Zn (aq_n ZP ?_)
 refine Zk (wDrawG J [0,1,2,3,4,5,6] [(7,[0,1,2,3,4,5],[]),(8,[0,1],[])] [9,10] 24 ZK J J (fun w0=>?_))
 refine Zld ?_
 refine Zld ?_
 refine Zld ?_
 refine Zld ?_
 refine ZR J J ZP ZO J J (fun g57 hg57=>?_)
 first | subst hg57 | (injection hg57 with hg57;injection hg57 with hg57;subst hg57)
 refine ZR1 J ZP ZO J (fun u58 hu58=>?_)
 obtain rfl:=Option.some.inj (hu.symm.trans hu58)
 refine ZS0 (t:=58) (v':=.slice A58 n58 c58) J J (Zo J (Z4 (Z5 J (oBuildSlice1 J J J J J ZP J (fun b60=>?_)))))
 refine ZG ?_ J (fun w0=>?_)
 refine Z8 J J J J (fun w0=>?_) ?_
 refine Zld ?_
 exact Z9 rfl
 refine Z8 J J J J (fun w0=>?_) ?_
 refine Zld ?_
 exact Z9 rfl
 refine Z8 J J J J (fun w0=>?_) ?_
 refine Zld ?_
 exact Z9 rfl
 refine Z8 J J J J (fun w0=>?_) ?_
 refine Zld ?_
 exact Z9 rfl
 refine Z8 J J J J (fun w0=>?_) ?_
 refine ZR J J ZP ZO J J (fun g57 hg57=>?_)
 first | subst hg57 | (injection hg57 with hg57;injection hg57 with hg57;subst hg57)
 exact Z9 rfl
 refine Z8 J J J J (fun w0=>?_) ?_
 refine ZR1 J ZP ZO J (fun u58 hu58=>?_)
 obtain rfl:=Option.some.inj (hu.symm.trans hu58)
 refine ZS0 (t:=58) (v':=.slice A58 n58 c58) J J ?_
 exact Z9 rfl
 exact AgainG.nil
 refine Z4 (Z5 J (oApp1 x J J J J ZP ZP J ZO J (fun g61 cp61=>?_)))
 rw [← hn58]
 refine oBack (kd:=Kd.int .i64) (W:=B.e) (ei:=3) (hs:=hsk) (xss:=(grTo p i).set i (partF p f q++(classL p (takenL p) c).take k)) (i:=i) (u:=(some ⟨g61,0,none⟩,n58+1,cp61)) (xs:=partF p f q++(classL p (takenL p) c).take k++[x]) ZP ZP ZO (by rw [List.length_set,grTo_len];exact hlk) ?_
 rw [List.set_set,List.append_assoc,← htk]
 refine ZG ?_ J (fun w0=>?_)
 refine Z8 J J J J (fun w0=>?_) ?_
 refine Zld ?_
 exact Z9 rfl
 refine Z8 J J J J (fun w0=>?_) ?_
 refine Zld ?_
 exact Z9 rfl
 exact AgainG.nil
 refine Z6 (ZR J J ZP ZO J J (fun g62 hg62=>?_))
 first | subst hg62 | (injection hg62 with hg62;injection hg62 with hg62;subst hg62)
 refine oStR (enc:=hV) (some ⟨g61,0,none⟩,n58+1,cp61) J J J J ZP ZO ?_
 refine Zn (Zd (rq_n ?_))
 exact ⟨(k+1,hsk.set i (some ⟨g61,0,none⟩,n58+1,cp61)),⟨rfl,by show (hsk.set _ _).length=_;rw [List.length_set];exact hlk⟩,Lh⟩
 rintro ⟨k,hs3⟩ Dm4 ⟨h,hl3⟩
 dsimp only at h hl3
 rw [List.length_map] at h
 subst h
 dsimp only
 rw [List.take_length,← partF_succ hc]
 try dsimp only
 refine Zd (Zzi ?_)
 refine Zo J (Zn (Za ?_))
 exact ⟨Dm4 :: Ms,rfl,(q+1,hs3),⟨by show q+1≤_;omega,hl3⟩,by show (viasF f).length-(q+1)<(viasF f).length-q;omega,cv,(marks_push ZP ZP).trans Lh⟩
 rintro _ _ _ h;exact h.elim
 obtain rfl:q=(viasF f).length:=by omega
 rw [← hrow,grTo_succ hil rfl]
 refine Zm (Zb (Zb (Ze (Zzi ?_))))
 refine Zo J (Zn (Za ?_))
 exact ⟨Ms,rfl,(i+1,hs2),⟨by show i+1≤_;omega,hl2⟩,by show p.fFuns.length-(i+1)<p.fFuns.length-i;omega,cv,Lh⟩
 obtain rfl:i=p.fFuns.length:=by omega
 refine Zm (Zb (Zb (Ze (Za (Zh (Zi (Zld ?_)))))))
 refine ZS0 (t:=65) (v':=.slice (some ⟨g15,0,none⟩) (grTo p p.fFuns.length).length p.fFuns.length) rfl (by rw [grTo_len]) ?_
 (refine ZD J (fun w B' hB hR hS'=>clean_any hS' (grTo p p.fFuns.length) (some ⟨g15,0,none⟩) p.fFuns.length (grid_C (kd:=Kd.int .i64) (W:=B.e) (ei:=3) (eo:=42) (W0:=B.e) (n:=p.fFuns.length) (cp:=p.fFuns.length) (hs:=hsO) (A:=some ⟨g15,0,none⟩) (xss:=grTo p p.fFuns.length) (hR _ _ ZP) (hR _ _ ZP) (by rw [hlO,grTo_len]) (hB1.trans hB)) (gr_small hsm _) W0) ?_;rintro ⟨A66,c66,hs66⟩ hl66)
 dsimp only at hl66 ⊢
 rw [clean_gr,grTo_len]
 rw [grTo_len] at hl66
 refine Zp J (Zn (Za (Zl (finMb_r (Ds:=Ms) J ZP (ResL.cons (ResR.tmp J) ResL.nil) ?_))))
 exact ⟨(A66,c66,hs66),hl66,rfl,Lh⟩
noncomputable def calledL (p:ApiProgram):List Bool:=reachB (graphF p) [p.fEntry]
theorem calledL_len (p:ApiProgram):(calledL p).length=p.fFuns.length:=by unfold calledL;rw [reachB_len,graphF_len]
theorem prog_Called {B:Base}{w:World}(hS:St B [] w) (p:ApiProgram) (pc:List Value) (hp:kApiProgram.K B.e p pc) (hsm:SmallP p) (W0:World) :
 CW 33 #[.agg pc.toArray] w (Ret B (fun _:Option Addr×Nat=>True) (fun z=>.slice z.1 p.fFuns.length z.2) (fun z=>[row Kd.bool W0 4 (.slice z.1 p.fFuns.length z.2) (calledL p)])):=by
 obtain ⟨A0,c0,A1,c1,rfl,l0,g0,l1,g1⟩:=kApiProgram_open hp
 have hgl:(graphF p).length=p.fFuns.length:=graphF_len p
 refine ZX Tryz.func33 hS ?_
 refine Zh (Zi (oBox J ZP (fun b1=>?_)))
 refine Zp J (Zn (Za (Zh (wDrawN J J (ZM (i:=0) (rs:=[2]) ZK ?_)))))
 refine ZA J ?_ ?_
 refine Zla ?_
 refine Z7 (ZM (i:=1) (rs:=[2]) ZK ?_)
 refine ZA J ?_ ?_
 (refine ZC0 rfl ZK (fun w hS=>frame hS ZQ (fun B' hB hS'=>prog_Graph hS' p _ (gPg hB hp) hsm B.e)) ?_;rintro ⟨A4,c4,hs4⟩ hl4)
 refine ZS0 (t:=4) (v':=.slice A4 (graphF p).length c4) rfl (by rw [hgl]) ?_
 refine Z7 (ZM (i:=2) (rs:=[]) ZK ?_)
 refine ZA J ?_ ?_
 refine Zz (n:=2) (m:=2) J J J (Z7 (ZM (i:=3) (rs:=[]) ZK ?_))
 refine ZA J ?_ ?_
 refine Zld ?_
 refine Z7 (ZM (i:=4) (rs:=[]) ZK ?_)
 refine ZA J ?_ ?_
 refine oBuildSlice1 J J J J J ZP J (fun b7=>?_)
 refine oConv (blk_row (enc:=Value.int .i64) (h1:=fun _=>J) (W:=B.e) (xs:=([p.fEntry]:List Int)) (n:=1) ZP J J (by decide)) ?_
 refine Z7 (ZM (i:=5) (rs:=[]) ZK ?_)
 refine ZA J ?_ ?_
 (refine ZD J (fun w B' hB hR hS'=>reach_any hS' (graphF p) A4 c4 (grid_C (kd:=Kd.int .i64) (W:=B.e) (ei:=3) (eo:=42) (W0:=B.e) (n:=p.fFuns.length) (cp:=c4) (hs:=hs4) (A:=A4) (xss:=graphF p) (hR _ _ ZP) (hR _ _ ZP) (by rw [hl4,hgl]) hB) (grG_small hsm) [p.fEntry] (some ⟨b7,0,none⟩) 1 (row_Cs (W:=B.e) (e:=3) (n:=1) (cp:=1) (hR _ _ ZP)) (by simp) W0) ?_;rintro ⟨A8,c8,l8⟩ ⟨hl8,hr8⟩)
 obtain rfl:=reach_uniq hl8 hr8
 rw [hgl]
 refine Z7 (ZM (i:=6) (rs:=[]) ZK ?_)
 refine ZA J ?_ ?_
 refine Zp J (Z7 (anNil ZK ?_))
 refine Za (Zzh ?_)
 exact ⟨(A8,c8),trivial,rfl,Lh⟩
 exact ZB
 exact ZB
 exact ZB
 exact ZB
 exact ZB
 refine ZA J ?_ ?_
 refine Zz (n:=2) (m:=2) J J J (Z7 (ZM (i:=1) (rs:=[3]) ZK ?_))
 refine ZA J ?_ ?_
 (refine ZC0 rfl ZK (fun w hS=>frame hS ZQ (fun B' hB hS'=>prog_Graph hS' p _ (gPg hB hp) hsm B.e)) ?_;rintro ⟨A4,c4,hs4⟩ hl4)
 refine ZS0 (t:=4) (v':=.slice A4 (graphF p).length c4) rfl (by rw [hgl]) ?_
 refine Z7 (ZM (i:=3) (rs:=[]) ZK ?_)
 refine ZA J ?_ ?_
 refine Zld ?_
 refine Z7 (ZM (i:=4) (rs:=[]) ZK ?_)
 refine ZA J ?_ ?_
 refine oBuildSlice1 J J J J J ZP J (fun b7=>?_)
 refine oConv (blk_row (enc:=Value.int .i64) (h1:=fun _=>J) (W:=B.e) (xs:=([p.fEntry]:List Int)) (n:=1) ZP J J (by decide)) ?_
 refine Z7 (ZM (i:=5) (rs:=[]) ZK ?_)
 refine ZA J ?_ ?_
 (refine ZD J (fun w B' hB hR hS'=>reach_any hS' (graphF p) A4 c4 (grid_C (kd:=Kd.int .i64) (W:=B.e) (ei:=3) (eo:=42) (W0:=B.e) (n:=p.fFuns.length) (cp:=c4) (hs:=hs4) (A:=A4) (xss:=graphF p) (hR _ _ ZP) (hR _ _ ZP) (by rw [hl4,hgl]) hB) (grG_small hsm) [p.fEntry] (some ⟨b7,0,none⟩) 1 (row_Cs (W:=B.e) (e:=3) (n:=1) (cp:=1) (hR _ _ ZP)) (by simp) W0) ?_;rintro ⟨A8,c8,l8⟩ ⟨hl8,hr8⟩)
 obtain rfl:=reach_uniq hl8 hr8
 rw [hgl]
 refine Z7 (ZM (i:=6) (rs:=[]) ZK ?_)
 refine ZA J ?_ ?_
 refine Zp J (Z7 (anNil ZK ?_))
 refine Za (Zzh ?_)
 exact ⟨(A8,c8),trivial,rfl,Lh⟩
 exact ZB
 exact ZB
 exact ZB
 exact ZB
 refine ZA J ?_ ?_
 refine Zld ?_
 refine Z7 (ZM (i:=1) (rs:=[4]) ZK ?_)
 refine ZA J ?_ ?_
 (refine ZC0 rfl ZK (fun w hS=>frame hS ZQ (fun B' hB hS'=>prog_Graph hS' p _ (gPg hB hp) hsm B.e)) ?_;rintro ⟨A4,c4,hs4⟩ hl4)
 refine ZS0 (t:=4) (v':=.slice A4 (graphF p).length c4) rfl (by rw [hgl]) ?_
 refine Z7 (ZM (i:=4) (rs:=[]) ZK ?_)
 refine ZA J ?_ ?_
 refine oBuildSlice1 J J J J J ZP J (fun b7=>?_)
 refine oConv (blk_row (enc:=Value.int .i64) (h1:=fun _=>J) (W:=B.e) (xs:=([p.fEntry]:List Int)) (n:=1) ZP J J (by decide)) ?_
 refine Z7 (ZM (i:=5) (rs:=[]) ZK ?_)
 refine ZA J ?_ ?_
 (refine ZD J (fun w B' hB hR hS'=>reach_any hS' (graphF p) A4 c4 (grid_C (kd:=Kd.int .i64) (W:=B.e) (ei:=3) (eo:=42) (W0:=B.e) (n:=p.fFuns.length) (cp:=c4) (hs:=hs4) (A:=A4) (xss:=graphF p) (hR _ _ ZP) (hR _ _ ZP) (by rw [hl4,hgl]) hB) (grG_small hsm) [p.fEntry] (some ⟨b7,0,none⟩) 1 (row_Cs (W:=B.e) (e:=3) (n:=1) (cp:=1) (hR _ _ ZP)) (by simp) W0) ?_;rintro ⟨A8,c8,l8⟩ ⟨hl8,hr8⟩)
 obtain rfl:=reach_uniq hl8 hr8
 rw [hgl]
 refine Z7 (ZM (i:=6) (rs:=[]) ZK ?_)
 refine ZA J ?_ ?_
 refine Zp J (Z7 (anNil ZK ?_))
 refine Za (Zzh ?_)
 exact ⟨(A8,c8),trivial,rfl,Lh⟩
 exact ZB
 exact ZB
 exact ZB
 refine ZA J ?_ ?_
 refine oBuildSlice1 J J J J J ZP J (fun b7=>?_)
 refine oConv (blk_row (enc:=Value.int .i64) (h1:=fun _=>J) (W:=B.e) (xs:=([p.fEntry]:List Int)) (n:=1) ZP J J (by decide)) ?_
 refine Z7 (ZM (i:=1) (rs:=[]) ZK ?_)
 refine ZA J ?_ ?_
 (refine ZC0 rfl ZK (fun w hS=>frame hS ZQ (fun B' hB hS'=>prog_Graph hS' p _ (gPg hB hp) hsm B.e)) ?_;rintro ⟨A4,c4,hs4⟩ hl4)
 refine ZS0 (t:=4) (v':=.slice A4 (graphF p).length c4) rfl (by rw [hgl]) ?_
 refine Z7 (ZM (i:=5) (rs:=[]) ZK ?_)
 refine ZA J ?_ ?_
 (refine ZD J (fun w B' hB hR hS'=>reach_any hS' (graphF p) A4 c4 (grid_C (kd:=Kd.int .i64) (W:=B.e) (ei:=3) (eo:=42) (W0:=B.e) (n:=p.fFuns.length) (cp:=c4) (hs:=hs4) (A:=A4) (xss:=graphF p) (hR _ _ ZP) (hR _ _ ZP) (by rw [hl4,hgl]) hB) (grG_small hsm) [p.fEntry] (some ⟨b7,0,none⟩) 1 (row_Cs (W:=B.e) (e:=3) (n:=1) (cp:=1) (hR _ _ ZP)) (by simp) W0) ?_;rintro ⟨A8,c8,l8⟩ ⟨hl8,hr8⟩)
 obtain rfl:=reach_uniq hl8 hr8
 rw [hgl]
 refine Z7 (ZM (i:=6) (rs:=[]) ZK ?_)
 refine ZA J ?_ ?_
 refine Zp J (Z7 (anNil ZK ?_))
 refine Za (Zzh ?_)
 exact ⟨(A8,c8),trivial,rfl,Lh⟩
 exact ZB
 exact ZB
 exact ZB
 exact ZB
 exact ZB
 exact ZB
 refine ZA J ?_ ?_
 refine Zz (n:=2) (m:=2) J J J (Z7 (ZM (i:=0) (rs:=[3]) ZK ?_))
 refine ZA J ?_ ?_
 refine Zla ?_
 refine Z7 (ZM (i:=1) (rs:=[3]) ZK ?_)
 refine ZA J ?_ ?_
 (refine ZC0 rfl ZK (fun w hS=>frame hS ZQ (fun B' hB hS'=>prog_Graph hS' p _ (gPg hB hp) hsm B.e)) ?_;rintro ⟨A4,c4,hs4⟩ hl4)
 refine ZS0 (t:=4) (v':=.slice A4 (graphF p).length c4) rfl (by rw [hgl]) ?_
 refine Z7 (ZM (i:=3) (rs:=[]) ZK ?_)
 refine ZA J ?_ ?_
 refine Zld ?_
 refine Z7 (ZM (i:=4) (rs:=[]) ZK ?_)
 refine ZA J ?_ ?_
 refine oBuildSlice1 J J J J J ZP J (fun b7=>?_)
 refine oConv (blk_row (enc:=Value.int .i64) (h1:=fun _=>J) (W:=B.e) (xs:=([p.fEntry]:List Int)) (n:=1) ZP J J (by decide)) ?_
 refine Z7 (ZM (i:=5) (rs:=[]) ZK ?_)
 refine ZA J ?_ ?_
 (refine ZD J (fun w B' hB hR hS'=>reach_any hS' (graphF p) A4 c4 (grid_C (kd:=Kd.int .i64) (W:=B.e) (ei:=3) (eo:=42) (W0:=B.e) (n:=p.fFuns.length) (cp:=c4) (hs:=hs4) (A:=A4) (xss:=graphF p) (hR _ _ ZP) (hR _ _ ZP) (by rw [hl4,hgl]) hB) (grG_small hsm) [p.fEntry] (some ⟨b7,0,none⟩) 1 (row_Cs (W:=B.e) (e:=3) (n:=1) (cp:=1) (hR _ _ ZP)) (by simp) W0) ?_;rintro ⟨A8,c8,l8⟩ ⟨hl8,hr8⟩)
 obtain rfl:=reach_uniq hl8 hr8
 rw [hgl]
 refine Z7 (ZM (i:=6) (rs:=[]) ZK ?_)
 refine ZA J ?_ ?_
 refine Zp J (Z7 (anNil ZK ?_))
 refine Za (Zzh ?_)
 exact ⟨(A8,c8),trivial,rfl,Lh⟩
 exact ZB
 exact ZB
 exact ZB
 exact ZB
 refine ZA J ?_ ?_
 refine Zld ?_
 refine Z7 (ZM (i:=1) (rs:=[4]) ZK ?_)
 refine ZA J ?_ ?_
 (refine ZC0 rfl ZK (fun w hS=>frame hS ZQ (fun B' hB hS'=>prog_Graph hS' p _ (gPg hB hp) hsm B.e)) ?_;rintro ⟨A4,c4,hs4⟩ hl4)
 refine ZS0 (t:=4) (v':=.slice A4 (graphF p).length c4) rfl (by rw [hgl]) ?_
 refine Z7 (ZM (i:=4) (rs:=[]) ZK ?_)
 refine ZA J ?_ ?_
 refine oBuildSlice1 J J J J J ZP J (fun b7=>?_)
 refine oConv (blk_row (enc:=Value.int .i64) (h1:=fun _=>J) (W:=B.e) (xs:=([p.fEntry]:List Int)) (n:=1) ZP J J (by decide)) ?_
 refine Z7 (ZM (i:=5) (rs:=[]) ZK ?_)
 refine ZA J ?_ ?_
 (refine ZD J (fun w B' hB hR hS'=>reach_any hS' (graphF p) A4 c4 (grid_C (kd:=Kd.int .i64) (W:=B.e) (ei:=3) (eo:=42) (W0:=B.e) (n:=p.fFuns.length) (cp:=c4) (hs:=hs4) (A:=A4) (xss:=graphF p) (hR _ _ ZP) (hR _ _ ZP) (by rw [hl4,hgl]) hB) (grG_small hsm) [p.fEntry] (some ⟨b7,0,none⟩) 1 (row_Cs (W:=B.e) (e:=3) (n:=1) (cp:=1) (hR _ _ ZP)) (by simp) W0) ?_;rintro ⟨A8,c8,l8⟩ ⟨hl8,hr8⟩)
 obtain rfl:=reach_uniq hl8 hr8
 rw [hgl]
 refine Z7 (ZM (i:=6) (rs:=[]) ZK ?_)
 refine ZA J ?_ ?_
 refine Zp J (Z7 (anNil ZK ?_))
 refine Za (Zzh ?_)
 exact ⟨(A8,c8),trivial,rfl,Lh⟩
 exact ZB
 exact ZB
 exact ZB
 refine ZA J ?_ ?_
 refine oBuildSlice1 J J J J J ZP J (fun b7=>?_)
 refine oConv (blk_row (enc:=Value.int .i64) (h1:=fun _=>J) (W:=B.e) (xs:=([p.fEntry]:List Int)) (n:=1) ZP J J (by decide)) ?_
 refine Z7 (ZM (i:=1) (rs:=[]) ZK ?_)
 refine ZA J ?_ ?_
 (refine ZC0 rfl ZK (fun w hS=>frame hS ZQ (fun B' hB hS'=>prog_Graph hS' p _ (gPg hB hp) hsm B.e)) ?_;rintro ⟨A4,c4,hs4⟩ hl4)
 refine ZS0 (t:=4) (v':=.slice A4 (graphF p).length c4) rfl (by rw [hgl]) ?_
 refine Z7 (ZM (i:=5) (rs:=[]) ZK ?_)
 refine ZA J ?_ ?_
 (refine ZD J (fun w B' hB hR hS'=>reach_any hS' (graphF p) A4 c4 (grid_C (kd:=Kd.int .i64) (W:=B.e) (ei:=3) (eo:=42) (W0:=B.e) (n:=p.fFuns.length) (cp:=c4) (hs:=hs4) (A:=A4) (xss:=graphF p) (hR _ _ ZP) (hR _ _ ZP) (by rw [hl4,hgl]) hB) (grG_small hsm) [p.fEntry] (some ⟨b7,0,none⟩) 1 (row_Cs (W:=B.e) (e:=3) (n:=1) (cp:=1) (hR _ _ ZP)) (by simp) W0) ?_;rintro ⟨A8,c8,l8⟩ ⟨hl8,hr8⟩)
 obtain rfl:=reach_uniq hl8 hr8
 rw [hgl]
 refine Z7 (ZM (i:=6) (rs:=[]) ZK ?_)
 refine ZA J ?_ ?_
 refine Zp J (Z7 (anNil ZK ?_))
 refine Za (Zzh ?_)
 exact ⟨(A8,c8),trivial,rfl,Lh⟩
 exact ZB
 exact ZB
 exact ZB
 exact ZB
 exact ZB
 refine ZA J ?_ ?_
 refine Zld ?_
 refine Z7 (ZM (i:=0) (rs:=[4]) ZK ?_)
 refine ZA J ?_ ?_
 refine Zla ?_
 refine Z7 (ZM (i:=1) (rs:=[4]) ZK ?_)
 refine ZA J ?_ ?_
 (refine ZC0 rfl ZK (fun w hS=>frame hS ZQ (fun B' hB hS'=>prog_Graph hS' p _ (gPg hB hp) hsm B.e)) ?_;rintro ⟨A4,c4,hs4⟩ hl4)
 refine ZS0 (t:=4) (v':=.slice A4 (graphF p).length c4) rfl (by rw [hgl]) ?_
 refine Z7 (ZM (i:=4) (rs:=[]) ZK ?_)
 refine ZA J ?_ ?_
 refine oBuildSlice1 J J J J J ZP J (fun b7=>?_)
 refine oConv (blk_row (enc:=Value.int .i64) (h1:=fun _=>J) (W:=B.e) (xs:=([p.fEntry]:List Int)) (n:=1) ZP J J (by decide)) ?_
 refine Z7 (ZM (i:=5) (rs:=[]) ZK ?_)
 refine ZA J ?_ ?_
 (refine ZD J (fun w B' hB hR hS'=>reach_any hS' (graphF p) A4 c4 (grid_C (kd:=Kd.int .i64) (W:=B.e) (ei:=3) (eo:=42) (W0:=B.e) (n:=p.fFuns.length) (cp:=c4) (hs:=hs4) (A:=A4) (xss:=graphF p) (hR _ _ ZP) (hR _ _ ZP) (by rw [hl4,hgl]) hB) (grG_small hsm) [p.fEntry] (some ⟨b7,0,none⟩) 1 (row_Cs (W:=B.e) (e:=3) (n:=1) (cp:=1) (hR _ _ ZP)) (by simp) W0) ?_;rintro ⟨A8,c8,l8⟩ ⟨hl8,hr8⟩)
 obtain rfl:=reach_uniq hl8 hr8
 rw [hgl]
 refine Z7 (ZM (i:=6) (rs:=[]) ZK ?_)
 refine ZA J ?_ ?_
 refine Zp J (Z7 (anNil ZK ?_))
 refine Za (Zzh ?_)
 exact ⟨(A8,c8),trivial,rfl,Lh⟩
 exact ZB
 exact ZB
 exact ZB
 refine ZA J ?_ ?_
 refine oBuildSlice1 J J J J J ZP J (fun b7=>?_)
 refine oConv (blk_row (enc:=Value.int .i64) (h1:=fun _=>J) (W:=B.e) (xs:=([p.fEntry]:List Int)) (n:=1) ZP J J (by decide)) ?_
 refine Z7 (ZM (i:=1) (rs:=[]) ZK ?_)
 refine ZA J ?_ ?_
 (refine ZC0 rfl ZK (fun w hS=>frame hS ZQ (fun B' hB hS'=>prog_Graph hS' p _ (gPg hB hp) hsm B.e)) ?_;rintro ⟨A4,c4,hs4⟩ hl4)
 refine ZS0 (t:=4) (v':=.slice A4 (graphF p).length c4) rfl (by rw [hgl]) ?_
 refine Z7 (ZM (i:=5) (rs:=[]) ZK ?_)
 refine ZA J ?_ ?_
 (refine ZD J (fun w B' hB hR hS'=>reach_any hS' (graphF p) A4 c4 (grid_C (kd:=Kd.int .i64) (W:=B.e) (ei:=3) (eo:=42) (W0:=B.e) (n:=p.fFuns.length) (cp:=c4) (hs:=hs4) (A:=A4) (xss:=graphF p) (hR _ _ ZP) (hR _ _ ZP) (by rw [hl4,hgl]) hB) (grG_small hsm) [p.fEntry] (some ⟨b7,0,none⟩) 1 (row_Cs (W:=B.e) (e:=3) (n:=1) (cp:=1) (hR _ _ ZP)) (by simp) W0) ?_;rintro ⟨A8,c8,l8⟩ ⟨hl8,hr8⟩)
 obtain rfl:=reach_uniq hl8 hr8
 rw [hgl]
 refine Z7 (ZM (i:=6) (rs:=[]) ZK ?_)
 refine ZA J ?_ ?_
 refine Zp J (Z7 (anNil ZK ?_))
 refine Za (Zzh ?_)
 exact ⟨(A8,c8),trivial,rfl,Lh⟩
 exact ZB
 exact ZB
 exact ZB
 exact ZB
 refine ZA J ?_ ?_
 refine oBuildSlice1 J J J J J ZP J (fun b7=>?_)
 refine oConv (blk_row (enc:=Value.int .i64) (h1:=fun _=>J) (W:=B.e) (xs:=([p.fEntry]:List Int)) (n:=1) ZP J J (by decide)) ?_
 refine Z7 (ZM (i:=0) (rs:=[]) ZK ?_)
 refine ZA J ?_ ?_
 refine Zla ?_
 refine Z7 (ZM (i:=1) (rs:=[]) ZK ?_)
 refine ZA J ?_ ?_
 (refine ZC0 rfl ZK (fun w hS=>frame hS ZQ (fun B' hB hS'=>prog_Graph hS' p _ (gPg hB hp) hsm B.e)) ?_;rintro ⟨A4,c4,hs4⟩ hl4)
 refine ZS0 (t:=4) (v':=.slice A4 (graphF p).length c4) rfl (by rw [hgl]) ?_
 refine Z7 (ZM (i:=5) (rs:=[]) ZK ?_)
 refine ZA J ?_ ?_
 (refine ZD J (fun w B' hB hR hS'=>reach_any hS' (graphF p) A4 c4 (grid_C (kd:=Kd.int .i64) (W:=B.e) (ei:=3) (eo:=42) (W0:=B.e) (n:=p.fFuns.length) (cp:=c4) (hs:=hs4) (A:=A4) (xss:=graphF p) (hR _ _ ZP) (hR _ _ ZP) (by rw [hl4,hgl]) hB) (grG_small hsm) [p.fEntry] (some ⟨b7,0,none⟩) 1 (row_Cs (W:=B.e) (e:=3) (n:=1) (cp:=1) (hR _ _ ZP)) (by simp) W0) ?_;rintro ⟨A8,c8,l8⟩ ⟨hl8,hr8⟩)
 obtain rfl:=reach_uniq hl8 hr8
 rw [hgl]
 refine Z7 (ZM (i:=6) (rs:=[]) ZK ?_)
 refine ZA J ?_ ?_
 refine Zp J (Z7 (anNil ZK ?_))
 refine Za (Zzh ?_)
 exact ⟨(A8,c8),trivial,rfl,Lh⟩
 exact ZB
 exact ZB
 exact ZB
 exact ZB
 exact ZB
 exact ZB
 exact ZB
noncomputable def edgF (p:ApiProgram) (i:Nat):List Int:=if (liveL p).getD i false=true then ris (rowF p i) p.fFuns.length else []
theorem edgF_eq (p:ApiProgram) (i:Nat):edgF p i=ris (rowF p i) p.fFuns.length:=by
 unfold edgF
 split
 · rfl
 · rename_i h
   unfold rowF
   rw [if_neg h]
   simp [ris]
theorem graphF_eq (p:ApiProgram):graphF p=(List.range p.fFuns.length).map (edgF p):=by
 unfold graphF
 exact List.map_congr_left (fun a _=>(edgF_eq p a).symm)
noncomputable def tkP (p:ApiProgram) (f:ApiFun) (m:Nat):Bool:=(takenL p).getD m false && decide ((p.fFuns.getD m default).fF.fClass ∈ viasF f)
noncomputable def partR (p:ApiProgram) (f:ApiFun) (k:Nat):List Int:=directF p f++((List.range k).filter (tkP p f)).map fun k:Nat=>(k:Int)
theorem partR_zero (p:ApiProgram) (f:ApiFun):partR p f 0=directF p f:=by unfold partR;simp
theorem partR_T {p:ApiProgram}{f:ApiFun}{k:Nat}(h:tkP p f k=true):partR p f (k+1)=partR p f k++[(k:Int)]:=by unfold partR;rw [List.range_succ,List.filter_append,List.map_append,List.append_assoc];simp [h]
theorem partR_F {p:ApiProgram}{f:ApiFun}{k:Nat}(h:tkP p f k=false):partR p f (k+1)=partR p f k:=by unfold partR;rw [List.range_succ,List.filter_append,List.map_append];simp [h]
theorem partR_len (p:ApiProgram) (f:ApiFun) (k:Nat):(partR p f k).length≤p.fFuns.length+k:=by
 unfold partR
 rw [List.length_append,List.length_map]
 have h1:(directF p f).length≤p.fFuns.length:=ris_len _ _
 have h2:=List.length_filter_le (tkP p f) (List.range k)
 rw [List.length_range] at h2
 omega
theorem tkP_at {p:ApiProgram}{f g:ApiFun}{k:Nat}{u:Bool}(hu:(takenL p)[k]?=some u) (hg:p.fFuns[k]?=some g):tkP p f k=(u && decide (g.fF.fClass ∈ viasF f)):=by
 unfold tkP
 rw [List.getD_eq_getElem?_getD,hu,List.getD_eq_getElem?_getD,hg];rfl
theorem ris_same {l l':List Int}(h:∀ x,x ∈ l↔x ∈ l') (m:Nat):ris l m=ris l' m:=by
 unfold ris
 congr 1
 refine List.filter_congr (fun i _=>?_)
 exact decide_eq_decide.2 (h i)
theorem part_eq (p:ApiProgram) (f:ApiFun):ris (partR p f p.fFuns.length) p.fFuns.length=ris (partF p f (viasF f).length) p.fFuns.length:=by
 refine ris_same (fun x=>?_) _
 unfold partR partF
 rw [List.take_length,List.mem_append,List.mem_append]
 refine or_congr Iff.rfl ?_
 rw [List.mem_flatten]
 constructor
 · intro h
   obtain ⟨k,hk,rfl⟩:=List.mem_map.1 h
   obtain ⟨h1,h2⟩:=List.mem_filter.1 hk
   unfold tkP at h2
   rw [Bool.and_eq_true,decide_eq_true_eq] at h2
   refine ⟨_,List.mem_map.2 ⟨_,h2.2,rfl⟩,mem_cls.2 ⟨k,rfl,List.mem_range.1 h1,?_⟩⟩
   unfold clsP
   rw [h2.1];simp
 · rintro ⟨l,hl,hx⟩
   obtain ⟨c,hc,rfl⟩:=List.mem_map.1 hl
   obtain ⟨k,rfl,hk,h2⟩:=mem_cls.1 hx
   unfold clsP at h2
   rw [Bool.and_eq_true,decide_eq_true_eq] at h2
   refine List.mem_map.2 ⟨k,List.mem_filter.2 ⟨List.mem_range.2 hk,?_⟩,rfl⟩
   unfold tkP
   rw [h2.1,h2.2];simpa using hc
theorem ref26_Edges {B:Base}{w:World}(hS:St B [] w) (p:ApiProgram) (pc:List Value) (hp:kApiProgram.K B.e p pc) (hsm:SmallP p) (i:Nat) (f:ApiFun) (hfi:p.fFuns[i]?=some f) (A1':Option Addr) (c1':Nat) (hL:Kd.bool.C B.e A1' (liveL p)) (A2':Option Addr) (c2':Nat) (hT:Kd.bool.C B.e A2' (takenL p)) (W0:World) :
 CW 94 #[.agg pc.toArray,.slice A1' p.fFuns.length c1',.slice A2' p.fFuns.length c2',.int .i64 (i:Int)] w (Ret B (fun _:Option Addr×Nat=>True) (fun z=>.slice z.1 (edgF p i).length z.2) (fun z=>[row (Kd.int .i64) W0 3 (.slice z.1 (edgF p i).length z.2) (edgF p i)])):=by
 obtain ⟨A0,c0,A1,c1,rfl,l0,g0,l1,g1⟩:=kApiProgram_open hp
 have hn:=hsm.funs
 have hll:=liveL_len p
 have htl:=takenL_len p
 have hil:=(List.getElem?_eq_some_iff.1 hfi).1
 obtain ⟨u,hu⟩:∃ u,(liveL p)[i]?=some u:=⟨_,List.getElem?_eq_getElem ZO⟩
 obtain ⟨eb,csb,hEb⟩:=hL.elm hu
 obtain rfl:=(show csb=[Value.bool u] from hEb.K)
 have hlv:(liveL p).getD i false=u:=getD_at hu
 refine ZX Tryz.func94 hS ?_
 refine Zh (Zi (oBox J ZP (fun b4=>?_)))
 refine Zp J (Zn (Za (Zh (Zh (Zi (Zo J (Zo J (oIdxE J J (hEb) ZO J J ?_))))))))
 have hc14:=(hEb).cell
 refine Zlx hc14 ?_
 refine Zno ?_
 refine Zn (Za (wC (fun h16=>?_) (fun h16=>?_)))
 refine Zh (Zi (Zze ?_))
 have hed:edgF p i=[]:=by unfold edgF;rw [if_neg (by rw [hlv];simpa using h16)]
 rw [hed]
 exact ⟨(none,0),trivial,rfl,Leads.nilrow.trans Lh⟩
 have hed:edgF p i=ris (partR p f p.fFuns.length) p.fFuns.length:=by unfold edgF rowF;rw [if_pos (by rw [hlv];simpa using h16),if_pos (by rw [hlv];simpa using h16),getD_at hfi,part_eq]
 refine Zj (Zzk ?_)
 refine Zo J ?_
 (refine ZC0 rfl ZK (fun w hS=>frame hS ZQ (fun B' hB hS'=>ref25_Direct hS' p _ (gPg hB hp) hsm i f hfi B.e)) ?_;rintro ⟨A19,c19⟩ -)
 refine Zp J (Zn (Zzk ?_))
 refine Zo J ?_
 (refine ZC0 rfl ZK (fun w hS=>frame hS ZQ (fun B' hB hS'=>ref25_Vias hS' p _ (gPg hB hp) hsm i f hfi B.e)) ?_;rintro ⟨A22,c22⟩ -)
 rw [← partR_zero p f]
 refine Zp J (Zn (Za (Zh (Zh (Zi (Zp J (Zn (Za (Zk (wLoop (ι:=Nat×Option Addr×Nat) (fun z=>[(2,.slice A2' p.fFuns.length c2'),(4,.pointer (some ⟨b4,0,none⟩)),(9,.slice z.2.1 (partR p f z.1).length z.2.2),(10,.slice A22 (viasF f).length c22),(11,.int .i64 (z.1:Int))]) (fun z=>[blk b4 29 (pcL p A0 c0 A1 c1),row (Kd.int .i64) B.e 3 (.slice z.2.1 (partR p f z.1).length z.2.2) (partR p f z.1),row (Kd.int .i64) B.e 3 (.slice A22 (viasF f).length c22) (viasF f)]) (fun z=>z.1≤p.fFuns.length) (fun z=>p.fFuns.length-z.1) (0,A19,c19) ?_ cv Lh ?_))))))))))
 exact Nat.zero_le _
 rintro ⟨k,A9,c9⟩ hk
 dsimp only at hk
 have hpl:=partR_len p f k
 try dsimp only
 refine Zh (Zh (Zi (Zo J (Zz (n:=0) (m:=0) J J J (Zld ?_)))))
 refine Zv J J (Zx J J (Zn (Za (wC (fun h27=>?_) (fun h27=>?_)))))
 obtain ⟨g,hg⟩:∃ g,p.fFuns[k]?=some g:=⟨_,List.getElem?_eq_getElem ZO⟩
 have hkl:k<p.fFuns.length:=by omega
 obtain ⟨ef,csf,hEf⟩:=g0.elm hg
 obtain ⟨D0,d0,D1,d1,D2,d2,D3,d3,D4,d4,rfl,m0,q0,m1,q1,m2,q2,m3,q3,m4,q4⟩:=kApiFun_open hEf.K
 obtain ⟨v,hv⟩:∃ v,(takenL p)[k]?=some v:=⟨_,List.getElem?_eq_getElem ZO⟩
 obtain ⟨ec,csc,hEc⟩:=hT.elm hv
 obtain rfl:=(show csc=[Value.bool v] from hEc.K)
 have htp:=tkP_at (f:=f) hv hg
 refine Zj (Za (Zh (Zk (Zh (Zi (Zo J (Zo J (oIdxE J J (hEc) ZO J J ?_))))))))
 have hc32:=(hEc).cell
 refine Zlx hc32 ?_
 refine Zo J (ZS (ZT 34) (fun h34=>?_) (fun h34=>?_))
 refine Zq J J (Zo J (Zq J J (Zz (n:=0) (m:=0) J J J (Zzg ?_))))
 refine Zq J J (Zo J (Zq J J (oIdxE J J (hEf) ZO J J ?_)))
 have hc39:=(hEf).cell
 refine Zq J J (ZF (ZT 3) (ZT 3) ?_)
 refine Zq J J (ZF (ZT 0) (ZT 3) ?_)
 refine Zq J J (Zlx hc39 ?_)
 refine Zq J J ?_
 (refine ZD J (fun w B' hB hR hS'=>in_any hS' A22 c22 (viasF f) (row_Cs (W:=B.e) (e:=3) (n:=(viasF f).length) (cp:=c22) (hR _ _ ZP)) g.fF.fClass) ?_;rintro ⟨⟩ -)
 refine Zt J J (Zn (Za (wC (fun h44=>?_) (fun h44=>?_))))
 refine Zi (Zo J (Zo J (oBuildSlice1 J J J J J ZP J (fun b47=>?_))))
 refine oApp1 (k:Int) J J J J ZP ZP J ZO J (fun g48 cp48=>?_)
 have hps:=partR_T (p:=p) (f:=f) (k:=k) (by rw [htp];simp_all)
 rw [show (partR p f k).length+1=(partR p f (k+1)).length by rw [hps,List.length_append];rfl,← hps]
 refine Zp J (Zn (Zzd ?_))
 refine Zp J (Zn (Za ?_))
 exact ⟨rfl,(k+1,some ⟨g48,0,none⟩,cp48),by show k+1≤_;omega,by show p.fFuns.length-(k+1)<p.fFuns.length-k;omega,cv,Lh⟩
 refine Zj (Zzd ?_)
 refine Zp J (Zn (Za ?_))
 exact ⟨rfl,(k+1,A9,c9),by show k+1≤_;omega,by show p.fFuns.length-(k+1)<p.fFuns.length-k;omega,by dsimp only;rw [partR_F (by rw [htp];simp_all)];exact cv,by dsimp only;rw [partR_F (by rw [htp];simp_all)];exact (Leads.has ZQ)⟩
 refine Zr J J J J (Zr J J J J (Zr J J J J (Zr J J J J (Zr J J J J (Zr J J J J (Zr J J J J (Zr J J J J (Zr J J J J (Zu J J (Zn (Za (wCondF J (Zj (Zzd ?_))))))))))))))
 refine Zp J (Zn (Za ?_))
 exact ⟨rfl,(k+1,A9,c9),by show k+1≤_;omega,by show p.fFuns.length-(k+1)<p.fFuns.length-k;omega,by dsimp only;rw [partR_F (by rw [htp];simp_all)];exact cv,by dsimp only;rw [partR_F (by rw [htp];simp_all)];exact (Leads.has ZQ)⟩
 obtain rfl:k=p.fFuns.length:=by omega
 refine Zm (Zb (Zb (Ze (Za (Zh (Zi (Zo J (Zz (n:=0) (m:=0) J J J (Zld ?_)))))))))
 refine Zv J J ?_
 (refine ZD J (fun w B' hB hR hS'=>ref25_Rising hS' (partR p f p.fFuns.length) A9 c9 (row_Cs (W:=B.e) (e:=3) (n:=(partR p f p.fFuns.length).length) (cp:=c9) (hR _ _ ZP)) p.fFuns.length ZO W0) ?_;rintro ⟨A53,c53⟩ -)
 rw [← hed]
 refine Zp J (Zzx ?_)
 exact ⟨(A53,c53),trivial,rfl,Lh⟩
theorem ref26_Graph {B:Base}{w:World}(hS:St B [] w) (p:ApiProgram) (pc:List Value) (hp:kApiProgram.K B.e p pc) (hsm:SmallP p) (W0:World) :
 CW 36 #[.agg pc.toArray] w (Ret B (fun z:Option Addr×Nat×List Hdr=>z.2.2.length=p.fFuns.length) (fun z=>.slice z.1 p.fFuns.length z.2.1) (fun z=>[row kHdr W0 42 (.slice z.1 p.fFuns.length z.2.1) z.2.2,bun (rws (Kd.int .i64) W0 3 z.2.2 (graphF p))])):=by
 obtain ⟨A0,c0,A1,c1,rfl,l0,g0,l1,g1⟩:=kApiProgram_open hp
 have hn:=hsm.funs
 have hll:=liveL_len p
 refine ZX Tryz.func36 hS ?_
 refine Zh (Zi (oBox J ZP (fun b1=>?_)))
 refine Zp J (Zn (Zzk ?_))
 (refine ZC0 rfl ZK (fun w hS=>frame hS ZQ (fun B' hB hS'=>ref26_Live hS' p _ (gPg hB hp) hsm B.e)) ?_;rintro ⟨A8,c8⟩ -)
 refine Zp J (Zn (Zzk ?_))
 (refine ZC0 rfl ZK (fun w hS=>frame hS ZQ (fun B' hB hS'=>ref26_Taken hS' p _ (gPg hB hp) hsm B.e)) ?_;rintro ⟨A10,c10⟩ -)
 refine Zp J (Zn (Za (wFreeze [row Kd.bool B.e 4 (.slice A8 p.fFuns.length c8) (liveL p),row Kd.bool B.e 4 (.slice A10 p.fFuns.length c10) (takenL p)] ZQ (fun B1 hB1 hq1=>?_))))
 have hL:Kd.bool.C B1.e A8 (liveL p):=row_Cs (W:=B.e) (e:=4) (n:=p.fFuns.length) (cp:=c8) (hq1 _ _ ZP)
 have hT:Kd.bool.C B1.e A10 (takenL p):=row_Cs (W:=B.e) (e:=4) (n:=p.fFuns.length) (cp:=c10) (hq1 _ _ ZP)
 have hp1:=kApiProgram.K_grow hB1 hp
 refine Zh (Zi (Zp J (Zn (Za (Zh (Zh (Zi (Zp J (Zn (Za (Zk (wLoop (ι:=Nat×List Hdr×Option Addr×Nat) (fun z=>[(1,.pointer (some ⟨b1,0,none⟩)),(3,.slice A8 p.fFuns.length c8),(4,.slice A10 p.fFuns.length c10),(5,.slice z.2.2.1 z.1 z.2.2.2),(6,.int .i64 (z.1:Int))]) (fun z=>[blk b1 29 (pcL p A0 c0 A1 c1),row kHdr W0 42 (.slice z.2.2.1 z.1 z.2.2.2) z.2.1,bun (rws (Kd.int .i64) W0 3 z.2.1 ((List.range z.1).map (edgF p)))]) (fun z=>z.1≤p.fFuns.length∧z.2.1.length=z.1) (fun z=>p.fFuns.length-z.1) (0,[],none,0) ?_ cv (Leads.nilrow.trans (bun_nil.trans Lh)) ?_))))))))))))
 exact ⟨Nat.zero_le _,rfl⟩
 rintro ⟨i,hs,A5,c5⟩ ⟨hi,hl⟩
 dsimp only at hi hl
 have hxl:((List.range i).map (edgF p)).length=i:=by simp
 try dsimp only
 refine Zh (Zh (Zi (Zo J (Zz (n:=0) (m:=0) J J J (Zld ?_)))))
 refine Zv J J (Zx J J (Zn (Za (wC (fun h15=>?_) (fun h15=>?_)))))
 obtain ⟨f,hf⟩:∃ f,p.fFuns[i]?=some f:=⟨_,List.getElem?_eq_getElem ZO⟩
 refine Zj (Za (Zh (Zk (Zi (Zo J (Zla ?_))))))
 refine Zo J (Zo J (Zo J ?_))
 (refine ZC0 rfl ZK (fun w hS=>frame hS ZQ (fun B' hB hS'=>ref26_Edges hS' p _ (gPg hB hp1) hsm i f hf A8 c8 (Kd.C_grow hB hL) A10 c10 (Kd.C_grow hB hT) W0)) ?_;rintro ⟨A23,c23⟩ -)
 refine oBuildSlice1 J J J J J ZP J (fun b24=>?_)
 refine oApp1 (kd:=kHdr) ((A23,(edgF p i).length,c23):Hdr) J J J J ZP ZP J ZO J (fun g25 cp25=>?_)
 refine oSnoc (kd:=Kd.int .i64) (W:=W0) (ei:=3) (u:=(A23,(edgF p i).length,c23)) (l:=edgF p i) (hs:=hs) (xss:=(List.range i).map (edgF p)) ZP ZP ZO ?_
 rw [show (List.range i).map (edgF p)++[edgF p i]=(List.range (i+1)).map (edgF p) by rw [List.range_succ,List.map_append];rfl,hl]
 refine Zp J (Zn (Zzd ?_))
 refine Zp J (Zn (Za ?_))
 exact ⟨rfl,(i+1,hs++[(A23,(edgF p i).length,c23)],some ⟨g25,0,none⟩,cp25),⟨by show i+1≤_;omega,by show (hs++_).length=i+1;rw [List.length_append,hl];rfl⟩,by show p.fFuns.length-(i+1)<p.fFuns.length-i;omega,cv,Lh⟩
 obtain rfl:i=p.fFuns.length:=by omega
 rw [← graphF_eq]
 refine Zm (Zzf ?_)
 exact ⟨(A5,c5,hs),hl,rfl,Lh⟩
theorem ref26_Called {B:Base}{w:World}(hS:St B [] w) (p:ApiProgram) (pc:List Value) (hp:kApiProgram.K B.e p pc) (hsm:SmallP p) (W0:World) :
 CW 34 #[.agg pc.toArray] w (Ret B (fun _:Option Addr×Nat=>True) (fun z=>.slice z.1 p.fFuns.length z.2) (fun z=>[row Kd.bool W0 4 (.slice z.1 p.fFuns.length z.2) (calledL p)])):=by
 obtain ⟨A0,c0,A1,c1,rfl,l0,g0,l1,g1⟩:=kApiProgram_open hp
 have hgl:(graphF p).length=p.fFuns.length:=graphF_len p
 refine ZX Tryz.func34 hS ?_
 refine Zh (Zi (oBox J ZP (fun b1=>?_)))
 refine Zp J (Zn (Za (Zh (wDrawN J J (ZM (i:=0) (rs:=[2]) ZK ?_)))))
 refine ZA J ?_ ?_
 refine Zla ?_
 refine Z7 (ZM (i:=1) (rs:=[2]) ZK ?_)
 refine ZA J ?_ ?_
 (refine ZC0 rfl ZK (fun w hS=>frame hS ZQ (fun B' hB hS'=>ref26_Graph hS' p _ (gPg hB hp) hsm B.e)) ?_;rintro ⟨A4,c4,hs4⟩ hl4)
 refine ZS0 (t:=4) (v':=.slice A4 (graphF p).length c4) rfl (by rw [hgl]) ?_
 refine Z7 (ZM (i:=2) (rs:=[]) ZK ?_)
 refine ZA J ?_ ?_
 refine Zz (n:=2) (m:=2) J J J (Z7 (ZM (i:=3) (rs:=[]) ZK ?_))
 refine ZA J ?_ ?_
 refine Zld ?_
 refine Z7 (ZM (i:=4) (rs:=[]) ZK ?_)
 refine ZA J ?_ ?_
 refine oBuildSlice1 J J J J J ZP J (fun b7=>?_)
 refine oConv (blk_row (enc:=Value.int .i64) (h1:=fun _=>J) (W:=B.e) (xs:=([p.fEntry]:List Int)) (n:=1) ZP J J (by decide)) ?_
 refine Z7 (ZM (i:=5) (rs:=[]) ZK ?_)
 refine ZA J ?_ ?_
 (refine ZD J (fun w B' hB hR hS'=>refReach hS' (graphF p) A4 c4 (grid_C (kd:=Kd.int .i64) (W:=B.e) (ei:=3) (eo:=42) (W0:=B.e) (n:=p.fFuns.length) (cp:=c4) (hs:=hs4) (A:=A4) (xss:=graphF p) (hR _ _ ZP) (hR _ _ ZP) (by rw [hl4,hgl]) hB) (grG_small hsm) [p.fEntry] (some ⟨b7,0,none⟩) 1 (row_Cs (W:=B.e) (e:=3) (n:=1) (cp:=1) (hR _ _ ZP)) W0) ?_;rintro ⟨A8,c8,l8⟩ ⟨hl8,hr8⟩)
 obtain rfl:=reach_uniq hl8 hr8
 rw [hgl]
 refine Z7 (ZM (i:=6) (rs:=[]) ZK ?_)
 refine ZA J ?_ ?_
 refine Zp J (Z7 (anNil ZK ?_))
 refine Za (Zzh ?_)
 exact ⟨(A8,c8),trivial,rfl,Lh⟩
 exact ZB
 exact ZB
 exact ZB
 exact ZB
 exact ZB
 refine ZA J ?_ ?_
 refine Zz (n:=2) (m:=2) J J J (Z7 (ZM (i:=1) (rs:=[3]) ZK ?_))
 refine ZA J ?_ ?_
 (refine ZC0 rfl ZK (fun w hS=>frame hS ZQ (fun B' hB hS'=>ref26_Graph hS' p _ (gPg hB hp) hsm B.e)) ?_;rintro ⟨A4,c4,hs4⟩ hl4)
 refine ZS0 (t:=4) (v':=.slice A4 (graphF p).length c4) rfl (by rw [hgl]) ?_
 refine Z7 (ZM (i:=3) (rs:=[]) ZK ?_)
 refine ZA J ?_ ?_
 refine Zld ?_
 refine Z7 (ZM (i:=4) (rs:=[]) ZK ?_)
 refine ZA J ?_ ?_
 refine oBuildSlice1 J J J J J ZP J (fun b7=>?_)
 refine oConv (blk_row (enc:=Value.int .i64) (h1:=fun _=>J) (W:=B.e) (xs:=([p.fEntry]:List Int)) (n:=1) ZP J J (by decide)) ?_
 refine Z7 (ZM (i:=5) (rs:=[]) ZK ?_)
 refine ZA J ?_ ?_
 (refine ZD J (fun w B' hB hR hS'=>refReach hS' (graphF p) A4 c4 (grid_C (kd:=Kd.int .i64) (W:=B.e) (ei:=3) (eo:=42) (W0:=B.e) (n:=p.fFuns.length) (cp:=c4) (hs:=hs4) (A:=A4) (xss:=graphF p) (hR _ _ ZP) (hR _ _ ZP) (by rw [hl4,hgl]) hB) (grG_small hsm) [p.fEntry] (some ⟨b7,0,none⟩) 1 (row_Cs (W:=B.e) (e:=3) (n:=1) (cp:=1) (hR _ _ ZP)) W0) ?_;rintro ⟨A8,c8,l8⟩ ⟨hl8,hr8⟩)
 obtain rfl:=reach_uniq hl8 hr8
 rw [hgl]
 refine Z7 (ZM (i:=6) (rs:=[]) ZK ?_)
 refine ZA J ?_ ?_
 refine Zp J (Z7 (anNil ZK ?_))
 refine Za (Zzh ?_)
 exact ⟨(A8,c8),trivial,rfl,Lh⟩
 exact ZB
 exact ZB
 exact ZB
 exact ZB
 refine ZA J ?_ ?_
 refine Zld ?_
 refine Z7 (ZM (i:=1) (rs:=[4]) ZK ?_)
 refine ZA J ?_ ?_
 (refine ZC0 rfl ZK (fun w hS=>frame hS ZQ (fun B' hB hS'=>ref26_Graph hS' p _ (gPg hB hp) hsm B.e)) ?_;rintro ⟨A4,c4,hs4⟩ hl4)
 refine ZS0 (t:=4) (v':=.slice A4 (graphF p).length c4) rfl (by rw [hgl]) ?_
 refine Z7 (ZM (i:=4) (rs:=[]) ZK ?_)
 refine ZA J ?_ ?_
 refine oBuildSlice1 J J J J J ZP J (fun b7=>?_)
 refine oConv (blk_row (enc:=Value.int .i64) (h1:=fun _=>J) (W:=B.e) (xs:=([p.fEntry]:List Int)) (n:=1) ZP J J (by decide)) ?_
 refine Z7 (ZM (i:=5) (rs:=[]) ZK ?_)
 refine ZA J ?_ ?_
 (refine ZD J (fun w B' hB hR hS'=>refReach hS' (graphF p) A4 c4 (grid_C (kd:=Kd.int .i64) (W:=B.e) (ei:=3) (eo:=42) (W0:=B.e) (n:=p.fFuns.length) (cp:=c4) (hs:=hs4) (A:=A4) (xss:=graphF p) (hR _ _ ZP) (hR _ _ ZP) (by rw [hl4,hgl]) hB) (grG_small hsm) [p.fEntry] (some ⟨b7,0,none⟩) 1 (row_Cs (W:=B.e) (e:=3) (n:=1) (cp:=1) (hR _ _ ZP)) W0) ?_;rintro ⟨A8,c8,l8⟩ ⟨hl8,hr8⟩)
 obtain rfl:=reach_uniq hl8 hr8
 rw [hgl]
 refine Z7 (ZM (i:=6) (rs:=[]) ZK ?_)
 refine ZA J ?_ ?_
 refine Zp J (Z7 (anNil ZK ?_))
 refine Za (Zzh ?_)
 exact ⟨(A8,c8),trivial,rfl,Lh⟩
 exact ZB
 exact ZB
 exact ZB
 refine ZA J ?_ ?_
 refine oBuildSlice1 J J J J J ZP J (fun b7=>?_)
 refine oConv (blk_row (enc:=Value.int .i64) (h1:=fun _=>J) (W:=B.e) (xs:=([p.fEntry]:List Int)) (n:=1) ZP J J (by decide)) ?_
 refine Z7 (ZM (i:=1) (rs:=[]) ZK ?_)
 refine ZA J ?_ ?_
 (refine ZC0 rfl ZK (fun w hS=>frame hS ZQ (fun B' hB hS'=>ref26_Graph hS' p _ (gPg hB hp) hsm B.e)) ?_;rintro ⟨A4,c4,hs4⟩ hl4)
 refine ZS0 (t:=4) (v':=.slice A4 (graphF p).length c4) rfl (by rw [hgl]) ?_
 refine Z7 (ZM (i:=5) (rs:=[]) ZK ?_)
 refine ZA J ?_ ?_
 (refine ZD J (fun w B' hB hR hS'=>refReach hS' (graphF p) A4 c4 (grid_C (kd:=Kd.int .i64) (W:=B.e) (ei:=3) (eo:=42) (W0:=B.e) (n:=p.fFuns.length) (cp:=c4) (hs:=hs4) (A:=A4) (xss:=graphF p) (hR _ _ ZP) (hR _ _ ZP) (by rw [hl4,hgl]) hB) (grG_small hsm) [p.fEntry] (some ⟨b7,0,none⟩) 1 (row_Cs (W:=B.e) (e:=3) (n:=1) (cp:=1) (hR _ _ ZP)) W0) ?_;rintro ⟨A8,c8,l8⟩ ⟨hl8,hr8⟩)
 obtain rfl:=reach_uniq hl8 hr8
 rw [hgl]
 refine Z7 (ZM (i:=6) (rs:=[]) ZK ?_)
 refine ZA J ?_ ?_
 refine Zp J (Z7 (anNil ZK ?_))
 refine Za (Zzh ?_)
 exact ⟨(A8,c8),trivial,rfl,Lh⟩
 exact ZB
 exact ZB
 exact ZB
 exact ZB
 exact ZB
 exact ZB
 refine ZA J ?_ ?_
 refine Zz (n:=2) (m:=2) J J J (Z7 (ZM (i:=0) (rs:=[3]) ZK ?_))
 refine ZA J ?_ ?_
 refine Zla ?_
 refine Z7 (ZM (i:=1) (rs:=[3]) ZK ?_)
 refine ZA J ?_ ?_
 (refine ZC0 rfl ZK (fun w hS=>frame hS ZQ (fun B' hB hS'=>ref26_Graph hS' p _ (gPg hB hp) hsm B.e)) ?_;rintro ⟨A4,c4,hs4⟩ hl4)
 refine ZS0 (t:=4) (v':=.slice A4 (graphF p).length c4) rfl (by rw [hgl]) ?_
 refine Z7 (ZM (i:=3) (rs:=[]) ZK ?_)
 refine ZA J ?_ ?_
 refine Zld ?_
 refine Z7 (ZM (i:=4) (rs:=[]) ZK ?_)
 refine ZA J ?_ ?_
 refine oBuildSlice1 J J J J J ZP J (fun b7=>?_)
 refine oConv (blk_row (enc:=Value.int .i64) (h1:=fun _=>J) (W:=B.e) (xs:=([p.fEntry]:List Int)) (n:=1) ZP J J (by decide)) ?_
 refine Z7 (ZM (i:=5) (rs:=[]) ZK ?_)
 refine ZA J ?_ ?_
 (refine ZD J (fun w B' hB hR hS'=>refReach hS' (graphF p) A4 c4 (grid_C (kd:=Kd.int .i64) (W:=B.e) (ei:=3) (eo:=42) (W0:=B.e) (n:=p.fFuns.length) (cp:=c4) (hs:=hs4) (A:=A4) (xss:=graphF p) (hR _ _ ZP) (hR _ _ ZP) (by rw [hl4,hgl]) hB) (grG_small hsm) [p.fEntry] (some ⟨b7,0,none⟩) 1 (row_Cs (W:=B.e) (e:=3) (n:=1) (cp:=1) (hR _ _ ZP)) W0) ?_;rintro ⟨A8,c8,l8⟩ ⟨hl8,hr8⟩)
 obtain rfl:=reach_uniq hl8 hr8
 rw [hgl]
 refine Z7 (ZM (i:=6) (rs:=[]) ZK ?_)
 refine ZA J ?_ ?_
 refine Zp J (Z7 (anNil ZK ?_))
 refine Za (Zzh ?_)
 exact ⟨(A8,c8),trivial,rfl,Lh⟩
 exact ZB
 exact ZB
 exact ZB
 exact ZB
 refine ZA J ?_ ?_
 refine Zld ?_
 refine Z7 (ZM (i:=1) (rs:=[4]) ZK ?_)
 refine ZA J ?_ ?_
 (refine ZC0 rfl ZK (fun w hS=>frame hS ZQ (fun B' hB hS'=>ref26_Graph hS' p _ (gPg hB hp) hsm B.e)) ?_;rintro ⟨A4,c4,hs4⟩ hl4)
 refine ZS0 (t:=4) (v':=.slice A4 (graphF p).length c4) rfl (by rw [hgl]) ?_
 refine Z7 (ZM (i:=4) (rs:=[]) ZK ?_)
 refine ZA J ?_ ?_
 refine oBuildSlice1 J J J J J ZP J (fun b7=>?_)
 refine oConv (blk_row (enc:=Value.int .i64) (h1:=fun _=>J) (W:=B.e) (xs:=([p.fEntry]:List Int)) (n:=1) ZP J J (by decide)) ?_
 refine Z7 (ZM (i:=5) (rs:=[]) ZK ?_)
 refine ZA J ?_ ?_
 (refine ZD J (fun w B' hB hR hS'=>refReach hS' (graphF p) A4 c4 (grid_C (kd:=Kd.int .i64) (W:=B.e) (ei:=3) (eo:=42) (W0:=B.e) (n:=p.fFuns.length) (cp:=c4) (hs:=hs4) (A:=A4) (xss:=graphF p) (hR _ _ ZP) (hR _ _ ZP) (by rw [hl4,hgl]) hB) (grG_small hsm) [p.fEntry] (some ⟨b7,0,none⟩) 1 (row_Cs (W:=B.e) (e:=3) (n:=1) (cp:=1) (hR _ _ ZP)) W0) ?_;rintro ⟨A8,c8,l8⟩ ⟨hl8,hr8⟩)
 obtain rfl:=reach_uniq hl8 hr8
 rw [hgl]
 refine Z7 (ZM (i:=6) (rs:=[]) ZK ?_)
 refine ZA J ?_ ?_
 refine Zp J (Z7 (anNil ZK ?_))
 refine Za (Zzh ?_)
 exact ⟨(A8,c8),trivial,rfl,Lh⟩
 exact ZB
 exact ZB
 exact ZB
 refine ZA J ?_ ?_
 refine oBuildSlice1 J J J J J ZP J (fun b7=>?_)
 refine oConv (blk_row (enc:=Value.int .i64) (h1:=fun _=>J) (W:=B.e) (xs:=([p.fEntry]:List Int)) (n:=1) ZP J J (by decide)) ?_
 refine Z7 (ZM (i:=1) (rs:=[]) ZK ?_)
 refine ZA J ?_ ?_
 (refine ZC0 rfl ZK (fun w hS=>frame hS ZQ (fun B' hB hS'=>ref26_Graph hS' p _ (gPg hB hp) hsm B.e)) ?_;rintro ⟨A4,c4,hs4⟩ hl4)
 refine ZS0 (t:=4) (v':=.slice A4 (graphF p).length c4) rfl (by rw [hgl]) ?_
 refine Z7 (ZM (i:=5) (rs:=[]) ZK ?_)
 refine ZA J ?_ ?_
 (refine ZD J (fun w B' hB hR hS'=>refReach hS' (graphF p) A4 c4 (grid_C (kd:=Kd.int .i64) (W:=B.e) (ei:=3) (eo:=42) (W0:=B.e) (n:=p.fFuns.length) (cp:=c4) (hs:=hs4) (A:=A4) (xss:=graphF p) (hR _ _ ZP) (hR _ _ ZP) (by rw [hl4,hgl]) hB) (grG_small hsm) [p.fEntry] (some ⟨b7,0,none⟩) 1 (row_Cs (W:=B.e) (e:=3) (n:=1) (cp:=1) (hR _ _ ZP)) W0) ?_;rintro ⟨A8,c8,l8⟩ ⟨hl8,hr8⟩)
 obtain rfl:=reach_uniq hl8 hr8
 rw [hgl]
 refine Z7 (ZM (i:=6) (rs:=[]) ZK ?_)
 refine ZA J ?_ ?_
 refine Zp J (Z7 (anNil ZK ?_))
 refine Za (Zzh ?_)
 exact ⟨(A8,c8),trivial,rfl,Lh⟩
 exact ZB
 exact ZB
 exact ZB
 exact ZB
 exact ZB
 refine ZA J ?_ ?_
 refine Zld ?_
 refine Z7 (ZM (i:=0) (rs:=[4]) ZK ?_)
 refine ZA J ?_ ?_
 refine Zla ?_
 refine Z7 (ZM (i:=1) (rs:=[4]) ZK ?_)
 refine ZA J ?_ ?_
 (refine ZC0 rfl ZK (fun w hS=>frame hS ZQ (fun B' hB hS'=>ref26_Graph hS' p _ (gPg hB hp) hsm B.e)) ?_;rintro ⟨A4,c4,hs4⟩ hl4)
 refine ZS0 (t:=4) (v':=.slice A4 (graphF p).length c4) rfl (by rw [hgl]) ?_
 refine Z7 (ZM (i:=4) (rs:=[]) ZK ?_)
 refine ZA J ?_ ?_
 refine oBuildSlice1 J J J J J ZP J (fun b7=>?_)
 refine oConv (blk_row (enc:=Value.int .i64) (h1:=fun _=>J) (W:=B.e) (xs:=([p.fEntry]:List Int)) (n:=1) ZP J J (by decide)) ?_
 refine Z7 (ZM (i:=5) (rs:=[]) ZK ?_)
 refine ZA J ?_ ?_
 (refine ZD J (fun w B' hB hR hS'=>refReach hS' (graphF p) A4 c4 (grid_C (kd:=Kd.int .i64) (W:=B.e) (ei:=3) (eo:=42) (W0:=B.e) (n:=p.fFuns.length) (cp:=c4) (hs:=hs4) (A:=A4) (xss:=graphF p) (hR _ _ ZP) (hR _ _ ZP) (by rw [hl4,hgl]) hB) (grG_small hsm) [p.fEntry] (some ⟨b7,0,none⟩) 1 (row_Cs (W:=B.e) (e:=3) (n:=1) (cp:=1) (hR _ _ ZP)) W0) ?_;rintro ⟨A8,c8,l8⟩ ⟨hl8,hr8⟩)
 obtain rfl:=reach_uniq hl8 hr8
 rw [hgl]
 refine Z7 (ZM (i:=6) (rs:=[]) ZK ?_)
 refine ZA J ?_ ?_
 refine Zp J (Z7 (anNil ZK ?_))
 refine Za (Zzh ?_)
 exact ⟨(A8,c8),trivial,rfl,Lh⟩
 exact ZB
 exact ZB
 exact ZB
 refine ZA J ?_ ?_
 refine oBuildSlice1 J J J J J ZP J (fun b7=>?_)
 refine oConv (blk_row (enc:=Value.int .i64) (h1:=fun _=>J) (W:=B.e) (xs:=([p.fEntry]:List Int)) (n:=1) ZP J J (by decide)) ?_
 refine Z7 (ZM (i:=1) (rs:=[]) ZK ?_)
 refine ZA J ?_ ?_
 (refine ZC0 rfl ZK (fun w hS=>frame hS ZQ (fun B' hB hS'=>ref26_Graph hS' p _ (gPg hB hp) hsm B.e)) ?_;rintro ⟨A4,c4,hs4⟩ hl4)
 refine ZS0 (t:=4) (v':=.slice A4 (graphF p).length c4) rfl (by rw [hgl]) ?_
 refine Z7 (ZM (i:=5) (rs:=[]) ZK ?_)
 refine ZA J ?_ ?_
 (refine ZD J (fun w B' hB hR hS'=>refReach hS' (graphF p) A4 c4 (grid_C (kd:=Kd.int .i64) (W:=B.e) (ei:=3) (eo:=42) (W0:=B.e) (n:=p.fFuns.length) (cp:=c4) (hs:=hs4) (A:=A4) (xss:=graphF p) (hR _ _ ZP) (hR _ _ ZP) (by rw [hl4,hgl]) hB) (grG_small hsm) [p.fEntry] (some ⟨b7,0,none⟩) 1 (row_Cs (W:=B.e) (e:=3) (n:=1) (cp:=1) (hR _ _ ZP)) W0) ?_;rintro ⟨A8,c8,l8⟩ ⟨hl8,hr8⟩)
 obtain rfl:=reach_uniq hl8 hr8
 rw [hgl]
 refine Z7 (ZM (i:=6) (rs:=[]) ZK ?_)
 refine ZA J ?_ ?_
 refine Zp J (Z7 (anNil ZK ?_))
 refine Za (Zzh ?_)
 exact ⟨(A8,c8),trivial,rfl,Lh⟩
 exact ZB
 exact ZB
 exact ZB
 exact ZB
 refine ZA J ?_ ?_
 refine oBuildSlice1 J J J J J ZP J (fun b7=>?_)
 refine oConv (blk_row (enc:=Value.int .i64) (h1:=fun _=>J) (W:=B.e) (xs:=([p.fEntry]:List Int)) (n:=1) ZP J J (by decide)) ?_
 refine Z7 (ZM (i:=0) (rs:=[]) ZK ?_)
 refine ZA J ?_ ?_
 refine Zla ?_
 refine Z7 (ZM (i:=1) (rs:=[]) ZK ?_)
 refine ZA J ?_ ?_
 (refine ZC0 rfl ZK (fun w hS=>frame hS ZQ (fun B' hB hS'=>ref26_Graph hS' p _ (gPg hB hp) hsm B.e)) ?_;rintro ⟨A4,c4,hs4⟩ hl4)
 refine ZS0 (t:=4) (v':=.slice A4 (graphF p).length c4) rfl (by rw [hgl]) ?_
 refine Z7 (ZM (i:=5) (rs:=[]) ZK ?_)
 refine ZA J ?_ ?_
 (refine ZD J (fun w B' hB hR hS'=>refReach hS' (graphF p) A4 c4 (grid_C (kd:=Kd.int .i64) (W:=B.e) (ei:=3) (eo:=42) (W0:=B.e) (n:=p.fFuns.length) (cp:=c4) (hs:=hs4) (A:=A4) (xss:=graphF p) (hR _ _ ZP) (hR _ _ ZP) (by rw [hl4,hgl]) hB) (grG_small hsm) [p.fEntry] (some ⟨b7,0,none⟩) 1 (row_Cs (W:=B.e) (e:=3) (n:=1) (cp:=1) (hR _ _ ZP)) W0) ?_;rintro ⟨A8,c8,l8⟩ ⟨hl8,hr8⟩)
 obtain rfl:=reach_uniq hl8 hr8
 rw [hgl]
 refine Z7 (ZM (i:=6) (rs:=[]) ZK ?_)
 refine ZA J ?_ ?_
 refine Zp J (Z7 (anNil ZK ?_))
 refine Za (Zzh ?_)
 exact ⟨(A8,c8),trivial,rfl,Lh⟩
 exact ZB
 exact ZB
 exact ZB
 exact ZB
 exact ZB
 exact ZB
 exact ZB
end Go.Proofs.YtogaiijhicfoaaaGreatU
namespace Go.Proofs.YtogaiijhicfoaaaGreatV
set_option maxRecDepth 100000
set_option maxHeartbeats 4000000
open Go.RowKit Go.Proofs.YtogaiijhicfoaaaGreatK Go.Proofs.YtogaiijhicfoaaaGreatT Go.Proofs.YtogaiijhicfoaaaGreatL

theorem nextL_any (x:ApiInstr) (i:Int) (p:Int→Bool):(nextL x i).any p=(nextR x i).any p:=by
 rw [Bool.eq_iff_iff,List.any_eq_true,List.any_eq_true]
 constructor
 · rintro ⟨y,hy,h⟩;exact ⟨y,((sorted_spec _).2 y).1 hy,h⟩
 · rintro ⟨y,hy,h⟩;exact ⟨y,((sorted_spec _).2 y).2 hy,h⟩
theorem flowF_eq (code:List ApiInstr):flowF code=if code.length=0 then 3 else if 64<code.length then 6 else if (List.range code.length).any (fun i=>(nextR (code.getD i default) (i:Int)).any (outF code.length)) then 10 else 0:=by
 have h:(graphF code).any (fun l=>l.any (outF code.length))=(List.range code.length).any (fun i=>(nextR (code.getD i default) (i:Int)).any (outF code.length)):=by
  unfold graphF
  rw [List.any_map]
  rw [Bool.eq_iff_iff,List.any_eq_true,List.any_eq_true]
  have key:∀ i ∈ List.range code.length,((fun l:List Int=>l.any (outF code.length)) ∘ fun i:Nat=>nextF code (i:Int)) i=(nextR (code.getD i default) (i:Int)).any (outF code.length):=by
   intro i hi
   have:=List.mem_range.1 hi
   show (nextF code (i:Int)).any _=_
   unfold nextF
   rw [if_neg ZO,Int.toNat_natCast,nextL_any]
  constructor
  · rintro ⟨i,hi,hp⟩;exact ⟨i,hi,by rw [← key i hi];exact hp⟩
  · rintro ⟨i,hi,hp⟩;exact ⟨i,hi,by rw [key i hi];exact hp⟩
 unfold flowF
 rw [h]
theorem shapeF_rr {o:Int}(h:4≤o∧o≤10):shapeF o=⟨#[119,114,114,45]⟩:=by
 have h1:∀ n,n<7→shapesL.getD (n+3) ByteArray.empty=⟨#[119,114,114,45]⟩:=by decide
 unfold shapeF
 rw [if_pos (ownF_iff.2 ZO)]
 have:=h1 (o-4).toNat ZO
 rwa [show (o-4).toNat+3=(o-1).toNat by omega] at this
theorem shapeF_out {o:Int}(h:¬ (1≤o∧o≤24)):shapeF o=ByteArray.empty:=by
 unfold shapeF
 rw [if_neg (fun k=>h (ownF_iff.1 k))]
theorem ref7_Shape {B:Base}{w:World}(hS:St B [] w) (o:Int) :
 CW 258 #[.int .i64 o] w (Ret B (fun _:Unit=>True) (fun _=>.string (shapeF o)) (fun _=>[])):=by
 refine ZX Tryz.func258 hS ?_
 refine Zh (Zi (Zp J (Zn (Za (Zh (Zh (Zi (Zo J (Z2 J J (Zo J (ZS (ZT 5) (fun h5=>?_) (fun h5=>?_))))))))))))
 refine Zq J J (Zo J (Zq J J (oLeq J J (Zt J J (Zn (Za (wC (fun h8=>?_) (fun h8=>?_))))))))
 refine Zh (Zi (Zze ?_))
 exact ⟨(),trivial,by rw [shapeF_rr ZO];rfl,Lh⟩
 refine Zj (Zzn ?_)
 (refine ZC0 rfl ZK (fun w hS=>frame hS ZQ (fun B' hB hS'=>ref7_Name hS' o)) ?_;rintro ⟨⟩ -)
 refine Zn (Za (Zk (Zh (Zi (oSEq J J (Zp J (Zn (Za (wC (fun h11=>?_) (fun h11=>?_))))))))))
 refine Zh (Zzm ?_)
 have ho:=name_case 0 (by decide) (by decide) h11
 exact ⟨(),trivial,by subst ho;rfl,Lh⟩
 refine Zh (Zi (oSEq J J (Zp J (Zn (Za (wC (fun h13=>?_) (fun h13=>?_)))))))
 refine Zh (Zzm ?_)
 have ho:=name_case 1 (by decide) (by decide) h13
 exact ⟨(),trivial,by subst ho;rfl,Lh⟩
 refine Zh (Zh (Zi (oSEq J J (Zp J (Zn (Za (wC (fun h15=>?_) (fun h15=>?_))))))))
 refine Zj (Za (ZY h15 ?_))
 refine Zh (Zzm ?_)
 have ho:o=3∨o=15:=by first | exact .inl (name_case 2 (by decide) (by decide) h15) | exact .inr (name_case 14 (by decide) (by decide) h15)
 exact ⟨(),trivial,by rcases ho with rfl | rfl <;> rfl,Lh⟩
 refine Zi (oSEq J J ?_)
 have n15:=name_not 2 (by decide) rfl h15
 refine Zp J (Zn (Za (wC (fun h15=>?_) (fun h15=>?_))))
 refine Zh (Zzm ?_)
 have ho:o=3∨o=15:=by first | exact .inl (name_case 2 (by decide) (by decide) h15) | exact .inr (name_case 14 (by decide) (by decide) h15)
 exact ⟨(),trivial,by rcases ho with rfl | rfl <;> rfl,Lh⟩
 refine Zh (Zi (oSEq J J (Zp J (Zn (Za (wC (fun h18=>?_) (fun h18=>?_)))))))
 refine Zh (Zzm ?_)
 have ho:=name_case 10 (by decide) (by decide) h18
 exact ⟨(),trivial,by subst ho;rfl,Lh⟩
 refine Zh (Zi (oSEq J J (Zp J (Zn (Za (wC (fun h20=>?_) (fun h20=>?_)))))))
 refine Zh (Zzm ?_)
 have ho:=name_case 11 (by decide) (by decide) h20
 exact ⟨(),trivial,by subst ho;rfl,Lh⟩
 refine Zh (Zi (oSEq J J (Zp J (Zn (Za (wC (fun h22=>?_) (fun h22=>?_)))))))
 refine Zh (Zzm ?_)
 have ho:=name_case 12 (by decide) (by decide) h22
 exact ⟨(),trivial,by subst ho;rfl,Lh⟩
 refine Zh (Zh (Zi (oSEq J J (Zp J (Zn (Za (wC (fun h24=>?_) (fun h24=>?_))))))))
 refine Zj (Za (ZY h24 ?_))
 refine Zh (Zzm ?_)
 have ho:o=14∨o=22:=by first | exact .inl (name_case 13 (by decide) (by decide) h24) | exact .inr (name_case 21 (by decide) (by decide) h24)
 exact ⟨(),trivial,by rcases ho with rfl | rfl <;> rfl,Lh⟩
 refine Zi (oSEq J J ?_)
 have n24:=name_not 13 (by decide) rfl h24
 refine Zp J (Zn (Za (wC (fun h24=>?_) (fun h24=>?_))))
 refine Zh (Zzm ?_)
 have ho:o=14∨o=22:=by first | exact .inl (name_case 13 (by decide) (by decide) h24) | exact .inr (name_case 21 (by decide) (by decide) h24)
 exact ⟨(),trivial,by rcases ho with rfl | rfl <;> rfl,Lh⟩
 refine Zh (Zi (oSEq J J (Zp J (Zn (Za (wC (fun h27=>?_) (fun h27=>?_)))))))
 refine Zh (Zzm ?_)
 have ho:=name_case 15 (by decide) (by decide) h27
 exact ⟨(),trivial,by subst ho;rfl,Lh⟩
 refine Zh (Zi (oSEq J J (Zp J (Zn (Za (wC (fun h29=>?_) (fun h29=>?_)))))))
 refine Zh (Zzm ?_)
 have ho:=name_case 16 (by decide) (by decide) h29
 exact ⟨(),trivial,by subst ho;rfl,Lh⟩
 refine Zh (Zi (oSEq J J (Zp J (Zn (Za (wC (fun h31=>?_) (fun h31=>?_)))))))
 refine Zh (Zzm ?_)
 have ho:=name_case 17 (by decide) (by decide) h31
 exact ⟨(),trivial,by subst ho;rfl,Lh⟩
 refine Zh (Zi (oSEq J J (Zp J (Zn (Za (wC (fun h33=>?_) (fun h33=>?_)))))))
 refine Zh (Zzm ?_)
 have ho:=name_case 18 (by decide) (by decide) h33
 exact ⟨(),trivial,by subst ho;rfl,Lh⟩
 refine Zh (Zi (oSEq J J (Zp J (Zn (Za (wC (fun h35=>?_) (fun h35=>?_)))))))
 refine Zh (Zzm ?_)
 have ho:=name_case 19 (by decide) (by decide) h35
 exact ⟨(),trivial,by subst ho;rfl,Lh⟩
 refine Zh (Zi (oSEq J J (Zp J (Zn (Za (wC (fun h37=>?_) (fun h37=>?_)))))))
 refine Zh (Zzm ?_)
 have ho:=name_case 20 (by decide) (by decide) h37
 exact ⟨(),trivial,by subst ho;rfl,Lh⟩
 refine Zh (Zi (oSEq J J (Zp J (Zn (Za (wC (fun h39=>?_) (fun h39=>?_)))))))
 refine Zh (Zzm ?_)
 have ho:=name_case 22 (by decide) (by decide) h39
 exact ⟨(),trivial,by subst ho;rfl,Lh⟩
 refine Zh (Zi (oSEq J J (Zp J (Zn (Za (wC (fun h41=>?_) (fun h41=>?_)))))))
 refine Zh (Zzm ?_)
 have ho:=name_case 23 (by decide) (by decide) h41
 exact ⟨(),trivial,by subst ho;rfl,Lh⟩
 refine Zh (Zzm ?_)
 have n1:=name_not 0 (by decide) rfl h11
 have n2:=name_not 1 (by decide) rfl h13
 have n3:=name_not 14 (by decide) rfl h15
 have n4:=name_not 10 (by decide) rfl h18
 have n5:=name_not 11 (by decide) rfl h20
 have n6:=name_not 12 (by decide) rfl h22
 have n7:=name_not 21 (by decide) rfl h24
 have n8:=name_not 15 (by decide) rfl h27
 have n9:=name_not 16 (by decide) rfl h29
 have n10:=name_not 17 (by decide) rfl h31
 have n11:=name_not 18 (by decide) rfl h33
 have n12:=name_not 19 (by decide) rfl h35
 have n13:=name_not 20 (by decide) rfl h37
 have n14:=name_not 22 (by decide) rfl h39
 have n16:=name_not 23 (by decide) rfl h41
 exact ⟨(),trivial,by rw [shapeF_out ZO];rfl,Lh⟩
 refine Zr J J J J (Zr J J J J (Zu J J (Zn (Za (wCondF J (Zj (Zzn ?_)))))))
 (refine ZC0 rfl ZK (fun w hS=>frame hS ZQ (fun B' hB hS'=>ref7_Name hS' o)) ?_;rintro ⟨⟩ -)
 refine Zn (Za (Zk (Zh (Zi (oSEq J J (Zp J (Zn (Za (wC (fun h11=>?_) (fun h11=>?_))))))))))
 refine Zh (Zzm ?_)
 have ho:=name_case 0 (by decide) (by decide) h11
 exact ⟨(),trivial,by subst ho;rfl,Lh⟩
 refine Zh (Zi (oSEq J J (Zp J (Zn (Za (wC (fun h13=>?_) (fun h13=>?_)))))))
 refine Zh (Zzm ?_)
 have ho:=name_case 1 (by decide) (by decide) h13
 exact ⟨(),trivial,by subst ho;rfl,Lh⟩
 refine Zh (Zh (Zi (oSEq J J (Zp J (Zn (Za (wC (fun h15=>?_) (fun h15=>?_))))))))
 refine Zj (Za (ZY h15 ?_))
 refine Zh (Zzm ?_)
 have ho:o=3∨o=15:=by first | exact .inl (name_case 2 (by decide) (by decide) h15) | exact .inr (name_case 14 (by decide) (by decide) h15)
 exact ⟨(),trivial,by rcases ho with rfl | rfl <;> rfl,Lh⟩
 refine Zi (oSEq J J ?_)
 have n15:=name_not 2 (by decide) rfl h15
 refine Zp J (Zn (Za (wC (fun h15=>?_) (fun h15=>?_))))
 refine Zh (Zzm ?_)
 have ho:o=3∨o=15:=by first | exact .inl (name_case 2 (by decide) (by decide) h15) | exact .inr (name_case 14 (by decide) (by decide) h15)
 exact ⟨(),trivial,by rcases ho with rfl | rfl <;> rfl,Lh⟩
 refine Zh (Zi (oSEq J J (Zp J (Zn (Za (wC (fun h18=>?_) (fun h18=>?_)))))))
 refine Zh (Zzm ?_)
 have ho:=name_case 10 (by decide) (by decide) h18
 exact ⟨(),trivial,by subst ho;rfl,Lh⟩
 refine Zh (Zi (oSEq J J (Zp J (Zn (Za (wC (fun h20=>?_) (fun h20=>?_)))))))
 refine Zh (Zzm ?_)
 have ho:=name_case 11 (by decide) (by decide) h20
 exact ⟨(),trivial,by subst ho;rfl,Lh⟩
 refine Zh (Zi (oSEq J J (Zp J (Zn (Za (wC (fun h22=>?_) (fun h22=>?_)))))))
 refine Zh (Zzm ?_)
 have ho:=name_case 12 (by decide) (by decide) h22
 exact ⟨(),trivial,by subst ho;rfl,Lh⟩
 refine Zh (Zh (Zi (oSEq J J (Zp J (Zn (Za (wC (fun h24=>?_) (fun h24=>?_))))))))
 refine Zj (Za (ZY h24 ?_))
 refine Zh (Zzm ?_)
 have ho:o=14∨o=22:=by first | exact .inl (name_case 13 (by decide) (by decide) h24) | exact .inr (name_case 21 (by decide) (by decide) h24)
 exact ⟨(),trivial,by rcases ho with rfl | rfl <;> rfl,Lh⟩
 refine Zi (oSEq J J ?_)
 have n24:=name_not 13 (by decide) rfl h24
 refine Zp J (Zn (Za (wC (fun h24=>?_) (fun h24=>?_))))
 refine Zh (Zzm ?_)
 have ho:o=14∨o=22:=by first | exact .inl (name_case 13 (by decide) (by decide) h24) | exact .inr (name_case 21 (by decide) (by decide) h24)
 exact ⟨(),trivial,by rcases ho with rfl | rfl <;> rfl,Lh⟩
 refine Zh (Zi (oSEq J J (Zp J (Zn (Za (wC (fun h27=>?_) (fun h27=>?_)))))))
 refine Zh (Zzm ?_)
 have ho:=name_case 15 (by decide) (by decide) h27
 exact ⟨(),trivial,by subst ho;rfl,Lh⟩
 refine Zh (Zi (oSEq J J (Zp J (Zn (Za (wC (fun h29=>?_) (fun h29=>?_)))))))
 refine Zh (Zzm ?_)
 have ho:=name_case 16 (by decide) (by decide) h29
 exact ⟨(),trivial,by subst ho;rfl,Lh⟩
 refine Zh (Zi (oSEq J J (Zp J (Zn (Za (wC (fun h31=>?_) (fun h31=>?_)))))))
 refine Zh (Zzm ?_)
 have ho:=name_case 17 (by decide) (by decide) h31
 exact ⟨(),trivial,by subst ho;rfl,Lh⟩
 refine Zh (Zi (oSEq J J (Zp J (Zn (Za (wC (fun h33=>?_) (fun h33=>?_)))))))
 refine Zh (Zzm ?_)
 have ho:=name_case 18 (by decide) (by decide) h33
 exact ⟨(),trivial,by subst ho;rfl,Lh⟩
 refine Zh (Zi (oSEq J J (Zp J (Zn (Za (wC (fun h35=>?_) (fun h35=>?_)))))))
 refine Zh (Zzm ?_)
 have ho:=name_case 19 (by decide) (by decide) h35
 exact ⟨(),trivial,by subst ho;rfl,Lh⟩
 refine Zh (Zi (oSEq J J (Zp J (Zn (Za (wC (fun h37=>?_) (fun h37=>?_)))))))
 refine Zh (Zzm ?_)
 have ho:=name_case 20 (by decide) (by decide) h37
 exact ⟨(),trivial,by subst ho;rfl,Lh⟩
 refine Zh (Zi (oSEq J J (Zp J (Zn (Za (wC (fun h39=>?_) (fun h39=>?_)))))))
 refine Zh (Zzm ?_)
 have ho:=name_case 22 (by decide) (by decide) h39
 exact ⟨(),trivial,by subst ho;rfl,Lh⟩
 refine Zh (Zi (oSEq J J (Zp J (Zn (Za (wC (fun h41=>?_) (fun h41=>?_)))))))
 refine Zh (Zzm ?_)
 have ho:=name_case 23 (by decide) (by decide) h41
 exact ⟨(),trivial,by subst ho;rfl,Lh⟩
 refine Zh (Zzm ?_)
 have n1:=name_not 0 (by decide) rfl h11
 have n2:=name_not 1 (by decide) rfl h13
 have n3:=name_not 14 (by decide) rfl h15
 have n4:=name_not 10 (by decide) rfl h18
 have n5:=name_not 11 (by decide) rfl h20
 have n6:=name_not 12 (by decide) rfl h22
 have n7:=name_not 21 (by decide) rfl h24
 have n8:=name_not 15 (by decide) rfl h27
 have n9:=name_not 16 (by decide) rfl h29
 have n10:=name_not 17 (by decide) rfl h31
 have n11:=name_not 18 (by decide) rfl h33
 have n12:=name_not 19 (by decide) rfl h35
 have n13:=name_not 20 (by decide) rfl h37
 have n14:=name_not 22 (by decide) rfl h39
 have n16:=name_not 23 (by decide) rfl h41
 exact ⟨(),trivial,by rw [shapeF_out ZO];rfl,Lh⟩
theorem opd_at (x:ApiInstr) {i:Nat}(h:i<4):opdF x (i:Int)=(numsL x).getD (1+i) 0:=by
 unfold opdF
 rw [if_neg ZO,Int.toNat_natCast]
theorem ref8_Operand {B:Base}{w:World}(hS:St B [] w) (x:ApiInstr) (xc:List Value) (hx:kApiInstr.K B.e x xc) (i:Int) :
 CW 260 #[.agg xc.toArray,.int .i64 i] w (Ret B (fun _:Unit=>True) (fun _=>.int .i64 (opdF x i)) (fun _=>[])):=by
 obtain rfl:=kApiInstr_open hx
 refine ZX Tryz.func260 hS ?_
 refine Zh (Zi (oBox J ZP (fun b2=>?_)))
 refine Zp J (Zn (Za (Zh (Zi (Zo J (Zn (Za (Zk (Zh (Zi (Zy J J (Zp J (Zn (Za (wC (fun h6=>?_) (fun h6=>?_))))))))))))))))
 refine Zh (Zi (Zz (n:=1) (m:=1) J J J (Zld ?_)))
 refine Zp J (Zzc ?_)
 exact ⟨(),trivial,by subst h6;rfl,Lh⟩
 refine Zh (Zi (Zy J J (Zp J (Zn (Za (wC (fun h10=>?_) (fun h10=>?_)))))))
 refine Zh (Zi (Zz (n:=2) (m:=2) J J J (Zld ?_)))
 refine Zp J (Zzc ?_)
 exact ⟨(),trivial,by subst h10;rfl,Lh⟩
 refine Zh (Zi (Zy J J (Zp J (Zn (Za (wC (fun h14=>?_) (fun h14=>?_)))))))
 refine Zh (Zi (Zz (n:=3) (m:=3) J J J (Zld ?_)))
 refine Zp J (Zzc ?_)
 exact ⟨(),trivial,by subst h14;rfl,Lh⟩
 refine Zh (Zi (Zy J J (Zp J (Zn (Za (wC (fun h18=>?_) (fun h18=>?_)))))))
 refine Zh (Zi (Zz (n:=4) (m:=4) J J J (Zld ?_)))
 refine Zp J (Zzc ?_)
 exact ⟨(),trivial,by subst h18;rfl,Lh⟩
 refine Zh (Zzm ?_)
 exact ⟨(),trivial,by unfold opdF;rw [if_pos ZO];rfl,Lh⟩
theorem ref8_Check {B:Base}{w:World}(hS:St B [] w) (x:ApiInstr) (xc:List Value) (hx:kApiInstr.K B.e x xc) :
 CW 290 #[.agg xc.toArray] w (Ret B (fun _:Unit=>True) (fun _=>.int .i64 (icF x)) (fun _=>[])):=by
 obtain rfl:=kApiInstr_open hx
 have hsz:=shapeF_size x.fOp
 refine ZX Tryz.func290 hS ?_
 refine Zh (Zi (oBox J ZP (fun b1=>?_)))
 refine Zp J (Zn (Za (Zh (Zh (Zi (Zz (n:=0) (m:=0) J J J (Zld ?_)))))))
 (refine ZC0 rfl ZK (fun w hS=>frame hS ZQ (fun B' hB hS'=>ref7_Name hS' x.fOp)) ?_;rintro ⟨⟩ -)
 refine oSEq J J (Zn (Za (wC (fun h9=>?_) (fun h9=>?_))))
 refine Zh (Zi (Zze ?_))
 exact ⟨(),trivial,by unfold icF;rw [if_pos (show nameF x.fOp=ByteArray.empty from h9)];rfl,Lh⟩
 have hnm:¬ nameF x.fOp=ByteArray.empty:=h9
 refine Zj (Za (Zh (Zh (Zi (Zp J (Zn (Za (Zk (wLoop (ι:=Nat) (fun i=>[(1,.pointer (some ⟨b1,0,none⟩)),(3,.int .i64 (i:Int))]) (fun i=>[blk b1 51 [.int .i64 x.fOp,.int .i64 x.fA,.int .i64 x.fB,.int .i64 x.fC,.int .i64 x.fN]]) (fun i=>i≤3∧∀ j,j<i→badA x j=false) (fun i=>3-i) 0 ?_ cv Lh ?_)))))))))
 exact ⟨Nat.zero_le _,fun j hj=>by omega⟩
 rintro i ⟨hi,hs⟩
 try dsimp only
 refine Zh (Zh (Zi (Zo J (Zx J J (Zn (Za (wC (fun h11=>?_) (fun h11=>?_))))))))
 have hi3:i<3:=by omega
 have hoa:=opd_at x (show i<4 by omega)
 refine Zj (Za (Zh (Zk (Zh (Zi (Zla ?_))))))
 refine Zo J ?_
 (refine ZC0 rfl ZK (fun w hS=>frame hS ZQ (fun B' hB hS'=>ref8_Operand hS' x _ (kApiInstr_mk _ x) (i:Int))) ?_;rintro ⟨⟩ -)
 rw [hoa]
 refine Zx J J (Zo J (ZS (ZT 18) (fun h18=>?_) (fun h18=>?_)))
 refine Zr J J J J (Zr J J J J (Zr J J J J (Zr J J J J (Zt J J (Zn (Za (wCondT J (Zh (Zi (Zzb ?_))))))))))
 exact ⟨(),trivial,by unfold icF;rw [if_neg hnm,if_pos (any_T hi3 (by unfold badA;exact decide_eq_true (.inl h18)))];rfl,Lh⟩
 refine Zq J J (Zla ?_)
 refine Zq J J (Zo J (Zq J J ?_))
 (refine ZC0 rfl ZK (fun w hS=>frame hS ZQ (fun B' hB hS'=>ref8_Operand hS' x _ (kApiInstr_mk _ x) (i:Int))) ?_;rintro ⟨⟩ -)
 rw [hoa]
 refine Zq J J (Z1 J J (Zu J J (Zn (Za (wC (fun h23=>?_) (fun h23=>?_))))))
 refine Zh (Zi (Zzb ?_))
 exact ⟨(),trivial,by unfold icF;rw [if_neg hnm,if_pos (any_T hi3 (by unfold badA;exact decide_eq_true (.inr h23)))];rfl,Lh⟩
 refine Zj (Zzd ?_)
 refine Zp J (Zn (Za ?_))
 exact ⟨rfl,i+1,⟨by omega,fun j hj=>by
 by_cases e:j=i
 · subst e;unfold badA;exact decide_eq_false ZO
 · exact hs j ZO⟩,by omega,cv,Lh⟩
 obtain rfl:i=3:=by omega
 have hA:=any_F hs
 refine Zm (Zb (Zb (Ze (Za (Zh (Zh (Zi (Zz (n:=4) (m:=4) J J J (Zld ?_)))))))))
 refine Zx J J (Zo J (ZS (ZT 27) (fun h27=>?_) (fun h27=>?_)))
 refine Zr J J J J (Zr J J J J (Zr J J J J (Zt J J (Zn (Za (wCondT J (Zh (Zi (Zze ?_)))))))))
 exact ⟨(),trivial,by unfold icF;rw [if_neg hnm,if_neg (by rw [hA];simp),if_pos (.inl h27)];rfl,Lh⟩
 refine Zq J J (Zz (n:=4) (m:=4) J J J (Zzg ?_))
 refine Zq J J (Z1 J J (Zu J J (Zn (Za (wC (fun h31=>?_) (fun h31=>?_))))))
 refine Zh (Zi (Zze ?_))
 exact ⟨(),trivial,by unfold icF;rw [if_neg hnm,if_neg (by rw [hA];simp),if_pos (.inr h31)];rfl,Lh⟩
 refine Zj (Za (Zh (Zi (Zz (n:=0) (m:=0) J J J (Zld ?_)))))
 (refine ZC0 rfl ZK (fun w hS=>frame hS ZQ (fun B' hB hS'=>ref7_Shape hS' x.fOp)) ?_;rintro ⟨⟩ -)
 refine Zp J (Zn (Za (Zh (Zh (Zi (Zp J (Zn (Za (Zk (wLoop (ι:=Nat) (fun i=>[(1,.pointer (some ⟨b1,0,none⟩)),(4,.string (shapeF x.fOp)),(5,.int .i64 (i:Int))]) (fun i=>[blk b1 51 [.int .i64 x.fOp,.int .i64 x.fA,.int .i64 x.fB,.int .i64 x.fC,.int .i64 x.fN]]) (fun i=>i≤(shapeF x.fOp).size∧∀ j,j<i→badS x j=false) (fun i=>(shapeF x.fOp).size-i) 0 ?_ cv Lh ?_))))))))))
 exact ⟨Nat.zero_le _,fun j hj=>by omega⟩
 rintro i ⟨hi,hs⟩
 try dsimp only
 refine Zh (Zh (Zi (Zo J (Zo J (oLenStr J J (Zx J J (Zn (Za (wC (fun h38=>?_) (fun h38=>?_))))))))))
 have hi4:i<(shapeF x.fOp).size:=by omega
 have hi5:i<4:=by rw [hsz] at hi4;split at hi4 <;> omega
 have hoa:=opd_at x hi5
 refine Zj (Za (Zh (Zk (Zh (Zi (Zo J (Zo J (oIndexStr J J J hi4 (Zy J J (Zo J (ZS (ZT 45) (fun h45=>?_) (fun h45=>?_))))))))))))
 refine Zq J J (Zla ?_)
 refine Zq J J (Zo J (Zq J J ?_))
 (refine ZC0 rfl ZK (fun w hS=>frame hS ZQ (fun B' hB hS'=>ref8_Operand hS' x _ (kApiInstr_mk _ x) (i:Int))) ?_;rintro ⟨⟩ -)
 rw [hoa]
 refine Zq J J (Z0 J J (Zt J J (Zn (Za (wC (fun h50=>?_) (fun h50=>?_))))))
 refine Zh (Zi (Zzb ?_))
 exact ⟨(),trivial,by unfold icF;rw [if_neg hnm,if_neg (by rw [hA];simp),if_neg ZO,if_pos (any_T hi4 (by unfold badS;simp_all))];rfl,Lh⟩
 refine Zj (Zzd ?_)
 refine Zp J (Zn (Za ?_))
 exact ⟨rfl,i+1,⟨by omega,fun j hj=>by
 by_cases e:j=i
 · subst e;unfold badS;simp_all
 · exact hs j ZO⟩,by omega,cv,Lh⟩
 refine Zr J J J J (Zr J J J J (Zr J J J J (Zr J J J J (Zu J J (Zn (Za (wCondF J (Zj (Zzd ?_)))))))))
 refine Zp J (Zn (Za ?_))
 exact ⟨rfl,i+1,⟨by omega,fun j hj=>by
 by_cases e:j=i
 · subst e;unfold badS;simp_all
 · exact hs j ZO⟩,by omega,cv,Lh⟩
 refine Zm (Zzj ?_)
 obtain rfl:i=(shapeF x.fOp).size:=by omega
 exact ⟨(),trivial,by unfold icF;rw [if_neg hnm,if_neg (by rw [hA];simp),if_neg ZO,if_neg (by rw [any_F hs];simp)];rfl,Lh⟩
def rnext (x:ApiInstr) (i:Int):List Int:=if x.fOp=11 then [x.fN] else if endsF x.fOp then [] else if x.fOp≠12∨x.fN=i+1 then [i+1] else if x.fN<i+1 then [x.fN,i+1] else [i+1,x.fN]
theorem rnext_any (x:ApiInstr) (i:Int) (p:Int→Bool):(rnext x i).any p=(nextR x i).any p:=by
  unfold rnext nextR
  by_cases h11:x.fOp=11
  · rw [if_pos h11,if_neg ZO,if_pos h11]
  · rw [if_neg h11]
    by_cases h12:x.fOp=12
    · rw [if_pos h12,if_neg (by unfold endsF;rw [h12];decide)]
      split
      · next h => rcases h with h | h
                  · exact absurd h12 h
                  · rw [h];simp
      · split
        · simp [Bool.or_comm]
        · simp
    · rw [if_neg h12,if_neg h11]
      by_cases he:endsF x.fOp=true
      · rw [if_pos he,if_pos he]
      · rw [if_neg he,if_neg he,if_pos (.inl h12)]
theorem rnext_len (x:ApiInstr) (i:Int):(rnext x i).length≤2:=by
 unfold rnext
 repeat' split
 all_goals simp
theorem ref14_Next {B:Base}{w:World}(hS:St B [] w) (A:Option Addr) (cp:Nat) (code:List ApiInstr) (hC:kApiInstr.C B.e A code) (k:Nat) (x:ApiInstr) (hx:code[k]?=some x) (W0:World) :
 CW 261 #[.slice A code.length cp,.int .i64 (k:Int)] w (Ret B (fun _:Option Addr×Nat=>True) (fun z=>.slice z.1 (rnext x k).length z.2) (fun z=>[row (Kd.int .i64) W0 3 (.slice z.1 (rnext x k).length z.2) (rnext x k)])):=by
 have hl:=hC.1
 have hkl:=(List.getElem?_eq_some_iff.1 hx).1
 obtain ⟨e1,cs1,hE⟩:=hC.elm hx
 obtain rfl:=kApiInstr_open hE.K
 refine ZX Tryz.func261 hS ?_
 refine Zh (Zi (Zp J (Zn (Za (Zh (Zh (Zi (Zo J (Zx J J (Zo J (ZS (ZT 9) (fun h9=>?_) (fun h9=>?_))))))))))))
 omega
 refine Zq J J (Zo J (Zq J J (Zo J (Zq J J (Zv J J (Zq J J (Z2 J J (Zu J J (Zn (Za (wC (fun h14=>?_) (fun h14=>?_))))))))))))
 omega
 refine Zj (Za (Zh (Zi (Zo J (Zo J (oIdxE J J (hE) ZO J J ?_))))))
 have hc17:=(hE).cell
 refine Zlx hc17 ?_
 refine oAlloc J ZP (fun b5=>?_)
 refine Zsa ?_
 refine Zn (Za (Zh (Zi (Zz (n:=4) (m:=4) J J J (Zld ?_)))))
 refine Zp J (Zn (Za (Zh (Zh (Zi (Zz (n:=0) (m:=0) J J J (Zld ?_)))))))
 refine Zy J J (Zn (Za (wC (fun h23=>?_) (fun h23=>?_))))
 refine Zh (Zi (Zo J (oBuildSlice1 J J J J J ZP J (fun b25=>?_))))
 refine Zp J (Zn (Za (Zl (Zc (Zw (fi1 J ?_))))))
 rw [show rnext x (k:Int)=[x.fN] from if_pos h23]
 exact ⟨(some ⟨b25,0,none⟩,1),trivial,rfl,Leads.trans (blk_row (enc:=Value.int .i64) (h1:=fun _=>rfl) (W:=W0) (xs:=[x.fN]) (n:=1) ZP rfl rfl (by decide)) Lh⟩
 refine Zj (Za (Zh (Zh (Zi (Zz (n:=0) (m:=0) J J J (Zld ?_))))))
 (refine ZC0 rfl ZK (fun w hS=>frame hS ZQ (fun B' hB hS'=>ref7_Ends hS' x.fOp)) ?_;rintro ⟨⟩ -)
 refine Zn (Za (wC (fun h28=>?_) (fun h28=>?_)))
 have he:endsF x.fOp=true:=by first | exact h28 | exact decide_eq_true h28
 refine Zh (Zi (Zze ?_))
 rw [show rnext x (k:Int)=[] by unfold rnext;rw [if_neg h23,if_pos he]]
 exact ⟨(none,0),trivial,rfl,Leads.nilrow.trans Lh⟩
 have he:¬ endsF x.fOp=true:=by first | (rw [h28];simp;done) | (unfold endsF;rw [decide_eq_true_eq];exact h28)
 refine Zj (Za (Zh (Zh (Zi (Zz (n:=0) (m:=0) J J J (Zld ?_))))))
 refine Z0 J J (Zo J (ZS (ZT 32) (fun h32=>?_) (fun h32=>?_)))
 refine Zr J J J J (Zr J J J J (Zr J J J J (Zr J J J J (Zt J J (Zn (Za (wCondT J (Zh (Zi (Zo J (oAdd J J ZO ?_)))))))))))
 refine oBuildSlice1 J J J J J ZP J (fun b40=>?_)
 refine Zp J (Zn (Za (Zl (Zc (Zw (fi1 J ?_))))))
 rw [show rnext x (k:Int)=[(k:Int)+1] by unfold rnext;rw [if_neg h23,if_neg he,if_pos ZO]]
 exact ⟨(some ⟨b40,0,none⟩,1),trivial,rfl,Leads.trans (blk_row (enc:=Value.int .i64) (h1:=fun _=>rfl) (W:=W0) (xs:=[(k:Int)+1]) (n:=1) ZP rfl rfl (by decide)) Lh⟩
 refine Zq J J (Zo J (Zq J J (Zo J (Zq J J (oAdd J J ZO ?_)))))
 refine Zq J J (Zy J J (Zu J J (Zn (Za (wC (fun h37=>?_) (fun h37=>?_))))))
 refine Zh (Zi (Zo J (oAdd J J ZO ?_)))
 refine oBuildSlice1 J J J J J ZP J (fun b40=>?_)
 refine Zp J (Zn (Za (Zl (Zc (Zw (fi1 J ?_))))))
 rw [show rnext x (k:Int)=[(k:Int)+1] by unfold rnext;rw [if_neg h23,if_neg he,if_pos ZO]]
 exact ⟨(some ⟨b40,0,none⟩,1),trivial,rfl,Leads.trans (blk_row (enc:=Value.int .i64) (h1:=fun _=>rfl) (W:=W0) (xs:=[(k:Int)+1]) (n:=1) ZP rfl rfl (by decide)) Lh⟩
 refine Zj (Za (Zh (Zh (Zi (Zo J (Zo J (oAdd J J ZO ?_)))))))
 refine Zx J J (Zn (Za (wC (fun h44=>?_) (fun h44=>?_))))
 refine Zh (Zi (Zo J (Zo J (oAdd J J ZO ?_))))
 refine oBuildSliceF (Parts.cons J (Parts.cons J Parts.nil)) J J J J J (Fulls.cons ZP J (Fulls.cons ZP J Fulls.nil ap) ap) (fun b48=>?_)
 refine Zp J (Zn (Za (Zl (Zc (Zw (fi1 J ?_))))))
 rw [show rnext x (k:Int)=[x.fN,(k:Int)+1] by unfold rnext;rw [if_neg h23,if_neg he,if_neg ZO,if_pos h44]]
 exact ⟨(some ⟨b48,0,none⟩,2),trivial,rfl,Leads.trans (blk_row (enc:=Value.int .i64) (h1:=fun _=>rfl) (W:=W0) (xs:=[x.fN,(k:Int)+1]) (n:=2) ZP rfl rfl (by decide)) Lh⟩
 refine Zj (Za (Zh (Zi (Zo J (oAdd J J ZO ?_)))))
 refine Zo J ?_
 refine oBuildSliceF (Parts.cons J (Parts.cons J Parts.nil)) J J J J J (Fulls.cons ZP J (Fulls.cons ZP J Fulls.nil ap) ap) (fun b52=>?_)
 refine Zp J (Zzx ?_)
 rw [show rnext x (k:Int)=[(k:Int)+1,x.fN] by unfold rnext;rw [if_neg h23,if_neg he,if_neg ZO,if_neg h44]]
 exact ⟨(some ⟨b52,0,none⟩,2),trivial,rfl,Leads.trans (blk_row (enc:=Value.int .i64) (h1:=fun _=>rfl) (W:=W0) (xs:=[(k:Int)+1,x.fN]) (n:=2) ZP rfl rfl (by decide)) Lh⟩
theorem ref14_Check {B:Base}{w:World}(hS:St B [] w) (A:Option Addr) (cp:Nat) (code:List ApiInstr) (hC:kApiInstr.C B.e A code) :
 CW 289 #[.slice A code.length cp] w (Ret B (fun _:Unit=>True) (fun _=>.int .i64 (flowF code)) (fun _=>[])):=by
 refine ZX Tryz.func289 hS ?_
 refine Zh (Zi (Zp J (Zn (Za (Zh (Zh (Zi (Zo J (Zv J J (Zy J J (Zn (Za (wC (fun h8=>?_) (fun h8=>?_))))))))))))))
 refine Zh (Zi (Zze ?_))
 exact ⟨(),trivial,by rw [flowF_eq,if_pos ZO];rfl,Lh⟩
 refine Zj (Za (Zh (Zh (Zi (Zo J (Zv J J (Z1 J J (Zn (Za (wC (fun h11=>?_) (fun h11=>?_)))))))))))
 refine Zh (Zi (Zze ?_))
 exact ⟨(),trivial,by rw [flowF_eq,if_neg ZO,if_pos ZO];rfl,Lh⟩
 have hc0:¬ code.length=0:=by omega
 have hc1:¬ 64<code.length:=by omega
 refine Zj (Za (Zh (Zh (Zi (Zp J (Zn (Za (Zk (wLoop (ι:=Nat) (fun i=>[(0,.slice A code.length cp),(3,.int .i64 (i:Int))]) (fun i=>[]) (fun i=>i≤code.length∧∀ j,j<i→(nextR (code.getD j default) (j:Int)).any (outF code.length)=false) (fun i=>code.length-i) 0 ?_ cv Lh ?_)))))))))
 exact ⟨Nat.zero_le _,fun j hj=>by omega⟩
 rintro i ⟨hi,hs⟩
 try dsimp only
 refine Zh (Zh (Zi (Zo J (Zo J (Zv J J (Zx J J (Zn (Za (wC (fun h15=>?_) (fun h15=>?_))))))))))
 obtain ⟨x,hx⟩:∃ x,code[i]?=some x:=⟨_,List.getElem?_eq_getElem ZO⟩
 have hrl:=rnext_len x (i:Int)
 refine Zj (Za (Zh (Zk (Zzu ?_))))
 (refine ZC0 rfl ZK (fun w hS=>frame hS ZQ (fun B' hB hS'=>ref14_Next hS' A cp code (Kd.C_grow hB hC) i x hx B.e)) ?_;rintro ⟨A20,c20⟩ -)
 refine Zp J (Zn (Za (Zh (Zi (Zp J (Zn (Za (Zk (wLoop (ι:=Nat) (fun k=>[(0,.slice A code.length cp),(3,.int .i64 (i:Int)),(4,.slice A20 (rnext x i).length c20),(5,.int .i64 (k:Int))]) (fun k=>[row (Kd.int .i64) B.e 3 (.slice A20 (rnext x i).length c20) (rnext x i)]) (fun k=>k≤(rnext x i).length∧∀ y ∈ (rnext x i).take k,outF code.length y=false) (fun k=>(rnext x i).length-k) 0 ?_ cv Lh ?_)))))))))
 exact ⟨Nat.zero_le _,by simp⟩
 rintro k ⟨hk,hs2⟩
 try dsimp only
 refine Zh (Zh (Zi (Zo J (Zo J (Zv J J (Zx J J (Zn (Za (wC (fun h24=>?_) (fun h24=>?_))))))))))
 refine Zj (Za (Zh (Zk (Zh (Zi (Zo J (Zo J (ZR J J ZP ZO J J (fun g29 hg29=>?_)))))))))
 first | subst hg29 | (injection hg29 with hg29;injection hg29 with hg29;subst hg29)
 refine ZR1 J ZP ZO J (fun u30 hu30=>?_)
 refine Zx J J (Zo J (ZS (ZT 32) (fun h32=>?_) (fun h32=>?_)))
 refine Zr J J J J (Zr J J J J (Zr J J J J (Zr J J J J (Zr J J J J (Zr J J J J (Zr J J J J (Zt J J (Zn (Za (wCondT J (Zh (Zi (Zp J (Zn (Za (Zl (Zf (Zc (Zc (Zf (Zf (Zc (Zc (Zf (Zc (Zw (fi1 J ?_)))))))))))))))))))))))))))
 have hT:(nextR (code.getD i default) (i:Int)).any (outF code.length)=true:=by
  rw [getDat hx,← rnext_any]
  exact List.any_eq_true.2 ⟨u30,List.mem_of_getElem? hu30,decide_eq_true ZO⟩
 exact ⟨(),trivial,by rw [flowF_eq,if_neg hc0,if_neg hc1,if_pos (any_T (show i<code.length by omega) hT)];rfl,Lh⟩
 refine Zq J J (Zo J (Zq J J (Zo J (Zq J J (ZR J J ZP ZO J J (fun g35 hg35=>?_))))))
 first | subst hg35 | (injection hg35 with hg35;injection hg35 with hg35;subst hg35)
 refine Zq J J (ZR1 J ZP ZO J (fun u36 hu36=>?_))
 obtain rfl:=Option.some.inj (hu30.symm.trans hu36)
 refine Zq J J (Zo J (Zq J J (Zv J J (Zq J J (Z2 J J (Zu J J (Zn (Za (wC (fun h40=>?_) (fun h40=>?_))))))))))
 refine Zh (Zi (Zp J (Zn (Za (Zl (Zf (Zc (Zc (Zf (Zf (Zc (Zc (Zf (Zc (Zw (fi1 J ?_))))))))))))))))
 have hT:(nextR (code.getD i default) (i:Int)).any (outF code.length)=true:=by
  rw [getDat hx,← rnext_any]
  exact List.any_eq_true.2 ⟨u30,List.mem_of_getElem? hu30,decide_eq_true ZO⟩
 exact ⟨(),trivial,by rw [flowF_eq,if_neg hc0,if_neg hc1,if_pos (any_T (show i<code.length by omega) hT)];rfl,Lh⟩
 refine Zj (Zzd ?_)
 refine Zp J (Zn (Za ?_))
 exact ⟨rfl,k+1,⟨by omega,take_not hs2 hu30 (decide_eq_false ZO)⟩,by omega,cv,Lh⟩
 obtain rfl:k=(rnext x i).length:=by omega
 rw [List.take_length] at hs2
 have hany:(rnext x (i:Int)).any (outF code.length)=false:=by
  rw [Bool.eq_false_iff]
  intro h
  obtain ⟨y,hy,hp⟩:=List.any_eq_true.1 h
  rw [hs2 y hy] at hp;cases hp
 refine Zm (Zb (Zb (Ze (Zzd ?_))))
 refine Zp J (Zn (Za ?_))
 exact ⟨rfl,i+1,⟨by omega,fun j hj=>by
 by_cases e:j=i
 · subst e;rw [getDat hx,← rnext_any];exact hany
 · exact hs j ZO⟩,by omega,cv,Lh⟩
 refine Zm (Zzj ?_)
 obtain rfl:i=code.length:=by omega
 exact ⟨(),trivial,by rw [flowF_eq,if_neg hc0,if_neg hc1,if_neg (by rw [any_F hs];simp)];rfl,Lh⟩
theorem ref16_slots {B:Base}{w:World}(hS:St B [] w) (f:ApiFunc) (fc:List Value) (hf:kApiFunc.K B.e f fc) (hv:∀ y ∈ f.fKinds,in64 y) :
 CW 253 #[.agg fc.toArray] w (Ret B (fun _:Unit=>True) (fun _=>.int .i64 (slotsF f)) (fun _=>[])):=by
 obtain ⟨A0,c0,A1,c1,A2,c2,A3,c3,rfl,l0,g0,l1,g1,l2,g2,l3,g3⟩:=kApiFunc_open hf
 have hp:=parF_in f.fClass
 refine ZX Tryz.func253 hS ?_
 refine Zh (Zi (oBox J ZP (fun b1=>?_)))
 refine Zp J (Zn (Za (Zh (Zh (Zi (Zz (n:=0) (m:=0) J J J (Zld ?_)))))))
 (refine ZC0 rfl ZK (fun w hS=>frame hS ZQ (fun B' hB hS'=>ref5_Is hS' f.fClass)) ?_;rintro ⟨⟩ -)
 refine Zno ?_
 refine Zn (Za (wC (fun h7=>?_) (fun h7=>?_)))
 refine Zh (Zi (Zze ?_))
 exact ⟨(),trivial,by unfold slotsF;rw [if_neg (by simpa using h7)];rfl,Lh⟩
 have hc:isC f.fClass=true:=by simpa using h7
 refine Zj (Za (Zh (Zh (Zi (Zz (n:=1) (m:=1) J J J (Zld ?_))))))
 refine Zv J J (Z1 J J (Zn (Za (wC (fun h11=>?_) (fun h11=>?_)))))
 refine Zh (Zi (Zze ?_))
 exact ⟨(),trivial,by unfold slotsF;rw [if_pos hc,if_pos ZO];rfl,Lh⟩
 refine Zj (Za (Zh (Zh (wDrawG J [0,1,2,3,4] [(5,[0,1,2],[])] [6] 24 ZK J J (fun w0=>?_)))))
 refine Zz (n:=1) (m:=1) J J J (Zld ?_)
 refine Zv J J (Zz (n:=0) (m:=0) J J J (Zld ?_))
 refine Z4 (Z5 J ?_)
 (refine ZC0 rfl ZK (fun w hS=>frame hS ZQ (fun B' hB hS'=>ref5_Params hS' f.fClass)) ?_;rintro ⟨⟩ -)
 refine ZG ?_ J (fun w0=>?_)
 refine Z8 J J J J (fun w0=>?_) ?_
 refine Zz (n:=1) (m:=1) J J J ?_
 exact Z9 rfl
 refine Z8 J J J J (fun w0=>?_) ?_
 refine Zld ?_
 exact Z9 rfl
 refine Z8 J J J J (fun w0=>?_) ?_
 refine Zv J J ?_
 exact Z9 rfl
 exact AgainG.nil
 refine Z6 (Zx J J (Zn (Za (wC (fun h18=>?_) (fun h18=>?_)))))
 refine Zh (Zi (Zze ?_))
 exact ⟨(),trivial,by unfold slotsF;rw [if_pos hc,if_neg ZO,if_pos ZO];rfl,Lh⟩
 have hk1:¬ 16<f.fKinds.length:=by omega
 have hk2:¬ (f.fKinds.length:Int)<parF f.fClass:=by omega
 refine Zj (Za (Zh (Zh (Zi (Zp J (Zn (Za (Zk (wLoop (ι:=Nat) (fun i=>[(1,.pointer (some ⟨b1,0,none⟩)),(3,.int .i64 (i:Int))]) (fun i=>[blk b1 47 [.int .i64 f.fClass,.slice A0 f.fKinds.length c0,.int .i64 f.fPad,.bool f.fNosplit,.int .i64 f.fFrom,.int .i64 f.fTo,.slice A1 f.fLines.length c1,.slice A2 f.fCode.length c2,.slice A3 f.fRelocs.length c3]]) (fun i=>i≤f.fKinds.length∧∀ j,j<i→kindBad (parF f.fClass) j (f.fKinds.getD j 0)=false) (fun i=>f.fKinds.length-i) 0 ?_ cv Lh ?_)))))))))
 exact ⟨Nat.zero_le _,fun j hj=>by omega⟩
 rintro i ⟨hi,hs⟩
 try dsimp only
 refine Zh (Zh (Zi (Zo J (Zz (n:=1) (m:=1) J J J (Zld ?_)))))
 refine Zv J J (Zx J J (Zn (Za (wC (fun h23=>?_) (fun h23=>?_)))))
 obtain ⟨x,hx⟩:∃ x,f.fKinds[i]?=some x:=⟨_,List.getElem?_eq_getElem ZO⟩
 obtain ⟨e1,cs1,hE⟩:=g0.elm hx
 obtain rfl:=hE.K
 refine Zj (Za (Zh (Zk (Zh (Zi (Zz (n:=1) (m:=1) J J J (Zld ?_)))))))
 refine Zo J (oIdxE J J (hE) ZO J J ?_)
 have hc29:=(hE).cell
 refine Zlx hc29 ?_
 (refine ZC0 rfl ZK (fun w hS=>frame hS ZQ (fun B' hB hS'=>ref5_Text hS' x (hv x (List.mem_of_getElem? hx)))) ?_;rintro ⟨⟩ -)
 refine oSEq J J (Zo J (ZS (ZT 33) (fun h33=>?_) (fun h33=>?_)))
 have h33:textF x=ByteArray.empty:=h33
 refine Zr J J J J (Zr J J J J (Zr J J J J (Zr J J J J (Zr J J J J (Zr J J J J (Zs J J J (Zs J J J (Zs J J J (Zs J J J (Zs J J J (Zs J J J (Zr J J J J (Zt J J (Zn (Za (wCondT J (Zh (Zi (Zzb ?_)))))))))))))))))))
 exact ⟨(),trivial,by unfold slotsF;rw [if_pos hc,if_neg hk1,if_neg hk2,if_pos (any_T (show i<f.fKinds.length by omega) (by rw [getDat hx];simp_all [kindBad]))];rfl,Lh⟩
 have h33:¬ textF x=ByteArray.empty:=h33
 refine Zq J J (Zo J (Zq J J (Zz (n:=0) (m:=0) J J J (Zzg ?_))))
 refine Zq J J ?_
 (refine ZC0 rfl ZK (fun w hS=>frame hS ZQ (fun B' hB hS'=>ref5_Params hS' f.fClass)) ?_;rintro ⟨⟩ -)
 refine Zq J J (Zx J J (Zq J J (Zo J (ZS (ZT 39) (fun h39=>?_) (fun h39=>?_)))))
 refine Zq J J (Zz (n:=1) (m:=1) J J J (Zzg ?_))
 refine Zq J J (Zo J (Zq J J (oIdxE J J (hE) ZO J J ?_)))
 have hc43:=(hE).cell
 refine Zq J J (Zlx hc43 ?_)
 refine Zq J J (Z0 J J (Zq J J (Zt J J (Zu J J (Zn (Za (wC (fun h47=>?_) (fun h47=>?_))))))))
 refine Zh (Zi (Zzb ?_))
 exact ⟨(),trivial,by unfold slotsF;rw [if_pos hc,if_neg hk1,if_neg hk2,if_pos (any_T (show i<f.fKinds.length by omega) (by rw [getDat hx];simp_all [kindBad]))];rfl,Lh⟩
 refine Zj (Zzd ?_)
 refine Zp J (Zn (Za ?_))
 exact ⟨rfl,i+1,⟨by omega,fun j hj=>by
 by_cases e:j=i
 · subst e;rw [getDat hx];simp_all [kindBad] <;> omega
 · exact hs j ZO⟩,by omega,cv,Lh⟩
 refine Zr J J J J (Zr J J J J (Zr J J J J (Zr J J J J (Zr J J J J (Zr J J J J (Zq J J (Zu J J (Zu J J (Zn (Za (wCondF J (Zj (Zzd ?_)))))))))))))
 refine Zp J (Zn (Za ?_))
 exact ⟨rfl,i+1,⟨by omega,fun j hj=>by
 by_cases e:j=i
 · subst e;rw [getDat hx];simp_all [kindBad] <;> omega
 · exact hs j ZO⟩,by omega,cv,Lh⟩
 refine Zm (Zzj ?_)
 obtain rfl:i=f.fKinds.length:=by omega
 exact ⟨(),trivial,by unfold slotsF;rw [if_pos hc,if_neg hk1,if_neg hk2,if_neg (by rw [any_F hs];simp)];rfl,Lh⟩
theorem ref16_code {B:Base}{w:World}(hS:St B [] w) (f:ApiFunc) (fc:List Value) (hf:kApiFunc.K B.e f fc) :
 CW 254 #[.agg fc.toArray] w (Ret B (fun _:Unit=>True) (fun _=>.int .i64 (codeF f)) (fun _=>[])):=by
 obtain ⟨A0,c0,A1,c1,A2,c2,A3,c3,rfl,l0,g0,l1,g1,l2,g2,l3,g3⟩:=kApiFunc_open hf
 have hcl:=g2.1
 refine ZX Tryz.func254 hS ?_
 refine Zh (Zi (oBox J ZP (fun b1=>?_)))
 refine Zp J (Zn (Za (Zh (Zh (Zi (Zz (n:=7) (m:=7) J J J (Zld ?_)))))))
 (refine ZC0 rfl ZK (fun w hS=>frame hS ZQ (fun B' hB hS'=>ref14_Check hS' A2 c2 f.fCode (Kd.C_grow hB g2))) ?_;rintro ⟨⟩ -)
 refine Zp J (Zn (Za (Zh (Zi (Zo J (Z0 J J (Zn (Za (wC (fun h10=>?_) (fun h10=>?_))))))))))
 refine Zh (Zi (Zo J (Zze ?_)))
 exact ⟨(),trivial,by unfold codeF;rw [if_pos h10];rfl,Lh⟩
 refine Zj (Za (Zh (Zh (Zi (Zp J (Zn (Za (Zk (wLoop (ι:=Nat) (fun i=>[(1,.pointer (some ⟨b1,0,none⟩)),(4,.int .i64 (i:Int))]) (fun i=>[blk b1 47 [.int .i64 f.fClass,.slice A0 f.fKinds.length c0,.int .i64 f.fPad,.bool f.fNosplit,.int .i64 f.fFrom,.int .i64 f.fTo,.slice A1 f.fLines.length c1,.slice A2 f.fCode.length c2,.slice A3 f.fRelocs.length c3]]) (fun i=>i≤f.fCode.length∧fstE ((f.fCode.map ceF).take i)=0) (fun i=>f.fCode.length-i) 0 ?_ cv Lh ?_)))))))))
 exact ⟨Nat.zero_le _,rfl⟩
 rintro i ⟨hi,hs⟩
 try dsimp only
 refine Zh (Zh (Zi (Zo J (Zz (n:=7) (m:=7) J J J (Zld ?_)))))
 refine Zv J J (Zx J J (Zn (Za (wC (fun h16=>?_) (fun h16=>?_)))))
 obtain ⟨x,hx⟩:∃ x,f.fCode[i]?=some x:=⟨_,List.getElem?_eq_getElem ZO⟩
 have hxe:(f.fCode.map ceF)[i]?=some (ceF x):=by rw [List.getElem?_map,hx];rfl
 obtain ⟨e1,cs1,hE⟩:=g2.elm hx
 obtain rfl:=kApiInstr_open hE.K
 refine Zj (Za (Zh (Zk (Zh (Zh (Zi (Zz (n:=7) (m:=7) J J J (Zld ?_))))))))
 refine Zo J (oIdxE J J (hE) ZO J J ?_)
 have hc22:=(hE).cell
 refine Zlx hc22 ?_
 (refine ZC0 rfl ZK (fun w hS=>frame hS ZQ (fun B' hB hS'=>ref8_Check hS' x _ (kApiInstr_mk _ x))) ?_;rintro ⟨⟩ -)
 refine Zp J (Zn (Za (Zh (Zi (Zo J (Z0 J J (Zn (Za (wC (fun h26=>?_) (fun h26=>?_))))))))))
 refine Zh (Zi (Zo J (Zzr ?_)))
 exact ⟨(),trivial,by unfold codeF;rw [if_neg h10,fstE_stop hs hxe (by unfold ceF;rw [if_pos h26];exact h26)];unfold ceF;rw [if_pos h26];rfl,Lh⟩
 refine Zj (Za (Zh (Zi (Zz (n:=7) (m:=7) J J J (Zld ?_)))))
 refine Zo J (oIdxE J J (hE) ZO J J ?_)
 have hc31:=(hE).cell
 refine ZF (ZT 0) (ZT 0) ?_
 refine Zlx hc31 ?_
 (refine ZC0 rfl ZK (fun w hS=>frame hS ZQ (fun B' hB hS'=>ref7_Own hS' x.fOp)) ?_;rintro ⟨⟩ -)
 refine Zno ?_
 refine Zn (Za (wC (fun h35=>?_) (fun h35=>?_)))
 refine Zh (Zi (Zzb ?_))
 have hce:ceF x=8:=by unfold ceF;rw [if_neg h26,if_neg (by simpa using h35)]
 exact ⟨(),trivial,by unfold codeF;rw [if_neg h10,fstE_stop hs hxe (by rw [hce];decide),hce];rfl,Lh⟩
 refine Zj (Zzd ?_)
 refine Zp J (Zn (Za ?_))
 exact ⟨rfl,i+1,⟨by omega,fstE_next hs hxe (by unfold ceF;rw [if_neg h26,if_pos (by simpa using h35)])⟩,by omega,cv,Lh⟩
 refine Zm (Zzj ?_)
 obtain rfl:i=f.fCode.length:=by omega
 rw [← List.length_map (f:=ceF),List.take_length] at hs
 exact ⟨(),trivial,by unfold codeF;rw [if_neg h10,hs];rfl,Lh⟩
theorem risF_iff {n:Int} : ∀ {last:Int}{l:List Int},risF n last l=true↔∀ j,j<l.length→(if j=0 then last else l.getD (j-1) 0)<l.getD j 0∧l.getD j 0<n
 | last,[]=>by simp [risF]
 | last,a :: l=>by
  unfold risF
  have ih:=risF_iff (n:=n) (last:=a) (l:=l)
  constructor
  · intro h
    split at h
    · cases h
    · next k=>
      have h2:=ih.1 h
      intro j hj
      cases j with
      | zero=>rw [if_pos rfl];show last<a∧a<n;omega
      | succ j=>
       have h3:=h2 j (by simpa using hj)
       rw [if_neg ZO]
       cases j with
       | zero=>rw [if_pos rfl] at h3;exact h3
       | succ j=>rw [if_neg ZO] at h3;exact h3
  · intro h
    have h0:=h 0 (by simp)
    rw [if_pos rfl] at h0
    have h0:last<a∧a<n:=h0
    rw [if_neg ZO]
    refine ih.2 (fun j hj=>?_)
    have h3:=h (j+1) (by simpa using hj)
    rw [if_neg ZO] at h3
    cases j with
    | zero=>rw [if_pos rfl];exact h3
    | succ j=>rw [if_neg ZO];exact h3
theorem ris_ge {n:Int}{l:List Int}(h:risF n (-1) l=true):∀ j,j<l.length→0≤l.getD j 0
 | 0,hj=>by have:=(risF_iff.1 h 0 hj).1;rw [if_pos rfl] at this;omega
 | j+1,hj=>by
  have h1:=ris_ge h j ZO
  have:=(risF_iff.1 h (j+1) hj).1
  rw [if_neg ZO] at this
  simp only [Nat.add_sub_cancel] at this
  omega
def atBad (n:Int) (l:List Int) (j:Nat):Prop:=l.getD j 0<0∨n≤l.getD j 0∨(0<j∧l.getD j 0≤l.getD (j-1) 0)
theorem ris_bad {n:Int}{l:List Int}{j:Nat}(hj:j<l.length) (h:atBad n l j):risF n (-1) l=false:=by
 rw [Bool.eq_false_iff]
 intro hr
 have h1:=risF_iff.1 hr j hj
 have h2:=ris_ge hr j hj
 rcases h with h | h | ⟨h,k⟩
 · omega
 · omega
 · rw [if_neg ZO] at h1;omega
theorem ris_good {n:Int}{l:List Int}(h:∀ j,j<l.length→¬ atBad n l j):risF n (-1) l=true:=by
 refine risF_iff.2 (fun j hj=>?_)
 have h1:=h j hj
 unfold atBad at h1
 by_cases k:j=0
 · rw [if_pos k];omega
 · rw [if_neg k];omega
abbrev atsL (f:ApiFunc):List Int:=f.fLines.map (·.fAt)
theorem map_getD {α:Type}{l:List α}{g:α→Int}{j:Nat}{x:α}(h:l[j]?=some x):(l.map g).getD j 0=g x:=by rw [List.getD_eq_getElem?_getD,List.getElem?_map,h];rfl
def lnBad (f:ApiFunc) (j:Nat):Prop:=(j=0∧(atsL f).getD 0 0≠0)∨atBad f.fCode.length (atsL f) j∨(f.fLines.map (·.fLine)).getD j 0<0∨65535<(f.fLines.map (·.fLine)).getD j 0
theorem lines_bad {f:ApiFunc}{j:Nat}(h16:¬ 16<f.fLines.length) (hj:j<f.fLines.length) (h:lnBad f j):linesF f=9:=by
 unfold linesF
 rw [if_neg h16]
 by_cases ha:f.fLines.any lineBad=true
 · rw [if_pos ha]
 · rw [if_neg ha]
   obtain ⟨x,hx⟩:∃ x,f.fLines[j]?=some x:=⟨_,List.getElem?_eq_getElem hj⟩
   rcases h with h | h | h
   · rw [if_pos (.inl h.2)]
   · rw [if_pos (.inr (ris_bad (by rw [List.length_map];exact hj) h))]
   · rw [map_getD hx] at h
     exact absurd (List.any_eq_true.2 ⟨x,List.mem_of_getElem? hx,decide_eq_true h⟩) ha
theorem lines_good {f:ApiFunc}(h16:¬ 16<f.fLines.length) (h:∀ j,j<f.fLines.length→¬ lnBad f j):linesF f=0:=by
 unfold linesF
 rw [if_neg h16,if_neg,if_neg]
 · rintro (k | k)
   · by_cases h0:0<f.fLines.length
     · exact h 0 h0 (.inl ⟨rfl,k⟩)
     · have:f.fLines=[]:=List.eq_nil_of_length_eq_zero ZO
       rw [this] at k;exact k rfl
   · rw [ris_good (fun j hj hb=>h j (by rw [List.length_map] at hj;exact hj) (.inr (.inl hb)))] at k;cases k
 · intro k
   obtain ⟨x,hx,hb⟩:=List.any_eq_true.1 k
   obtain ⟨j,hj⟩:=List.getElem?_of_mem hx
   have:=h j (List.getElem?_eq_some_iff.1 hj).1
   apply this
   refine .inr (.inr ?_)
   rw [map_getD hj]
   exact of_decide_eq_true hb
theorem ln_iff {f:ApiFunc}{i:Nat}{x pv:ApiLine}(hx:f.fLines[i]?=some x) (hp:0<i→f.fLines[i-1]?=some pv):lnBad f i↔(i=0∧x.fAt≠0)∨(x.fAt<0∨(f.fCode.length:Int)≤x.fAt∨(0<i∧x.fAt≤pv.fAt))∨x.fLine<0∨65535<x.fLine:=by
 unfold lnBad atBad
 have h1:(atsL f).getD i 0=x.fAt:=map_getD hx
 have h2:(f.fLines.map (·.fLine)).getD i 0=x.fLine:=map_getD hx
 rw [h1,h2]
 by_cases h0:0<i
 · have h3:(atsL f).getD (i-1) 0=pv.fAt:=map_getD (hp h0)
   have:¬ i=0:=by omega
   rw [h3]
   simp only [this,false_and]
 · obtain rfl:i=0:=by omega
   rw [h1]
   simp
theorem ref16_lines {B:Base}{w:World}(hS:St B [] w) (f:ApiFunc) (fc:List Value) (hf:kApiFunc.K B.e f fc) :
 CW 255 #[.agg fc.toArray] w (Ret B (fun _:Unit=>True) (fun _=>.int .i64 (linesF f)) (fun _=>[])):=by
 obtain ⟨A0,c0,A1,c1,A2,c2,A3,c3,rfl,l0,g0,l1,g1,l2,g2,l3,g3⟩:=kApiFunc_open hf
 have hcl:=g2.1
 refine ZX Tryz.func255 hS ?_
 refine Zh (Zi (oBox J ZP (fun b1=>?_)))
 refine Zp J (Zn (Za (Zh (Zh (Zi (Zz (n:=6) (m:=6) J J J (Zld ?_)))))))
 refine Zv J J (Z1 J J (Zn (Za (wC (fun h8=>?_) (fun h8=>?_)))))
 refine Zh (Zi (Zze ?_))
 exact ⟨(),trivial,by unfold linesF;rw [if_pos ZO];rfl,Lh⟩
 have hk0:¬ 16<f.fLines.length:=by omega
 refine Zj (Za (Zh (Zh (Zi (Zp J (Zn (Za (Zk (wLoop (ι:=Nat) (fun i=>[(1,.pointer (some ⟨b1,0,none⟩)),(3,.int .i64 (i:Int))]) (fun i=>[blk b1 47 [.int .i64 f.fClass,.slice A0 f.fKinds.length c0,.int .i64 f.fPad,.bool f.fNosplit,.int .i64 f.fFrom,.int .i64 f.fTo,.slice A1 f.fLines.length c1,.slice A2 f.fCode.length c2,.slice A3 f.fRelocs.length c3]]) (fun i=>i≤f.fLines.length∧∀ j,j<i→¬ lnBad f j) (fun i=>f.fLines.length-i) 0 ?_ cv Lh ?_)))))))))
 exact ⟨Nat.zero_le _,fun j hj=>by omega⟩
 rintro i ⟨hi,hs⟩
 try dsimp only
 refine Zh (Zh (Zi (Zo J (Zz (n:=6) (m:=6) J J J (Zld ?_)))))
 refine Zv J J (Zx J J (Zn (Za (wC (fun h13=>?_) (fun h13=>?_)))))
 obtain ⟨x,hx⟩:∃ x,f.fLines[i]?=some x:=⟨_,List.getElem?_eq_getElem ZO⟩
 have hil:i<f.fLines.length:=by omega
 obtain ⟨e1,cs1,hE⟩:=g1.elm hx
 obtain rfl:=kApiLine_open hE.K
 obtain ⟨pv,hpv⟩:∃ y:ApiLine,0<i→f.fLines[i-1]?=some y:=by
  by_cases h0:0<i
  · exact ⟨_,fun _=>List.getElem?_eq_getElem (show i-1<f.fLines.length by omega)⟩
  · exact ⟨default,fun h=>absurd h h0⟩
 have hlb:lnBad f i↔(i=0∧x.fAt≠0)∨(x.fAt<0∨(f.fCode.length:Int)≤x.fAt∨(0<i∧x.fAt≤pv.fAt))∨x.fLine<0∨65535<x.fLine:=ln_iff hx hpv
 refine Zj (Za (Zh (Zk (Zh (Zi (Zz (n:=6) (m:=6) J J J (Zld ?_)))))))
 refine Zo J (oIdxE J J (hE) ZO J J ?_)
 have hc19:=(hE).cell
 refine Zlx hc19 ?_
 refine oAlloc J ZP (fun b4=>?_)
 refine Zsa ?_
 refine Zn (Za (Zh (wDraw2 J J [0] [1,2,3,4,5,6,7,8,9,10,11,12,13,14,15,16,17,18,19,20,21,22,23,24,25,26,27,28,29,30,31,32,33,34,35,36,37,38,39,40,41,42,43,44] 45 ZK J J J (fun w0=>?_))))
 refine Zy J J (Zo J (ZS (ZT 23) (fun h23=>?_) (fun h23=>?_)))
 refine Zq J J (Zz (n:=0) (m:=0) J J J (Zzg ?_))
 refine Zq J J (Z0 J J (Zt J J (Zo J (ZS (ZT 28) (fun h28=>?_) (fun h28=>?_)))))
 refine Zr J J J J (Zzt ?_)
 refine Zr J J J J (Zr J J J J (Zt J J (Zo J (Zr J J J J (Zr J J J J (Zr J J J J (oHead (Zt J J (oNilT (Za (wCondT J (Zh (Zi (Zzb ?_))))))))))))))
 exact ⟨(),trivial,by rw [lines_bad hk0 hil (hlb.2 (by simp_all <;> omega))];rfl,Lh⟩
 refine Zq J J (Zz (n:=0) (m:=0) J J J (Zzg ?_))
 refine Zq J J (Zx J J (Zu J J (Zo J (ZS (ZT 33) (fun h33=>?_) (fun h33=>?_)))))
 refine Zr J J J J (Zzl ?_)
 refine Zr J J J J (Zr J J J J (oHead (Zt J J (oNilT (Za (wCondT J (Zh (Zi (Zzb ?_)))))))))
 exact ⟨(),trivial,by rw [lines_bad hk0 hil (hlb.2 (by simp_all <;> omega))];rfl,Lh⟩
 refine Zq J J (Zz (n:=0) (m:=0) J J J (Zzg ?_))
 refine Zq J J (Zz (n:=7) (m:=7) J J J (Zzg ?_))
 refine Zq J J (Zv J J (Zq J J (Z2 J J (Zu J J (Zo J (ZS (ZT 41) (fun h41=>?_) (fun h41=>?_)))))))
 refine Zr J J J J (Zr J J J J (Zr J J J J (Zs J J J (Zs J J J (Zs J J J (Zs J J J (Zs J J J (Zs J J J (Zs J J J (Zs J J J (Zs J J J (Zs J J J (Zr J J J J (Zt J J (Zo J (Zr J J J J (Zr J J J J (Zr J J J J (Zt J J (Zo J (Zr J J J J (Zr J J J J (Zr J J J J (oHead (Zt J J (oNilT (Za (wCondT J (Zh ?_)))))))))))))))))))))))))))))
 refine Zi (Zzb ?_)
 exact ⟨(),trivial,by rw [lines_bad hk0 hil (hlb.2 (by simp_all <;> omega))];rfl,Lh⟩
 refine Zq J J (Zo J (Zq J J (Z1 J J (Zq J J (Zo J (ZS (ZT 44) (fun h44=>?_) (fun h44=>?_)))))))
 have hi0:0<i:=by omega
 obtain ⟨e2,cs2,hE2⟩:=g1.elm (hpv hi0)
 obtain rfl:=kApiLine_open hE2.K
 refine Zq J J (Zz (n:=0) (m:=0) J J J (Zzg ?_))
 refine Zq J J (Zz (n:=6) (m:=6) J J J (Zzg ?_))
 refine Zq J J (Zo J (Zq J J (oSub J J ZO ?_)))
 refine ZS0 (t:=50) (v':=.int .i64 ((i-1:Nat):Int)) J (by congr 1;omega) ?_
 refine Zq J J (oIdxE J J (hE2) ZO J J ?_)
 have hc51:=(hE2).cell
 refine Zq J J (ZF (ZT 0) (ZT 0) ?_)
 refine Zq J J (Zlx hc51 ?_)
 refine Zq J J (oLeq J J (Zq J J (Zt J J (Zu J J (Zo J (ZS (ZT 57) (fun h57=>?_) (fun h57=>?_)))))))
 refine Zr J J J J (Zr J J J J (Zr J J J J (Zt J J (Zo J (Zr J J J J (Zr J J J J (Zr J J J J (oHead (Zt J J (oNilT (Za (wCondT J (Zh (Zi (Zzb ?_)))))))))))))))
 exact ⟨(),trivial,by rw [lines_bad hk0 hil (hlb.2 (by simp_all <;> omega))];rfl,Lh⟩
 refine Zq J J (Zz (n:=1) (m:=1) J J J (Zzg ?_))
 refine Zq J J (Zx J J (Zu J J (Zo J (ZS (ZT 62) (fun h62=>?_) (fun h62=>?_)))))
 refine Zr J J J J (Zr J J J J (Zr J J J J (oHead (Zt J J (oNilT (Za (wCondT J (Zh (Zi (Zzb ?_))))))))))
 exact ⟨(),trivial,by rw [lines_bad hk0 hil (hlb.2 (by simp_all <;> omega))];rfl,Lh⟩
 refine Zq J J (Zz (n:=1) (m:=1) J J J (Zzg ?_))
 refine Zq J J (Z1 J J (oHead (Zu J J (oNilT (Za (wC (fun h66=>?_) (fun h66=>?_)))))))
 refine Zh (Zi (Zzb ?_))
 exact ⟨(),trivial,by rw [lines_bad hk0 hil (hlb.2 (by simp_all <;> omega))];rfl,Lh⟩
 refine Zj (Zzd ?_)
 refine Zp J (Zn (Za ?_))
 exact ⟨rfl,i+1,⟨by omega,fun j hj=>by
 by_cases e:j=i
 · subst e;rw [hlb];simp_all <;> omega
 · exact hs j ZO⟩,by omega,cv,Lh⟩
 refine Zr J J J J (Zr J J J J (Zr J J J J (Zr J J J J (Zr J J J J (Zr J J J J (Zr J J J J (Zr J J J J (Zr J J J J (Zr J J J J (Zq J J (Zu J J (Zu J J (Zo J (Zq J J (Zz (n:=1) (m:=1) J J J (Zzg ?_))))))))))))))))
 refine Zq J J (Zx J J (Zu J J (Zo J (ZS (ZT 62) (fun h62=>?_) (fun h62=>?_)))))
 refine Zr J J J J (Zr J J J J (Zr J J J J (oHead (Zt J J (oNilT (Za (wCondT J (Zh (Zi (Zzb ?_))))))))))
 exact ⟨(),trivial,by rw [lines_bad hk0 hil (hlb.2 (by simp_all <;> omega))];rfl,Lh⟩
 refine Zq J J (Zz (n:=1) (m:=1) J J J (Zzg ?_))
 refine Zq J J (Z1 J J (oHead (Zu J J (oNilT (Za (wC (fun h66=>?_) (fun h66=>?_)))))))
 refine Zh (Zi (Zzb ?_))
 exact ⟨(),trivial,by rw [lines_bad hk0 hil (hlb.2 (by simp_all <;> omega))];rfl,Lh⟩
 refine Zj (Zzd ?_)
 refine Zp J (Zn (Za ?_))
 exact ⟨rfl,i+1,⟨by omega,fun j hj=>by
 by_cases e:j=i
 · subst e;rw [hlb];simp_all <;> omega
 · exact hs j ZO⟩,by omega,cv,Lh⟩
 refine Zr J J J J (Zr J J J J (Zr J J J J (Zu J J (Zo J (Zq J J (Zz (n:=0) (m:=0) J J J (Zzg ?_)))))))
 refine Zq J J (Zx J J (Zu J J (Zo J (ZS (ZT 33) (fun h33=>?_) (fun h33=>?_)))))
 refine Zr J J J J (Zzl ?_)
 refine Zr J J J J (Zr J J J J (oHead (Zt J J (oNilT (Za (wCondT J (Zh (Zi (Zzb ?_)))))))))
 exact ⟨(),trivial,by rw [lines_bad hk0 hil (hlb.2 (by simp_all <;> omega))];rfl,Lh⟩
 refine Zq J J (Zz (n:=0) (m:=0) J J J (Zzg ?_))
 refine Zq J J (Zz (n:=7) (m:=7) J J J (Zzg ?_))
 refine Zq J J (Zv J J (Zq J J (Z2 J J (Zu J J (Zo J (ZS (ZT 41) (fun h41=>?_) (fun h41=>?_)))))))
 refine Zr J J J J (Zr J J J J (Zr J J J J (Zs J J J (Zs J J J (Zs J J J (Zs J J J (Zs J J J (Zs J J J (Zs J J J (Zs J J J (Zs J J J (Zs J J J (Zr J J J J (Zt J J (Zo J (Zr J J J J (Zr J J J J (Zr J J J J (Zt J J (Zo J (Zr J J J J (Zr J J J J (Zr J J J J (oHead (Zt J J (oNilT (Za (wCondT J (Zh ?_)))))))))))))))))))))))))))))
 refine Zi (Zzb ?_)
 exact ⟨(),trivial,by rw [lines_bad hk0 hil (hlb.2 (by simp_all <;> omega))];rfl,Lh⟩
 refine Zq J J (Zo J (Zq J J (Z1 J J (Zq J J (Zo J (ZS (ZT 44) (fun h44=>?_) (fun h44=>?_)))))))
 have hi0:0<i:=by omega
 obtain ⟨e2,cs2,hE2⟩:=g1.elm (hpv hi0)
 obtain rfl:=kApiLine_open hE2.K
 refine Zq J J (Zz (n:=0) (m:=0) J J J (Zzg ?_))
 refine Zq J J (Zz (n:=6) (m:=6) J J J (Zzg ?_))
 refine Zq J J (Zo J (Zq J J (oSub J J ZO ?_)))
 refine ZS0 (t:=50) (v':=.int .i64 ((i-1:Nat):Int)) J (by congr 1;omega) ?_
 refine Zq J J (oIdxE J J (hE2) ZO J J ?_)
 have hc51:=(hE2).cell
 refine Zq J J (ZF (ZT 0) (ZT 0) ?_)
 refine Zq J J (Zlx hc51 ?_)
 refine Zq J J (oLeq J J (Zq J J (Zt J J (Zu J J (Zo J (ZS (ZT 57) (fun h57=>?_) (fun h57=>?_)))))))
 refine Zr J J J J (Zr J J J J (Zr J J J J (Zt J J (Zo J (Zr J J J J (Zr J J J J (Zr J J J J (oHead (Zt J J (oNilT (Za (wCondT J (Zh (Zi (Zzb ?_)))))))))))))))
 exact ⟨(),trivial,by rw [lines_bad hk0 hil (hlb.2 (by simp_all <;> omega))];rfl,Lh⟩
 refine Zq J J (Zz (n:=1) (m:=1) J J J (Zzg ?_))
 refine Zq J J (Zx J J (Zu J J (Zo J (ZS (ZT 62) (fun h62=>?_) (fun h62=>?_)))))
 refine Zr J J J J (Zr J J J J (Zr J J J J (oHead (Zt J J (oNilT (Za (wCondT J (Zh (Zi (Zzb ?_))))))))))
 exact ⟨(),trivial,by rw [lines_bad hk0 hil (hlb.2 (by simp_all <;> omega))];rfl,Lh⟩
 refine Zq J J (Zz (n:=1) (m:=1) J J J (Zzg ?_))
 refine Zq J J (Z1 J J (oHead (Zu J J (oNilT (Za (wC (fun h66=>?_) (fun h66=>?_)))))))
 refine Zh (Zi (Zzb ?_))
 exact ⟨(),trivial,by rw [lines_bad hk0 hil (hlb.2 (by simp_all <;> omega))];rfl,Lh⟩
 refine Zj (Zzd ?_)
 refine Zp J (Zn (Za ?_))
 exact ⟨rfl,i+1,⟨by omega,fun j hj=>by
 by_cases e:j=i
 · subst e;rw [hlb];simp_all <;> omega
 · exact hs j ZO⟩,by omega,cv,Lh⟩
 refine Zr J J J J (Zr J J J J (Zr J J J J (Zr J J J J (Zr J J J J (Zr J J J J (Zr J J J J (Zr J J J J (Zr J J J J (Zr J J J J (Zq J J (Zu J J (Zu J J (Zo J (Zq J J (Zz (n:=1) (m:=1) J J J (Zzg ?_))))))))))))))))
 refine Zq J J (Zx J J (Zu J J (Zo J (ZS (ZT 62) (fun h62=>?_) (fun h62=>?_)))))
 refine Zr J J J J (Zr J J J J (Zr J J J J (oHead (Zt J J (oNilT (Za (wCondT J (Zh (Zi (Zzb ?_))))))))))
 exact ⟨(),trivial,by rw [lines_bad hk0 hil (hlb.2 (by simp_all <;> omega))];rfl,Lh⟩
 refine Zq J J (Zz (n:=1) (m:=1) J J J (Zzg ?_))
 refine Zq J J (Z1 J J (oHead (Zu J J (oNilT (Za (wC (fun h66=>?_) (fun h66=>?_)))))))
 refine Zh (Zi (Zzb ?_))
 exact ⟨(),trivial,by rw [lines_bad hk0 hil (hlb.2 (by simp_all <;> omega))];rfl,Lh⟩
 refine Zj (Zzd ?_)
 refine Zp J (Zn (Za ?_))
 exact ⟨rfl,i+1,⟨by omega,fun j hj=>by
 by_cases e:j=i
 · subst e;rw [hlb];simp_all <;> omega
 · exact hs j ZO⟩,by omega,cv,Lh⟩
 refine Zm (Zzj ?_)
 obtain rfl:i=f.fLines.length:=by omega
 exact ⟨(),trivial,by rw [lines_good hk0 hs];rfl,Lh⟩
def rlBad (f:ApiFunc) (j:Nat):Prop:=atBad f.fCode.length (f.fRelocs.map (·.fAt)) j∨(f.fRelocs.map (·.fSym)).getD j 0<0∨32≤(f.fRelocs.map (·.fSym)).getD j 0
theorem relocs_bad {f:ApiFunc}{j:Nat}(hj:j<f.fRelocs.length) (h:rlBad f j):relocsF f=11:=by
 unfold relocsF
 by_cases ha:f.fRelocs.any relBad=true
 · rw [if_pos ha]
 · rw [if_neg ha]
   obtain ⟨x,hx⟩:∃ x,f.fRelocs[j]?=some x:=⟨_,List.getElem?_eq_getElem hj⟩
   rcases h with h | h
   · rw [ris_bad (by rw [List.length_map];exact hj) h];rfl
   · rw [map_getD hx] at h
     exact absurd (List.any_eq_true.2 ⟨x,List.mem_of_getElem? hx,decide_eq_true h⟩) ha
theorem relocs_good {f:ApiFunc}(h:∀ j,j<f.fRelocs.length→¬ rlBad f j):relocsF f=0:=by
 unfold relocsF
 rw [if_neg,ris_good (fun j hj hb=>h j (by rw [List.length_map] at hj;exact hj) (.inl hb)),if_pos rfl]
 intro k
 obtain ⟨x,hx,hb⟩:=List.any_eq_true.1 k
 obtain ⟨j,hj⟩:=List.getElem?_of_mem hx
 refine h j (List.getElem?_eq_some_iff.1 hj).1 (.inr ?_)
 rw [map_getD hj]
 exact of_decide_eq_true hb
theorem rl_iff {f:ApiFunc}{i:Nat}{x pv:ApiReloc}(hx:f.fRelocs[i]?=some x) (hp:0<i→f.fRelocs[i-1]?=some pv):rlBad f i↔(x.fAt<0∨(f.fCode.length:Int)≤x.fAt∨(0<i∧x.fAt≤pv.fAt))∨x.fSym<0∨32≤x.fSym:=by
 unfold rlBad atBad
 have h1:(f.fRelocs.map (·.fAt)).getD i 0=x.fAt:=map_getD hx
 have h2:(f.fRelocs.map (·.fSym)).getD i 0=x.fSym:=map_getD hx
 rw [h1,h2]
 by_cases h0:0<i
 · have h3:(f.fRelocs.map (·.fAt)).getD (i-1) 0=pv.fAt:=map_getD (hp h0)
   rw [h3]
 · obtain rfl:i=0:=by omega
   simp
theorem ref16_Check {B:Base}{w:World}(hS:St B [] w) (f:ApiFunc) (fc:List Value) (hf:kApiFunc.K B.e f fc) (hv:∀ y ∈ f.fKinds,in64 y) :
 CW 215 #[.agg fc.toArray] w (Ret B (fun _:Unit=>True) (fun _=>.int .i64 (funF f)) (fun _=>[])):=by
 obtain ⟨A0,c0,A1,c1,A2,c2,A3,c3,rfl,l0,g0,l1,g1,l2,g2,l3,g3⟩:=kApiFunc_open hf
 have hrl:=g3.1
 refine ZX Tryz.func215 hS ?_
 refine Zh (Zi (oBox J ZP (fun b1=>?_)))
 refine Zp J (Zn (Za (Zh (Zh (Zi (Zla ?_))))))
 (refine ZC0 rfl ZK (fun w hS=>frame hS ZQ (fun B' hB hS'=>ref16_slots hS' f _ (kApiFunc.K_grow hB hf) hv)) ?_;rintro ⟨⟩ -)
 refine Zp J (Zn (Za (Zh (Zi (Zo J (Z0 J J (Zn (Za (wC (fun h11=>?_) (fun h11=>?_))))))))))
 refine Zh (Zi (Zo J (Zze ?_)))
 exact ⟨(),trivial,by unfold funF;rw [if_pos h11];rfl,Lh⟩
 refine Zj (Za (Zh (Zh (Zi (Zz (n:=2) (m:=2) J J J (Zld ?_))))))
 refine Zx J J (Zo J (ZS (ZT 16) (fun h16=>?_) (fun h16=>?_)))
 refine Zr J J J J (Zr J J J J (Zr J J J J (Zt J J (Zn (Za (wCondT J (Zh (Zi (Zze ?_)))))))))
 exact ⟨(),trivial,by unfold funF;rw [if_neg h11,if_pos ZO];rfl,Lh⟩
 refine Zq J J (Zz (n:=2) (m:=2) J J J (Zzg ?_))
 refine Zq J J (Z1 J J (Zu J J (Zn (Za (wC (fun h20=>?_) (fun h20=>?_))))))
 refine Zh (Zi (Zze ?_))
 exact ⟨(),trivial,by unfold funF;rw [if_neg h11,if_pos ZO];rfl,Lh⟩
 refine Zj (Za (Zh (Zh (Zi (Zla ?_)))))
 (refine ZC0 rfl ZK (fun w hS=>frame hS ZQ (fun B' hB hS'=>ref16_code hS' f _ (kApiFunc.K_grow hB hf))) ?_;rintro ⟨⟩ -)
 refine Zp J (Zn (Za (Zh (Zi (Zo J (Z0 J J (Zn (Za (wC (fun h24=>?_) (fun h24=>?_))))))))))
 refine Zh (Zi (Zo J (Zze ?_)))
 exact ⟨(),trivial,by unfold funF;rw [if_neg h11,if_neg ZO,if_pos h24];rfl,Lh⟩
 refine Zj (Za (Zh (Zh (Zi (Zz (n:=4) (m:=4) J J J (Zld ?_))))))
 refine Zx J J (Zo J (ZS (ZT 29) (fun h29=>?_) (fun h29=>?_)))
 refine Zr J J J J (Zr J J J J (Zr J J J J (Zr J J J J (Zr J J J J (Zt J J (Zo J (Zr J J J J (Zr J J J J (Zr J J J J (Zr J J J J (Zr J J J J (Zr J J J J (Zt J J (Zn (Za (wCondT J (Zh (Zi (Zze ?_)))))))))))))))))))
 exact ⟨(),trivial,by unfold funF;rw [if_neg h11,if_neg ZO,if_neg h24,if_pos ZO];rfl,Lh⟩
 refine Zq J J (Zz (n:=5) (m:=5) J J J (Zzg ?_))
 refine Zq J J (Zz (n:=4) (m:=4) J J J (Zzg ?_))
 refine Zq J J (Zx J J (Zu J J (Zo J (ZS (ZT 36) (fun h36=>?_) (fun h36=>?_)))))
 refine Zr J J J J (Zr J J J J (Zr J J J J (Zr J J J J (Zr J J J J (Zr J J J J (Zt J J (Zn (Za (wCondT J (Zh (Zi (Zze ?_))))))))))))
 exact ⟨(),trivial,by unfold funF;rw [if_neg h11,if_neg ZO,if_neg h24,if_pos ZO];rfl,Lh⟩
 refine Zq J J (Zz (n:=5) (m:=5) J J J (Zzg ?_))
 refine Zq J J (Zz (n:=7) (m:=7) J J J (Zzg ?_))
 refine Zq J J (Zv J J (Zq J J (Z1 J J (Zu J J (Zn (Za (wC (fun h43=>?_) (fun h43=>?_))))))))
 refine Zh (Zi (Zze ?_))
 exact ⟨(),trivial,by unfold funF;rw [if_neg h11,if_neg ZO,if_neg h24,if_pos ZO];rfl,Lh⟩
 refine Zj (Za (Zh (Zh (Zi (Zla ?_)))))
 (refine ZC0 rfl ZK (fun w hS=>frame hS ZQ (fun B' hB hS'=>ref16_lines hS' f _ (kApiFunc.K_grow hB hf))) ?_;rintro ⟨⟩ -)
 refine Zp J (Zn (Za (Zh (Zi (Zo J (Z0 J J (Zn (Za (wC (fun h47=>?_) (fun h47=>?_))))))))))
 refine Zh (Zi (Zo J (Zze ?_)))
 exact ⟨(),trivial,by unfold funF;rw [if_neg h11,if_neg ZO,if_neg h24,if_neg ZO,if_pos h47];rfl,Lh⟩
 have hfr:funF f=relocsF f:=by unfold funF;rw [if_neg h11,if_neg ZO,if_neg h24,if_neg ZO,if_neg h47]
 refine Zj (Za (Zh (Zh (Zi (Zp J (Zn (Za (Zk (wLoop (ι:=Nat) (fun i=>[(1,.pointer (some ⟨b1,0,none⟩)),(6,.int .i64 (i:Int))]) (fun i=>[blk b1 47 [.int .i64 f.fClass,.slice A0 f.fKinds.length c0,.int .i64 f.fPad,.bool f.fNosplit,.int .i64 f.fFrom,.int .i64 f.fTo,.slice A1 f.fLines.length c1,.slice A2 f.fCode.length c2,.slice A3 f.fRelocs.length c3]]) (fun i=>i≤f.fRelocs.length∧∀ j,j<i→¬ rlBad f j) (fun i=>f.fRelocs.length-i) 0 ?_ cv Lh ?_)))))))))
 exact ⟨Nat.zero_le _,fun j hj=>by omega⟩
 rintro i ⟨hi,hs⟩
 try dsimp only
 refine Zh (Zh (Zi (Zo J (Zz (n:=8) (m:=8) J J J (Zld ?_)))))
 refine Zv J J (Zx J J (Zn (Za (wC (fun h53=>?_) (fun h53=>?_)))))
 obtain ⟨x,hx⟩:∃ x,f.fRelocs[i]?=some x:=⟨_,List.getElem?_eq_getElem ZO⟩
 have hil:i<f.fRelocs.length:=by omega
 obtain ⟨e1,cs1,hE⟩:=g3.elm hx
 obtain rfl:=kApiReloc_open hE.K
 obtain ⟨pv,hpv⟩:∃ y:ApiReloc,0<i→f.fRelocs[i-1]?=some y:=by
  by_cases h0:0<i
  · exact ⟨_,fun _=>List.getElem?_eq_getElem (show i-1<f.fRelocs.length by omega)⟩
  · exact ⟨default,fun h=>absurd h h0⟩
 have hlb:rlBad f i↔(x.fAt<0∨(f.fCode.length:Int)≤x.fAt∨(0<i∧x.fAt≤pv.fAt))∨x.fSym<0∨32≤x.fSym:=rl_iff hx hpv
 refine Zj (Za (Zh (Zk (Zh (Zi (Zz (n:=8) (m:=8) J J J (Zld ?_)))))))
 refine Zo J (oIdxE J J (hE) ZO J J ?_)
 have hc59:=(hE).cell
 refine ZF (ZT 0) (ZT 0) ?_
 refine Zlx hc59 ?_
 refine Zp J (Zn (Za (Zh (Zi (Zo J (Zx J J (Zo J (ZS (ZT 64) (fun h64=>?_) (fun h64=>?_)))))))))
 refine Zr J J J J (Zr J J J J (Zr J J J J (Zr J J J J (Zr J J J J (Zt J J (Zo J (Zr J J J J (Zr J J J J (Zr J J J J (Zs J J J (Zs J J J (Zs J J J (Zs J J J (Zs J J J (Zs J J J (Zs J J J (Zs J J J (Zs J J J (Zr J J J J (Zt J J (Zo J (Zr J J J J (Zr J J J J (Zr J J J J (Zr J J J J (Zr J J J J (Zr J J J J (Zr J J J J (Zt J J ?_)))))))))))))))))))))))))))))
 refine Zo J (Zr J J J J (Zr J J J J (Zr J J J J (Zr J J J J (Zr J J J J (Zr J J J J (Zr J J J J (Zt J J (Zn (Za (wCondT J (Zh (Zi (Zzb ?_))))))))))))))
 exact ⟨(),trivial,by rw [hfr,relocs_bad hil (hlb.2 (by simp_all <;> omega))];rfl,Lh⟩
 refine Zq J J (Zo J (Zq J J (Zz (n:=7) (m:=7) J J J (Zzg ?_))))
 refine Zq J J (Zv J J (Zq J J (Z2 J J (Zu J J (Zo J (ZS (ZT 71) (fun h71=>?_) (fun h71=>?_)))))))
 refine Zr J J J J (Zr J J J J (Zr J J J J (Zs J J J (Zs J J J (Zs J J J (Zs J J J (Zs J J J (Zs J J J (Zs J J J (Zs J J J (Zs J J J (Zr J J J J (Zt J J (Zo J (Zr J J J J (Zr J J J J (Zr J J J J (Zr J J J J (Zr J J J J (Zr J J J J (Zr J J J J (Zt J J (Zo J (Zr J J J J (Zr J J J J (Zr J J J J (Zr J J J J (Zr J J J J (Zr J J J J ?_)))))))))))))))))))))))))))))
 refine Zr J J J J (Zt J J (Zn (Za (wCondT J (Zh (Zi (Zzb ?_)))))))
 exact ⟨(),trivial,by rw [hfr,relocs_bad hil (hlb.2 (by simp_all <;> omega))];rfl,Lh⟩
 refine Zq J J (Zo J (Zq J J (Z1 J J (Zq J J (Zo J (ZS (ZT 74) (fun h74=>?_) (fun h74=>?_)))))))
 have hi0:0<i:=by omega
 obtain ⟨e2,cs2,hE2⟩:=g3.elm (hpv hi0)
 obtain rfl:=kApiReloc_open hE2.K
 refine Zq J J (Zo J (Zq J J (Zz (n:=8) (m:=8) J J J (Zzg ?_))))
 refine Zq J J (Zo J (Zq J J (oSub J J ZO ?_)))
 refine ZS0 (t:=79) (v':=.int .i64 ((i-1:Nat):Int)) J (by congr 1;omega) ?_
 refine Zq J J (oIdxE J J (hE2) ZO J J ?_)
 have hc80:=(hE2).cell
 refine Zq J J (ZF (ZT 0) (ZT 0) ?_)
 refine Zq J J (Zlx hc80 ?_)
 refine Zq J J (oLeq J J (Zq J J (Zt J J (Zu J J (Zo J (ZS (ZT 86) (fun h86=>?_) (fun h86=>?_)))))))
 refine Zr J J J J (Zr J J J J (Zr J J J J (Zr J J J J (Zr J J J J (Zr J J J J (Zr J J J J (Zt J J (Zo J (Zr J J J J (Zr J J J J (Zr J J J J (Zr J J J J (Zr J J J J (Zr J J J J (Zr J J J J (Zt J J (Zn (Za (wCondT J (Zh (Zi (Zp J (Zn (Za (Zl (Zf (Zc (Zc (Zf ?_)))))))))))))))))))))))))))))
 refine Zc (Zw (fi1 J ?_))
 exact ⟨(),trivial,by rw [hfr,relocs_bad hil (hlb.2 (by simp_all <;> omega))];rfl,Lh⟩
 refine Zq J J (Zz (n:=8) (m:=8) J J J (Zzg ?_))
 refine Zq J J (Zo J (Zq J J (oIdxE J J (hE) ZO J J ?_)))
 have hc90:=(hE).cell
 refine Zq J J (ZF (ZT 1) (ZT 1) ?_)
 refine Zq J J (Zlx hc90 ?_)
 refine Zq J J (Zx J J (Zu J J (Zo J (ZS (ZT 95) (fun h95=>?_) (fun h95=>?_)))))
 refine Zr J J J J (Zr J J J J (Zr J J J J (Zr J J J J (Zr J J J J (Zr J J J J (Zr J J J J (Zt J J (Zn (Za (wCondT J (Zh (Zi (Zzb ?_)))))))))))))
 exact ⟨(),trivial,by rw [hfr,relocs_bad hil (hlb.2 (by simp_all <;> omega))];rfl,Lh⟩
 refine Zq J J (Zz (n:=8) (m:=8) J J J (Zzg ?_))
 refine Zq J J (Zo J (Zq J J (oIdxE J J (hE) ZO J J ?_)))
 have hc99:=(hE).cell
 refine Zq J J (ZF (ZT 1) (ZT 1) ?_)
 refine Zq J J (Zlx hc99 ?_)
 refine Zq J J (Z2 J J (Zu J J (Zn (Za (wC (fun h103=>?_) (fun h103=>?_))))))
 refine Zh (Zi (Zzb ?_))
 exact ⟨(),trivial,by rw [hfr,relocs_bad hil (hlb.2 (by simp_all <;> omega))];rfl,Lh⟩
 refine Zj (Zzd ?_)
 refine Zp J (Zn (Za ?_))
 exact ⟨rfl,i+1,⟨by omega,fun j hj=>by
 by_cases e:j=i
 · subst e;rw [hlb];simp_all <;> omega
 · exact hs j ZO⟩,by omega,cv,Lh⟩
 refine Zr J J J J (Zr J J J J (Zr J J J J (Zr J J J J (Zr J J J J (Zr J J J J (Zr J J J J (Zr J J J J (Zr J J J J (Zq J J (Zu J J (Zu J J (Zo J (Zq J J (Zz (n:=8) (m:=8) J J J (Zzg ?_)))))))))))))))
 refine Zq J J (Zo J (Zq J J (oIdxE J J (hE) ZO J J ?_)))
 have hc90:=(hE).cell
 refine Zq J J (ZF (ZT 1) (ZT 1) ?_)
 refine Zq J J (Zlx hc90 ?_)
 refine Zq J J (Zx J J (Zu J J (Zo J (ZS (ZT 95) (fun h95=>?_) (fun h95=>?_)))))
 refine Zr J J J J (Zr J J J J (Zr J J J J (Zr J J J J (Zr J J J J (Zr J J J J (Zr J J J J (Zt J J (Zn (Za (wCondT J (Zh (Zi (Zzb ?_)))))))))))))
 exact ⟨(),trivial,by rw [hfr,relocs_bad hil (hlb.2 (by simp_all <;> omega))];rfl,Lh⟩
 refine Zq J J (Zz (n:=8) (m:=8) J J J (Zzg ?_))
 refine Zq J J (Zo J (Zq J J (oIdxE J J (hE) ZO J J ?_)))
 have hc99:=(hE).cell
 refine Zq J J (ZF (ZT 1) (ZT 1) ?_)
 refine Zq J J (Zlx hc99 ?_)
 refine Zq J J (Z2 J J (Zu J J (Zn (Za (wC (fun h103=>?_) (fun h103=>?_))))))
 refine Zh (Zi (Zzb ?_))
 exact ⟨(),trivial,by rw [hfr,relocs_bad hil (hlb.2 (by simp_all <;> omega))];rfl,Lh⟩
 refine Zj (Zzd ?_)
 refine Zp J (Zn (Za ?_))
 exact ⟨rfl,i+1,⟨by omega,fun j hj=>by
 by_cases e:j=i
 · subst e;rw [hlb];simp_all <;> omega
 · exact hs j ZO⟩,by omega,cv,Lh⟩
 refine Zm (Zzj ?_)
 obtain rfl:i=f.fRelocs.length:=by omega
 exact ⟨(),trivial,by rw [hfr,relocs_good hs];rfl,Lh⟩
def operK (f:ApiFunc) (k letter n:Int):Int:=if letter=119∨letter=114 then slotF f.fKinds n 0 else if letter=103∨letter=102 then slotF f.fKinds n (IntKind.i64.wrap (1+k)) else if letter=99 then callF f.fKinds k n else if letter=100 then lateF f.fKinds k n else if letter=118 then answF f.fKinds f.fClass n else 0
def clsR (x:ApiInstr) (s:ApiSymbol):Int:=if x.fOp=18 then IntKind.i64.wrap (s.fKind-1) else if x.fOp=19∨x.fOp=17∨x.fOp=21 then s.fKind else x.fC
def lettersL:List Int:=[119,114,103,102,99,100,118,116,110,107,45]
theorem fst0 (l : List Int) : fstE (0 :: l) = fstE l := by conv => lhs; unfold fstE
                                                           simp
theorem fstA (e:Int) {l:List Int}(h:fstE l=0):fstE (e :: l)=e:=by
 unfold fstE
 split
 · rfl
 · omega
theorem range6:List.range 6=[0,1,2,3,4,5]:=rfl
theorem hasL_tab:∀ c ∈ lettersL,(hasL 0 c,hasL 1 c,hasL 2 c,hasL 3 c,hasL 4 c,hasL 5 c)=(decide (c=119∨c=114),decide (c=103∨c=102),decide (c=99),decide (c=100),decide (c=118),decide (c=116∨c=110∨c=107∨c=45)):=by decide
theorem letE_eq {f:ApiFunc}{k letter n:Int}(h:letter ∈ lettersL):letE f k letter n=operK f k letter n:=by
 have ht:=hasL_tab letter h
 simp only [Prod.mk.injEq] at ht
 obtain ⟨h0,h1,h2,h3,h4,h5⟩:=ht
 unfold letE operK
 rw [range6]
 simp only [List.map_cons,List.map_nil,lookE,h0,h1,h2,h3,h4,h5,decide_eq_true_eq]
 have v0:lookV f k n 0=slotF f.fKinds n 0:=rfl
 have v1:lookV f k n 1=slotF f.fKinds n (IntKind.i64.wrap (1+k)):=rfl
 have v2:lookV f k n 2=callF f.fKinds k n:=rfl
 have v3:lookV f k n 3=lateF f.fKinds k n:=rfl
 have v4:lookV f k n 4=answF f.fKinds f.fClass n:=rfl
 have v5:lookV f k n 5=0:=rfl
 rw [v0,v1,v2,v3,v4,v5]
 simp only [lettersL,List.mem_cons,List.not_mem_nil,or_false] at h
 rcases h with rfl | rfl | rfl | rfl | rfl | rfl | rfl | rfl | rfl | rfl | rfl <;> simp [fst0,fstA,fstE] <;> exact fun h=>h.symm
theorem shape_letters {o:Int}{i:Nat}(h:i<(shapeF o).size):byteAt (shapeF o) i ∈ lettersL:=by
 rw [shapeF_size] at h
 split at h
 · next ho=>
   have h2:=ownF_iff.1 ho
   have:∀ n,n<24→∀ i,i<4→byteAt (shapesL.getD n ByteArray.empty) i ∈ lettersL:=by decide
   unfold shapeF
   rw [if_pos ho]
   exact this _ ZO i h
 · omega
theorem shape_plain {o:Int}{i:Nat}(h:i<(shapeF o).size) (ho:¬ (17≤o∧o≤21)):byteAt (shapeF o) i≠103∧byteAt (shapeF o) i≠102∧byteAt (shapeF o) i≠99∧byteAt (shapeF o) i≠100:=by
 rw [shapeF_size] at h
 split at h
 · next hw=>
   have h2:=ownF_iff.1 hw
   have:∀ n,n<24→¬ (16≤n∧n≤20)→∀ i,i<4→byteAt (shapesL.getD n ByteArray.empty) i≠103∧byteAt (shapesL.getD n ByteArray.empty) i≠102∧byteAt (shapesL.getD n ByteArray.empty) i≠99∧byteAt (shapesL.getD n ByteArray.empty) i≠100:=by decide
   unfold shapeF
   rw [if_pos hw]
   exact this _ ZO ZO i h
 · omega
def operR (f:ApiFunc) (x:ApiInstr) (s:ApiSymbol) (i:Nat):Int:=operK f (clsR x s) (byteAt (shapeF x.fOp) i) (opdF x i)
theorem fst_map {n:Nat}{e e':Nat→Int}(h:∀ i,i<n→e i=e' i):fstE ((List.range n).map e)=fstE ((List.range n).map e'):=by
 rw [List.map_congr_left (fun i hi=>h i (List.mem_range.1 hi))]
theorem operF_R {f:ApiFunc}{x:ApiInstr}{s:ApiSymbol}{k:Int}(h:(17≤x.fOp∧x.fOp≤21)→k=clsR x s):operF f x k=fstE ((List.range (shapeF x.fOp).size).map (operR f x s)):=by
 unfold operF
 refine fst_map (fun i hi=>?_)
 unfold opsE operR
 rw [letE_eq (shape_letters hi)]
 by_cases ho:17≤x.fOp∧x.fOp≤21
 · rw [h ho]
 · obtain ⟨h1,h2,h3,h4⟩:=shape_plain hi ho
   unfold operK
   simp only [h1,h2,h3,h4,or_self,if_false]
theorem instrF_R {f:ApiFunc}{l:List ApiSymbol}{i:Int}(hi:¬ (i<0∨(f.fCode.length:Int)≤i)) (he:refE f l i=0):instrF f l i=if ((codeAt f i).fOp=20∧isC (codeAt f i).fC=false)∨((codeAt f i).fOp=21∧latF (refS f l i).fKind=false) then 14 else fstE ((List.range (shapeF (codeAt f i).fOp).size).map (operR f (codeAt f i) (refS f l i))):=by
 unfold instrF
 rw [if_neg hi,if_neg (by rw [he];simp)]
 generalize codeAt f i=x
 generalize refS f l i=s
 by_cases h20:x.fOp=20
 · rw [if_pos h20]
   by_cases hc:isC x.fC=true
   · rw [if_pos hc,if_neg (by rintro (h | h);rw [hc] at h;cases h.2;omega),operF_R (s:=s) (fun _=>by unfold clsR;rw [if_neg ZO,if_neg ZO])]
   · rw [if_neg hc,if_pos (.inl ⟨h20,by simpa using hc⟩)]
 · rw [if_neg h20]
   by_cases h21:x.fOp=21
   · rw [if_pos h21]
     by_cases hc:latF s.fKind=true
     · rw [if_pos hc,if_neg (by rintro (h | h);exact h20 h.1;rw [hc] at h;cases h.2),operF_R (s:=s) (fun _=>by unfold clsR;rw [if_neg ZO,if_pos ZO])]
     · rw [if_neg hc,if_pos (.inr ⟨h21,by simpa using hc⟩)]
   · have hR : ¬ ((x.fOp = 20 ∧ isC x.fC = false) ∨ (x.fOp = 21 ∧ latF s.fKind = false)) := by
      rintro (h | h)
      · exact h20 h.1
      · exact h21 h.1
     rw [if_neg h21,if_neg hR]
     by_cases h18:x.fOp=18
     · rw [if_pos h18,operF_R (s:=s) (fun _=>by unfold clsR;rw [if_pos h18])]
     · rw [if_neg h18,operF_R (s:=s) (fun h=>by unfold clsR;rw [if_neg h18,if_pos ZO])]
theorem ref17_has {B:Base}{w:World}(hS:St B [] w) (f:ApiFunc) (fc:List Value) (hf:kApiFunc.K B.e f fc) (i:Int) :
 CW 292 #[.agg fc.toArray,.int .i64 i] w (Ret B (fun _:Unit=>True) (fun _=>.bool (decide (0≤markF f i))) (fun _=>[])):=by
 obtain ⟨A0,c0,A1,c1,A2,c2,A3,c3,rfl,l0,g0,l1,g1,l2,g2,l3,g3⟩:=kApiFunc_open hf
 have hcl:=g3.1
 refine ZX Tryz.func292 hS ?_
 refine Zh (Zi (oBox J ZP (fun b2=>?_)))
 refine Zp J (Zn (Za (Zh (Zh (Zi (Zp J (Zn (Za (Zk (wLoop (ι:=Nat) (fun j=>[(1,.int .i64 i),(2,.pointer (some ⟨b2,0,none⟩)),(5,.int .i64 (j:Int))]) (fun j=>[blk b2 47 [.int .i64 f.fClass,.slice A0 f.fKinds.length c0,.int .i64 f.fPad,.bool f.fNosplit,.int .i64 f.fFrom,.int .i64 f.fTo,.slice A1 f.fLines.length c1,.slice A2 f.fCode.length c2,.slice A3 f.fRelocs.length c3]]) (fun j=>j≤f.fRelocs.length∧∀ y ∈ f.fRelocs.take j,atR i y=false) (fun j=>f.fRelocs.length-j) 0 ?_ cv Lh ?_))))))))))
 exact ⟨Nat.zero_le _,by simp⟩
 rintro j ⟨hj,hs⟩
 try dsimp only
 refine Zh (Zh (Zi (Zo J (Zz (n:=8) (m:=8) J J J (Zld ?_)))))
 refine Zv J J (Zx J J (Zn (Za (wC (fun h10=>?_) (fun h10=>?_)))))
 obtain ⟨x,hx⟩:∃ x,f.fRelocs[j]?=some x:=⟨_,List.getElem?_eq_getElem ZO⟩
 obtain ⟨e1,cs1,hE⟩:=g3.elm hx
 obtain rfl:=kApiReloc_open hE.K
 refine Zj (Za (Zh (Zk (Zh (Zi (Zz (n:=8) (m:=8) J J J (Zld ?_)))))))
 refine Zo J (oIdxE J J (hE) ZO J J ?_)
 have hc16:=(hE).cell
 refine ZF (ZT 0) (ZT 0) ?_
 refine Zlx hc16 ?_
 refine Zo J (Zy J J (Zn (Za (wC (fun h20=>?_) (fun h20=>?_)))))
 refine Zh (Zi (Zzb ?_))
 have hm:markF f i=(j:Int):=idxI_stop hs hx (decide_eq_true h20)
 exact ⟨(),trivial,by rw [hm,decide_eq_true ZO];rfl,Lh⟩
 refine Zj (Zzd ?_)
 refine Zp J (Zn (Za ?_))
 exact ⟨rfl,j+1,⟨by omega,take_not hs hx (decide_eq_false h20)⟩,by omega,cv,Lh⟩
 refine Zm (Zzj ?_)
 obtain rfl:j=f.fRelocs.length:=by omega
 rw [List.take_length] at hs
 have hm:markF f i = -1:=idxI_none hs
 exact ⟨(),trivial,by rw [hm];rfl,Lh⟩
theorem needF_in (o:Int):0≤needF o∧needF o≤5:=by
 unfold needF
 repeat' split
 all_goals omega
theorem ref17_fits {B:Base}{w:World}(hS:St B [] w) (need:Int) (hn:1≤need∧need≤5) (s:ApiSymbol) (sc:List Value) (hs:kApiSymbol.K B.e s sc) :
 CW 293 #[.int .i64 need,.agg sc.toArray] w (Ret B (fun _:Unit=>True) (fun _=>.bool (fitsF need s)) (fun _=>[])):=by
 obtain rfl:=kApiSymbol_open hs
 generalize hz:IntKind.i64.wrap (s.fKind-1)=z
 have hfz:fitsF need s=if need=3 then decide (s.fSort=2) && decide (s.fKind=0) else if need=4 then decide (s.fSort=2) && isC z else decide (s.fSort=1):=by unfold fitsF;rw [hz]
 rw [hfz]
 refine ZX Tryz.func293 hS ?_
 refine Zh (Zi (oBox J ZP (fun b3=>?_)))
 refine Zp J (Zn (Za (Zh (Zi (Zo J (Zn (Za (Zk (Zh (Zh (Zi (Zy J J (Zp J (Zn (Za (wC (fun h15=>?_) (fun h15=>?_)))))))))))))))))
 refine Zj (Za (ZY h15 ?_))
 refine Zh (Zi (Zz (n:=2) (m:=2) J J J (Zld ?_)))
 refine Zy J J (Zp J (Zzc ?_))
 exact ⟨(),trivial,by rw [if_neg ZO,if_neg ZO];rfl,Lh⟩
 refine Zh (Zi (Zy J J (Zp J (Zn (Za (wC (fun h15=>?_) (fun h15=>?_)))))))
 refine Zj (Za (ZY h15 ?_))
 refine Zh (Zi (Zz (n:=2) (m:=2) J J J (Zld ?_)))
 refine Zy J J (Zp J (Zzc ?_))
 exact ⟨(),trivial,by rw [if_neg ZO,if_neg ZO];rfl,Lh⟩
 refine Zi (Zy J J (Zp J (Zn (Za (wC (fun h15=>?_) (fun h15=>?_))))))
 refine Zh (Zi (Zz (n:=2) (m:=2) J J J (Zld ?_)))
 refine Zy J J (Zp J (Zzc ?_))
 exact ⟨(),trivial,by rw [if_neg ZO,if_neg ZO];rfl,Lh⟩
 refine Zh (Zi (Zy J J (Zp J (Zn (Za (wC (fun h22=>?_) (fun h22=>?_)))))))
 refine Zh (Zi (Zz (n:=2) (m:=2) J J J (Zld ?_)))
 refine Zy J J (Zo J (ZS (ZT 27) (fun h27=>?_) (fun h27=>?_)))
 refine Zq J J (Zz (n:=3) (m:=3) J J J (Zzg ?_))
 refine Zq J J (Zy J J (Zt J J (Zp J (Zzc ?_))))
 exact ⟨(),trivial,by rw [if_pos h22];simp_all [resVal],Lh⟩
 refine Zr J J J J (Zr J J J J (Zr J J J J (Zu J J (Zp J (Zzc ?_)))))
 exact ⟨(),trivial,by rw [if_pos h22];simp_all [resVal],Lh⟩
 refine Zh (Zi (Zz (n:=2) (m:=2) J J J (Zld ?_)))
 refine Zy J J (Zo J (ZS (ZT 9) (fun h9=>?_) (fun h9=>?_)))
 refine Zq J J (Zz (n:=3) (m:=3) J J J (Zzg ?_))
 refine Zq J J (oSubW J J ?_)
 rw [hz]
 refine Zq J J ?_
 (refine ZC0 rfl ZK (fun w hS=>frame hS ZQ (fun B' hB hS'=>ref5_Is hS' z)) ?_;rintro ⟨⟩ -)
 refine Zt J J (Zp J (Zzc ?_))
 exact ⟨(),trivial,by rw [if_neg h22,if_pos ZO];simp_all [resVal],Lh⟩
 refine Zr J J J J (Zr J J J J (Zr J J J J (Zr J J J J (Zu J J (Zp J (Zzc ?_))))))
 exact ⟨(),trivial,by rw [if_neg h22,if_pos ZO];simp_all [resVal],Lh⟩
theorem ref17_refers {B:Base}{w:World}(hS:St B [] w) (f:ApiFunc) (fc:List Value) (hf:kApiFunc.K B.e f fc) (Al:Option Addr) (cl:Nat) (l:List ApiSymbol) (hl:kApiSymbol.C B.e Al l) (i:Nat) (hi:i<f.fCode.length) :
 CW 256 #[.agg fc.toArray,.slice Al l.length cl,.int .i64 (i:Int)] w (Ret B (fun _:Unit=>True) (fun _=>.tuple #[.agg (symL (refS f l i)).toArray,.int .i64 (refE f l i)]) (fun _=>[])):=by
 obtain ⟨A0,c0,A1,c1,A2,c2,A3,c3,rfl,l0,g0,l1,g1,l2,g2,l3,g3⟩:=kApiFunc_open hf
 obtain ⟨x,hx⟩:∃ x,f.fCode[i]?=some x:=⟨_,List.getElem?_eq_getElem hi⟩
 have hca:codeAt f (i:Int)=x:=by unfold codeAt;rw [Int.toNat_natCast,List.getD_eq_getElem?_getD,hx];rfl
 obtain ⟨e0,cs0,hE0⟩:=g2.elm hx
 obtain rfl:=kApiInstr_open hE0.K
 have hnin:=needF_in x.fOp
 generalize hne:needF x.fOp=need at *
 refine ZX Tryz.func256 hS ?_
 refine Zh (Zi (oBox J ZP (fun b3=>?_)))
 refine oAlloc J ZP (fun b6=>?_)
 refine Zp J (Zn (Za (Zh (Zi (Zz (n:=7) (m:=7) J J J (Zld ?_))))))
 refine Zo J (oIdxE J J (hE0) ZO J J ?_)
 have hc13:=(hE0).cell
 refine ZF (ZT 0) (ZT 0) ?_
 refine Zlx hc13 ?_
 (refine ZC0 rfl ZK (fun w hS=>frame hS ZQ (fun B' hB hS'=>ref7_Need hS' x.fOp)) ?_;rintro ⟨⟩ -)
 rw [hne]
 refine Zp J (Zn (Za (Zh (Zh (Zi (Zo J (Z1 J J (Zla ?_))))))))
 refine Zo J ?_
 (refine ZC0 rfl ZK (fun w hS=>frame hS ZQ (fun B' hB hS'=>ref17_has hS' f _ (kApiFunc.K_grow hB hf) (i:Int))) ?_;rintro ⟨⟩ -)
 refine oNeqBool J J J (Zn (Za (wC (fun h22=>?_) (fun h22=>?_))))
 have h22:¬ ((0<need)↔(0≤markF f i)):=by have:=h22;simp at this;omega
 refine Zh (Zi (oBuild Parts.nil J J Built.nil (Zsa ?_)))
 refine Zp J (Zn (Za (Zl (Zc (Zw (ZI2 ?_))))))
 have he:refE f l i=11:=by unfold refE;rw [hca,hne,if_neg ZO,if_pos ZO]
 have hr:refS f l i=default:=by unfold refS;rw [he,if_pos (.inr (by decide))]
 exact ⟨(),trivial,by rw [he,hr];rfl,Lh⟩
 have h22:(0<need)↔(0≤markF f i):=by have:=h22;simp at this;omega
 refine Zj (Za (Zh (Zh (Zi (Zo J (Zy J J (Zn (Za (wC (fun h25=>?_) (fun h25=>?_))))))))))
 refine Zh (Zi (oBuild Parts.nil J J Built.nil (Zsa ?_)))
 refine Zp J (Zn (Za (Zl (Zc (Zw (ZI2 ?_))))))
 have he:refE f l i=0:=by unfold refE;rw [hca,hne,if_pos ZO]
 have hr:refS f l i=default:=by unfold refS;rw [hca,hne,if_pos (.inl h25)]
 exact ⟨(),trivial,by rw [he,hr];rfl,Lh⟩
 refine Zj (Zzk ?_)
 refine Zo J ?_
 (refine ZC0 rfl ZK (fun w hS=>frame hS ZQ (fun B' hB hS'=>ref17_Sym hS' f _ (kApiFunc.K_grow hB hf) (i:Int))) ?_;rintro ⟨⟩ -)
 refine Zp J (Zn (Za (Zh (Zh (Zi (Zo J (Zx J J (Zo J (ZS (ZT 32) (fun h32=>?_) (fun h32=>?_))))))))))
 refine Zr J J J J (Zr J J J J (Zr J J J J (Zr J J J J (Zt J J (Zn (Za (wCondT J (Zh (Zi (oBuild Parts.nil J J Built.nil (Zsa ?_)))))))))))
 refine Zp J (Zn (Za (Zl (Zc (Zw (ZI2 ?_))))))
 have he:refE f l i=11:=by unfold refE;rw [hca,hne,if_neg ZO,if_pos ZO]
 have hr:refS f l i=default:=by unfold refS;rw [he,if_pos (.inr (by decide))]
 exact ⟨(),trivial,by rw [he,hr];rfl,Lh⟩
 refine Zq J J (Zo J (Zq J J (Zo J (Zq J J (Zv J J (Zq J J (Z2 J J (Zu J J (Zn (Za (wC (fun h37=>?_) (fun h37=>?_))))))))))))
 refine Zh (Zi (oBuild Parts.nil J J Built.nil (Zsa ?_)))
 refine Zp J (Zn (Za (Zl (Zc (Zw (ZI2 ?_))))))
 have he:refE f l i=11:=by unfold refE;rw [hca,hne,if_neg ZO,if_pos ZO]
 have hr:refS f l i=default:=by unfold refS;rw [he,if_pos (.inr (by decide))]
 exact ⟨(),trivial,by rw [he,hr];rfl,Lh⟩
 obtain ⟨n,hn⟩:=Int.eq_ofNat_of_zero_le (show 0≤symF f (i:Int) by omega)
 obtain ⟨s,hs⟩:∃ s,l[n]?=some s:=⟨_,List.getElem?_eq_getElem ZO⟩
 obtain ⟨e2,cs2,hE2⟩:=hl.elm hs
 obtain rfl:=kApiSymbol_open hE2.K
 have hnl:=(List.getElem?_eq_some_iff.1 hs).1
 have hsa:symAtF f l i=s:=by unfold symAtF;rw [hn,Int.toNat_natCast,List.getD_eq_getElem?_getD,hs];rfl
 rw [hn]
 refine Zj (Za (Zh (Zh (Zi (Zo J (Zo J (Zo J (oIdxE J J (hE2) ZO J J ?_))))))))
 have hc42:=(hE2).cell
 refine Zlx hc42 ?_
 (refine ZC0 rfl ZK (fun w hS=>frame hS ZQ (fun B' hB hS'=>ref17_fits hS' need ZO s _ (kApiSymbol_mk _ s))) ?_;rintro ⟨⟩ -)
 refine Zno ?_
 refine Zn (Za (wC (fun h45=>?_) (fun h45=>?_)))
 refine Zh (Zi (oBuild Parts.nil J J Built.nil (Zsa ?_)))
 refine Zp J (Zn (Za (Zl (Zc (Zw (ZI2 ?_))))))
 have he:refE f l i=8:=by unfold refE;rw [hca,hne,hsa,if_neg ZO,if_neg ZO,if_neg (by simpa using h45)]
 have hr:refS f l i=default:=by unfold refS;rw [he,if_pos (.inr (by decide))]
 exact ⟨(),trivial,by rw [he,hr];rfl,Lh⟩
 refine Zj (Za (Zh (Zi (Zo J (Zo J (oIdxE J J (hE2) ZO J J ?_))))))
 have hc49:=(hE2).cell
 refine Zlx hc49 ?_
 refine Zsa ?_
 refine Zp J (Zn (Za (Zzw ?_)))
 have he:refE f l i=0:=by unfold refE;rw [hca,hne,hsa,if_neg ZO,if_neg ZO,if_pos (by simpa using h45)]
 have hr:refS f l i=s:=by unfold refS;rw [he,hca,hne,hsa,if_neg ZO]
 exact ⟨(),trivial,by rw [he,hr];rfl,Lh⟩
theorem ref17_slot {B:Base}{w:World}(hS:St B [] w) (f:ApiFunc) (fc:List Value) (hf:kApiFunc.K B.e f fc) (at_ kind:Int) :
 CW 294 #[.agg fc.toArray,.int .i64 at_,.int .i64 kind] w (Ret B (fun _:Unit=>True) (fun _=>.int .i64 (slotF f.fKinds at_ kind)) (fun _=>[])):=by
 obtain ⟨A0,c0,A1,c1,A2,c2,A3,c3,rfl,l0,g0,l1,g1,l2,g2,l3,g3⟩:=kApiFunc_open hf
 refine ZX Tryz.func294 hS ?_
 refine Zh (Zi (oBox J ZP (fun b3=>?_)))
 refine Zp J (Zn (Za (Zh (Zh (Zi (Zo J (Zx J J (Zo J (ZS (ZT 9) (fun h9=>?_) (fun h9=>?_))))))))))
 refine Zr J J J J (Zr J J J J (Zr J J J J (Zr J J J J (Zr J J J J (Zt J J (Zn (Za (wCondT J (Zh (Zi (Zze ?_)))))))))))
 exact ⟨(),trivial,by unfold slotF;rw [if_pos ZO];rfl,Lh⟩
 refine Zq J J (Zo J (Zq J J (Zz (n:=1) (m:=1) J J J (Zzg ?_))))
 refine Zq J J (Zv J J (Zq J J (Z2 J J (Zu J J (Zn (Za (wC (fun h15=>?_) (fun h15=>?_))))))))
 refine Zh (Zi (Zze ?_))
 exact ⟨(),trivial,by unfold slotF;rw [if_pos ZO];rfl,Lh⟩
 obtain ⟨n,rfl⟩:=Int.eq_ofNat_of_zero_le (show 0≤at_ by omega)
 refine Zj (Za (Zh (Zh (Zi (Zz (n:=1) (m:=1) J J J (Zld ?_))))))
 refine Zo J (oIdx J J (g0) J ZO J J (fun e19 u19 cs19 hu19 hk19 hc19=>?_))
 obtain rfl:=hk19
 refine Zlx hc19 ?_
 refine Zo J (Z0 J J (Zn (Za (wC (fun h22=>?_) (fun h22=>?_)))))
 refine Zh (Zi (Zze ?_))
 exact ⟨(),trivial,by unfold slotF;rw [if_neg ZO,Int.toNat_natCast,getDat hu19,if_pos h22];rfl,Lh⟩
 refine Zj (Za (Zh (Zi (Zza ?_))))
 exact ⟨(),trivial,by unfold slotF;rw [if_neg ZO,Int.toNat_natCast,getDat hu19,if_neg h22];rfl,Lh⟩
theorem nCall_max {k:Int}(h:¬ (parF k=0∧ansF k=false)):nCall k=if parF k<1 then 1 else parF k:=by
 have:=parF_in k
 unfold nCall
 by_cases h0:parF k=0
 · have ha : ansF k = true := by
    cases e:ansF k with
    | true=>rfl
    | false=>exact absurd ⟨h0,e⟩ h
   rw [if_pos ⟨h0,ha⟩,if_pos ZO]
 · rw [if_neg (fun e=>h0 e.1),if_neg ZO]
theorem ref17_called {B:Base}{w:World}(hS:St B [] w) (f:ApiFunc) (fc:List Value) (hf:kApiFunc.K B.e f fc) (at_ k:Int) :
 CW 295 #[.agg fc.toArray,.int .i64 at_,.int .i64 k] w (Ret B (fun _:Unit=>True) (fun _=>.int .i64 (callF f.fKinds k at_)) (fun _=>[])):=by
 obtain ⟨A0,c0,A1,c1,A2,c2,A3,c3,rfl,l0,g0,l1,g1,l2,g2,l3,g3⟩:=kApiFunc_open hf
 have hn:=nCall_in k
 have hpn:=parF_in k
 have hml:((List.range (nCall k).toNat).map fun i:Nat=>slotF f.fKinds (IntKind.i64.wrap (at_+(i:Int))) 0).length=(nCall k).toNat:=by simp
 refine ZX Tryz.func295 hS ?_
 refine Zh (Zi (oBox J ZP (fun b3=>?_)))
 refine Zp J (Zn (Zzn ?_))
 (refine ZC0 rfl ZK (fun w hS=>frame hS ZQ (fun B' hB hS'=>ref5_Params hS' k)) ?_;rintro ⟨⟩ -)
 refine Zp J (Zn (Za (Zh (Zh (Zi (Zo J (Zy J J (Zo J (ZS (ZT 14) (fun h14=>?_) (fun h14=>?_))))))))))
 refine Zq J J (Zo J (Zq J J ?_))
 (refine ZC0 rfl ZK (fun w hS=>frame hS ZQ (fun B' hB hS'=>ref5_Answers hS' k)) ?_;rintro ⟨⟩ -)
 refine Zq J J (Zno ?_)
 refine Zt J J (Zn (Za (wC (fun h18=>?_) (fun h18=>?_))))
 have hn0:nCall k=0:=by unfold nCall;rw [if_neg (by rintro ⟨_,h⟩;simp [h] at h18)];exact h14
 refine Zh (Zh (Zi (Zo J (Z0 J J (Zn (Za (wC (fun h20=>?_) (fun h20=>?_))))))))
 refine Zh (Zi (Zp J (Zn (Za (Zl (Zc (Zc (Zw (fi1 J ?_)))))))))
 exact ⟨(),trivial,by unfold callF zeroF;rw [if_pos hn0,if_pos h20];rfl,Lh⟩
 refine Zj (Za (Zh (Zi (Zze ?_))))
 exact ⟨(),trivial,by unfold callF zeroF;rw [if_pos hn0,if_neg h20];rfl,Lh⟩
 refine Zj (Za (Zh (Zh (Zi (Zp J ?_)))))
 have hnm:=nCall_max (k:=k) (by rintro ⟨h,h'⟩;simp_all)
 have hnz:¬ nCall k=0:=by rw [hnm];split <;> omega
 refine Zn (Za (Zk (wLoop (ι:=Nat) (fun i=>[(1,.int .i64 at_),(3,.pointer (some ⟨b3,0,none⟩)),(7,.int .i64 (parF k)),(8,.int .i64 (i:Int))]) (fun i=>[blk b3 47 [.int .i64 f.fClass,.slice A0 f.fKinds.length c0,.int .i64 f.fPad,.bool f.fNosplit,.int .i64 f.fFrom,.int .i64 f.fTo,.slice A1 f.fLines.length c1,.slice A2 f.fCode.length c2,.slice A3 f.fRelocs.length c3]]) (fun i=>i≤(nCall k).toNat∧fstE (((List.range (nCall k).toNat).map fun i:Nat=>slotF f.fKinds (IntKind.i64.wrap (at_+(i:Int))) 0).take i)=0) (fun i=>(nCall k).toNat-i) 0 ?_ cv Lh ?_)))
 exact ⟨Nat.zero_le _,rfl⟩
 rintro i ⟨hi,hs⟩
 try dsimp only
 refine Zh (Zh (Zi (Zo J (Zo J (oMaxI J J ?_)))))
 rw [← hnm]
 refine Zx J J (Zn (Za (wC (fun h24=>?_) (fun h24=>?_))))
 have hxe:((List.range (nCall k).toNat).map fun i:Nat=>slotF f.fKinds (IntKind.i64.wrap (at_+(i:Int))) 0)[i]?=some (slotF f.fKinds (IntKind.i64.wrap (at_+(i:Int))) 0):=by rw [List.getElem?_map,List.getElem?_range ZO];rfl
 refine Zj (Za (Zh (Zk (Zh (Zi (Zla ?_))))))
 refine Zo J (Zo J (oAddW J J ?_))
 (refine ZC0 rfl ZK (fun w hS=>frame hS ZQ (fun B' hB hS'=>ref17_slot hS' f _ (kApiFunc.K_grow hB hf) (IntKind.i64.wrap (at_+(i:Int))) 0)) ?_;rintro ⟨⟩ -)
 refine Zp J (Zn (Za (Zh (Zi (Zo J (Z0 J J (Zn (Za (wC (fun h33=>?_) (fun h33=>?_))))))))))
 refine Zh (Zi (Zo J (Zzb ?_)))
 exact ⟨(),trivial,by unfold callF;rw [if_neg hnz,fstE_stop hs hxe h33];rfl,Lh⟩
 refine Zj (Zzd ?_)
 refine Zp J ?_
 skip
 refine Zn (Za ?_)
 exact ⟨rfl,i+1,⟨by omega,fstE_next hs hxe (Classical.not_not.1 h33)⟩,by omega,cv,Lh⟩
 refine Zm (Zzj ?_)
 obtain rfl:i=(nCall k).toNat:=by omega
 rw [List.take_of_length_le (by rw [hml];exact Nat.le_refl _)] at hs
 exact ⟨(),trivial,by unfold callF;rw [if_neg hnz,hs];rfl,Lh⟩
 refine Zr J J J J (Zr J J J J (Zr J J J J (Zu J J (Zn (Za (wCondF J (Zj (Za (Zh (Zh (Zi (Zp J ?_))))))))))))
 have hnm:=nCall_max (k:=k) (by rintro ⟨h,h'⟩;simp_all)
 have hnz:¬ nCall k=0:=by rw [hnm];split <;> omega
 refine Zn (Za (Zk (wLoop (ι:=Nat) (fun i=>[(1,.int .i64 at_),(3,.pointer (some ⟨b3,0,none⟩)),(7,.int .i64 (parF k)),(8,.int .i64 (i:Int))]) (fun i=>[blk b3 47 [.int .i64 f.fClass,.slice A0 f.fKinds.length c0,.int .i64 f.fPad,.bool f.fNosplit,.int .i64 f.fFrom,.int .i64 f.fTo,.slice A1 f.fLines.length c1,.slice A2 f.fCode.length c2,.slice A3 f.fRelocs.length c3]]) (fun i=>i≤(nCall k).toNat∧fstE (((List.range (nCall k).toNat).map fun i:Nat=>slotF f.fKinds (IntKind.i64.wrap (at_+(i:Int))) 0).take i)=0) (fun i=>(nCall k).toNat-i) 0 ?_ cv Lh ?_)))
 exact ⟨Nat.zero_le _,rfl⟩
 rintro i ⟨hi,hs⟩
 try dsimp only
 refine Zh (Zh (Zi (Zo J (Zo J (oMaxI J J ?_)))))
 rw [← hnm]
 refine Zx J J (Zn (Za (wC (fun h24=>?_) (fun h24=>?_))))
 have hxe:((List.range (nCall k).toNat).map fun i:Nat=>slotF f.fKinds (IntKind.i64.wrap (at_+(i:Int))) 0)[i]?=some (slotF f.fKinds (IntKind.i64.wrap (at_+(i:Int))) 0):=by rw [List.getElem?_map,List.getElem?_range ZO];rfl
 refine Zj (Za (Zh (Zk (Zh (Zi (Zla ?_))))))
 refine Zo J (Zo J (oAddW J J ?_))
 (refine ZC0 rfl ZK (fun w hS=>frame hS ZQ (fun B' hB hS'=>ref17_slot hS' f _ (kApiFunc.K_grow hB hf) (IntKind.i64.wrap (at_+(i:Int))) 0)) ?_;rintro ⟨⟩ -)
 refine Zp J (Zn (Za (Zh (Zi (Zo J (Z0 J J (Zn (Za (wC (fun h33=>?_) (fun h33=>?_))))))))))
 refine Zh (Zi (Zo J (Zzb ?_)))
 exact ⟨(),trivial,by unfold callF;rw [if_neg hnz,fstE_stop hs hxe h33];rfl,Lh⟩
 refine Zj (Zzd ?_)
 refine Zp J ?_
 skip
 refine Zn (Za ?_)
 exact ⟨rfl,i+1,⟨by omega,fstE_next hs hxe (Classical.not_not.1 h33)⟩,by omega,cv,Lh⟩
 refine Zm (Zzj ?_)
 obtain rfl:i=(nCall k).toNat:=by omega
 rw [List.take_of_length_le (by rw [hml];exact Nat.le_refl _)] at hs
 exact ⟨(),trivial,by unfold callF;rw [if_neg hnz,hs];rfl,Lh⟩
theorem ref17_perhaps {B:Base}{w:World}(hS:St B [] w) (f:ApiFunc) (fc:List Value) (hf:kApiFunc.K B.e f fc) (at_:Int) (is:Bool) :
 CW 296 #[.agg fc.toArray,.int .i64 at_,.bool is] w (Ret B (fun _:Unit=>True) (fun _=>.int .i64 (if is then slotF f.fKinds at_ 0 else zeroF at_)) (fun _=>[])):=by
 obtain ⟨A0,c0,A1,c1,A2,c2,A3,c3,rfl,l0,g0,l1,g1,l2,g2,l3,g3⟩:=kApiFunc_open hf
 refine ZX Tryz.func296 hS ?_
 refine Zh (Zi (oBox J ZP (fun b3=>?_)))
 refine Zp J (Zn (Za (Zh (Zh (Zi (Zo J (Zn (Za (wC (fun h7=>?_) (fun h7=>?_))))))))))
 refine Zh (Zi (Zla ?_))
 refine Zo J ?_
 (refine ZC0 rfl ZK (fun w hS=>frame hS ZQ (fun B' hB hS'=>ref17_slot hS' f _ (kApiFunc.K_grow hB hf) at_ 0)) ?_;rintro ⟨⟩ -)
 refine Zp J (Zn (Za (Zl (Zc (Zw (fi1 J ?_))))))
 exact ⟨(),trivial,by rw [if_pos (by simpa using h7)];rfl,Lh⟩
 refine Zj (Za (Zh (Zh (Zi (Zo J (Z0 J J (Zn (Za (wC (fun h12=>?_) (fun h12=>?_))))))))))
 refine Zh (Zi (Zze ?_))
 exact ⟨(),trivial,by rw [if_neg (by simpa using h7)];unfold zeroF;rw [if_pos h12];rfl,Lh⟩
 refine Zj (Za (Zh (Zi (Zza ?_))))
 exact ⟨(),trivial,by rw [if_neg (by simpa using h7)];unfold zeroF;rw [if_neg h12];rfl,Lh⟩
theorem late_perhaps {kinds:List Int}{k n:Int} : lateF kinds k n=if decide (0<parF k)=true then slotF kinds n 0 else zeroF n:=by
 have hpn:=parF_in k
 unfold lateF
 by_cases h0:parF k=0
 · rw [if_neg (show ¬ decide (0<parF k)=true by rw [h0];decide),if_pos h0]
 · rw [if_pos (show decide (0<parF k)=true from decide_eq_true ZO),if_neg h0]
theorem ref17_operand {B:Base}{w:World}(hS:St B [] w) (f:ApiFunc) (fc:List Value) (hf:kApiFunc.K B.e f fc) (x:ApiInstr) (xc:List Value) (hx:kApiInstr.K B.e x xc) (s:ApiSymbol) (letter n:Int) :
 CW 259 #[.agg fc.toArray,.agg xc.toArray,.agg (symL s).toArray,.int .u8 letter,.int .i64 n] w (Ret B (fun _:Unit=>True) (fun _=>.int .i64 (operK f (clsR x s) letter n)) (fun _=>[])):=by
 obtain ⟨A0,c0,A1,c1,A2,c2,A3,c3,rfl,l0,g0,l1,g1,l2,g2,l3,g3⟩:=kApiFunc_open hf
 obtain rfl:=kApiInstr_open hx
 generalize hz:IntKind.i64.wrap (s.fKind-1)=z
 generalize hk:clsR x s=k
 refine ZX Tryz.func259 hS ?_
 refine Zh (Zi (oBox J ZP (fun b5=>?_)))
 refine oBox J ZP (fun b6=>?_)
 refine oBox J ZP (fun b7=>?_)
 refine Zp J (Zn (Za (Zh (Zi (Zz (n:=3) (m:=3) J J J (Zld ?_))))))
 refine Zp J (Zn (Za (Zh (Zh (Zi (Zz (n:=0) (m:=0) J J J (Zld ?_)))))))
 refine Zy J J (Zo J (ZS (ZT 17) (fun h17=>?_) (fun h17=>?_)))
 refine Zr J J J J (Zr J J J J (Zr J J J J (Zt J J (Zo J (Zr J J J J (Zr J J J J (Zr J J J J (Zt J J (Zn (Za (wCondT J (Zi (Zz (n:=3) (m:=3) J J J (Zld ?_))))))))))))))
 refine Zp J (Zn (Za (Zh (Zh (Zi (Zz (n:=0) (m:=0) J J J (Zld ?_)))))))
 refine Zy J J (Zn (Za (wC (fun h31=>?_) (fun h31=>?_))))
 refine Zi (Zz (n:=3) (m:=3) J J J (Zld ?_))
 refine oSubW J J ?_
 rw [hz]
 refine Zp J (Zn (Zzn ?_))
 refine ZS0 (t:=11) (v':=.int .i64 k) rfl (by rw [← hk,← hz];unfold clsR;rw [if_pos h31]) ?_
 refine Zn (Za (Zk (Zh (Zh (Zi (Zy J J (Zp J (Zn (Za (wC (fun h36=>?_) (fun h36=>?_)))))))))))
 refine Zj (Za (ZY h36 ?_))
 refine Zh (Zi (Zla ?_))
 refine Zo J ?_
 (refine ZC0 rfl ZK (fun w hS=>frame hS ZQ (fun B' hB hS'=>ref17_slot hS' f _ (kApiFunc.K_grow hB hf) n 0)) ?_;rintro ⟨⟩ -)
 refine Zp J (Zzc ?_)
 exact ⟨(),trivial,by unfold operK;rw [if_pos ZO];rfl,Lh⟩
 refine Zi (Zy J J ?_)
 have hl119:¬ letter=119:=h36
 refine Zp J (Zn (Za (wC (fun h36=>?_) (fun h36=>?_))))
 refine Zh (Zi (Zla ?_))
 refine Zo J ?_
 (refine ZC0 rfl ZK (fun w hS=>frame hS ZQ (fun B' hB hS'=>ref17_slot hS' f _ (kApiFunc.K_grow hB hf) n 0)) ?_;rintro ⟨⟩ -)
 refine Zp J (Zzc ?_)
 exact ⟨(),trivial,by unfold operK;rw [if_pos ZO];rfl,Lh⟩
 refine Zh (Zh (Zi (Zy J J (Zp J (Zn (Za (wC (fun h42=>?_) (fun h42=>?_))))))))
 refine Zj (Za (ZY h42 ?_))
 refine Zh (Zi (Zla ?_))
 refine Zo J (Zo J (oAddW J J ?_))
 (refine ZC0 rfl ZK (fun w hS=>frame hS ZQ (fun B' hB hS'=>ref17_slot hS' f _ (kApiFunc.K_grow hB hf) n (IntKind.i64.wrap (1+k)))) ?_;rintro ⟨⟩ -)
 refine Zp J (Zzc ?_)
 exact ⟨(),trivial,by unfold operK;rw [if_neg ZO,if_pos ZO];rfl,Lh⟩
 refine Zi (Zy J J ?_)
 have hl103:¬ letter=103:=h42
 refine Zp J (Zn (Za (wC (fun h42=>?_) (fun h42=>?_))))
 refine Zh (Zi (Zla ?_))
 refine Zo J (Zo J (oAddW J J ?_))
 (refine ZC0 rfl ZK (fun w hS=>frame hS ZQ (fun B' hB hS'=>ref17_slot hS' f _ (kApiFunc.K_grow hB hf) n (IntKind.i64.wrap (1+k)))) ?_;rintro ⟨⟩ -)
 refine Zp J (Zzc ?_)
 exact ⟨(),trivial,by unfold operK;rw [if_neg ZO,if_pos ZO];rfl,Lh⟩
 refine Zh (Zi (Zy J J (Zp J (Zn (Za (wC (fun h50=>?_) (fun h50=>?_)))))))
 refine Zh (Zi (Zla ?_))
 refine Zo J (Zo J ?_)
 (refine ZC0 rfl ZK (fun w hS=>frame hS ZQ (fun B' hB hS'=>ref17_called hS' f _ (kApiFunc.K_grow hB hf) n k)) ?_;rintro ⟨⟩ -)
 refine Zp J (Zzc ?_)
 exact ⟨(),trivial,by unfold operK;rw [if_neg ZO,if_neg ZO,if_pos h50];rfl,Lh⟩
 refine Zh (Zi (Zy J J (Zp J (Zn (Za (wC (fun h56=>?_) (fun h56=>?_)))))))
 refine Zh (wDrawG J [0,1,2] [(3,[0,1],[4]),(5,[],[])] [6] 24 ZK J J (fun w0=>?_))
 refine Zla ?_
 refine Zo J (Zo J (Z4 (Z5 J ?_)))
 (refine ZC0 rfl ZK (fun w hS=>frame hS ZQ (fun B' hB hS'=>ref5_Params hS' k)) ?_;rintro ⟨⟩ -)
 refine ZG ?_ J (fun w0=>?_)
 refine Z8 J J J J (fun w0=>?_) ?_
 refine Zla ?_
 exact Z9 rfl
 refine Z8 J J J J (fun w0=>?_) ?_
 refine Zo J ?_
 exact Z9 rfl
 exact AgainG.nil
 refine Z1 J J (Z4 (Z5 J ?_))
 (refine ZC0 rfl ZK (fun w hS=>frame hS ZQ (fun B' hB hS'=>ref17_perhaps hS' f _ (kApiFunc.K_grow hB hf) n (decide (0<parF k)))) ?_;rintro ⟨⟩ -)
 refine ZG ?_ J (fun w0=>?_)
 exact AgainG.nil
 refine Z6 (Zp J (Zzc ?_))
 have hpn:=parF_in k
 have hop:operK f k letter n=lateF f.fKinds k n:=by unfold operK;rw [if_neg (show ¬ (letter=119∨letter=114) by omega),if_neg (show ¬ (letter=103∨letter=102) by omega),if_neg h50,if_pos h56]
 exact ⟨(),trivial,by rw [hop,late_perhaps];rfl,Lh⟩
 refine Zh (Zi (Zy J J (Zp J (Zn (Za (wC (fun h64=>?_) (fun h64=>?_)))))))
 refine Zh (wDrawG J [0,1,2,3] [(4,[0,1],[]),(5,[],[])] [6] 24 ZK J J (fun w0=>?_))
 refine Zla ?_
 refine Zo J (Zz (n:=0) (m:=0) J J J (Zld ?_))
 refine Z4 (Z5 J ?_)
 (refine ZC0 rfl ZK (fun w hS=>frame hS ZQ (fun B' hB hS'=>ref5_Answers hS' f.fClass)) ?_;rintro ⟨⟩ -)
 refine ZG ?_ J (fun w0=>?_)
 refine Z8 J J J J (fun w0=>?_) ?_
 refine Zla ?_
 exact Z9 rfl
 refine Z8 J J J J (fun w0=>?_) ?_
 refine Zo J ?_
 exact Z9 rfl
 exact AgainG.nil
 refine Z4 (Z5 J ?_)
 (refine ZC0 rfl ZK (fun w hS=>frame hS ZQ (fun B' hB hS'=>ref17_perhaps hS' f _ (kApiFunc.K_grow hB hf) n (ansF f.fClass))) ?_;rintro ⟨⟩ -)
 refine ZG ?_ J (fun w0=>?_)
 exact AgainG.nil
 refine Z6 (Zp J (Zzc ?_))
 have hop:operK f k letter n=answF f.fKinds f.fClass n:=by unfold operK;rw [if_neg (show ¬ (letter=119∨letter=114) by omega),if_neg (show ¬ (letter=103∨letter=102) by omega),if_neg h50,if_neg h56,if_pos h64]
 exact ⟨(),trivial,by rw [hop];rfl,Lh⟩
 refine Zh (Zzm ?_)
 exact ⟨(),trivial,by unfold operK;rw [if_neg ZO,if_neg ZO,if_neg h50,if_neg h56,if_neg h64];rfl,Lh⟩
 refine Zj (Zzn ?_)
 refine ZS0 (t:=11) (v':=.int .i64 k) rfl (by rw [← hk];unfold clsR;rw [if_neg h31,if_pos ZO]) ?_
 refine Zn (Za (Zk (Zh (Zh (Zi (Zy J J (Zp J (Zn (Za (wC (fun h36=>?_) (fun h36=>?_)))))))))))
 refine Zj (Za (ZY h36 ?_))
 refine Zh (Zi (Zla ?_))
 refine Zo J ?_
 (refine ZC0 rfl ZK (fun w hS=>frame hS ZQ (fun B' hB hS'=>ref17_slot hS' f _ (kApiFunc.K_grow hB hf) n 0)) ?_;rintro ⟨⟩ -)
 refine Zp J (Zzc ?_)
 exact ⟨(),trivial,by unfold operK;rw [if_pos ZO];rfl,Lh⟩
 refine Zi (Zy J J ?_)
 have hl119:¬ letter=119:=h36
 refine Zp J (Zn (Za (wC (fun h36=>?_) (fun h36=>?_))))
 refine Zh (Zi (Zla ?_))
 refine Zo J ?_
 (refine ZC0 rfl ZK (fun w hS=>frame hS ZQ (fun B' hB hS'=>ref17_slot hS' f _ (kApiFunc.K_grow hB hf) n 0)) ?_;rintro ⟨⟩ -)
 refine Zp J (Zzc ?_)
 exact ⟨(),trivial,by unfold operK;rw [if_pos ZO];rfl,Lh⟩
 refine Zh (Zh (Zi (Zy J J (Zp J (Zn (Za (wC (fun h42=>?_) (fun h42=>?_))))))))
 refine Zj (Za (ZY h42 ?_))
 refine Zh (Zi (Zla ?_))
 refine Zo J (Zo J (oAddW J J ?_))
 (refine ZC0 rfl ZK (fun w hS=>frame hS ZQ (fun B' hB hS'=>ref17_slot hS' f _ (kApiFunc.K_grow hB hf) n (IntKind.i64.wrap (1+k)))) ?_;rintro ⟨⟩ -)
 refine Zp J (Zzc ?_)
 exact ⟨(),trivial,by unfold operK;rw [if_neg ZO,if_pos ZO];rfl,Lh⟩
 refine Zi (Zy J J ?_)
 have hl103:¬ letter=103:=h42
 refine Zp J (Zn (Za (wC (fun h42=>?_) (fun h42=>?_))))
 refine Zh (Zi (Zla ?_))
 refine Zo J (Zo J (oAddW J J ?_))
 (refine ZC0 rfl ZK (fun w hS=>frame hS ZQ (fun B' hB hS'=>ref17_slot hS' f _ (kApiFunc.K_grow hB hf) n (IntKind.i64.wrap (1+k)))) ?_;rintro ⟨⟩ -)
 refine Zp J (Zzc ?_)
 exact ⟨(),trivial,by unfold operK;rw [if_neg ZO,if_pos ZO];rfl,Lh⟩
 refine Zh (Zi (Zy J J (Zp J (Zn (Za (wC (fun h50=>?_) (fun h50=>?_)))))))
 refine Zh (Zi (Zla ?_))
 refine Zo J (Zo J ?_)
 (refine ZC0 rfl ZK (fun w hS=>frame hS ZQ (fun B' hB hS'=>ref17_called hS' f _ (kApiFunc.K_grow hB hf) n k)) ?_;rintro ⟨⟩ -)
 refine Zp J (Zzc ?_)
 exact ⟨(),trivial,by unfold operK;rw [if_neg ZO,if_neg ZO,if_pos h50];rfl,Lh⟩
 refine Zh (Zi (Zy J J (Zp J (Zn (Za (wC (fun h56=>?_) (fun h56=>?_)))))))
 refine Zh (wDrawG J [0,1,2] [(3,[0,1],[4]),(5,[],[])] [6] 24 ZK J J (fun w0=>?_))
 refine Zla ?_
 refine Zo J (Zo J (Z4 (Z5 J ?_)))
 (refine ZC0 rfl ZK (fun w hS=>frame hS ZQ (fun B' hB hS'=>ref5_Params hS' k)) ?_;rintro ⟨⟩ -)
 refine ZG ?_ J (fun w0=>?_)
 refine Z8 J J J J (fun w0=>?_) ?_
 refine Zla ?_
 exact Z9 rfl
 refine Z8 J J J J (fun w0=>?_) ?_
 refine Zo J ?_
 exact Z9 rfl
 exact AgainG.nil
 refine Z1 J J (Z4 (Z5 J ?_))
 (refine ZC0 rfl ZK (fun w hS=>frame hS ZQ (fun B' hB hS'=>ref17_perhaps hS' f _ (kApiFunc.K_grow hB hf) n (decide (0<parF k)))) ?_;rintro ⟨⟩ -)
 refine ZG ?_ J (fun w0=>?_)
 exact AgainG.nil
 refine Z6 (Zp J (Zzc ?_))
 have hpn:=parF_in k
 have hop:operK f k letter n=lateF f.fKinds k n:=by unfold operK;rw [if_neg (show ¬ (letter=119∨letter=114) by omega),if_neg (show ¬ (letter=103∨letter=102) by omega),if_neg h50,if_pos h56]
 exact ⟨(),trivial,by rw [hop,late_perhaps];rfl,Lh⟩
 refine Zh (Zi (Zy J J (Zp J (Zn (Za (wC (fun h64=>?_) (fun h64=>?_)))))))
 refine Zh (wDrawG J [0,1,2,3] [(4,[0,1],[]),(5,[],[])] [6] 24 ZK J J (fun w0=>?_))
 refine Zla ?_
 refine Zo J (Zz (n:=0) (m:=0) J J J (Zld ?_))
 refine Z4 (Z5 J ?_)
 (refine ZC0 rfl ZK (fun w hS=>frame hS ZQ (fun B' hB hS'=>ref5_Answers hS' f.fClass)) ?_;rintro ⟨⟩ -)
 refine ZG ?_ J (fun w0=>?_)
 refine Z8 J J J J (fun w0=>?_) ?_
 refine Zla ?_
 exact Z9 rfl
 refine Z8 J J J J (fun w0=>?_) ?_
 refine Zo J ?_
 exact Z9 rfl
 exact AgainG.nil
 refine Z4 (Z5 J ?_)
 (refine ZC0 rfl ZK (fun w hS=>frame hS ZQ (fun B' hB hS'=>ref17_perhaps hS' f _ (kApiFunc.K_grow hB hf) n (ansF f.fClass))) ?_;rintro ⟨⟩ -)
 refine ZG ?_ J (fun w0=>?_)
 exact AgainG.nil
 refine Z6 (Zp J (Zzc ?_))
 have hop:operK f k letter n=answF f.fKinds f.fClass n:=by unfold operK;rw [if_neg (show ¬ (letter=119∨letter=114) by omega),if_neg (show ¬ (letter=103∨letter=102) by omega),if_neg h50,if_neg h56,if_pos h64]
 exact ⟨(),trivial,by rw [hop];rfl,Lh⟩
 refine Zh (Zzm ?_)
 exact ⟨(),trivial,by unfold operK;rw [if_neg ZO,if_neg ZO,if_neg h50,if_neg h56,if_neg h64];rfl,Lh⟩
 refine Zq J J (Zz (n:=0) (m:=0) J J J (Zzg ?_))
 refine Zq J J (Zy J J (Zu J J (Zo J (ZS (ZT 22) (fun h22=>?_) (fun h22=>?_)))))
 refine Zr J J J J (Zr J J J J (Zr J J J J (Zt J J (Zn (Za (wCondT J (Zi (Zz (n:=3) (m:=3) J J J (Zld ?_)))))))))
 refine Zp J (Zn (Za (Zh (Zh (Zi (Zz (n:=0) (m:=0) J J J (Zld ?_)))))))
 refine Zy J J (Zn (Za (wC (fun h31=>?_) (fun h31=>?_))))
 refine Zi (Zz (n:=3) (m:=3) J J J (Zld ?_))
 refine oSubW J J ?_
 rw [hz]
 refine Zp J (Zn (Zzn ?_))
 refine ZS0 (t:=11) (v':=.int .i64 k) rfl (by rw [← hk,← hz];unfold clsR;rw [if_pos h31]) ?_
 refine Zn (Za (Zk (Zh (Zh (Zi (Zy J J (Zp J (Zn (Za (wC (fun h36=>?_) (fun h36=>?_)))))))))))
 refine Zj (Za (ZY h36 ?_))
 refine Zh (Zi (Zla ?_))
 refine Zo J ?_
 (refine ZC0 rfl ZK (fun w hS=>frame hS ZQ (fun B' hB hS'=>ref17_slot hS' f _ (kApiFunc.K_grow hB hf) n 0)) ?_;rintro ⟨⟩ -)
 refine Zp J (Zzc ?_)
 exact ⟨(),trivial,by unfold operK;rw [if_pos ZO];rfl,Lh⟩
 refine Zi (Zy J J ?_)
 have hl119:¬ letter=119:=h36
 refine Zp J (Zn (Za (wC (fun h36=>?_) (fun h36=>?_))))
 refine Zh (Zi (Zla ?_))
 refine Zo J ?_
 (refine ZC0 rfl ZK (fun w hS=>frame hS ZQ (fun B' hB hS'=>ref17_slot hS' f _ (kApiFunc.K_grow hB hf) n 0)) ?_;rintro ⟨⟩ -)
 refine Zp J (Zzc ?_)
 exact ⟨(),trivial,by unfold operK;rw [if_pos ZO];rfl,Lh⟩
 refine Zh (Zh (Zi (Zy J J (Zp J (Zn (Za (wC (fun h42=>?_) (fun h42=>?_))))))))
 refine Zj (Za (ZY h42 ?_))
 refine Zh (Zi (Zla ?_))
 refine Zo J (Zo J (oAddW J J ?_))
 (refine ZC0 rfl ZK (fun w hS=>frame hS ZQ (fun B' hB hS'=>ref17_slot hS' f _ (kApiFunc.K_grow hB hf) n (IntKind.i64.wrap (1+k)))) ?_;rintro ⟨⟩ -)
 refine Zp J (Zzc ?_)
 exact ⟨(),trivial,by unfold operK;rw [if_neg ZO,if_pos ZO];rfl,Lh⟩
 refine Zi (Zy J J ?_)
 have hl103:¬ letter=103:=h42
 refine Zp J (Zn (Za (wC (fun h42=>?_) (fun h42=>?_))))
 refine Zh (Zi (Zla ?_))
 refine Zo J (Zo J (oAddW J J ?_))
 (refine ZC0 rfl ZK (fun w hS=>frame hS ZQ (fun B' hB hS'=>ref17_slot hS' f _ (kApiFunc.K_grow hB hf) n (IntKind.i64.wrap (1+k)))) ?_;rintro ⟨⟩ -)
 refine Zp J (Zzc ?_)
 exact ⟨(),trivial,by unfold operK;rw [if_neg ZO,if_pos ZO];rfl,Lh⟩
 refine Zh (Zi (Zy J J (Zp J (Zn (Za (wC (fun h50=>?_) (fun h50=>?_)))))))
 refine Zh (Zi (Zla ?_))
 refine Zo J (Zo J ?_)
 (refine ZC0 rfl ZK (fun w hS=>frame hS ZQ (fun B' hB hS'=>ref17_called hS' f _ (kApiFunc.K_grow hB hf) n k)) ?_;rintro ⟨⟩ -)
 refine Zp J (Zzc ?_)
 exact ⟨(),trivial,by unfold operK;rw [if_neg ZO,if_neg ZO,if_pos h50];rfl,Lh⟩
 refine Zh (Zi (Zy J J (Zp J (Zn (Za (wC (fun h56=>?_) (fun h56=>?_)))))))
 refine Zh (wDrawG J [0,1,2] [(3,[0,1],[4]),(5,[],[])] [6] 24 ZK J J (fun w0=>?_))
 refine Zla ?_
 refine Zo J (Zo J (Z4 (Z5 J ?_)))
 (refine ZC0 rfl ZK (fun w hS=>frame hS ZQ (fun B' hB hS'=>ref5_Params hS' k)) ?_;rintro ⟨⟩ -)
 refine ZG ?_ J (fun w0=>?_)
 refine Z8 J J J J (fun w0=>?_) ?_
 refine Zla ?_
 exact Z9 rfl
 refine Z8 J J J J (fun w0=>?_) ?_
 refine Zo J ?_
 exact Z9 rfl
 exact AgainG.nil
 refine Z1 J J (Z4 (Z5 J ?_))
 (refine ZC0 rfl ZK (fun w hS=>frame hS ZQ (fun B' hB hS'=>ref17_perhaps hS' f _ (kApiFunc.K_grow hB hf) n (decide (0<parF k)))) ?_;rintro ⟨⟩ -)
 refine ZG ?_ J (fun w0=>?_)
 exact AgainG.nil
 refine Z6 (Zp J (Zzc ?_))
 have hpn:=parF_in k
 have hop:operK f k letter n=lateF f.fKinds k n:=by unfold operK;rw [if_neg (show ¬ (letter=119∨letter=114) by omega),if_neg (show ¬ (letter=103∨letter=102) by omega),if_neg h50,if_pos h56]
 exact ⟨(),trivial,by rw [hop,late_perhaps];rfl,Lh⟩
 refine Zh (Zi (Zy J J (Zp J (Zn (Za (wC (fun h64=>?_) (fun h64=>?_)))))))
 refine Zh (wDrawG J [0,1,2,3] [(4,[0,1],[]),(5,[],[])] [6] 24 ZK J J (fun w0=>?_))
 refine Zla ?_
 refine Zo J (Zz (n:=0) (m:=0) J J J (Zld ?_))
 refine Z4 (Z5 J ?_)
 (refine ZC0 rfl ZK (fun w hS=>frame hS ZQ (fun B' hB hS'=>ref5_Answers hS' f.fClass)) ?_;rintro ⟨⟩ -)
 refine ZG ?_ J (fun w0=>?_)
 refine Z8 J J J J (fun w0=>?_) ?_
 refine Zla ?_
 exact Z9 rfl
 refine Z8 J J J J (fun w0=>?_) ?_
 refine Zo J ?_
 exact Z9 rfl
 exact AgainG.nil
 refine Z4 (Z5 J ?_)
 (refine ZC0 rfl ZK (fun w hS=>frame hS ZQ (fun B' hB hS'=>ref17_perhaps hS' f _ (kApiFunc.K_grow hB hf) n (ansF f.fClass))) ?_;rintro ⟨⟩ -)
 refine ZG ?_ J (fun w0=>?_)
 exact AgainG.nil
 refine Z6 (Zp J (Zzc ?_))
 have hop:operK f k letter n=answF f.fKinds f.fClass n:=by unfold operK;rw [if_neg (show ¬ (letter=119∨letter=114) by omega),if_neg (show ¬ (letter=103∨letter=102) by omega),if_neg h50,if_neg h56,if_pos h64]
 exact ⟨(),trivial,by rw [hop];rfl,Lh⟩
 refine Zh (Zzm ?_)
 exact ⟨(),trivial,by unfold operK;rw [if_neg ZO,if_neg ZO,if_neg h50,if_neg h56,if_neg h64];rfl,Lh⟩
 refine Zj (Zzn ?_)
 refine ZS0 (t:=11) (v':=.int .i64 k) rfl (by rw [← hk];unfold clsR;rw [if_neg h31,if_pos ZO]) ?_
 refine Zn (Za (Zk (Zh (Zh (Zi (Zy J J (Zp J (Zn (Za (wC (fun h36=>?_) (fun h36=>?_)))))))))))
 refine Zj (Za (ZY h36 ?_))
 refine Zh (Zi (Zla ?_))
 refine Zo J ?_
 (refine ZC0 rfl ZK (fun w hS=>frame hS ZQ (fun B' hB hS'=>ref17_slot hS' f _ (kApiFunc.K_grow hB hf) n 0)) ?_;rintro ⟨⟩ -)
 refine Zp J (Zzc ?_)
 exact ⟨(),trivial,by unfold operK;rw [if_pos ZO];rfl,Lh⟩
 refine Zi (Zy J J ?_)
 have hl119:¬ letter=119:=h36
 refine Zp J (Zn (Za (wC (fun h36=>?_) (fun h36=>?_))))
 refine Zh (Zi (Zla ?_))
 refine Zo J ?_
 (refine ZC0 rfl ZK (fun w hS=>frame hS ZQ (fun B' hB hS'=>ref17_slot hS' f _ (kApiFunc.K_grow hB hf) n 0)) ?_;rintro ⟨⟩ -)
 refine Zp J (Zzc ?_)
 exact ⟨(),trivial,by unfold operK;rw [if_pos ZO];rfl,Lh⟩
 refine Zh (Zh (Zi (Zy J J (Zp J (Zn (Za (wC (fun h42=>?_) (fun h42=>?_))))))))
 refine Zj (Za (ZY h42 ?_))
 refine Zh (Zi (Zla ?_))
 refine Zo J (Zo J (oAddW J J ?_))
 (refine ZC0 rfl ZK (fun w hS=>frame hS ZQ (fun B' hB hS'=>ref17_slot hS' f _ (kApiFunc.K_grow hB hf) n (IntKind.i64.wrap (1+k)))) ?_;rintro ⟨⟩ -)
 refine Zp J (Zzc ?_)
 exact ⟨(),trivial,by unfold operK;rw [if_neg ZO,if_pos ZO];rfl,Lh⟩
 refine Zi (Zy J J ?_)
 have hl103:¬ letter=103:=h42
 refine Zp J (Zn (Za (wC (fun h42=>?_) (fun h42=>?_))))
 refine Zh (Zi (Zla ?_))
 refine Zo J (Zo J (oAddW J J ?_))
 (refine ZC0 rfl ZK (fun w hS=>frame hS ZQ (fun B' hB hS'=>ref17_slot hS' f _ (kApiFunc.K_grow hB hf) n (IntKind.i64.wrap (1+k)))) ?_;rintro ⟨⟩ -)
 refine Zp J (Zzc ?_)
 exact ⟨(),trivial,by unfold operK;rw [if_neg ZO,if_pos ZO];rfl,Lh⟩
 refine Zh (Zi (Zy J J (Zp J (Zn (Za (wC (fun h50=>?_) (fun h50=>?_)))))))
 refine Zh (Zi (Zla ?_))
 refine Zo J (Zo J ?_)
 (refine ZC0 rfl ZK (fun w hS=>frame hS ZQ (fun B' hB hS'=>ref17_called hS' f _ (kApiFunc.K_grow hB hf) n k)) ?_;rintro ⟨⟩ -)
 refine Zp J (Zzc ?_)
 exact ⟨(),trivial,by unfold operK;rw [if_neg ZO,if_neg ZO,if_pos h50];rfl,Lh⟩
 refine Zh (Zi (Zy J J (Zp J (Zn (Za (wC (fun h56=>?_) (fun h56=>?_)))))))
 refine Zh (wDrawG J [0,1,2] [(3,[0,1],[4]),(5,[],[])] [6] 24 ZK J J (fun w0=>?_))
 refine Zla ?_
 refine Zo J (Zo J (Z4 (Z5 J ?_)))
 (refine ZC0 rfl ZK (fun w hS=>frame hS ZQ (fun B' hB hS'=>ref5_Params hS' k)) ?_;rintro ⟨⟩ -)
 refine ZG ?_ J (fun w0=>?_)
 refine Z8 J J J J (fun w0=>?_) ?_
 refine Zla ?_
 exact Z9 rfl
 refine Z8 J J J J (fun w0=>?_) ?_
 refine Zo J ?_
 exact Z9 rfl
 exact AgainG.nil
 refine Z1 J J (Z4 (Z5 J ?_))
 (refine ZC0 rfl ZK (fun w hS=>frame hS ZQ (fun B' hB hS'=>ref17_perhaps hS' f _ (kApiFunc.K_grow hB hf) n (decide (0<parF k)))) ?_;rintro ⟨⟩ -)
 refine ZG ?_ J (fun w0=>?_)
 exact AgainG.nil
 refine Z6 (Zp J (Zzc ?_))
 have hpn:=parF_in k
 have hop:operK f k letter n=lateF f.fKinds k n:=by unfold operK;rw [if_neg (show ¬ (letter=119∨letter=114) by omega),if_neg (show ¬ (letter=103∨letter=102) by omega),if_neg h50,if_pos h56]
 exact ⟨(),trivial,by rw [hop,late_perhaps];rfl,Lh⟩
 refine Zh (Zi (Zy J J (Zp J (Zn (Za (wC (fun h64=>?_) (fun h64=>?_)))))))
 refine Zh (wDrawG J [0,1,2,3] [(4,[0,1],[]),(5,[],[])] [6] 24 ZK J J (fun w0=>?_))
 refine Zla ?_
 refine Zo J (Zz (n:=0) (m:=0) J J J (Zld ?_))
 refine Z4 (Z5 J ?_)
 (refine ZC0 rfl ZK (fun w hS=>frame hS ZQ (fun B' hB hS'=>ref5_Answers hS' f.fClass)) ?_;rintro ⟨⟩ -)
 refine ZG ?_ J (fun w0=>?_)
 refine Z8 J J J J (fun w0=>?_) ?_
 refine Zla ?_
 exact Z9 rfl
 refine Z8 J J J J (fun w0=>?_) ?_
 refine Zo J ?_
 exact Z9 rfl
 exact AgainG.nil
 refine Z4 (Z5 J ?_)
 (refine ZC0 rfl ZK (fun w hS=>frame hS ZQ (fun B' hB hS'=>ref17_perhaps hS' f _ (kApiFunc.K_grow hB hf) n (ansF f.fClass))) ?_;rintro ⟨⟩ -)
 refine ZG ?_ J (fun w0=>?_)
 exact AgainG.nil
 refine Z6 (Zp J (Zzc ?_))
 have hop:operK f k letter n=answF f.fKinds f.fClass n:=by unfold operK;rw [if_neg (show ¬ (letter=119∨letter=114) by omega),if_neg (show ¬ (letter=103∨letter=102) by omega),if_neg h50,if_neg h56,if_pos h64]
 exact ⟨(),trivial,by rw [hop];rfl,Lh⟩
 refine Zh (Zzm ?_)
 exact ⟨(),trivial,by unfold operK;rw [if_neg ZO,if_neg ZO,if_neg h50,if_neg h56,if_neg h64];rfl,Lh⟩
 refine Zq J J (Zz (n:=0) (m:=0) J J J (Zzg ?_))
 refine Zq J J (Zy J J (Zu J J (Zn (Za (wC (fun h26=>?_) (fun h26=>?_))))))
 refine Zi (Zz (n:=3) (m:=3) J J J (Zld ?_))
 refine Zp J (Zn (Za (Zh (Zh (Zi (Zz (n:=0) (m:=0) J J J (Zld ?_)))))))
 refine Zy J J (Zn (Za (wC (fun h31=>?_) (fun h31=>?_))))
 refine Zi (Zz (n:=3) (m:=3) J J J (Zld ?_))
 refine oSubW J J ?_
 rw [hz]
 refine Zp J (Zn (Zzn ?_))
 refine ZS0 (t:=11) (v':=.int .i64 k) rfl (by rw [← hk,← hz];unfold clsR;rw [if_pos h31]) ?_
 refine Zn (Za (Zk (Zh (Zh (Zi (Zy J J (Zp J (Zn (Za (wC (fun h36=>?_) (fun h36=>?_)))))))))))
 refine Zj (Za (ZY h36 ?_))
 refine Zh (Zi (Zla ?_))
 refine Zo J ?_
 (refine ZC0 rfl ZK (fun w hS=>frame hS ZQ (fun B' hB hS'=>ref17_slot hS' f _ (kApiFunc.K_grow hB hf) n 0)) ?_;rintro ⟨⟩ -)
 refine Zp J (Zzc ?_)
 exact ⟨(),trivial,by unfold operK;rw [if_pos ZO];rfl,Lh⟩
 refine Zi (Zy J J ?_)
 have hl119:¬ letter=119:=h36
 refine Zp J (Zn (Za (wC (fun h36=>?_) (fun h36=>?_))))
 refine Zh (Zi (Zla ?_))
 refine Zo J ?_
 (refine ZC0 rfl ZK (fun w hS=>frame hS ZQ (fun B' hB hS'=>ref17_slot hS' f _ (kApiFunc.K_grow hB hf) n 0)) ?_;rintro ⟨⟩ -)
 refine Zp J (Zzc ?_)
 exact ⟨(),trivial,by unfold operK;rw [if_pos ZO];rfl,Lh⟩
 refine Zh (Zh (Zi (Zy J J (Zp J (Zn (Za (wC (fun h42=>?_) (fun h42=>?_))))))))
 refine Zj (Za (ZY h42 ?_))
 refine Zh (Zi (Zla ?_))
 refine Zo J (Zo J (oAddW J J ?_))
 (refine ZC0 rfl ZK (fun w hS=>frame hS ZQ (fun B' hB hS'=>ref17_slot hS' f _ (kApiFunc.K_grow hB hf) n (IntKind.i64.wrap (1+k)))) ?_;rintro ⟨⟩ -)
 refine Zp J (Zzc ?_)
 exact ⟨(),trivial,by unfold operK;rw [if_neg ZO,if_pos ZO];rfl,Lh⟩
 refine Zi (Zy J J ?_)
 have hl103:¬ letter=103:=h42
 refine Zp J (Zn (Za (wC (fun h42=>?_) (fun h42=>?_))))
 refine Zh (Zi (Zla ?_))
 refine Zo J (Zo J (oAddW J J ?_))
 (refine ZC0 rfl ZK (fun w hS=>frame hS ZQ (fun B' hB hS'=>ref17_slot hS' f _ (kApiFunc.K_grow hB hf) n (IntKind.i64.wrap (1+k)))) ?_;rintro ⟨⟩ -)
 refine Zp J (Zzc ?_)
 exact ⟨(),trivial,by unfold operK;rw [if_neg ZO,if_pos ZO];rfl,Lh⟩
 refine Zh (Zi (Zy J J (Zp J (Zn (Za (wC (fun h50=>?_) (fun h50=>?_)))))))
 refine Zh (Zi (Zla ?_))
 refine Zo J (Zo J ?_)
 (refine ZC0 rfl ZK (fun w hS=>frame hS ZQ (fun B' hB hS'=>ref17_called hS' f _ (kApiFunc.K_grow hB hf) n k)) ?_;rintro ⟨⟩ -)
 refine Zp J (Zzc ?_)
 exact ⟨(),trivial,by unfold operK;rw [if_neg ZO,if_neg ZO,if_pos h50];rfl,Lh⟩
 refine Zh (Zi (Zy J J (Zp J (Zn (Za (wC (fun h56=>?_) (fun h56=>?_)))))))
 refine Zh (wDrawG J [0,1,2] [(3,[0,1],[4]),(5,[],[])] [6] 24 ZK J J (fun w0=>?_))
 refine Zla ?_
 refine Zo J (Zo J (Z4 (Z5 J ?_)))
 (refine ZC0 rfl ZK (fun w hS=>frame hS ZQ (fun B' hB hS'=>ref5_Params hS' k)) ?_;rintro ⟨⟩ -)
 refine ZG ?_ J (fun w0=>?_)
 refine Z8 J J J J (fun w0=>?_) ?_
 refine Zla ?_
 exact Z9 rfl
 refine Z8 J J J J (fun w0=>?_) ?_
 refine Zo J ?_
 exact Z9 rfl
 exact AgainG.nil
 refine Z1 J J (Z4 (Z5 J ?_))
 (refine ZC0 rfl ZK (fun w hS=>frame hS ZQ (fun B' hB hS'=>ref17_perhaps hS' f _ (kApiFunc.K_grow hB hf) n (decide (0<parF k)))) ?_;rintro ⟨⟩ -)
 refine ZG ?_ J (fun w0=>?_)
 exact AgainG.nil
 refine Z6 (Zp J (Zzc ?_))
 have hpn:=parF_in k
 have hop:operK f k letter n=lateF f.fKinds k n:=by unfold operK;rw [if_neg (show ¬ (letter=119∨letter=114) by omega),if_neg (show ¬ (letter=103∨letter=102) by omega),if_neg h50,if_pos h56]
 exact ⟨(),trivial,by rw [hop,late_perhaps];rfl,Lh⟩
 refine Zh (Zi (Zy J J (Zp J (Zn (Za (wC (fun h64=>?_) (fun h64=>?_)))))))
 refine Zh (wDrawG J [0,1,2,3] [(4,[0,1],[]),(5,[],[])] [6] 24 ZK J J (fun w0=>?_))
 refine Zla ?_
 refine Zo J (Zz (n:=0) (m:=0) J J J (Zld ?_))
 refine Z4 (Z5 J ?_)
 (refine ZC0 rfl ZK (fun w hS=>frame hS ZQ (fun B' hB hS'=>ref5_Answers hS' f.fClass)) ?_;rintro ⟨⟩ -)
 refine ZG ?_ J (fun w0=>?_)
 refine Z8 J J J J (fun w0=>?_) ?_
 refine Zla ?_
 exact Z9 rfl
 refine Z8 J J J J (fun w0=>?_) ?_
 refine Zo J ?_
 exact Z9 rfl
 exact AgainG.nil
 refine Z4 (Z5 J ?_)
 (refine ZC0 rfl ZK (fun w hS=>frame hS ZQ (fun B' hB hS'=>ref17_perhaps hS' f _ (kApiFunc.K_grow hB hf) n (ansF f.fClass))) ?_;rintro ⟨⟩ -)
 refine ZG ?_ J (fun w0=>?_)
 exact AgainG.nil
 refine Z6 (Zp J (Zzc ?_))
 have hop:operK f k letter n=answF f.fKinds f.fClass n:=by unfold operK;rw [if_neg (show ¬ (letter=119∨letter=114) by omega),if_neg (show ¬ (letter=103∨letter=102) by omega),if_neg h50,if_neg h56,if_pos h64]
 exact ⟨(),trivial,by rw [hop];rfl,Lh⟩
 refine Zh (Zzm ?_)
 exact ⟨(),trivial,by unfold operK;rw [if_neg ZO,if_neg ZO,if_neg h50,if_neg h56,if_neg h64];rfl,Lh⟩
 refine Zj (Zzn ?_)
 refine ZS0 (t:=11) (v':=.int .i64 k) rfl (by rw [← hk];unfold clsR;rw [if_neg h31,if_pos ZO]) ?_
 refine Zn (Za (Zk (Zh (Zh (Zi (Zy J J (Zp J (Zn (Za (wC (fun h36=>?_) (fun h36=>?_)))))))))))
 refine Zj (Za (ZY h36 ?_))
 refine Zh (Zi (Zla ?_))
 refine Zo J ?_
 (refine ZC0 rfl ZK (fun w hS=>frame hS ZQ (fun B' hB hS'=>ref17_slot hS' f _ (kApiFunc.K_grow hB hf) n 0)) ?_;rintro ⟨⟩ -)
 refine Zp J (Zzc ?_)
 exact ⟨(),trivial,by unfold operK;rw [if_pos ZO];rfl,Lh⟩
 refine Zi (Zy J J ?_)
 have hl119:¬ letter=119:=h36
 refine Zp J (Zn (Za (wC (fun h36=>?_) (fun h36=>?_))))
 refine Zh (Zi (Zla ?_))
 refine Zo J ?_
 (refine ZC0 rfl ZK (fun w hS=>frame hS ZQ (fun B' hB hS'=>ref17_slot hS' f _ (kApiFunc.K_grow hB hf) n 0)) ?_;rintro ⟨⟩ -)
 refine Zp J (Zzc ?_)
 exact ⟨(),trivial,by unfold operK;rw [if_pos ZO];rfl,Lh⟩
 refine Zh (Zh (Zi (Zy J J (Zp J (Zn (Za (wC (fun h42=>?_) (fun h42=>?_))))))))
 refine Zj (Za (ZY h42 ?_))
 refine Zh (Zi (Zla ?_))
 refine Zo J (Zo J (oAddW J J ?_))
 (refine ZC0 rfl ZK (fun w hS=>frame hS ZQ (fun B' hB hS'=>ref17_slot hS' f _ (kApiFunc.K_grow hB hf) n (IntKind.i64.wrap (1+k)))) ?_;rintro ⟨⟩ -)
 refine Zp J (Zzc ?_)
 exact ⟨(),trivial,by unfold operK;rw [if_neg ZO,if_pos ZO];rfl,Lh⟩
 refine Zi (Zy J J ?_)
 have hl103:¬ letter=103:=h42
 refine Zp J (Zn (Za (wC (fun h42=>?_) (fun h42=>?_))))
 refine Zh (Zi (Zla ?_))
 refine Zo J (Zo J (oAddW J J ?_))
 (refine ZC0 rfl ZK (fun w hS=>frame hS ZQ (fun B' hB hS'=>ref17_slot hS' f _ (kApiFunc.K_grow hB hf) n (IntKind.i64.wrap (1+k)))) ?_;rintro ⟨⟩ -)
 refine Zp J (Zzc ?_)
 exact ⟨(),trivial,by unfold operK;rw [if_neg ZO,if_pos ZO];rfl,Lh⟩
 refine Zh (Zi (Zy J J (Zp J (Zn (Za (wC (fun h50=>?_) (fun h50=>?_)))))))
 refine Zh (Zi (Zla ?_))
 refine Zo J (Zo J ?_)
 (refine ZC0 rfl ZK (fun w hS=>frame hS ZQ (fun B' hB hS'=>ref17_called hS' f _ (kApiFunc.K_grow hB hf) n k)) ?_;rintro ⟨⟩ -)
 refine Zp J (Zzc ?_)
 exact ⟨(),trivial,by unfold operK;rw [if_neg ZO,if_neg ZO,if_pos h50];rfl,Lh⟩
 refine Zh (Zi (Zy J J (Zp J (Zn (Za (wC (fun h56=>?_) (fun h56=>?_)))))))
 refine Zh (wDrawG J [0,1,2] [(3,[0,1],[4]),(5,[],[])] [6] 24 ZK J J (fun w0=>?_))
 refine Zla ?_
 refine Zo J (Zo J (Z4 (Z5 J ?_)))
 (refine ZC0 rfl ZK (fun w hS=>frame hS ZQ (fun B' hB hS'=>ref5_Params hS' k)) ?_;rintro ⟨⟩ -)
 refine ZG ?_ J (fun w0=>?_)
 refine Z8 J J J J (fun w0=>?_) ?_
 refine Zla ?_
 exact Z9 rfl
 refine Z8 J J J J (fun w0=>?_) ?_
 refine Zo J ?_
 exact Z9 rfl
 exact AgainG.nil
 refine Z1 J J (Z4 (Z5 J ?_))
 (refine ZC0 rfl ZK (fun w hS=>frame hS ZQ (fun B' hB hS'=>ref17_perhaps hS' f _ (kApiFunc.K_grow hB hf) n (decide (0<parF k)))) ?_;rintro ⟨⟩ -)
 refine ZG ?_ J (fun w0=>?_)
 exact AgainG.nil
 refine Z6 (Zp J (Zzc ?_))
 have hpn:=parF_in k
 have hop:operK f k letter n=lateF f.fKinds k n:=by unfold operK;rw [if_neg (show ¬ (letter=119∨letter=114) by omega),if_neg (show ¬ (letter=103∨letter=102) by omega),if_neg h50,if_pos h56]
 exact ⟨(),trivial,by rw [hop,late_perhaps];rfl,Lh⟩
 refine Zh (Zi (Zy J J (Zp J (Zn (Za (wC (fun h64=>?_) (fun h64=>?_)))))))
 refine Zh (wDrawG J [0,1,2,3] [(4,[0,1],[]),(5,[],[])] [6] 24 ZK J J (fun w0=>?_))
 refine Zla ?_
 refine Zo J (Zz (n:=0) (m:=0) J J J (Zld ?_))
 refine Z4 (Z5 J ?_)
 (refine ZC0 rfl ZK (fun w hS=>frame hS ZQ (fun B' hB hS'=>ref5_Answers hS' f.fClass)) ?_;rintro ⟨⟩ -)
 refine ZG ?_ J (fun w0=>?_)
 refine Z8 J J J J (fun w0=>?_) ?_
 refine Zla ?_
 exact Z9 rfl
 refine Z8 J J J J (fun w0=>?_) ?_
 refine Zo J ?_
 exact Z9 rfl
 exact AgainG.nil
 refine Z4 (Z5 J ?_)
 (refine ZC0 rfl ZK (fun w hS=>frame hS ZQ (fun B' hB hS'=>ref17_perhaps hS' f _ (kApiFunc.K_grow hB hf) n (ansF f.fClass))) ?_;rintro ⟨⟩ -)
 refine ZG ?_ J (fun w0=>?_)
 exact AgainG.nil
 refine Z6 (Zp J (Zzc ?_))
 have hop:operK f k letter n=answF f.fKinds f.fClass n:=by unfold operK;rw [if_neg (show ¬ (letter=119∨letter=114) by omega),if_neg (show ¬ (letter=103∨letter=102) by omega),if_neg h50,if_neg h56,if_pos h64]
 exact ⟨(),trivial,by rw [hop];rfl,Lh⟩
 refine Zh (Zzm ?_)
 exact ⟨(),trivial,by unfold operK;rw [if_neg ZO,if_neg ZO,if_neg h50,if_neg h56,if_neg h64];rfl,Lh⟩
 refine Zj (Za (Zh (Zh (Zi (Zz (n:=0) (m:=0) J J J (Zld ?_))))))
 refine Zy J J (Zn (Za (wC (fun h31=>?_) (fun h31=>?_))))
 refine Zi (Zz (n:=3) (m:=3) J J J (Zld ?_))
 refine oSubW J J ?_
 rw [hz]
 refine Zp J (Zn (Zzn ?_))
 refine ZS0 (t:=11) (v':=.int .i64 k) rfl (by rw [← hk,← hz];unfold clsR;rw [if_pos h31]) ?_
 refine Zn (Za (Zk (Zh (Zh (Zi (Zy J J (Zp J (Zn (Za (wC (fun h36=>?_) (fun h36=>?_)))))))))))
 refine Zj (Za (ZY h36 ?_))
 refine Zh (Zi (Zla ?_))
 refine Zo J ?_
 (refine ZC0 rfl ZK (fun w hS=>frame hS ZQ (fun B' hB hS'=>ref17_slot hS' f _ (kApiFunc.K_grow hB hf) n 0)) ?_;rintro ⟨⟩ -)
 refine Zp J (Zzc ?_)
 exact ⟨(),trivial,by unfold operK;rw [if_pos ZO];rfl,Lh⟩
 refine Zi (Zy J J ?_)
 have hl119:¬ letter=119:=h36
 refine Zp J (Zn (Za (wC (fun h36=>?_) (fun h36=>?_))))
 refine Zh (Zi (Zla ?_))
 refine Zo J ?_
 (refine ZC0 rfl ZK (fun w hS=>frame hS ZQ (fun B' hB hS'=>ref17_slot hS' f _ (kApiFunc.K_grow hB hf) n 0)) ?_;rintro ⟨⟩ -)
 refine Zp J (Zzc ?_)
 exact ⟨(),trivial,by unfold operK;rw [if_pos ZO];rfl,Lh⟩
 refine Zh (Zh (Zi (Zy J J (Zp J (Zn (Za (wC (fun h42=>?_) (fun h42=>?_))))))))
 refine Zj (Za (ZY h42 ?_))
 refine Zh (Zi (Zla ?_))
 refine Zo J (Zo J (oAddW J J ?_))
 (refine ZC0 rfl ZK (fun w hS=>frame hS ZQ (fun B' hB hS'=>ref17_slot hS' f _ (kApiFunc.K_grow hB hf) n (IntKind.i64.wrap (1+k)))) ?_;rintro ⟨⟩ -)
 refine Zp J (Zzc ?_)
 exact ⟨(),trivial,by unfold operK;rw [if_neg ZO,if_pos ZO];rfl,Lh⟩
 refine Zi (Zy J J ?_)
 have hl103:¬ letter=103:=h42
 refine Zp J (Zn (Za (wC (fun h42=>?_) (fun h42=>?_))))
 refine Zh (Zi (Zla ?_))
 refine Zo J (Zo J (oAddW J J ?_))
 (refine ZC0 rfl ZK (fun w hS=>frame hS ZQ (fun B' hB hS'=>ref17_slot hS' f _ (kApiFunc.K_grow hB hf) n (IntKind.i64.wrap (1+k)))) ?_;rintro ⟨⟩ -)
 refine Zp J (Zzc ?_)
 exact ⟨(),trivial,by unfold operK;rw [if_neg ZO,if_pos ZO];rfl,Lh⟩
 refine Zh (Zi (Zy J J (Zp J (Zn (Za (wC (fun h50=>?_) (fun h50=>?_)))))))
 refine Zh (Zi (Zla ?_))
 refine Zo J (Zo J ?_)
 (refine ZC0 rfl ZK (fun w hS=>frame hS ZQ (fun B' hB hS'=>ref17_called hS' f _ (kApiFunc.K_grow hB hf) n k)) ?_;rintro ⟨⟩ -)
 refine Zp J (Zzc ?_)
 exact ⟨(),trivial,by unfold operK;rw [if_neg ZO,if_neg ZO,if_pos h50];rfl,Lh⟩
 refine Zh (Zi (Zy J J (Zp J (Zn (Za (wC (fun h56=>?_) (fun h56=>?_)))))))
 refine Zh (wDrawG J [0,1,2] [(3,[0,1],[4]),(5,[],[])] [6] 24 ZK J J (fun w0=>?_))
 refine Zla ?_
 refine Zo J (Zo J (Z4 (Z5 J ?_)))
 (refine ZC0 rfl ZK (fun w hS=>frame hS ZQ (fun B' hB hS'=>ref5_Params hS' k)) ?_;rintro ⟨⟩ -)
 refine ZG ?_ J (fun w0=>?_)
 refine Z8 J J J J (fun w0=>?_) ?_
 refine Zla ?_
 exact Z9 rfl
 refine Z8 J J J J (fun w0=>?_) ?_
 refine Zo J ?_
 exact Z9 rfl
 exact AgainG.nil
 refine Z1 J J (Z4 (Z5 J ?_))
 (refine ZC0 rfl ZK (fun w hS=>frame hS ZQ (fun B' hB hS'=>ref17_perhaps hS' f _ (kApiFunc.K_grow hB hf) n (decide (0<parF k)))) ?_;rintro ⟨⟩ -)
 refine ZG ?_ J (fun w0=>?_)
 exact AgainG.nil
 refine Z6 (Zp J (Zzc ?_))
 have hpn:=parF_in k
 have hop:operK f k letter n=lateF f.fKinds k n:=by unfold operK;rw [if_neg (show ¬ (letter=119∨letter=114) by omega),if_neg (show ¬ (letter=103∨letter=102) by omega),if_neg h50,if_pos h56]
 exact ⟨(),trivial,by rw [hop,late_perhaps];rfl,Lh⟩
 refine Zh (Zi (Zy J J (Zp J (Zn (Za (wC (fun h64=>?_) (fun h64=>?_)))))))
 refine Zh (wDrawG J [0,1,2,3] [(4,[0,1],[]),(5,[],[])] [6] 24 ZK J J (fun w0=>?_))
 refine Zla ?_
 refine Zo J (Zz (n:=0) (m:=0) J J J (Zld ?_))
 refine Z4 (Z5 J ?_)
 (refine ZC0 rfl ZK (fun w hS=>frame hS ZQ (fun B' hB hS'=>ref5_Answers hS' f.fClass)) ?_;rintro ⟨⟩ -)
 refine ZG ?_ J (fun w0=>?_)
 refine Z8 J J J J (fun w0=>?_) ?_
 refine Zla ?_
 exact Z9 rfl
 refine Z8 J J J J (fun w0=>?_) ?_
 refine Zo J ?_
 exact Z9 rfl
 exact AgainG.nil
 refine Z4 (Z5 J ?_)
 (refine ZC0 rfl ZK (fun w hS=>frame hS ZQ (fun B' hB hS'=>ref17_perhaps hS' f _ (kApiFunc.K_grow hB hf) n (ansF f.fClass))) ?_;rintro ⟨⟩ -)
 refine ZG ?_ J (fun w0=>?_)
 exact AgainG.nil
 refine Z6 (Zp J (Zzc ?_))
 have hop:operK f k letter n=answF f.fKinds f.fClass n:=by unfold operK;rw [if_neg (show ¬ (letter=119∨letter=114) by omega),if_neg (show ¬ (letter=103∨letter=102) by omega),if_neg h50,if_neg h56,if_pos h64]
 exact ⟨(),trivial,by rw [hop];rfl,Lh⟩
 refine Zh (Zzm ?_)
 exact ⟨(),trivial,by unfold operK;rw [if_neg ZO,if_neg ZO,if_neg h50,if_neg h56,if_neg h64];rfl,Lh⟩
 refine Zj (Zzn ?_)
 refine ZS0 (t:=11) (v':=.int .i64 k) rfl (by rw [← hk];unfold clsR;rw [if_neg h31,if_neg ZO]) ?_
 refine Zn (Za (Zk (Zh (Zh (Zi (Zy J J (Zp J (Zn (Za (wC (fun h36=>?_) (fun h36=>?_)))))))))))
 refine Zj (Za (ZY h36 ?_))
 refine Zh (Zi (Zla ?_))
 refine Zo J ?_
 (refine ZC0 rfl ZK (fun w hS=>frame hS ZQ (fun B' hB hS'=>ref17_slot hS' f _ (kApiFunc.K_grow hB hf) n 0)) ?_;rintro ⟨⟩ -)
 refine Zp J (Zzc ?_)
 exact ⟨(),trivial,by unfold operK;rw [if_pos ZO];rfl,Lh⟩
 refine Zi (Zy J J ?_)
 have hl119:¬ letter=119:=h36
 refine Zp J (Zn (Za (wC (fun h36=>?_) (fun h36=>?_))))
 refine Zh (Zi (Zla ?_))
 refine Zo J ?_
 (refine ZC0 rfl ZK (fun w hS=>frame hS ZQ (fun B' hB hS'=>ref17_slot hS' f _ (kApiFunc.K_grow hB hf) n 0)) ?_;rintro ⟨⟩ -)
 refine Zp J (Zzc ?_)
 exact ⟨(),trivial,by unfold operK;rw [if_pos ZO];rfl,Lh⟩
 refine Zh (Zh (Zi (Zy J J (Zp J (Zn (Za (wC (fun h42=>?_) (fun h42=>?_))))))))
 refine Zj (Za (ZY h42 ?_))
 refine Zh (Zi (Zla ?_))
 refine Zo J (Zo J (oAddW J J ?_))
 (refine ZC0 rfl ZK (fun w hS=>frame hS ZQ (fun B' hB hS'=>ref17_slot hS' f _ (kApiFunc.K_grow hB hf) n (IntKind.i64.wrap (1+k)))) ?_;rintro ⟨⟩ -)
 refine Zp J (Zzc ?_)
 exact ⟨(),trivial,by unfold operK;rw [if_neg ZO,if_pos ZO];rfl,Lh⟩
 refine Zi (Zy J J ?_)
 have hl103:¬ letter=103:=h42
 refine Zp J (Zn (Za (wC (fun h42=>?_) (fun h42=>?_))))
 refine Zh (Zi (Zla ?_))
 refine Zo J (Zo J (oAddW J J ?_))
 (refine ZC0 rfl ZK (fun w hS=>frame hS ZQ (fun B' hB hS'=>ref17_slot hS' f _ (kApiFunc.K_grow hB hf) n (IntKind.i64.wrap (1+k)))) ?_;rintro ⟨⟩ -)
 refine Zp J (Zzc ?_)
 exact ⟨(),trivial,by unfold operK;rw [if_neg ZO,if_pos ZO];rfl,Lh⟩
 refine Zh (Zi (Zy J J (Zp J (Zn (Za (wC (fun h50=>?_) (fun h50=>?_)))))))
 refine Zh (Zi (Zla ?_))
 refine Zo J (Zo J ?_)
 (refine ZC0 rfl ZK (fun w hS=>frame hS ZQ (fun B' hB hS'=>ref17_called hS' f _ (kApiFunc.K_grow hB hf) n k)) ?_;rintro ⟨⟩ -)
 refine Zp J (Zzc ?_)
 exact ⟨(),trivial,by unfold operK;rw [if_neg ZO,if_neg ZO,if_pos h50];rfl,Lh⟩
 refine Zh (Zi (Zy J J (Zp J (Zn (Za (wC (fun h56=>?_) (fun h56=>?_)))))))
 refine Zh (wDrawG J [0,1,2] [(3,[0,1],[4]),(5,[],[])] [6] 24 ZK J J (fun w0=>?_))
 refine Zla ?_
 refine Zo J (Zo J (Z4 (Z5 J ?_)))
 (refine ZC0 rfl ZK (fun w hS=>frame hS ZQ (fun B' hB hS'=>ref5_Params hS' k)) ?_;rintro ⟨⟩ -)
 refine ZG ?_ J (fun w0=>?_)
 refine Z8 J J J J (fun w0=>?_) ?_
 refine Zla ?_
 exact Z9 rfl
 refine Z8 J J J J (fun w0=>?_) ?_
 refine Zo J ?_
 exact Z9 rfl
 exact AgainG.nil
 refine Z1 J J (Z4 (Z5 J ?_))
 (refine ZC0 rfl ZK (fun w hS=>frame hS ZQ (fun B' hB hS'=>ref17_perhaps hS' f _ (kApiFunc.K_grow hB hf) n (decide (0<parF k)))) ?_;rintro ⟨⟩ -)
 refine ZG ?_ J (fun w0=>?_)
 exact AgainG.nil
 refine Z6 (Zp J (Zzc ?_))
 have hpn:=parF_in k
 have hop:operK f k letter n=lateF f.fKinds k n:=by unfold operK;rw [if_neg (show ¬ (letter=119∨letter=114) by omega),if_neg (show ¬ (letter=103∨letter=102) by omega),if_neg h50,if_pos h56]
 exact ⟨(),trivial,by rw [hop,late_perhaps];rfl,Lh⟩
 refine Zh (Zi (Zy J J (Zp J (Zn (Za (wC (fun h64=>?_) (fun h64=>?_)))))))
 refine Zh (wDrawG J [0,1,2,3] [(4,[0,1],[]),(5,[],[])] [6] 24 ZK J J (fun w0=>?_))
 refine Zla ?_
 refine Zo J (Zz (n:=0) (m:=0) J J J (Zld ?_))
 refine Z4 (Z5 J ?_)
 (refine ZC0 rfl ZK (fun w hS=>frame hS ZQ (fun B' hB hS'=>ref5_Answers hS' f.fClass)) ?_;rintro ⟨⟩ -)
 refine ZG ?_ J (fun w0=>?_)
 refine Z8 J J J J (fun w0=>?_) ?_
 refine Zla ?_
 exact Z9 rfl
 refine Z8 J J J J (fun w0=>?_) ?_
 refine Zo J ?_
 exact Z9 rfl
 exact AgainG.nil
 refine Z4 (Z5 J ?_)
 (refine ZC0 rfl ZK (fun w hS=>frame hS ZQ (fun B' hB hS'=>ref17_perhaps hS' f _ (kApiFunc.K_grow hB hf) n (ansF f.fClass))) ?_;rintro ⟨⟩ -)
 refine ZG ?_ J (fun w0=>?_)
 exact AgainG.nil
 refine Z6 (Zp J (Zzc ?_))
 have hop:operK f k letter n=answF f.fKinds f.fClass n:=by unfold operK;rw [if_neg (show ¬ (letter=119∨letter=114) by omega),if_neg (show ¬ (letter=103∨letter=102) by omega),if_neg h50,if_neg h56,if_pos h64]
 exact ⟨(),trivial,by rw [hop];rfl,Lh⟩
 refine Zh (Zzm ?_)
 exact ⟨(),trivial,by unfold operK;rw [if_neg ZO,if_neg ZO,if_neg h50,if_neg h56,if_neg h64];rfl,Lh⟩
theorem ref17_Instr {B:Base}{w:World}(hS:St B [] w) (f:ApiFunc) (fc:List Value) (hf:kApiFunc.K B.e f fc) (Al:Option Addr) (cl:Nat) (l:List ApiSymbol) (hl:kApiSymbol.C B.e Al l) (i:Int) :
 CW 216 #[.agg fc.toArray,.slice Al l.length cl,.int .i64 i] w (Ret B (fun _:Unit=>True) (fun _=>.int .i64 (instrF f l i)) (fun _=>[])):=by
 obtain ⟨A0,c0,A1,c1,A2,c2,A3,c3,rfl,l0,g0,l1,g1,l2,g2,l3,g3⟩:=kApiFunc_open hf
 refine ZX Tryz.func216 hS ?_
 refine Zh (Zi (oBox J ZP (fun b3=>?_)))
 refine Zp J (Zn (Za (Zh (Zh (Zi (Zo J (Zx J J (Zo J (ZS (ZT 15) (fun h15=>?_) (fun h15=>?_))))))))))
 refine Zr J J J J (Zr J J J J (Zr J J J J (Zr J J J J (Zr J J J J (Zt J J (Zn (Za (wCondT J (Zh (Zi (Zze ?_)))))))))))
 exact ⟨(),trivial,by unfold instrF;rw [if_pos (.inl h15)];rfl,Lh⟩
 refine Zq J J (Zo J (Zq J J (Zz (n:=7) (m:=7) J J J (Zzg ?_))))
 refine Zq J J (Zv J J (Zq J J (Z2 J J (Zu J J (Zn (Za (wC (fun h21=>?_) (fun h21=>?_))))))))
 refine Zh (Zi (Zze ?_))
 exact ⟨(),trivial,by unfold instrF;rw [if_pos (.inr h21)];rfl,Lh⟩
 have hir:¬ (i<0∨(f.fCode.length:Int)≤i):=by omega
 obtain ⟨n,rfl⟩:=Int.eq_ofNat_of_zero_le (show 0≤i by omega)
 have hnl:n<f.fCode.length:=by omega
 obtain ⟨x,hx⟩:∃ x,f.fCode[n]?=some x:=⟨_,List.getElem?_eq_getElem hnl⟩
 have hca:codeAt f (n:Int)=x:=by unfold codeAt;rw [Int.toNat_natCast,List.getD_eq_getElem?_getD,hx];rfl
 obtain ⟨e0,cs0,hE0⟩:=g2.elm hx
 obtain rfl:=kApiInstr_open hE0.K
 have hsz:=shapeF_size x.fOp
 have hs4:(shapeF x.fOp).size≤4:=by rw [hsz];split <;> omega
 refine Zj (Za (Zh (Zi (Zz (n:=7) (m:=7) J J J (Zld ?_)))))
 refine Zo J (oIdxE J J (hE0) ZO J J ?_)
 have hc25:=(hE0).cell
 refine Zlx hc25 ?_
 refine oAlloc J ZP (fun b7=>?_)
 refine Zsa ?_
 refine Zn (Zzk ?_)
 refine Zo J (Zo J ?_)
 (refine ZC0 rfl ZK (fun w hS=>frame hS ZQ (fun B' hB hS'=>ref17_refers hS' f _ (kApiFunc.K_grow hB hf) Al cl l (Kd.C_grow hB hl) n hnl)) ?_;rintro ⟨⟩ -)
 refine Zo J (oExt J ZP ?_)
 refine oExt J ZP ?_
 refine oAlloc J ZP (fun b8=>?_)
 refine Zsa ?_
 refine Zp J (Zn (Za (Zh (Zh (Zi (Zo J (Z0 J J (Zn (Za (wC (fun h35=>?_) (fun h35=>?_)))))))))))
 refine Zh (Zi (Zo J (Zze ?_)))
 exact ⟨(),trivial,by unfold instrF;rw [if_neg hir,if_pos h35];rfl,Lh⟩
 have hiR:=instrF_R hir (Classical.not_not.1 h35)
 rw [hca] at hiR
 generalize hs:refS f l (n:Int)=s at *
 refine Zj (Za (Zh (Zh (Zi (Zz (n:=0) (m:=0) J J J (Zld ?_))))))
 refine Zy J J (Zo J (ZS (ZT 40) (fun h40=>?_) (fun h40=>?_)))
 refine Zq J J (Zz (n:=3) (m:=3) J J J (Zzg ?_))
 refine Zq J J ?_
 (refine ZC0 rfl ZK (fun w hS=>frame hS ZQ (fun B' hB hS'=>ref5_Is hS' x.fC)) ?_;rintro ⟨⟩ -)
 refine Zq J J (Zno ?_)
 refine Zt J J (Zo J (ZS (ZT 46) (fun h46=>?_) (fun h46=>?_)))
 refine Zr J J J J (Zr J J J J (Zr J J J J (Zr J J J J (Zs J J J (Zs J J J (Zs J J J (Zs J J J (Zr J J J J (Zt J J (Zn (Za (wCondT J (Zh (Zi (Zze ?_)))))))))))))))
 exact ⟨(),trivial,by rw [hiR,if_pos (by simp_all)];rfl,Lh⟩
 refine Zq J J (Zz (n:=0) (m:=0) J J J (Zzg ?_))
 refine Zq J J (Zy J J (Zq J J (Zo J (ZS (ZT 50) (fun h50=>?_) (fun h50=>?_)))))
 refine Zq J J (Zz (n:=3) (m:=3) J J J (Zzg ?_))
 refine Zq J J ?_
 (refine ZC0 rfl ZK (fun w hS=>frame hS ZQ (fun B' hB hS'=>ref5_Later hS' s.fKind)) ?_;rintro ⟨⟩ -)
 refine Zq J J (Zno ?_)
 refine Zq J J (Zt J J (Zu J J (Zn (Za (wC (fun h56=>?_) (fun h56=>?_))))))
 refine Zh (Zi (Zze ?_))
 exact ⟨(),trivial,by rw [hiR,if_pos (by simp_all)];rfl,Lh⟩
 refine Zj (Za (Zh (Zi (Zz (n:=0) (m:=0) J J J (Zld ?_)))))
 (refine ZC0 rfl ZK (fun w hS=>frame hS ZQ (fun B' hB hS'=>ref7_Shape hS' x.fOp)) ?_;rintro ⟨⟩ -)
 rw [if_neg (by simp_all)] at hiR
 refine Zp J (Zn (Za (Zh (Zh (Zi (Zp J (Zn (Za (Zk (wLoop (ι:=Nat) (fun j=>[(3,.pointer (some ⟨b3,0,none⟩)),(7,.pointer (some ⟨b7,0,none⟩)),(8,.pointer (some ⟨b8,0,none⟩)),(10,.string (shapeF x.fOp)),(11,.int .i64 (j:Int))]) (fun j=>[blk b3 47 [.int .i64 f.fClass,.slice A0 f.fKinds.length c0,.int .i64 f.fPad,.bool f.fNosplit,.int .i64 f.fFrom,.int .i64 f.fTo,.slice A1 f.fLines.length c1,.slice A2 f.fCode.length c2,.slice A3 f.fRelocs.length c3],blk b7 51 [.int .i64 x.fOp,.int .i64 x.fA,.int .i64 x.fB,.int .i64 x.fC,.int .i64 x.fN],blk b8 91 (symL s)]) (fun j=>j≤(shapeF x.fOp).size∧fstE (((List.range (shapeF x.fOp).size).map (operR f x s)).take j)=0) (fun j=>(shapeF x.fOp).size-j) 0 ?_ cv Lh ?_))))))))))
 exact ⟨Nat.zero_le _,rfl⟩
 rintro j ⟨hj,hfs⟩
 try dsimp only
 refine Zh (Zh (Zi (Zo J (Zo J (oLenStr J J (Zx J J (Zn (Za (wC (fun h63=>?_) (fun h63=>?_))))))))))
 have hj4:j<(shapeF x.fOp).size:=by omega
 refine Zj (Za (Zh (Zk (Zh (wDrawG J [0,1,2,3,4,5,6,7] [(8,[0,1,2,3,4,5],[]),(9,[],[])] [10] 24 ZK J J (fun w0=>?_))))))
 refine Zla ?_
 refine Zla ?_
 refine Zla ?_
 refine Zo J (Zo J (oIndexStr J J J hj4 (Zla ?_)))
 refine Zo J (Z4 (Z5 J ?_))
 (refine ZC0 rfl ZK (fun w hS=>frame hS ZQ (fun B' hB hS'=>ref8_Operand hS' x _ (kApiInstr_mk _ x) (j:Int))) ?_;rintro ⟨⟩ -)
 refine ZG ?_ J (fun w0=>?_)
 refine Z8 J J J J (fun w0=>?_) ?_
 refine Zla ?_
 exact Z9 rfl
 refine Z8 J J J J (fun w0=>?_) ?_
 refine Zla ?_
 exact Z9 rfl
 refine Z8 J J J J (fun w0=>?_) ?_
 refine Zla ?_
 exact Z9 rfl
 refine Z8 J J J J (fun w0=>?_) ?_
 refine Zo J ?_
 exact Z9 rfl
 refine Z8 J J J J (fun w0=>?_) ?_
 refine Zo J ?_
 exact Z9 rfl
 refine Z8 J J J J (fun w0=>?_) ?_
 refine oIndexStr J J J hj4 ?_
 exact Z9 rfl
 exact AgainG.nil
 refine Z4 (Z5 J ?_)
 (refine ZC0 rfl ZK (fun w hS=>frame hS ZQ (fun B' hB hS'=>ref17_operand hS' f _ (kApiFunc.K_grow hB hf) x _ (kApiInstr_mk _ x) s (byteAt (shapeF x.fOp) j) (opdF x j))) ?_;rintro ⟨⟩ -)
 refine ZG ?_ J (fun w0=>?_)
 exact AgainG.nil
 refine Z6 (Zp J (Zn (Za (Zh (Zi (Zo J (Z0 J J (Zn (Za (wC (fun h77=>?_) (fun h77=>?_)))))))))))
 refine Zh (Zi (Zo J (Zzb ?_)))
 exact ⟨(),trivial,by rw [hiR,fstE_stop hfs (rmap_at hj4) h77];rfl,Lh⟩
 refine Zj (Zzd ?_)
 refine Zp J (Zn (Za ?_))
 exact ⟨rfl,j+1,⟨by omega,fstE_next hfs (rmap_at hj4) (Classical.not_not.1 h77)⟩,by omega,cv,Lh⟩
 refine Zm (Zzj ?_)
 obtain rfl:j=(shapeF x.fOp).size:=by omega
 rw [rmap_all] at hfs
 exact ⟨(),trivial,by rw [hiR,hfs];rfl,Lh⟩
 refine Zr J J J J (Zr J J J J (Zr J J J J (Zr J J J J (Zq J J (Zu J J (Zu J J (Zn (Za (wCondF J (Zj (Za (Zh (Zi (Zz (n:=0) (m:=0) J J J (Zld ?_)))))))))))))))
 (refine ZC0 rfl ZK (fun w hS=>frame hS ZQ (fun B' hB hS'=>ref7_Shape hS' x.fOp)) ?_;rintro ⟨⟩ -)
 rw [if_neg (by simp_all)] at hiR
 refine Zp J (Zn (Za (Zh (Zh (Zi (Zp J (Zn (Za (Zk (wLoop (ι:=Nat) (fun j=>[(3,.pointer (some ⟨b3,0,none⟩)),(7,.pointer (some ⟨b7,0,none⟩)),(8,.pointer (some ⟨b8,0,none⟩)),(10,.string (shapeF x.fOp)),(11,.int .i64 (j:Int))]) (fun j=>[blk b3 47 [.int .i64 f.fClass,.slice A0 f.fKinds.length c0,.int .i64 f.fPad,.bool f.fNosplit,.int .i64 f.fFrom,.int .i64 f.fTo,.slice A1 f.fLines.length c1,.slice A2 f.fCode.length c2,.slice A3 f.fRelocs.length c3],blk b7 51 [.int .i64 x.fOp,.int .i64 x.fA,.int .i64 x.fB,.int .i64 x.fC,.int .i64 x.fN],blk b8 91 (symL s)]) (fun j=>j≤(shapeF x.fOp).size∧fstE (((List.range (shapeF x.fOp).size).map (operR f x s)).take j)=0) (fun j=>(shapeF x.fOp).size-j) 0 ?_ cv Lh ?_))))))))))
 exact ⟨Nat.zero_le _,rfl⟩
 rintro j ⟨hj,hfs⟩
 try dsimp only
 refine Zh (Zh (Zi (Zo J (Zo J (oLenStr J J (Zx J J (Zn (Za (wC (fun h63=>?_) (fun h63=>?_))))))))))
 have hj4:j<(shapeF x.fOp).size:=by omega
 refine Zj (Za (Zh (Zk (Zh (wDrawG J [0,1,2,3,4,5,6,7] [(8,[0,1,2,3,4,5],[]),(9,[],[])] [10] 24 ZK J J (fun w0=>?_))))))
 refine Zla ?_
 refine Zla ?_
 refine Zla ?_
 refine Zo J (Zo J (oIndexStr J J J hj4 (Zla ?_)))
 refine Zo J (Z4 (Z5 J ?_))
 (refine ZC0 rfl ZK (fun w hS=>frame hS ZQ (fun B' hB hS'=>ref8_Operand hS' x _ (kApiInstr_mk _ x) (j:Int))) ?_;rintro ⟨⟩ -)
 refine ZG ?_ J (fun w0=>?_)
 refine Z8 J J J J (fun w0=>?_) ?_
 refine Zla ?_
 exact Z9 rfl
 refine Z8 J J J J (fun w0=>?_) ?_
 refine Zla ?_
 exact Z9 rfl
 refine Z8 J J J J (fun w0=>?_) ?_
 refine Zla ?_
 exact Z9 rfl
 refine Z8 J J J J (fun w0=>?_) ?_
 refine Zo J ?_
 exact Z9 rfl
 refine Z8 J J J J (fun w0=>?_) ?_
 refine Zo J ?_
 exact Z9 rfl
 refine Z8 J J J J (fun w0=>?_) ?_
 refine oIndexStr J J J hj4 ?_
 exact Z9 rfl
 exact AgainG.nil
 refine Z4 (Z5 J ?_)
 (refine ZC0 rfl ZK (fun w hS=>frame hS ZQ (fun B' hB hS'=>ref17_operand hS' f _ (kApiFunc.K_grow hB hf) x _ (kApiInstr_mk _ x) s (byteAt (shapeF x.fOp) j) (opdF x j))) ?_;rintro ⟨⟩ -)
 refine ZG ?_ J (fun w0=>?_)
 exact AgainG.nil
 refine Z6 (Zp J (Zn (Za (Zh (Zi (Zo J (Z0 J J (Zn (Za (wC (fun h77=>?_) (fun h77=>?_)))))))))))
 refine Zh (Zi (Zo J (Zzb ?_)))
 exact ⟨(),trivial,by rw [hiR,fstE_stop hfs (rmap_at hj4) h77];rfl,Lh⟩
 refine Zj (Zzd ?_)
 refine Zp J (Zn (Za ?_))
 exact ⟨rfl,j+1,⟨by omega,fstE_next hfs (rmap_at hj4) (Classical.not_not.1 h77)⟩,by omega,cv,Lh⟩
 refine Zm (Zzj ?_)
 obtain rfl:j=(shapeF x.fOp).size:=by omega
 rw [rmap_all] at hfs
 exact ⟨(),trivial,by rw [hiR,hfs];rfl,Lh⟩
 refine Zr J J J J (Zr J J J J (Zr J J J J (Zr J J J J (Zu J J (Zo J (Zq J J (Zz (n:=0) (m:=0) J J J (Zzg ?_))))))))
 refine Zq J J (Zy J J (Zq J J (Zo J (ZS (ZT 50) (fun h50=>?_) (fun h50=>?_)))))
 refine Zq J J (Zz (n:=3) (m:=3) J J J (Zzg ?_))
 refine Zq J J ?_
 (refine ZC0 rfl ZK (fun w hS=>frame hS ZQ (fun B' hB hS'=>ref5_Later hS' s.fKind)) ?_;rintro ⟨⟩ -)
 refine Zq J J (Zno ?_)
 refine Zq J J (Zt J J (Zu J J (Zn (Za (wC (fun h56=>?_) (fun h56=>?_))))))
 refine Zh (Zi (Zze ?_))
 exact ⟨(),trivial,by rw [hiR,if_pos (by simp_all)];rfl,Lh⟩
 refine Zj (Za (Zh (Zi (Zz (n:=0) (m:=0) J J J (Zld ?_)))))
 (refine ZC0 rfl ZK (fun w hS=>frame hS ZQ (fun B' hB hS'=>ref7_Shape hS' x.fOp)) ?_;rintro ⟨⟩ -)
 rw [if_neg (by simp_all)] at hiR
 refine Zp J (Zn (Za (Zh (Zh (Zi (Zp J (Zn (Za (Zk (wLoop (ι:=Nat) (fun j=>[(3,.pointer (some ⟨b3,0,none⟩)),(7,.pointer (some ⟨b7,0,none⟩)),(8,.pointer (some ⟨b8,0,none⟩)),(10,.string (shapeF x.fOp)),(11,.int .i64 (j:Int))]) (fun j=>[blk b3 47 [.int .i64 f.fClass,.slice A0 f.fKinds.length c0,.int .i64 f.fPad,.bool f.fNosplit,.int .i64 f.fFrom,.int .i64 f.fTo,.slice A1 f.fLines.length c1,.slice A2 f.fCode.length c2,.slice A3 f.fRelocs.length c3],blk b7 51 [.int .i64 x.fOp,.int .i64 x.fA,.int .i64 x.fB,.int .i64 x.fC,.int .i64 x.fN],blk b8 91 (symL s)]) (fun j=>j≤(shapeF x.fOp).size∧fstE (((List.range (shapeF x.fOp).size).map (operR f x s)).take j)=0) (fun j=>(shapeF x.fOp).size-j) 0 ?_ cv Lh ?_))))))))))
 exact ⟨Nat.zero_le _,rfl⟩
 rintro j ⟨hj,hfs⟩
 try dsimp only
 refine Zh (Zh (Zi (Zo J (Zo J (oLenStr J J (Zx J J (Zn (Za (wC (fun h63=>?_) (fun h63=>?_))))))))))
 have hj4:j<(shapeF x.fOp).size:=by omega
 refine Zj (Za (Zh (Zk (Zh (wDrawG J [0,1,2,3,4,5,6,7] [(8,[0,1,2,3,4,5],[]),(9,[],[])] [10] 24 ZK J J (fun w0=>?_))))))
 refine Zla ?_
 refine Zla ?_
 refine Zla ?_
 refine Zo J (Zo J (oIndexStr J J J hj4 (Zla ?_)))
 refine Zo J (Z4 (Z5 J ?_))
 (refine ZC0 rfl ZK (fun w hS=>frame hS ZQ (fun B' hB hS'=>ref8_Operand hS' x _ (kApiInstr_mk _ x) (j:Int))) ?_;rintro ⟨⟩ -)
 refine ZG ?_ J (fun w0=>?_)
 refine Z8 J J J J (fun w0=>?_) ?_
 refine Zla ?_
 exact Z9 rfl
 refine Z8 J J J J (fun w0=>?_) ?_
 refine Zla ?_
 exact Z9 rfl
 refine Z8 J J J J (fun w0=>?_) ?_
 refine Zla ?_
 exact Z9 rfl
 refine Z8 J J J J (fun w0=>?_) ?_
 refine Zo J ?_
 exact Z9 rfl
 refine Z8 J J J J (fun w0=>?_) ?_
 refine Zo J ?_
 exact Z9 rfl
 refine Z8 J J J J (fun w0=>?_) ?_
 refine oIndexStr J J J hj4 ?_
 exact Z9 rfl
 exact AgainG.nil
 refine Z4 (Z5 J ?_)
 (refine ZC0 rfl ZK (fun w hS=>frame hS ZQ (fun B' hB hS'=>ref17_operand hS' f _ (kApiFunc.K_grow hB hf) x _ (kApiInstr_mk _ x) s (byteAt (shapeF x.fOp) j) (opdF x j))) ?_;rintro ⟨⟩ -)
 refine ZG ?_ J (fun w0=>?_)
 exact AgainG.nil
 refine Z6 (Zp J (Zn (Za (Zh (Zi (Zo J (Z0 J J (Zn (Za (wC (fun h77=>?_) (fun h77=>?_)))))))))))
 refine Zh (Zi (Zo J (Zzb ?_)))
 exact ⟨(),trivial,by rw [hiR,fstE_stop hfs (rmap_at hj4) h77];rfl,Lh⟩
 refine Zj (Zzd ?_)
 refine Zp J (Zn (Za ?_))
 exact ⟨rfl,j+1,⟨by omega,fstE_next hfs (rmap_at hj4) (Classical.not_not.1 h77)⟩,by omega,cv,Lh⟩
 refine Zm (Zzj ?_)
 obtain rfl:j=(shapeF x.fOp).size:=by omega
 rw [rmap_all] at hfs
 exact ⟨(),trivial,by rw [hiR,hfs];rfl,Lh⟩
 refine Zr J J J J (Zr J J J J (Zr J J J J (Zr J J J J (Zq J J (Zu J J (Zu J J (Zn (Za (wCondF J (Zj (Za (Zh (Zi (Zz (n:=0) (m:=0) J J J (Zld ?_)))))))))))))))
 (refine ZC0 rfl ZK (fun w hS=>frame hS ZQ (fun B' hB hS'=>ref7_Shape hS' x.fOp)) ?_;rintro ⟨⟩ -)
 rw [if_neg (by simp_all)] at hiR
 refine Zp J (Zn (Za (Zh (Zh (Zi (Zp J (Zn (Za (Zk (wLoop (ι:=Nat) (fun j=>[(3,.pointer (some ⟨b3,0,none⟩)),(7,.pointer (some ⟨b7,0,none⟩)),(8,.pointer (some ⟨b8,0,none⟩)),(10,.string (shapeF x.fOp)),(11,.int .i64 (j:Int))]) (fun j=>[blk b3 47 [.int .i64 f.fClass,.slice A0 f.fKinds.length c0,.int .i64 f.fPad,.bool f.fNosplit,.int .i64 f.fFrom,.int .i64 f.fTo,.slice A1 f.fLines.length c1,.slice A2 f.fCode.length c2,.slice A3 f.fRelocs.length c3],blk b7 51 [.int .i64 x.fOp,.int .i64 x.fA,.int .i64 x.fB,.int .i64 x.fC,.int .i64 x.fN],blk b8 91 (symL s)]) (fun j=>j≤(shapeF x.fOp).size∧fstE (((List.range (shapeF x.fOp).size).map (operR f x s)).take j)=0) (fun j=>(shapeF x.fOp).size-j) 0 ?_ cv Lh ?_))))))))))
 exact ⟨Nat.zero_le _,rfl⟩
 rintro j ⟨hj,hfs⟩
 try dsimp only
 refine Zh (Zh (Zi (Zo J (Zo J (oLenStr J J (Zx J J (Zn (Za (wC (fun h63=>?_) (fun h63=>?_))))))))))
 have hj4:j<(shapeF x.fOp).size:=by omega
 refine Zj (Za (Zh (Zk (Zh (wDrawG J [0,1,2,3,4,5,6,7] [(8,[0,1,2,3,4,5],[]),(9,[],[])] [10] 24 ZK J J (fun w0=>?_))))))
 refine Zla ?_
 refine Zla ?_
 refine Zla ?_
 refine Zo J (Zo J (oIndexStr J J J hj4 (Zla ?_)))
 refine Zo J (Z4 (Z5 J ?_))
 (refine ZC0 rfl ZK (fun w hS=>frame hS ZQ (fun B' hB hS'=>ref8_Operand hS' x _ (kApiInstr_mk _ x) (j:Int))) ?_;rintro ⟨⟩ -)
 refine ZG ?_ J (fun w0=>?_)
 refine Z8 J J J J (fun w0=>?_) ?_
 refine Zla ?_
 exact Z9 rfl
 refine Z8 J J J J (fun w0=>?_) ?_
 refine Zla ?_
 exact Z9 rfl
 refine Z8 J J J J (fun w0=>?_) ?_
 refine Zla ?_
 exact Z9 rfl
 refine Z8 J J J J (fun w0=>?_) ?_
 refine Zo J ?_
 exact Z9 rfl
 refine Z8 J J J J (fun w0=>?_) ?_
 refine Zo J ?_
 exact Z9 rfl
 refine Z8 J J J J (fun w0=>?_) ?_
 refine oIndexStr J J J hj4 ?_
 exact Z9 rfl
 exact AgainG.nil
 refine Z4 (Z5 J ?_)
 (refine ZC0 rfl ZK (fun w hS=>frame hS ZQ (fun B' hB hS'=>ref17_operand hS' f _ (kApiFunc.K_grow hB hf) x _ (kApiInstr_mk _ x) s (byteAt (shapeF x.fOp) j) (opdF x j))) ?_;rintro ⟨⟩ -)
 refine ZG ?_ J (fun w0=>?_)
 exact AgainG.nil
 refine Z6 (Zp J (Zn (Za (Zh (Zi (Zo J (Z0 J J (Zn (Za (wC (fun h77=>?_) (fun h77=>?_)))))))))))
 refine Zh (Zi (Zo J (Zzb ?_)))
 exact ⟨(),trivial,by rw [hiR,fstE_stop hfs (rmap_at hj4) h77];rfl,Lh⟩
 refine Zj (Zzd ?_)
 refine Zp J (Zn (Za ?_))
 exact ⟨rfl,j+1,⟨by omega,fstE_next hfs (rmap_at hj4) (Classical.not_not.1 h77)⟩,by omega,cv,Lh⟩
 refine Zm (Zzj ?_)
 obtain rfl:j=(shapeF x.fOp).size:=by omega
 rw [rmap_all] at hfs
 exact ⟨(),trivial,by rw [hiR,hfs];rfl,Lh⟩
theorem ref17_Check {B:Base}{w:World}(hS:St B [] w) (f:ApiFunc) (fc:List Value) (hf:kApiFunc.K B.e f fc) (hv:∀ y ∈ f.fKinds,in64 y) (Al:Option Addr) (cl:Nat) (l:List ApiSymbol) (hl:kApiSymbol.C B.e Al l) :
 CW 187 #[.agg fc.toArray,.slice Al l.length cl] w (Ret B (fun _:Unit=>True) (fun _=>.tuple #[.int .i64 (chkE f l),.int .i64 (chkI f l)]) (fun _=>[])):=by
 obtain ⟨A0,c0,A1,c1,A2,c2,A3,c3,rfl,l0,g0,l1,g1,l2,g2,l3,g3⟩:=kApiFunc_open hf
 have hcl:=g2.1
 have hil:(insL f l).length=f.fCode.length:=by simp [insL]
 refine ZX Tryz.func187 hS ?_
 refine Zh (Zi (oBox J ZP (fun b2=>?_)))
 refine Zp J (Zp J (Zn (Za (Zh (Zh (Zi (Zla ?_)))))))
 (refine ZC0 rfl ZK (fun w hS=>frame hS ZQ (fun B' hB hS'=>ref16_Check hS' f _ (kApiFunc.K_grow hB hf) hv)) ?_;rintro ⟨⟩ -)
 refine Zp J (Zn (Za (Zh (Zi (Zo J (Z0 J J (Zn (Za (wC (fun h12=>?_) (fun h12=>?_))))))))))
 refine Zh (Zi (Zo J (Zzo ?_)))
 refine ⟨rfl,_,(ResL.cons (ResR.tmp rfl) (ResL.cons (ResR.tmp rfl) ResL.nil)),?_⟩
 exact ⟨(),trivial,by unfold chkE chkI;rw [if_pos h12,if_pos h12];rfl,Lh⟩
 refine Zj (Za (Zh (Zh (Zi (Zp J (Zn (Za (Zk (wLoop (ι:=Nat) (fun i=>[(1,.slice Al l.length cl),(2,.pointer (some ⟨b2,0,none⟩)),(7,.int .i64 (i:Int))]) (fun i=>[blk b2 47 [.int .i64 f.fClass,.slice A0 f.fKinds.length c0,.int .i64 f.fPad,.bool f.fNosplit,.int .i64 f.fFrom,.int .i64 f.fTo,.slice A1 f.fLines.length c1,.slice A2 f.fCode.length c2,.slice A3 f.fRelocs.length c3]]) (fun i=>i≤f.fCode.length∧fstE ((insL f l).take i)=0∧∀ y ∈ (insL f l).take i,non0 y=false) (fun i=>f.fCode.length-i) 0 ?_ cv Lh ?_)))))))))
 exact ⟨Nat.zero_le _,rfl,by simp⟩
 rintro i ⟨hi,hs,hs2⟩
 try dsimp only
 refine Zh (Zh (Zi (Zo J (Zz (n:=7) (m:=7) J J J (Zld ?_)))))
 refine Zv J J (Zx J J (Zn (Za (wC (fun h18=>?_) (fun h18=>?_)))))
 have hxe:(insL f l)[i]?=some (instrF f l (i:Int)):=rmap_at (e:=fun i:Nat=>instrF f l (i:Int)) ZO
 refine Zj (Za (Zh (Zk (Zh (Zi (Zla ?_))))))
 refine Zo J (Zo J ?_)
 (refine ZC0 rfl ZK (fun w hS=>frame hS ZQ (fun B' hB hS'=>ref17_Instr hS' f _ (kApiFunc.K_grow hB hf) Al cl l (Kd.C_grow hB hl) (i:Int))) ?_;rintro ⟨⟩ -)
 refine Zp J (Zn (Za (Zh (Zi (Zo J (Z0 J J (Zn (Za (wC (fun h26=>?_) (fun h26=>?_))))))))))
 refine Zh (Zi (Zo J (Zo J (Zp J (Zp J (Zn (Za (Zl (Zf (Zc (Zc (Zf (Zc (Zw ?_))))))))))))))
 refine ⟨rfl,_,(ResL.cons (ResR.tmp rfl) (ResL.cons (ResR.tmp rfl) ResL.nil)),?_⟩
 exact ⟨(),trivial,by unfold chkE chkI;rw [if_neg h12,if_neg h12,fstE_stop hs hxe h26,idxI_stop hs2 hxe (decide_eq_true h26)];rfl,Lh⟩
 refine Zj (Zzd ?_)
 refine Zp J (Zn (Za ?_))
 exact ⟨rfl,i+1,⟨by omega,fstE_next hs hxe (Classical.not_not.1 h26),take_not hs2 hxe (decide_eq_false h26)⟩,by omega,cv,Lh⟩
 refine Zm (Zb (Zb (Ze (Za (Zh (Zi (Zp J (Zp J (Zn (Za (Zl (Zw ?_))))))))))))
 refine ⟨rfl,_,(ResL.cons (ResR.tmp rfl) (ResL.cons (ResR.tmp rfl) ResL.nil)),?_⟩
 obtain rfl:i=f.fCode.length:=by omega
 rw [← hil,List.take_length] at hs hs2
 exact ⟨(),trivial,by unfold chkE chkI;rw [if_neg h12,if_neg h12,hs,idxI_none hs2];rfl,Lh⟩
end Go.Proofs.YtogaiijhicfoaaaGreatV
namespace Go.Proofs.YtogaiijhicfoaaaGreatW
set_option maxRecDepth 100000
set_option maxHeartbeats 4000000
open Go.RowKit Go.Proofs.YtogaiijhicfoaaaGreatK Go.Proofs.YtogaiijhicfoaaaGreatT Go.Proofs.YtogaiijhicfoaaaGreatL Go.Proofs.YtogaiijhicfoaaaGreatV

def mayF (b:Int) (first:Bool):Bool:=(decide (97≤b) && decide (b≤122)) || decide (b=95) || decide (b=46) || (decide (48≤b) && decide (b≤57) && !first)
def badC (s:ByteArray) (i:Nat):Bool:=!mayF (byteAt s i) (decide (i=0))
def nameF4 (s:ByteArray):Int:=if 24<s.size then 6 else if s.size=0 then 7 else if (List.range s.size).any (badC s) then 7 else 0
theorem size_zero {s:ByteArray} : s=ByteArray.empty↔s.size=0:=by
 constructor
 · rintro rfl;rfl
 · intro h
   cases s with
   | mk d=>
    have:d=#[]:=Array.eq_empty_of_size_eq_zero h
    subst this;rfl
theorem ref4_may {B:Base}{w:World}(hS:St B [] w) (b:Int) (first:Bool) :
 CW 212 #[.int .u8 b,.bool first] w (Ret B (fun _:Unit=>True) (fun _=>.bool (mayF b first)) (fun _=>[])):=by
 refine ZX Tryz.func212 hS ?_
 refine Zh (Zi (Zp J (Zn (Za (Zh (Zi (Zo J (Z2 J J (Zo J (ZS (ZT 7) (fun h7=>?_) (fun h7=>?_)))))))))))
 refine Zq J J (Zo J (Zq J J (oLeq J J (Zt J J (Zo J (ZS (ZT 11) (fun h11=>?_) (fun h11=>?_)))))))
 refine Zr J J J J (Zr J J J J (Zt J J (Zo J (Zr J J J J (Zr J J J J (Zt J J (Zo J (Zr J J J J (Zzq ?_)))))))))
 exact ⟨(),trivial,by simp_all [resVal,mayF] <;> omega,Lh⟩
 refine Zq J J (Zo J (Zq J J (Zy J J (Zu J J (Zo J (ZS (ZT 15) (fun h15=>?_) (fun h15=>?_)))))))
 refine Zr J J J J (Zr J J J J (Zt J J (Zo J (Zr J J J J (Zzq ?_)))))
 exact ⟨(),trivial,by simp_all [resVal,mayF] <;> omega,Lh⟩
 refine Zq J J (Zo J (Zq J J (Zy J J (Zu J J (Zo J (ZS (ZT 19) (fun h19=>?_) (fun h19=>?_)))))))
 refine Zr J J J J (Zzq ?_)
 exact ⟨(),trivial,by simp_all [resVal,mayF] <;> omega,Lh⟩
 refine Zq J J (Zo J (Zq J J (Z2 J J (Zq J J (Zo J (ZS (ZT 22) (fun h22=>?_) (fun h22=>?_)))))))
 refine Zq J J (Zo J (Zq J J (oLeq J J (Zq J J (Zt J J (Zq J J (Zo J (ZS (ZT 26) (fun h26=>?_) (fun h26=>?_)))))))))
 refine Zq J J (Zo J (Zq J J (Zno ?_)))
 refine Zq J J (Zt J J (Zu J J (Zza ?_)))
 exact ⟨(),trivial,by simp_all [resVal,mayF] <;> omega,Lh⟩
 refine Zr J J J J (Zr J J J J (Zq J J (Zu J J (Zu J J (Zza ?_)))))
 exact ⟨(),trivial,by simp_all [resVal,mayF] <;> omega,Lh⟩
 refine Zr J J J J (Zr J J J J (Zq J J (Zu J J (Zq J J (Zo J (Zr J J J J (Zr J J J J (Zq J J (Zu J J (Zu J J (Zza ?_)))))))))))
 exact ⟨(),trivial,by simp_all [resVal,mayF] <;> omega,Lh⟩
 refine Zr J J J J (Zr J J J J (Zu J J (Zo J (Zq J J (Zo J (Zq J J (Zy J J (Zu J J (Zo J (ZS (ZT 15) (fun h15=>?_) (fun h15=>?_)))))))))))
 refine Zr J J J J (Zr J J J J (Zt J J (Zo J (Zr J J J J (Zzq ?_)))))
 exact ⟨(),trivial,by simp_all [resVal,mayF] <;> omega,Lh⟩
 refine Zq J J (Zo J (Zq J J (Zy J J (Zu J J (Zo J (ZS (ZT 19) (fun h19=>?_) (fun h19=>?_)))))))
 refine Zr J J J J (Zzq ?_)
 exact ⟨(),trivial,by simp_all [resVal,mayF] <;> omega,Lh⟩
 refine Zq J J (Zo J (Zq J J (Z2 J J (Zq J J (Zo J (ZS (ZT 22) (fun h22=>?_) (fun h22=>?_)))))))
 refine Zq J J (Zo J (Zq J J (oLeq J J (Zq J J (Zt J J (Zq J J (Zo J (ZS (ZT 26) (fun h26=>?_) (fun h26=>?_)))))))))
 refine Zq J J (Zo J (Zq J J (Zno ?_)))
 refine Zq J J (Zt J J (Zu J J (Zza ?_)))
 exact ⟨(),trivial,by simp_all [resVal,mayF] <;> omega,Lh⟩
 refine Zr J J J J (Zr J J J J (Zq J J (Zu J J (Zu J J (Zza ?_)))))
 exact ⟨(),trivial,by simp_all [resVal,mayF] <;> omega,Lh⟩
 refine Zr J J J J (Zr J J J J (Zq J J (Zu J J (Zq J J (Zo J (Zr J J J J (Zr J J J J (Zq J J (Zu J J (Zu J J (Zza ?_)))))))))))
 exact ⟨(),trivial,by simp_all [resVal,mayF] <;> omega,Lh⟩
theorem ref4_Check {B:Base}{w:World}(hS:St B [] w) (s:ByteArray) :
 CW 183 #[.string s] w (Ret B (fun _:Unit=>True) (fun _=>.int .i64 (nameF4 s)) (fun _=>[])):=by
 refine ZX Tryz.func183 hS ?_
 refine Zh (Zi (Zp J (Zn (Za (Zh (Zh (Zi (Zo J (oLenStr J J (Z1 J J (Zn (Za (wC (fun h6=>?_) (fun h6=>?_))))))))))))))
 refine Zh (Zi (Zze ?_))
 exact ⟨(),trivial,by unfold nameF4;rw [if_pos ZO];rfl,Lh⟩
 refine Zj (Za (Zh (Zh (Zi (Zo J (oSEq J J (Zn (Za (wC (fun h8=>?_) (fun h8=>?_))))))))))
 refine Zh (Zi (Zze ?_))
 exact ⟨(),trivial,by unfold nameF4;rw [if_neg ZO,if_pos (size_zero.1 h8)];rfl,Lh⟩
 have hz:¬ s.size=0:=fun h=>h8 (size_zero.2 h)
 refine Zj (Za (Zh (Zh (Zi (Zp J (Zn (Za (Zk (wLoop (ι:=Nat) (fun i=>[(0,.string s),(3,.int .i64 (i:Int))]) (fun i=>[]) (fun i=>i≤s.size∧∀ j,j<i→badC s j=false) (fun i=>s.size-i) 0 ?_ cv Lh ?_)))))))))
 exact ⟨Nat.zero_le _,fun j hj=>by omega⟩
 rintro i ⟨hi,hs⟩
 try dsimp only
 refine Zh (Zh (Zi (Zo J (Zo J (oLenStr J J (Zx J J (Zn (Za (wC (fun h12=>?_) (fun h12=>?_))))))))))
 have hil:i<s.size:=by omega
 have hz0:decide ((i:Int)=0)=decide (i=0):=decide_eq_decide.2 ZO
 refine Zj (Za (Zh (Zk (Zh (Zi (Zo J (Zo J (oIndexStr J J J hil (Zo J (Zy J J ?_))))))))))
 (refine ZC0 rfl ZK (fun w hS=>frame hS ZQ (fun B' hB hS'=>ref4_may hS' (byteAt s i) (decide ((i:Int)=0)))) ?_;rintro ⟨⟩ -)
 refine Zno ?_
 refine Zn (Za (wC (fun h21=>?_) (fun h21=>?_)))
 refine Zh (Zi (Zzb ?_))
 exact ⟨(),trivial,by unfold nameF4;rw [if_neg ZO,if_neg hz,if_pos (any_T hil (by unfold badC;rw [← hz0];simpa using h21))];rfl,Lh⟩
 refine Zj (Zzd ?_)
 refine Zp J (Zn (Za ?_))
 exact ⟨rfl,i+1,⟨by omega,fun j hj=>by
 by_cases e:j=i
 · subst e;unfold badC;rw [← hz0];simpa using h21
 · exact hs j ZO⟩,by omega,cv,Lh⟩
 refine Zm (Zzj ?_)
 obtain rfl:i=s.size:=by omega
 exact ⟨(),trivial,by unfold nameF4;rw [if_neg ZO,if_neg hz,if_neg (by rw [any_F hs];simp)];rfl,Lh⟩
def isG (s:ByteArray) (x:ApiSymbol):Bool:=(!x.fLocal && decide (x.fDef≠-1)) && decide (x.fName=s)
def glob (x:ApiSymbol):Bool:=!x.fLocal && decide (x.fDef≠-1)
def hasG (s:ByteArray) (o:ApiObject):Bool:=o.fSymbols.any (isG s)
def findI (l:List ApiObject) (s:ByteArray):Int:=idxI (hasG s) l
def symsAt (l:List ApiObject) (i:Int):List ApiSymbol:=(l.getD i.toNat default).fSymbols
def findK (l:List ApiObject) (s:ByteArray):Int:=idxI (isG s) (symsAt l (findI l s))
def fnd (l:List ApiObject) (s:ByteArray):Int×Int×Bool:=if 0≤findI l s then (findI l s,findK l s,true) else (0,0,false)
theorem symsAt_eq {l:List ApiObject}{i:Nat}{o:ApiObject}(h:l[i]?=some o):symsAt l (i:Int)=o.fSymbols:=by unfold symsAt;rw [Int.toNat_natCast,List.getD_eq_getElem?_getD,h];rfl
theorem fnd_some {l:List ApiObject}{s:ByteArray}(h:(fnd l s).2.2=true):∃ (i k:Nat) (o:ApiObject) (x:ApiSymbol),fnd l s=((i:Int),(k:Int),true)∧l[i]?=some o∧o.fSymbols[k]?=some x∧isG s x=true:=by
 unfold fnd at *
 by_cases h0:0≤findI l s
 · rw [if_pos h0] at *
   obtain ⟨i,o,hi,ho,hg⟩:=idxI_at (show 0≤idxI (hasG s) l from h0)
   have hfi:findI l s=(i:Int):=hi
   obtain ⟨k,x,hk,hx,hgx⟩:=idxI_at (idxI_iff.2 (show o.fSymbols.any (isG s)=true from hg))
   refine ⟨i,k,o,x,?_,ho,hx,hgx⟩
   have:findK l s=(k:Int):=by unfold findK;rw [hfi,symsAt_eq ho];exact hk
   rw [hfi,this]
 · rw [if_neg h0] at h;cases h
theorem ref23_global {B:Base}{w:World}(hS:St B [] w) (x:ApiSymbol) (xc:List Value) (hx:kApiSymbol.K B.e x xc) :
 CW 134 #[.agg xc.toArray] w (Ret B (fun _:Unit=>True) (fun _=>.bool (glob x)) (fun _=>[])):=by
 obtain rfl:=kApiSymbol_open hx
 refine ZX Tryz.func134 hS ?_
 refine Zh (Zi (oBox J ZP (fun b1=>?_)))
 refine Zp J (Zn (Za (Zh (Zi (Zz (n:=1) (m:=1) J J J (Zld ?_))))))
 refine Zno ?_
 refine Zo J (ZS (ZT 6) (fun h6=>?_) (fun h6=>?_))
 refine Zq J J (Zz (n:=4) (m:=4) J J J (Zzg ?_))
 refine Zq J J (Z0 J J (Zt J J (Zza ?_)))
 exact ⟨(),trivial,by simp_all [resVal,glob],Lh⟩
 refine Zr J J J J (Zr J J J J (Zr J J J J (Zu J J (Zza ?_))))
 exact ⟨(),trivial,by simp_all [resVal,glob],Lh⟩
structure FewO (l:List ApiObject):Prop where
  len:l.length≤9
  syms:∀ o ∈ l,o.fSymbols.length≤60
  funcs:∀ o ∈ l,o.fFuncs.length≤20
  datas:∀ o ∈ l,o.fDatas.length≤20
  fun_:∀ o ∈ l,∀ f ∈ o.fFuncs,f.fKinds.length≤100∧f.fLines.length≤100∧f.fCode.length≤100∧f.fRelocs.length≤100
  data:∀ o ∈ l,∀ d ∈ o.fDatas,d.fWords.length≤100∧d.fRelocs.length≤100
theorem ref23_Find {B:Base}{w:World}(hS:St B [] w) (A:Option Addr) (cp:Nat) (l:List ApiObject) (hC:kApiObject.C B.e A l) (hsm:FewO l) (s:ByteArray) :
 CW 71 #[.slice A l.length cp,.string s] w (Ret B (fun _:Unit=>True) (fun _=>.tuple #[.int .i64 (fnd l s).1,.int .i64 (fnd l s).2.1,.bool (fnd l s).2.2]) (fun _=>[])):=by
 have hln:=hsm.len
 refine ZX Tryz.func71 hS ?_
 refine Zh (Zi (Zp J (Zp J (Zp J (Zn (Za (Zh (Zh (Zi (Zp J (Zn (Za (Zk (wLoop (ι:=Nat) (fun i=>[(0,.slice A l.length cp),(1,.string s),(7,.int .i64 (i:Int))]) (fun i=>[]) (fun i=>i≤l.length∧∀ o ∈ l.take i,hasG s o=false) (fun i=>l.length-i) 0 ?_ cv Lh ?_))))))))))))))
 exact ⟨Nat.zero_le _,by simp⟩
 rintro i ⟨hi,hs⟩
 try dsimp only
 refine Zh (Zh (Zi (Zo J (Zo J (Zv J J (Zx J J (Zn (Za (wC (fun h13=>?_) (fun h13=>?_))))))))))
 obtain ⟨o,ho⟩:∃ o,l[i]?=some o:=⟨_,List.getElem?_eq_getElem ZO⟩
 have hol:=hsm.syms o (List.mem_of_getElem? ho)
 obtain ⟨e1,cs1,hE⟩:=hC.elm ho
 obtain ⟨B0,d0,B1,d1,B2,d2,rfl,m0,q0,m1,q1,m2,q2⟩:=kApiObject_open hE.K
 refine Zj (Za (Zh (Zk (Zh (Zi (Zp J (Zn (Za (Zk (wLoop (ι:=Nat) (fun k=>[(0,.slice A l.length cp),(1,.string s),(7,.int .i64 (i:Int)),(8,.int .i64 (k:Int))]) (fun k=>[]) (fun k=>k≤o.fSymbols.length∧∀ x ∈ o.fSymbols.take k,isG s x=false) (fun k=>o.fSymbols.length-k) 0 ?_ cv Lh ?_))))))))))
 exact ⟨Nat.zero_le _,by simp⟩
 rintro k ⟨hk,hs2⟩
 try dsimp only
 refine Zh (Zh (Zi (Zo J (Zo J (Zo J (oIdxE J J (hE) ZO J J ?_))))))
 have hc19:=(hE).cell
 refine ZF (ZT 0) (ZT 0) ?_
 refine Zlx hc19 ?_
 refine Zv J J (Zx J J (Zn (Za (wC (fun h23=>?_) (fun h23=>?_)))))
 obtain ⟨x,hx⟩:∃ x,o.fSymbols[k]?=some x:=⟨_,List.getElem?_eq_getElem ZO⟩
 obtain ⟨e2,cs2,hE2⟩:=q0.elm hx
 obtain rfl:=kApiSymbol_open hE2.K
 have hgx:isG s x=(glob x && decide (x.fName=s)):=rfl
 refine Zj (Za (Zh (Zk (Zh (Zi (Zo J (Zo J (oIdxE J J (hE) ZO J J ?_))))))))
 have hc28:=(hE).cell
 refine ZF (ZT 0) (ZT 0) ?_
 refine Zlx hc28 ?_
 refine Zo J (oIdxE J J (hE2) ZO J J ?_)
 have hc32:=(hE2).cell
 refine Zlx hc32 ?_
 refine oAlloc J ZP (fun b9=>?_)
 refine Zsa ?_
 refine Zn (Zzk ?_)
 (refine ZC0 rfl ZK (fun w hS=>frame hS ZQ (fun B' hB hS'=>ref23_global hS' x _ (kApiSymbol_mk _ x))) ?_;rintro ⟨⟩ -)
 refine Zo J (ZS (ZT 36) (fun h36=>?_) (fun h36=>?_))
 refine Zq J J (Zz (n:=0) (m:=0) J J J (Zzg ?_))
 refine Zq J J (Zo J (Zq J J (oSEq J J (Zt J J (Zn (Za (wC (fun h41=>?_) (fun h41=>?_))))))))
 refine Zh (Zi (Zo J (Zo J (Zp J (Zp J (Zp J (Zn (Za (Zl (Zf (Zc (Zc (Zf (Zf (Zc (Zc (Zf (Zc (Zw ?_)))))))))))))))))))
 refine ⟨rfl,_,(ResL.cons (ResR.tmp rfl) (ResL.cons (ResR.tmp rfl) (ResL.cons (ResR.tmp rfl) ResL.nil))),?_⟩
 have hg:isG s x=true:=by rw [hgx];simp_all
 have hfi:findI l s=(i:Int):=idxI_stop hs ho (List.any_eq_true.2 ⟨x,List.mem_of_getElem? hx,hg⟩)
 have hfk:findK l s=(k:Int):=by unfold findK;rw [hfi,symsAt_eq ho];exact idxI_stop hs2 hx hg
 have hf:fnd l s=((i:Int),(k:Int),true):=by unfold fnd;rw [hfi,hfk,if_pos ZO]
 exact ⟨(),trivial,by rw [hf];rfl,Lh⟩
 refine Zj (Zzd ?_)
 refine Zp J (Zn (Za ?_))
 exact ⟨rfl,k+1,⟨by omega,take_not hs2 hx (by rw [hgx];simp_all)⟩,by omega,cv,Lh⟩
 refine Zr J J J J (Zr J J J J (Zr J J J J (Zr J J J J (Zu J J (Zn (Za (wCondF J (Zj (Zzd ?_)))))))))
 refine Zp J (Zn (Za ?_))
 exact ⟨rfl,k+1,⟨by omega,take_not hs2 hx (by rw [hgx];simp_all)⟩,by omega,cv,Lh⟩
 obtain rfl:k=o.fSymbols.length:=by omega
 rw [List.take_length] at hs2
 have hno:hasG s o=false:=by unfold hasG;rw [List.any_eq_false];intro y hy;rw [hs2 y hy];simp
 refine Zm (Zb (Zb (Ze (Zzd ?_))))
 refine Zp J (Zn (Za ?_))
 exact ⟨rfl,i+1,⟨by omega,take_not hs ho hno⟩,by omega,cv,Lh⟩
 refine Zm (Zb (Zb (Ze (Za (Zh (Zi (Zp J (Zp J (Zp J (Zn (Za (Zl (Zw ?_)))))))))))))
 refine ⟨rfl,_,(ResL.cons (ResR.tmp rfl) (ResL.cons (ResR.tmp rfl) (ResL.cons (ResR.tmp rfl) ResL.nil))),?_⟩
 obtain rfl:i=l.length:=by omega
 rw [List.take_length] at hs
 have hf:fnd l s=(0,0,false):=by unfold fnd findI;rw [idxI_none hs];rfl
 exact ⟨(),trivial,by rw [hf];rfl,Lh⟩
def symOf (l:List ApiObject) (i k:Int):ApiSymbol:=(symsAt l i).getD k.toNat default
def bndF (l:List ApiObject) (i k:Int):Int×Int×Int:=
  if i<0∨(l.length:Int)≤i∨k<0∨((symsAt l i).length:Int)≤k then (0,0,2) else
  if (symOf l i k).fDef≠-1 then (i,k,0) else
  if (fnd l (symOf l i k).fName).2.2=false then (0,0,13) else
  if (symOf l (fnd l (symOf l i k).fName).1 (fnd l (symOf l i k).fName).2.1).fSort≠(symOf l i k).fSort∨(symOf l (fnd l (symOf l i k).fName).1 (fnd l (symOf l i k).fName).2.1).fKind≠(symOf l i k).fKind then (0,0,14) else ((fnd l (symOf l i k).fName).1,(fnd l (symOf l i k).fName).2.1,0)
theorem symOf_eq {l:List ApiObject}{i k:Nat}{o:ApiObject}{x:ApiSymbol}(h:l[i]?=some o) (hx:o.fSymbols[k]?=some x):symOf l (i:Int) (k:Int)=x:=by unfold symOf;rw [symsAt_eq h,Int.toNat_natCast,List.getD_eq_getElem?_getD,hx];rfl
theorem ref23_Bound {B:Base}{w:World}(hS:St B [] w) (A:Option Addr) (cp:Nat) (l:List ApiObject) (hC:kApiObject.C B.e A l) (hsm:FewO l) (i k:Int) :
 CW 133 #[.slice A l.length cp,.int .i64 i,.int .i64 k] w (Ret B (fun _:Unit=>True) (fun _=>.tuple #[.int .i64 (bndF l i k).1,.int .i64 (bndF l i k).2.1,.int .i64 (bndF l i k).2.2]) (fun _=>[])):=by
 have hln:=hsm.len
 refine ZX Tryz.func133 hS ?_
 refine Zh (Zi (Zp J (Zp J (Zp J (Zn (Za (Zh (Zh (Zi (Zo J (Zx J J (Zo J (ZS (ZT 16) (fun h16=>?_) (fun h16=>?_))))))))))))))
 refine Zr J J J J (Zr J J J J (Zr J J J J (Zr J J J J (Zt J J (Zo J (Zr J J J J (Zr J J J J (Zt J J (Zo J (Zr J J J J (Zr J J J J (Zr J J J J (Zr J J J J (Zr J J J J (Zr J J J J (Zr J J J J (Zr J J J J (Zt J J (Zn (Za (wCondT J (Zh (Zi (Zp J (Zp J (Zp J (Zn (Za (Zl ?_)))))))))))))))))))))))))))))
 refine Zc (Zw ?_)
 refine ⟨rfl,_,(ResL.cons (ResR.tmp rfl) (ResL.cons (ResR.tmp rfl) (ResL.cons (ResR.tmp rfl) ResL.nil))),?_⟩
 exact ⟨(),trivial,by unfold bndF;rw [if_pos ZO];rfl,Lh⟩
 refine Zq J J (Zo J (Zq J J (Zo J (Zq J J (Zv J J (Zq J J (Z2 J J (Zu J J (Zo J (ZS (ZT 22) (fun h22=>?_) (fun h22=>?_)))))))))))
 refine Zr J J J J (Zr J J J J (Zt J J (Zo J (Zr J J J J (Zr J J J J (Zr J J J J (Zr J J J J (Zr J J J J (Zr J J J J (Zr J J J J (Zr J J J J (Zt J J (Zn (Za (wCondT J (Zh (Zi (Zp J (Zzo ?_)))))))))))))))))))
 refine ⟨rfl,_,(ResL.cons (ResR.tmp rfl) (ResL.cons (ResR.tmp rfl) (ResL.cons (ResR.tmp rfl) ResL.nil))),?_⟩
 exact ⟨(),trivial,by unfold bndF;rw [if_pos ZO];rfl,Lh⟩
 refine Zq J J (Zo J (Zq J J (Zx J J (Zu J J (Zo J (ZS (ZT 26) (fun h26=>?_) (fun h26=>?_)))))))
 refine Zr J J J J (Zr J J J J (Zr J J J J (Zr J J J J (Zr J J J J (Zr J J J J (Zr J J J J (Zr J J J J (Zt J J (Zn (Za (wCondT J (Zh (Zi (Zp J (Zzo ?_)))))))))))))))
 refine ⟨rfl,_,(ResL.cons (ResR.tmp rfl) (ResL.cons (ResR.tmp rfl) (ResL.cons (ResR.tmp rfl) ResL.nil))),?_⟩
 exact ⟨(),trivial,by unfold bndF;rw [if_pos ZO];rfl,Lh⟩
 obtain ⟨i,rfl⟩:=Int.eq_ofNat_of_zero_le (show 0≤i by omega)
 obtain ⟨o,ho⟩:∃ o,l[i]?=some o:=⟨_,List.getElem?_eq_getElem ZO⟩
 have hsy:=symsAt_eq ho
 have hol:=hsm.syms o (List.mem_of_getElem? ho)
 obtain ⟨e1,cs1,hE⟩:=hC.elm ho
 obtain ⟨B0,d0,B1,d1,B2,d2,rfl,m0,q0,m1,q1,m2,q2⟩:=kApiObject_open hE.K
 refine Zq J J (Zo J (Zq J J (Zo J (Zq J J (Zo J (Zq J J (oIdxE J J (hE) ZO J J ?_)))))))
 have hc30:=(hE).cell
 refine Zq J J (ZF (ZT 0) (ZT 0) ?_)
 refine Zq J J (Zlx hc30 ?_)
 refine Zq J J (Zv J J (Zq J J (Z2 J J (Zu J J (Zn (Za (wC (fun h35=>?_) (fun h35=>?_))))))))
 refine Zh (Zi (Zp J (Zzo ?_)))
 refine ⟨rfl,_,(ResL.cons (ResR.tmp rfl) (ResL.cons (ResR.tmp rfl) (ResL.cons (ResR.tmp rfl) ResL.nil))),?_⟩
 exact ⟨(),trivial,by unfold bndF;rw [if_pos (.inr (.inr (.inr (by rw [hsy];omega))))];rfl,Lh⟩
 obtain ⟨k,rfl⟩:=Int.eq_ofNat_of_zero_le (show 0≤k by omega)
 obtain ⟨x,hx⟩:∃ x,o.fSymbols[k]?=some x:=⟨_,List.getElem?_eq_getElem ZO⟩
 obtain ⟨e2,cs2,hE2⟩:=q0.elm hx
 obtain rfl:=kApiSymbol_open hE2.K
 have hso:=symOf_eq ho hx
 have hin:¬ ((i:Int)<0∨(l.length:Int)≤(i:Int)∨(k:Int)<0∨((symsAt l (i:Int)).length:Int)≤(k:Int)):=by rw [hsy];omega
 refine Zj (Za (Zh (Zi (Zo J (Zo J (oIdxE J J (hE) ZO J J ?_))))))
 have hc38:=(hE).cell
 refine ZF (ZT 0) (ZT 0) ?_
 refine Zlx hc38 ?_
 refine Zo J (oIdxE J J (hE2) ZO J J ?_)
 have hc42:=(hE2).cell
 refine Zlx hc42 ?_
 refine oAlloc J ZP (fun b9=>?_)
 refine Zsa ?_
 refine Zn (Za (Zh (Zh (Zi (Zz (n:=4) (m:=4) J J J (Zld ?_))))))
 refine Z0 J J (Zn (Za (wC (fun h46=>?_) (fun h46=>?_))))
 refine Zh (Zi (Zo J (Zo J (Zp J (Zzo ?_)))))
 refine ⟨rfl,_,(ResL.cons (ResR.tmp rfl) (ResL.cons (ResR.tmp rfl) (ResL.cons (ResR.tmp rfl) ResL.nil))),?_⟩
 exact ⟨(),trivial,by unfold bndF;rw [if_neg hin,hso,if_pos h46];rfl,Lh⟩
 refine Zj (Za (Zh (Zi (Zo J (Zz (n:=0) (m:=0) J J J (Zld ?_))))))
 (refine ZC0 rfl ZK (fun w hS=>frame hS ZQ (fun B' hB hS'=>ref23_Find hS' A cp l (Kd.C_grow hB hC) hsm x.fName)) ?_;rintro ⟨⟩ -)
 refine Zo J (oExt J ZP ?_)
 refine oExt J ZP ?_
 refine oExt J ZP ?_
 refine Zp J (Zp J (Zp J (Zn (Za (Zh (Zh (Zi (Zo J (Zno ?_)))))))))
 refine Zn (Za (wC (fun h58=>?_) (fun h58=>?_)))
 refine Zh (Zi (Zp J (Zzo ?_)))
 refine ⟨rfl,_,(ResL.cons (ResR.tmp rfl) (ResL.cons (ResR.tmp rfl) (ResL.cons (ResR.tmp rfl) ResL.nil))),?_⟩
 have hn:(fnd l x.fName).2.2=false:=by simpa using h58
 exact ⟨(),trivial,by unfold bndF;rw [if_neg hin,hso,if_neg h46,if_pos hn];rfl,Lh⟩
 have hf:(fnd l x.fName).2.2=true:=by simpa using h58
 obtain ⟨i2,k2,o2,y,hfe,ho2,hy,hgy⟩:=fnd_some hf
 have hso2:=symOf_eq ho2 hy
 have hil2:=(List.getElem?_eq_some_iff.1 ho2).1
 have hkl2:=(List.getElem?_eq_some_iff.1 hy).1
 obtain ⟨e3,cs3,hE3⟩:=hC.elm ho2
 obtain ⟨C0,f0,C1,f1,C2,f2,rfl,n0,r0,n1,r1,n2,r2⟩:=kApiObject_open hE3.K
 obtain ⟨e4,cs4,hE4⟩:=r0.elm hy
 obtain rfl:=kApiSymbol_open hE4.K
 rw [hfe]
 dsimp only
 refine Zj (Za (Zh (Zh (Zi (Zo J (Zo J (oIdxE J J (hE3) ZO J J ?_)))))))
 have hc61:=(hE3).cell
 refine ZF (ZT 0) (ZT 0) ?_
 refine Zlx hc61 ?_
 refine Zo J (oIdxE J J (hE4) ZO J J ?_)
 have hc65:=(hE4).cell
 refine Zlx hc65 ?_
 refine oAlloc J ZP (fun b13=>?_)
 refine Zsa ?_
 refine Zn (Za (Zh (Zi (Zz (n:=2) (m:=2) J J J (Zld ?_)))))
 refine Zz (n:=2) (m:=2) J J J (Zld ?_)
 refine Z0 J J (Zo J (ZS (ZT 72) (fun h72=>?_) (fun h72=>?_)))
 refine Zr J J J J (Zr J J J J (Zr J J J J (Zr J J J J (Zr J J J J (Zt J J (Zn (Za (wCondT J (Zh (Zi (Zp J (Zzo ?_))))))))))))
 refine ⟨rfl,_,(ResL.cons (ResR.tmp rfl) (ResL.cons (ResR.tmp rfl) (ResL.cons (ResR.tmp rfl) ResL.nil))),?_⟩
 exact ⟨(),trivial,by unfold bndF;rw [if_neg hin,hso,if_neg h46,if_neg (by rw [hfe];simp),hfe];dsimp only;rw [hso2,if_pos (by simp_all <;> omega)];rfl,Lh⟩
 refine Zq J J (Zz (n:=3) (m:=3) J J J (Zzg ?_))
 refine Zq J J (Zz (n:=3) (m:=3) J J J (Zzg ?_))
 refine Zq J J (Z0 J J (Zu J J (Zn (Za (wC (fun h78=>?_) (fun h78=>?_))))))
 refine Zh (Zi (Zp J (Zzo ?_)))
 refine ⟨rfl,_,(ResL.cons (ResR.tmp rfl) (ResL.cons (ResR.tmp rfl) (ResL.cons (ResR.tmp rfl) ResL.nil))),?_⟩
 exact ⟨(),trivial,by unfold bndF;rw [if_neg hin,hso,if_neg h46,if_neg (by rw [hfe];simp),hfe];dsimp only;rw [hso2,if_pos (by simp_all <;> omega)];rfl,Lh⟩
 refine Zj (Za (Zh (Zi (Zo J (Zo J (Zp J (Zp J (Zp J (Zn (Za (Zl (Zw ?_))))))))))))
 refine ⟨rfl,_,(ResL.cons (ResR.tmp rfl) (ResL.cons (ResR.tmp rfl) (ResL.cons (ResR.tmp rfl) ResL.nil))),?_⟩
 exact ⟨(),trivial,by unfold bndF;rw [if_neg hin,hso,if_neg h46,if_neg (by rw [hfe];simp),hfe];dsimp only;rw [hso2,if_neg (by simp_all <;> omega)];rfl,Lh⟩
abbrev rejL (r:Int×Int×Int):List Value:=[.int .i64 r.1,.int .i64 r.2.1,.int .i64 r.2.2]
def rowP (l:List ApiObject) (p:Nat→Nat→Bool) (i:Nat):Bool:=(List.range (symsAt l (i:Int)).length).any (p i)
def fI (l:List ApiObject) (p:Nat→Nat→Bool):Int:=idxI (rowP l p) (List.range l.length)
def fK (l:List ApiObject) (p:Nat→Nat→Bool):Int:=idxI (p (fI l p).toNat) (List.range (symsAt l (fI l p)).length)
theorem rng {n i:Nat}(h:i<n):(List.range n)[i]?=some i:=List.getElem?_range h
theorem fI_stop {l:List ApiObject}{p:Nat→Nat→Bool}{i k:Nat}{o:ApiObject}(hs:∀ j ∈ (List.range l.length).take i,rowP l p j=false) (ho:l[i]?=some o) (hs2:∀ j ∈ (List.range o.fSymbols.length).take k,p i j=false) (hk:k<o.fSymbols.length) (hp:p i k=true):fI l p=(i:Int)∧fK l p=(k:Int):=by
 have hi:=(List.getElem?_eq_some_iff.1 ho).1
 have h1:fI l p=(i:Int):=idxI_stop hs (rng hi) (by unfold rowP;rw [symsAt_eq ho];exact any_T hk hp)
 refine ⟨h1,?_⟩
 unfold fK
 rw [h1,symsAt_eq ho,Int.toNat_natCast]
 exact idxI_stop hs2 (rng hk) hp
theorem fI_none {l:List ApiObject}{p:Nat→Nat→Bool}(hs:∀ j ∈ List.range l.length,rowP l p j=false):fI l p = -1:=idxI_none hs
theorem fI_all {l:List ApiObject}{p:Nat→Nat→Bool}(h:fI l p<0) {i k:Nat}{o:ApiObject}(ho:l[i]?=some o) (hk:k<o.fSymbols.length):p i k=false:=by
 cases hp:p i k with
 | false=>rfl
 | true=>
  have hi:=(List.getElem?_eq_some_iff.1 ho).1
  have:0≤fI l p:=idxI_iff.2 (List.any_eq_true.2 ⟨i,List.mem_range.2 hi,by unfold rowP;rw [symsAt_eq ho];exact any_T hk hp⟩)
  omega
def twP (l:List ApiObject) (i k:Nat):Bool:=glob (symOf l i k) && decide ((fnd l (symOf l i k).fName).1≠(i:Int)∨(fnd l (symOf l i k).fName).2.1≠(k:Int))
def unP (l:List ApiObject) (i k:Nat):Bool:=decide ((bndF l i k).2.2≠0)
def chk23 (l:List ApiObject):Int×Int×Int:=if l.length=0∨6<l.length then (19,-1,-1) else if 0≤fI l (twP l) then (12,fI l (twP l),fK l (twP l)) else if 0≤fI l (unP l) then ((bndF l (fI l (unP l)) (fK l (unP l))).2.2,fI l (unP l),fK l (unP l)) else (0,0,0)
theorem ref23_Twice {B:Base}{w:World}(hS:St B [] w) (A:Option Addr) (cp:Nat) (l:List ApiObject) (hC:kApiObject.C B.e A l) (hsm:FewO l) :
 CW 132 #[.slice A l.length cp] w (Ret B (fun _:Unit=>True) (fun _=>.tuple #[.agg (rejL (if 0≤fI l (twP l) then (12,fI l (twP l),fK l (twP l)) else (0,0,0))).toArray,.bool (decide (0≤fI l (twP l)))]) (fun _=>[])):=by
 have hln:=hsm.len
 refine ZX Tryz.func132 hS ?_
 refine Zh (Zi (oAlloc J ZP (fun b2=>?_)))
 refine Zp J (Zn (Za (Zh (Zh (Zi (Zp J (Zn (Za (Zk (wLoop (ι:=Nat) (fun i=>[(0,.slice A l.length cp),(2,.pointer (some ⟨b2,0,none⟩)),(4,.int .i64 (i:Int))]) (fun i=>[blk b2 32 [.int .i64 0,.int .i64 0,.int .i64 0]]) (fun i=>i≤l.length∧∀ j ∈ (List.range l.length).take i,rowP l (twP l) j=false) (fun i=>l.length-i) 0 ?_ cv Lh ?_))))))))))
 exact ⟨Nat.zero_le _,by simp⟩
 rintro i ⟨hi,hs⟩
 try dsimp only
 refine Zh (Zh (Zi (Zo J (Zo J (Zv J J (Zx J J (Zn (Za (wC (fun h13=>?_) (fun h13=>?_))))))))))
 obtain ⟨o,ho⟩:∃ o,l[i]?=some o:=⟨_,List.getElem?_eq_getElem ZO⟩
 have hil:i<l.length:=by omega
 have hol:=hsm.syms o (List.mem_of_getElem? ho)
 obtain ⟨e1,cs1,hE⟩:=hC.elm ho
 obtain ⟨B0,d0,B1,d1,B2,d2,rfl,m0,q0,m1,q1,m2,q2⟩:=kApiObject_open hE.K
 refine Zj (Za (Zh (Zk (Zh (Zi (Zp J (Zn (Za (Zk (wLoop (ι:=Nat) (fun k=>[(0,.slice A l.length cp),(2,.pointer (some ⟨b2,0,none⟩)),(4,.int .i64 (i:Int)),(5,.int .i64 (k:Int))]) (fun k=>[blk b2 32 [.int .i64 0,.int .i64 0,.int .i64 0]]) (fun k=>k≤o.fSymbols.length∧∀ j ∈ (List.range o.fSymbols.length).take k,twP l i j=false) (fun k=>o.fSymbols.length-k) 0 ?_ cv Lh ?_))))))))))
 exact ⟨Nat.zero_le _,by simp⟩
 rintro k ⟨hk,hs2⟩
 try dsimp only
 refine Zh (Zh (Zi (Zo J (Zo J (Zo J (oIdxE J J (hE) ZO J J ?_))))))
 have hc19:=(hE).cell
 refine ZF (ZT 0) (ZT 0) ?_
 refine Zlx hc19 ?_
 refine Zv J J (Zx J J (Zn (Za (wC (fun h23=>?_) (fun h23=>?_)))))
 obtain ⟨x,hx⟩:∃ x,o.fSymbols[k]?=some x:=⟨_,List.getElem?_eq_getElem ZO⟩
 have hkl:k<o.fSymbols.length:=by omega
 obtain ⟨e2,cs2,hE2⟩:=q0.elm hx
 obtain rfl:=kApiSymbol_open hE2.K
 have htp:twP l i k=(glob x && decide ((fnd l x.fName).1≠(i:Int)∨(fnd l x.fName).2.1≠(k:Int))):=by unfold twP;rw [symOf_eq ho hx]
 refine Zj (Za (Zh (Zk (Zh (Zi (Zo J (Zo J (oIdxE J J (hE) ZO J J ?_))))))))
 have hc28:=(hE).cell
 refine ZF (ZT 0) (ZT 0) ?_
 refine Zlx hc28 ?_
 refine Zo J (oIdxE J J (hE2) ZO J J ?_)
 have hc32:=(hE2).cell
 refine Zlx hc32 ?_
 refine oAlloc J ZP (fun b6=>?_)
 refine Zsa ?_
 refine Zn (Za (Zh (Zi (Zo J (Zz (n:=0) (m:=0) J J J (Zld ?_))))))
 (refine ZC0 rfl ZK (fun w hS=>frame hS ZQ (fun B' hB hS'=>ref23_Find hS' A cp l (Kd.C_grow hB hC) hsm x.fName)) ?_;rintro ⟨⟩ -)
 refine Zo J (oExt J ZP ?_)
 refine oExt J ZP ?_
 refine oExt J ZP ?_
 refine Zp J (Zp J (Zp J (Zn (Zzk ?_))))
 (refine ZC0 rfl ZK (fun w hS=>frame hS ZQ (fun B' hB hS'=>ref23_global hS' x _ (kApiSymbol_mk _ x))) ?_;rintro ⟨⟩ -)
 refine Zo J (ZS (ZT 44) (fun h44=>?_) (fun h44=>?_))
 refine Zq J J (Zo J (Zq J J (Zo J (Zq J J (Z0 J J (Zq J J (Zo J (ZS (ZT 48) (fun h48=>?_) (fun h48=>?_)))))))))
 refine Zr J J J J (Zr J J J J (Zr J J J J (Zq J J (Zt J J (Zt J J (Zn (Za (wCondT J (Zh (Zi (Zo J (Zo J (oBuild (Parts.cons J (Parts.cons J (Parts.cons J Parts.nil))) J J (Built.cons (off:=0) (s:=1) J ZP J ZP (Built.cons (off:=1) (s:=1) J ZP J ZP (Built.cons (off:=2) (s:=1) J ZP J ZP Built.nil))) ?_)))))))))))))
 refine Zsa ?_
 refine Zp J (Zn (Za (Zl (Zf (Zc (Zc (Zf (Zf (Zc (Zc (Zf (Zc (Zw (ZI2 ?_))))))))))))))
 have ht:twP l i k=true:=by rw [htp];simp_all
 obtain ⟨h1,h2⟩:=fI_stop hs ho hs2 hkl ht
 exact ⟨(),trivial,by rw [h1,h2,if_pos ZO,decide_eq_true ZO];rfl,Lh⟩
 refine Zq J J (Zo J (Zq J J (Zo J (Zq J J (Z0 J J (Zq J J (Zu J J (Zt J J (Zn (Za (wC (fun h53=>?_) (fun h53=>?_))))))))))))
 refine Zh (Zi (Zo J (Zo J (oBuild (Parts.cons J (Parts.cons J (Parts.cons J Parts.nil))) J J (Built.cons (off:=0) (s:=1) J ZP J ZP (Built.cons (off:=1) (s:=1) J ZP J ZP (Built.cons (off:=2) (s:=1) J ZP J ZP Built.nil))) ?_))))
 refine Zsa ?_
 refine Zp J (Zn (Za (Zl (Zf (Zc (Zc (Zf (Zf (Zc (Zc (Zf (Zc (Zw (ZI2 ?_))))))))))))))
 have ht:twP l i k=true:=by rw [htp];simp_all
 obtain ⟨h1,h2⟩:=fI_stop hs ho hs2 hkl ht
 exact ⟨(),trivial,by rw [h1,h2,if_pos ZO,decide_eq_true ZO];rfl,Lh⟩
 refine Zj (Zzd ?_)
 refine Zp J (Zn (Za ?_))
 exact ⟨rfl,k+1,⟨by omega,take_not hs2 (rng hkl) (by rw [htp];simp_all)⟩,by omega,cv,Lh⟩
 refine Zr J J J J (Zr J J J J (Zr J J J J (Zr J J J J (Zs J J J (Zs J J J (Zs J J J (Zr J J J J (Zu J J (Zn (Za (wCondF J (Zj (Zzd ?_)))))))))))))
 refine Zp J (Zn (Za ?_))
 exact ⟨rfl,k+1,⟨by omega,take_not hs2 (rng hkl) (by rw [htp];simp_all)⟩,by omega,cv,Lh⟩
 obtain rfl:k=o.fSymbols.length:=by omega
 rw [List.take_of_length_le (by simp)] at hs2
 have hno:rowP l (twP l) i=false:=by unfold rowP;rw [symsAt_eq ho,List.any_eq_false];intro y hy;rw [hs2 y hy];simp
 refine Zm (Zb (Zb (Ze (Zzd ?_))))
 refine Zp J (Zn (Za ?_))
 exact ⟨rfl,i+1,⟨by omega,take_not hs (rng ZO) hno⟩,by omega,cv,Lh⟩
 refine Zm (Zb (Zb (Ze (Za (Zh (Zi (oBuild Parts.nil J J Built.nil (Zsa ?_))))))))
 refine Zp J (Zn (Za (Zzw ?_)))
 obtain rfl:i=l.length:=by omega
 rw [List.take_of_length_le (by simp)] at hs
 exact ⟨(),trivial,by rw [fI_none hs];rfl,Lh⟩
theorem ref23_Check {B:Base}{w:World}(hS:St B [] w) (A:Option Addr) (cp:Nat) (l:List ApiObject) (hC:kApiObject.C B.e A l) (hsm:FewO l) :
 CW 70 #[.slice A l.length cp] w (Ret B (fun _:Unit=>True) (fun _=>.agg (rejL (chk23 l)).toArray) (fun _=>[])):=by
 have hln:=hsm.len
 refine ZX Tryz.func70 hS ?_
 refine Zh (Zi (oAlloc J ZP (fun b2=>?_)))
 refine Zn (Za (Zh (Zh (Zi (Zo J (Zv J J (Zy J J (Zo J (ZS (ZT 13) (fun h13=>?_) (fun h13=>?_))))))))))
 refine Zr J J J J (Zr J J J J (Zr J J J J (Zt J J (Zn (Za (wCondT J (Zh (Zi (oBuild (Parts.cons J (Parts.cons J (Parts.cons J Parts.nil))) J J (Built.cons (off:=0) (s:=1) J ZP J ZP (Built.cons (off:=1) (s:=1) J ZP J ZP (Built.cons (off:=2) (s:=1) J ZP J ZP Built.nil))) ?_)))))))))
 refine Zsa ?_
 refine Zn (Za (Zl (Zc (Zw (ZI ?_)))))
 exact ⟨(),trivial,by unfold chk23;rw [if_pos ZO];rfl,Lh⟩
 refine Zq J J (Zo J (Zq J J (Zv J J (Zq J J (Z1 J J (Zu J J (Zn (Za (wC (fun h17=>?_) (fun h17=>?_))))))))))
 refine Zh (Zi (oBuild (Parts.cons J (Parts.cons J (Parts.cons J Parts.nil))) J J (Built.cons (off:=0) (s:=1) J ZP J ZP (Built.cons (off:=1) (s:=1) J ZP J ZP (Built.cons (off:=2) (s:=1) J ZP J ZP Built.nil))) ?_))
 refine Zsa ?_
 refine Zn (Za (Zl (Zc (Zw (ZI ?_)))))
 exact ⟨(),trivial,by unfold chk23;rw [if_pos ZO];rfl,Lh⟩
 have hl0:¬ (l.length=0∨6<l.length):=by omega
 refine Zj (Za (Zh (Zh (Zi (Zo J ?_)))))
 (refine ZC0 rfl ZK (fun w hS=>frame hS ZQ (fun B' hB hS'=>ref23_Twice hS' A cp l (Kd.C_grow hB hC) hsm)) ?_;rintro ⟨⟩ -)
 refine Zo J (oExt J ZP ?_)
 refine oExt J ZP ?_
 refine oAlloc J ZP (fun b3=>?_)
 refine Zsa ?_
 refine Zp J (Zn (Za (Zh (Zi (Zo J (Zn (Za (wC (fun h24=>?_) (fun h24=>?_)))))))))
 have ht:0≤fI l (twP l):=by first | exact h24 | exact of_decide_eq_true h24
 rw [if_pos ht]
 refine Zh (Zi (Zla ?_))
 refine Zsa ?_
 refine Zn (Za (Zl (Zc (Zw (ZI ?_)))))
 have ht:0≤fI l (twP l):=by first | exact h24 | exact of_decide_eq_true h24
 exact ⟨(),trivial,by unfold chk23;rw [if_neg hl0,if_pos ht];rfl,Lh⟩
 have ht:¬ 0≤fI l (twP l):=by first | exact h24 | exact of_decide_eq_false h24
 refine Zj (Za (Zh (Zh (Zi (Zp J (Zn (Za (Zk (wLoop (ι:=Nat) (fun i=>[(0,.slice A l.length cp),(2,.pointer (some ⟨b2,0,none⟩)),(5,.int .i64 (i:Int))]) (fun i=>[blk b2 32 [.int .i64 0,.int .i64 0,.int .i64 0]]) (fun i=>i≤l.length∧∀ j ∈ (List.range l.length).take i,rowP l (unP l) j=false) (fun i=>l.length-i) 0 ?_ cv Lh ?_)))))))))
 exact ⟨Nat.zero_le _,by simp⟩
 rintro i ⟨hi,hs⟩
 try dsimp only
 refine Zh (Zh (Zi (Zo J (Zo J (Zv J J (Zx J J (Zn (Za (wC (fun h29=>?_) (fun h29=>?_))))))))))
 obtain ⟨o,ho⟩:∃ o,l[i]?=some o:=⟨_,List.getElem?_eq_getElem ZO⟩
 have hil:i<l.length:=by omega
 have hol:=hsm.syms o (List.mem_of_getElem? ho)
 obtain ⟨e1,cs1,hE⟩:=hC.elm ho
 obtain ⟨B0,d0,B1,d1,B2,d2,rfl,m0,q0,m1,q1,m2,q2⟩:=kApiObject_open hE.K
 refine Zj (Za (Zh (Zk (Zh (Zi (Zp J (Zn (Za (Zk (wLoop (ι:=Nat) (fun k=>[(0,.slice A l.length cp),(2,.pointer (some ⟨b2,0,none⟩)),(5,.int .i64 (i:Int)),(6,.int .i64 (k:Int))]) (fun k=>[blk b2 32 [.int .i64 0,.int .i64 0,.int .i64 0]]) (fun k=>k≤o.fSymbols.length∧∀ j ∈ (List.range o.fSymbols.length).take k,unP l i j=false) (fun k=>o.fSymbols.length-k) 0 ?_ cv Lh ?_))))))))))
 exact ⟨Nat.zero_le _,by simp⟩
 rintro k ⟨hk,hs2⟩
 try dsimp only
 refine Zh (Zh (Zi (Zo J (Zo J (Zo J (oIdxE J J (hE) ZO J J ?_))))))
 have hc35:=(hE).cell
 refine ZF (ZT 0) (ZT 0) ?_
 refine Zlx hc35 ?_
 refine Zv J J (Zx J J (Zn (Za (wC (fun h39=>?_) (fun h39=>?_)))))
 have hkl:k<o.fSymbols.length:=by omega
 refine Zj (Za (Zh (Zk (Zzv ?_))))
 (refine ZC0 rfl ZK (fun w hS=>frame hS ZQ (fun B' hB hS'=>ref23_Bound hS' A cp l (Kd.C_grow hB hC) hsm (i:Int) (k:Int))) ?_;rintro ⟨⟩ -)
 refine Zo J (oExt J ZP ?_)
 refine oExt J ZP ?_
 refine oExt J ZP ?_
 refine Zp J (Zp J (Zp J (Zn (Za (Zh (Zi (Zo J (Z0 J J (Zn (Za (wC (fun h51=>?_) (fun h51=>?_))))))))))))
 refine Zh (Zi (Zo J (Zo J (Zo J (oBuild (Parts.cons J (Parts.cons J (Parts.cons J Parts.nil))) J J (Built.cons (off:=0) (s:=1) J ZP J ZP (Built.cons (off:=1) (s:=1) J ZP J ZP (Built.cons (off:=2) (s:=1) J ZP J ZP Built.nil))) ?_)))))
 refine Zsa ?_
 refine Zn (Za (Zl (Zf (Zc (Zc (Zf (Zf (Zc (Zc (Zf (Zc (Zw (ZI ?_)))))))))))))
 obtain ⟨h1,h2⟩:=fI_stop hs ho hs2 hkl (decide_eq_true h51)
 exact ⟨(),trivial,by unfold chk23;rw [if_neg hl0,if_neg ht,h1,h2,if_pos ZO];rfl,Lh⟩
 refine Zj (Zzd ?_)
 refine Zp J (Zn (Za ?_))
 exact ⟨rfl,k+1,⟨by omega,take_not hs2 (rng hkl) (decide_eq_false h51)⟩,by omega,cv,Lh⟩
 obtain rfl:k=o.fSymbols.length:=by omega
 rw [List.take_of_length_le (by simp)] at hs2
 have hno:rowP l (unP l) i=false:=by unfold rowP;rw [symsAt_eq ho,List.any_eq_false];intro y hy;rw [hs2 y hy];simp
 refine Zm (Zb (Zb (Ze (Zzd ?_))))
 refine Zp J (Zn (Za ?_))
 exact ⟨rfl,i+1,⟨by omega,take_not hs (rng ZO) hno⟩,by omega,cv,Lh⟩
 refine Zm (Zb (Zb (Ze (Za (Zh (Zi (oBuild Parts.nil J J Built.nil (Zsa ?_))))))))
 refine Zn (Za (Zl (Zw (ZI ?_))))
 obtain rfl:i=l.length:=by omega
 rw [List.take_of_length_le (by simp)] at hs
 exact ⟨(),trivial,by unfold chk23;rw [if_neg hl0,if_neg ht,fI_none hs];rfl,Lh⟩
theorem idxI_cons {α:Type}(p:α→Bool) (x:α) (t:List α):idxI p (x :: t)=if p x=true then 0 else if 0≤idxI p t then idxI p t+1 else -1:=by
 by_cases h:p x=true
 · rw [if_pos h]
   exact idxI_stop (i:=0) (by simp) rfl h
 · rw [if_neg h]
   by_cases h1:0≤idxI p t
   · rw [if_pos h1]
     obtain ⟨k,y,hk,hy,hp⟩:=idxI_at h1
     have hb:∀ z ∈ (x :: t).take (k+1),p z=false:=by
      intro z hz
      rw [List.take_succ_cons] at hz
      rcases List.mem_cons.1 hz with e | hz
      · rw [e];simpa using h
      · obtain ⟨j,hj⟩:=List.mem_iff_getElem?.1 hz
        have hjk:j<k:=by
         have:=(List.getElem?_eq_some_iff.1 hj).1
         rw [List.length_take] at this;omega
        rw [List.getElem?_take,if_pos hjk] at hj
        cases hpz:p z with
        | false=>rfl
        | true=>
         unfold idxI at hk
         rw [if_pos (List.any_eq_true.2 ⟨y,List.mem_of_getElem? hy,hp⟩)] at hk
         have hjl:=(List.getElem?_eq_some_iff.1 hj).1
         have h2:=List.not_of_lt_findIdx (p:=p) (xs:=t) (i:=j) ZO
         rw [(List.getElem?_eq_some_iff.1 hj).2,hpz] at h2
         simp at h2
     have:=idxI_stop (l:=x :: t) (i:=k+1) hb (by rw [List.getElem?_cons_succ];exact hy) hp
     rw [this,hk];simp
   · rw [if_neg h1]
     refine idxI_none (fun y hy=>?_)
     rcases List.mem_cons.1 hy with e | hy
     · rw [e];simpa using h
     · cases hp:p y with
       | false=>rfl
       | true=>exact absurd (idxI_iff.2 (List.any_eq_true.2 ⟨y,hy,hp⟩)) h1
theorem idxI_ge {α:Type}(p:α→Bool) (l:List α):0≤idxI p l∨idxI p l = -1:=by
 by_cases h:l.any p=true
 · exact .inl (idxI_iff.2 h)
 · right;unfold idxI;rw [if_neg h]
def offI {α:Type}(p:α→Bool) (l:List α) (k:Nat):Int:=if 0≤idxI p (l.drop k) then (k:Int)+idxI p (l.drop k) else -1
theorem offI_end {α:Type}(p:α→Bool) (l:List α):offI p l l.length = -1:=by
 unfold offI;rw [List.drop_length];rfl
theorem offI_zero {α:Type}(p:α→Bool) (l:List α):offI p l 0=idxI p l:=by
 unfold offI
 rw [List.drop_zero]
 rcases idxI_ge p l with h | h
 · rw [if_pos h];omega
 · rw [if_neg ZO,h]
theorem offI_step {α:Type}(p:α→Bool) {l:List α}{k:Nat}{x:α}(hx:l[k]?=some x):offI p l k=if p x=true then (k:Int) else offI p l (k+1):=by
 obtain ⟨hk,rfl⟩:=List.getElem?_eq_some_iff.1 hx
 have e:l.drop k=l[k] :: l.drop (k+1):=List.drop_eq_getElem_cons hk
 unfold offI
 rw [e,idxI_cons]
 by_cases h:p l[k]=true
 · rw [if_pos h,if_pos ZO,if_pos h];omega
 · rw [if_neg h,if_neg h]
   by_cases h1:0≤idxI p (l.drop (k+1))
   · rw [if_pos h1,if_pos ZO,if_pos h1];push_cast;omega
   · rw [if_neg h1,if_neg ZO,if_neg h1]
def atP (i:Nat) (x:ApiReloc):Bool:=decide (x.fAt=(i:Int))
def marksL (l:List ApiReloc) (n:Nat):List Int:=(List.range n).map fun i=>idxI (atP i) l
theorem marksL_len (l:List ApiReloc) (n:Nat):(marksL l n).length=n:=by simp [marksL]
theorem marksL_succ (l:List ApiReloc) (n:Nat):marksL l (n+1)=marksL l n++[idxI (atP n) l]:=by
 unfold marksL;rw [List.range_succ,List.map_append];rfl
theorem ref15_Marks {B:Base}{w:World}(hS:St B [] w) (A:Option Addr) (cp:Nat) (l:List ApiReloc) (hC:kApiReloc.C B.e A l) (hl:l.length≤100000) (n:Nat) (hn:n≤4000) (W0:World) :
 CW 189 #[.slice A l.length cp,.int .i64 (n:Int)] w (Ret B (fun _:Option Addr×Nat=>True) (fun z=>.slice z.1 n z.2) (fun z=>[row (Kd.int .i64) W0 3 (.slice z.1 n z.2) (marksL l n)])):=by
 refine ZX Tryz.func189 hS ?_
 refine Zh (Zi (Zp J (Zn (Za (Zh (Zi (Zp J (Zn (Za (Zh (Zh (Zi (Zp J (Zn (Za (Zk (wLoop (ι:=Nat×Option Addr×Nat) (fun z=>[(0,.slice A l.length cp),(1,.int .i64 (n:Int)),(5,.slice z.2.1 z.1 z.2.2),(6,.int .i64 (z.1:Int))]) (fun z=>[row (Kd.int .i64) W0 3 (.slice z.2.1 z.1 z.2.2) (marksL l z.1)]) (fun z=>z.1≤n) (fun z=>n-z.1) (0,none,0) ?_ cv (Leads.nilrow.trans Lh) ?_)))))))))))))))))
 exact Nat.zero_le _
 rintro ⟨i,A2,c2⟩ hi
 dsimp only at hi
 have hml:=marksL_len l i
 try dsimp only
 refine Zh (Zh (Zi (Zo J (Zo J (Zx J J (Zo J (ZS (ZT 12) (fun h12=>?_) (fun h12=>?_))))))))
 refine Zq J J (Zo J (Zq J J (Zx J J (Zt J J (Zn (Za (wC (fun h15=>?_) (fun h15=>?_))))))))
 refine Zj (Za (Zh (Zk (Zh (Zi (Zp J (Zn (Za (Zh (Zh (Zi (Zo J (Zv J J (oSub J J ZO ?_))))))))))))))
 refine ZS0 (t:=7) (v':=.int .i64 (offI (atP i) l l.length)) rfl (by rw [offI_end]) ?_
 refine Zp J (Zn (Za (Zk (wLoop (ι:=Nat) (fun k=>[(0,.slice A l.length cp),(1,.int .i64 (n:Int)),(5,.slice A2 i c2),(6,.int .i64 (i:Int)),(7,.int .i64 (offI (atP i) l k)),(8,.int .i64 ((k:Int)-1))]) (fun k=>[row (Kd.int .i64) W0 3 (.slice A2 i c2) (marksL l i)]) (fun k=>k≤l.length) (fun k=>k) l.length ?_ cv Lh ?_))))
 exact Nat.le_refl _
 rintro k hk
 try dsimp only
 refine Zh (Zh (Zi (Zo J (Z2 J J (Zn (Za (wC (fun h22=>?_) (fun h22=>?_))))))))
 obtain ⟨m,rfl⟩:∃ m,k=m+1:=⟨k-1,by omega⟩
 obtain ⟨x,hx⟩:∃ x,l[m]?=some x:=⟨_,List.getElem?_eq_getElem ZO⟩
 obtain ⟨e1,cs1,hE⟩:=hC.elm hx
 obtain rfl:=kApiReloc_open hE.K
 refine Zj (Za (Zh (Zk (Zzu ?_))))
 refine ZS0 (t:=26) (v':=.int .i64 ((m:Nat):Int)) J (by congr 1;omega) ?_
 refine oIdxE J J (hE) ZO J J ?_
 have hc27:=(hE).cell
 refine ZF (ZT 0) (ZT 0) ?_
 refine Zlx hc27 ?_
 refine Zo J (Zy J J (Zn (Za (wC (fun h31=>?_) (fun h31=>?_)))))
 refine Zi (Zo J ?_)
 refine ZS0 (t:=32) (v':=.int .i64 (offI (atP i) l m)) rfl (by rw [offI_step (atP i) hx,if_pos (by simpa [atP] using h31)];congr 1;omega) ?_
 refine Zp J (Zn (Zd (Za (Zi (Zo J (oSub J J ZO ?_))))))
 refine ZS0 (t:=24) (v':=.int .i64 ((m:Int)-1)) J (by congr 1;omega) ?_
 refine Zp J (Zn (Za ?_))
 exact ⟨rfl,m,by omega,by omega,cv,Lh⟩
 refine Zj (Zd (Za (Zi (Zo J (oSub J J ZO ?_)))))
 refine ZS0 (t:=24) (v':=.int .i64 ((m:Int)-1)) J (by congr 1;omega) ?_
 refine Zp J (Zn (Za ?_))
 rw [show offI (atP i) l (m+1)=offI (atP i) l m by rw [offI_step (atP i) hx,if_neg (by simpa [atP] using h31)]]
 exact ⟨rfl,m,by omega,by omega,cv,Lh⟩
 obtain rfl:k=0:=by omega
 rw [offI_zero]
 refine Zm (Zb (Zb (Ze (Za (Zi (Zo J (Zo J (oBuildSlice1 J J J J J ZP J (fun b35=>?_)))))))))
 refine oApp1 (idxI (atP i) l) J J J J ZP ZP J ZO J (fun g36 cp36=>?_)
 rw [← marksL_succ,marksL_len l i]
 refine Zp J (Zn (Zzd ?_))
 refine Zp J (Zn (Za ?_))
 exact ⟨rfl,(i+1,some ⟨g36,0,none⟩,cp36),by show i+1≤_;omega,by show n-(i+1)<n-i;omega,cv,Lh⟩
 omega
 refine Zr J J J J (Zr J J J J (Zu J J (Zn (Za (wCondF J (Zm (Zzf ?_)))))))
 obtain rfl:i=n:=by omega
 exact ⟨(A2,c2),trivial,rfl,Lh⟩
theorem ref15_Few {B:Base}{w:World}(hS:St B [] w) (d:ApiData) (dc:List Value) (hd:kApiData.K B.e d dc) :
 CW 120 #[.agg dc.toArray] w (Ret B (fun r:Bool=>r=true→d.fWords.length≤100∧d.fRelocs.length≤100) (fun r=>.bool r) (fun _=>[])):=by
 obtain ⟨A0,c0,A1,c1,rfl,l0,g0,l1,g1⟩:=kApiData_open hd
 refine ZX Tryz.func120 hS ?_
 refine Zh (Zi (oBox J ZP (fun b1=>?_)))
 refine Zp J (Zn (Za (Zh (Zi (Zz (n:=1) (m:=1) J J J (Zld ?_))))))
 refine Zv J J (oLeq J J (Zo J (ZS (ZT 7) (fun h7=>?_) (fun h7=>?_))))
 refine Zq J J (Zz (n:=2) (m:=2) J J J (Zzg ?_))
 refine Zq J J (Zv J J (Zq J J (oLeq J J (Zt J J (Zza ?_)))))
 exact ⟨_,(by intro h;first | focus (simp at h;done) | (have:=of_decide_eq_true h;constructor <;> omega)),rfl,Lh⟩
 refine Zr J J J J (Zzp ?_)
 exact ⟨_,(by intro h;first | focus (simp at h;done) | (have:=of_decide_eq_true h;constructor <;> omega)),rfl,Lh⟩
def mix {α:Type}(a b:List α) (i:Nat):List α:=a.take i++b.drop i
theorem mix_len {α:Type}{a b:List α}(h:a.length=b.length) (i:Nat):(mix a b i).length=b.length:=by
 unfold mix;rw [List.length_append,List.length_take,List.length_drop];omega
theorem mix_get {α:Type}{a b:List α}(h:a.length=b.length) (i j:Nat):(mix a b i)[j]?=if j<i then a[j]? else b[j]?:=by
 unfold mix
 by_cases hj:j<i
 · rw [if_pos hj]
   by_cases hl:j<a.length
   · rw [List.getElem?_append_left (by rw [List.length_take];omega),List.getElem?_take,if_pos hj]
   · rw [List.getElem?_eq_none (by rw [List.length_append,List.length_take,List.length_drop];omega),List.getElem?_eq_none ZO]
 · rw [if_neg hj]
   by_cases hl:i≤a.length
   · rw [List.getElem?_append_right (by rw [List.length_take];omega),List.length_take,Nat.min_eq_left hl,List.getElem?_drop]
     congr 1;omega
   · rw [List.getElem?_eq_none (by rw [List.length_append,List.length_take,List.length_drop];omega),List.getElem?_eq_none ZO]
theorem mix_set {α:Type}{a b:List α}(h:a.length=b.length) {i:Nat}{x:α}(hx:a[i]?=some x):(mix a b i).set i x=mix a b (i+1):=by
 have hi:=(List.getElem?_eq_some_iff.1 hx).1
 apply List.ext_getElem?
 intro j
 rw [List.getElem?_set,mix_get h,mix_get h,mix_len h]
 by_cases e:i=j
 · subst e;rw [if_pos rfl,if_pos ZO,if_pos ZO,hx]
 · rw [if_neg e]
   by_cases h1:j<i
   · rw [if_pos h1,if_pos ZO]
   · rw [if_neg h1,if_neg ZO]
theorem mix_same {α:Type}{a b:List α}(h:a.length=b.length) {i:Nat}(hx:a[i]?=b[i]?):mix a b (i+1)=mix a b i:=by
 apply List.ext_getElem?
 intro j
 rw [mix_get h,mix_get h]
 by_cases e:i=j
 · subst e;rw [if_pos ZO,if_neg ZO,hx]
 · by_cases h1:j<i
   · rw [if_pos h1,if_pos ZO]
   · rw [if_neg h1,if_neg ZO]
theorem mix_all {α:Type}{a b:List α}(h:a.length=b.length):mix a b b.length=a:=by
 unfold mix;rw [List.drop_length,List.append_nil,← h,List.take_length]
theorem mix_zero {α:Type}(a b:List α):mix a b 0=b:=by unfold mix;simp
def refD (d:ApiData) (m:Int):Int:=if 0≤m then (d.fRelocs.getD m.toNat default).fSym else -1
def refsD (d:ApiData):List Int:=(marksL d.fRelocs d.fWords.length).map (refD d)
theorem refsD_len (d:ApiData):(refsD d).length=(marksL d.fRelocs d.fWords.length).length:=by unfold refsD;rw [List.length_map]
theorem marksL_at {l:List ApiReloc}{n i:Nat}{m:Int}(h:(marksL l n)[i]?=some m):m=idxI (atP i) l:=by
 unfold marksL at h
 rw [List.getElem?_map] at h
 obtain ⟨j,hj,rfl⟩:=Option.map_eq_some_iff.1 h
 obtain ⟨hj1,rfl⟩:=List.getElem?_eq_some_iff.1 hj
 simp
theorem refsD_T {d:ApiData}{n i k:Nat}{x:ApiReloc}(hn:n=d.fWords.length) (h:(marksL d.fRelocs n)[i]?=some (k:Int)) (hx:d.fRelocs[k]?=some x):(refsD d)[i]?=some x.fSym:=by
 subst hn
 unfold refsD
 rw [List.getElem?_map,h]
 show some (refD d (k:Int))=_
 unfold refD
 rw [if_pos ZO,Int.toNat_natCast,List.getD_eq_getElem?_getD,hx];rfl
theorem refsD_F {d:ApiData}{i:Nat}{m:Int}(h:(marksL d.fRelocs d.fWords.length)[i]?=some m) (hm:¬ 0≤m):(refsD d)[i]?=(marksL d.fRelocs d.fWords.length)[i]?:=by
 unfold refsD
 rw [List.getElem?_map,h]
 show some (refD d m)=_
 unfold refD
 rw [if_neg hm]
 have h1:=marksL_at h
 rcases idxI_ge (atP i) d.fRelocs with h2 | h2
 · rw [← h1] at h2;exact absurd h2 hm
 · rw [h1,h2]
theorem ref15_Refs {B:Base}{w:World}(hS:St B [] w) (d:ApiData) (dc:List Value) (hd:kApiData.K B.e d dc) (h1:d.fWords.length≤4000) (h2:d.fRelocs.length≤100000) (W0:World) :
 CW 138 #[.agg dc.toArray] w (Ret B (fun _:Option Addr×Nat=>True) (fun z=>.slice z.1 d.fWords.length z.2) (fun z=>[row (Kd.int .i64) W0 3 (.slice z.1 d.fWords.length z.2) (refsD d)])):=by
 obtain ⟨A0,c0,A1,c1,rfl,l0,g0,l1,g1⟩:=kApiData_open hd
 have hml:=marksL_len d.fRelocs d.fWords.length
 have hrl:=refsD_len d
 refine ZX Tryz.func138 hS ?_
 refine Zh (Zi (oBox J ZP (fun b1=>?_)))
 refine Zp J (Zn (Za (Zh (Zi (Zz (n:=2) (m:=2) J J J (Zld ?_))))))
 refine Zz (n:=1) (m:=1) J J J (Zld ?_)
 refine Zv J J ?_
 (refine ZC0 rfl ZK (fun w hS=>frame hS ZQ (fun B' hB hS'=>ref15_Marks hS' A1 c1 d.fRelocs (Kd.C_grow hB g1) h2 d.fWords.length h1 W0)) ?_;rintro ⟨A10,c10⟩ -)
 refine Zp J (Zn (Za (Zh (Zh (Zi (Zp J (Zn (Za (Zk ?_)))))))))
 refine wLoop (ι:=Nat) (fun i=>[(1,.pointer (some ⟨b1,0,none⟩)),(3,.slice A10 d.fWords.length c10),(4,.int .i64 (i:Int))]) (fun i=>[blk b1 96 [.int .i64 d.fKind,.slice A0 d.fWords.length c0,.slice A1 d.fRelocs.length c1],row (Kd.int .i64) W0 3 (.slice A10 d.fWords.length c10) (mix (refsD d) (marksL d.fRelocs d.fWords.length) i)]) (fun i=>i≤d.fWords.length) (fun i=>d.fWords.length-i) 0 ?_ cv (by rw [mix_zero];exact (Leads.has ZQ)) ?_
 exact Nat.zero_le _
 rintro i hi
 have hxl:(mix (refsD d) (marksL d.fRelocs d.fWords.length) i).length=d.fWords.length:=(mix_len hrl i).trans hml
 try dsimp only
 refine Zh (Zh (Zi (Zo J (Zo J (Zv J J (Zx J J (Zn (Za (wC (fun h14=>?_) (fun h14=>?_))))))))))
 refine Zj (Za (Zh (Zk (Zh (Zi (Zo J (Zo J (ZR J J ZP ZO J J (fun g19 hg19=>?_)))))))))
 first | subst hg19 | (injection hg19 with hg19;injection hg19 with hg19;subst hg19)
 refine ZR1 J ZP ZO J (fun u20 hu20=>?_)
 rw [mix_get hrl,if_neg (Nat.lt_irrefl i)] at hu20
 refine Z2 J J (Zn (Za (wC (fun h21=>?_) (fun h21=>?_))))
 obtain ⟨k,x,hk,hx,hp⟩:=idxI_at (show 0≤idxI (atP i) d.fRelocs by rw [← marksL_at hu20];exact h21)
 obtain rfl:u20=(k:Int):=(marksL_at hu20).trans hk
 have hkl:=(List.getElem?_eq_some_iff.1 hx).1
 obtain ⟨e1,cs1,hE⟩:=g1.elm hx
 obtain rfl:=kApiReloc_open hE.K
 refine wDraw2 J J [0,1,4,5] [2,3,6,7,8,9,10,11] 12 ZK J J J (fun w0=>?_)
 refine Zz (n:=2) (m:=2) J J J (Zld ?_)
 refine ZR J J ZP ZO J J (fun g28 hg28=>?_)
 first | subst hg28 | (injection hg28 with hg28;injection hg28 with hg28;subst hg28)
 refine ZR1 J ZP ZO J (fun u29 hu29=>?_)
 rw [mix_get hrl,if_neg (Nat.lt_irrefl i),hu20] at hu29
 obtain rfl:=Option.some.inj hu29
 refine oIdxE J J (hE) ZO J J ?_
 have hc30:=(hE).cell
 refine ZF (ZT 1) (ZT 1) ?_
 refine Zlx hc30 ?_
 refine ZR J J ZP ZO J J (fun g33 hg33=>?_)
 first | subst hg33 | (injection hg33 with hg33;injection hg33 with hg33;subst hg33)
 refine oHead (oStR (enc:=Value.int .i64) x.fSym J J J J ZP ZO ?_)
 rw [mix_set hrl (refsD_T rfl hu20 hx)]
 refine oNilT (Zzd ?_)
 refine Zp J (Zn (Za ?_))
 exact ⟨rfl,i+1,by omega,by omega,cv,Lh⟩
 refine Zj (Zzd ?_)
 refine Zp J (Zn (Za ?_))
 exact ⟨rfl,i+1,by omega,by omega,cv,by rw [mix_same hrl (refsD_F hu20 h21)];exact (Leads.has ZQ)⟩
 obtain rfl:i=d.fWords.length:=by omega
 have hma:mix (refsD d) (marksL d.fRelocs d.fWords.length) d.fWords.length=refsD d:=by have:=mix_all hrl;rw [hml] at this;exact this
 rw [hma]
 refine Zm (Zzf ?_)
 exact ⟨(_,c10),trivial,rfl,Lh⟩
def dP (code:List ApiInstr) (k:Nat):Bool:=decide ((code.getD k default).fOp=21)
def dfr (code:List ApiInstr) (n:Nat):List Int:=((List.range n).filter (dP code)).map fun k=>((k:Nat):Int)
theorem dfr_succ (code:List ApiInstr) (n:Nat):dfr code (n+1)=dfr code n++(if dP code n=true then [(n:Int)] else []):=by
 unfold dfr
 rw [List.range_succ,List.filter_append,List.map_append]
 congr 1
 simp only [List.filter_cons,List.filter_nil]
 split <;> rfl
theorem dfr_len (code:List ApiInstr) (n:Nat):(dfr code n).length≤n:=by
 unfold dfr
 rw [List.length_map]
 exact Nat.le_trans (List.length_filter_le _ _) (by simp)
theorem dP_at {code:List ApiInstr}{k:Nat}{x:ApiInstr}(h:code[k]?=some x):dP code k=decide (x.fOp=21):=by
 unfold dP;rw [List.getD_eq_getElem?_getD,h];rfl
theorem ref18_Marks {B:Base}{w:World}(hS:St B [] w) (A:Option Addr) (cp:Nat) (code:List ApiInstr) (hC:kApiInstr.C B.e A code) (hl:code.length≤100000) (W0:World) :
 CW 218 #[.slice A code.length cp] w (Ret B (fun _:Option Addr×Nat=>True) (fun z=>.slice z.1 (dfr code code.length).length z.2) (fun z=>[row (Kd.int .i64) W0 3 (.slice z.1 (dfr code code.length).length z.2) (dfr code code.length)])):=by
 refine ZX Tryz.func218 hS ?_
 refine Zh (Zi (Zp J (Zn (Za (Zh (Zi (Zp J (Zn (Za (Zh (Zh (Zi (Zp J (Zn (Za (Zk (wLoop (ι:=Nat×Option Addr×Nat) (fun z=>[(0,.slice A code.length cp),(3,.slice z.2.1 (dfr code z.1).length z.2.2),(4,.int .i64 (z.1:Int))]) (fun z=>[row (Kd.int .i64) W0 3 (.slice z.2.1 (dfr code z.1).length z.2.2) (dfr code z.1)]) (fun z=>z.1≤code.length) (fun z=>code.length-z.1) (0,none,0) ?_ cv (Leads.nilrow.trans Lh) ?_)))))))))))))))))
 exact Nat.zero_le _
 rintro ⟨i,A2,c2⟩ hi
 dsimp only at hi
 have hle:=dfr_len code i
 try dsimp only
 refine Zh (Zh (Zi (Zo J (Zo J (Zv J J (Zx J J (Zn (Za (wC (fun h8=>?_) (fun h8=>?_))))))))))
 obtain ⟨x,hx⟩:∃ x,code[i]?=some x:=⟨_,List.getElem?_eq_getElem ZO⟩
 obtain ⟨e1,cs1,hE⟩:=hC.elm hx
 obtain rfl:=kApiInstr_open hE.K
 have hdp:=dP_at hx
 refine Zj (Za (Zh (Zk (Zh (Zi (Zo J (Zo J (oIdxE J J (hE) ZO J J ?_))))))))
 have hc13:=(hE).cell
 refine ZF (ZT 0) (ZT 0) ?_
 refine Zlx hc13 ?_
 refine Zy J J (Zn (Za (wC (fun h16=>?_) (fun h16=>?_))))
 refine Zi (Zo J (Zo J (oBuildSlice1 J J J J J ZP J (fun b19=>?_))))
 refine oApp1 (i:Int) J J J J ZP ZP J ZO J (fun g20 cp20=>?_)
 have hft:dfr code (i+1)=dfr code i++[(i:Int)]:=by rw [dfr_succ,hdp,if_pos (by simpa using h16)]
 rw [show (dfr code i).length+1=(dfr code (i+1)).length by rw [hft,List.length_append];rfl,← hft]
 refine Zp J (Zn (Zzd ?_))
 refine Zp J (Zn (Za ?_))
 exact ⟨rfl,(i+1,some ⟨g20,0,none⟩,cp20),by show i+1≤_;omega,by show code.length-(i+1)<code.length-i;omega,cv,Lh⟩
 refine Zj (Zzd ?_)
 refine Zp J (Zn (Za ?_))
 have hft:dfr code (i+1)=dfr code i:=by rw [dfr_succ,hdp,if_neg (by simpa using h16),List.append_nil]
 exact ⟨rfl,(i+1,A2,c2),by show i+1≤_;omega,by show code.length-(i+1)<code.length-i;omega,by dsimp only;rw [hft];exact cv,by dsimp only;rw [hft];exact (Leads.has ZQ)⟩
 obtain rfl:i=code.length:=by omega
 refine Zm (Zzf ?_)
 exact ⟨(A2,c2),trivial,rfl,Lh⟩
def rg (code:List ApiInstr):List (List Int):=(List.range code.length).map fun k=>rnext (code.getD k default) k
theorem rg_len (code:List ApiInstr):(rg code).length=code.length:=by simp [rg]
theorem rg_at {code:List ApiInstr}{k:Nat}{x:ApiInstr}(h:code[k]?=some x):(rg code)[k]?=some (rnext x k):=by
 obtain ⟨hk,rfl⟩:=List.getElem?_eq_some_iff.1 h
 unfold rg
 rw [List.getElem?_map,List.getElem?_range hk]
 show some (rnext (code.getD k default) k)=_
 rw [List.getD_eq_getElem?_getD,h];rfl
theorem take_atW {α:Type}{l:List α}{k:Nat}{x:α}(h:l[k]?=some x):l.take k++[x]=l.take (k+1):=by
 rw [List.take_add_one,h];rfl
theorem ref14_Graph {B:Base}{w:World}(hS:St B [] w) (A:Option Addr) (cp:Nat) (code:List ApiInstr) (hC:kApiInstr.C B.e A code) (hl0:code.length≤100000) (W0:World) :
 CW 262 #[.slice A code.length cp] w (Ret B (fun z:Option Addr×Nat×List Hdr=>z.2.2.length=code.length) (fun z=>.slice z.1 code.length z.2.1) (fun z=>[row kHdr W0 42 (.slice z.1 code.length z.2.1) z.2.2,bun (rws (Kd.int .i64) W0 3 z.2.2 (rg code))])):=by
 refine ZX Tryz.func262 hS ?_
 refine Zh (Zi (Zp J (Zn (Za (Zh (Zi (Zp J (Zn (Za (Zh (Zh (Zi (Zp J (Zn (Za (Zk (wLoop (ι:=Nat×List Hdr×Option Addr×Nat) (fun z=>[(0,.slice A code.length cp),(3,.slice z.2.2.1 z.1 z.2.2.2),(4,.int .i64 (z.1:Int))]) (fun z=>[row kHdr W0 42 (.slice z.2.2.1 z.1 z.2.2.2) z.2.1,bun (rws (Kd.int .i64) W0 3 z.2.1 ((rg code).take z.1))]) (fun z=>z.1≤code.length∧z.2.1.length=z.1) (fun z=>code.length-z.1) (0,[],none,0) ?_ cv (Leads.nilrow.trans (bun_nil.trans Lh)) ?_)))))))))))))))))
 exact ⟨Nat.zero_le _,rfl⟩
 rintro ⟨a,hs,A5,c5⟩ ⟨ha,hl⟩
 dsimp only at ha hl
 have hxl:((rg code).take a).length=a:=by rw [List.length_take,rg_len];omega
 try dsimp only
 refine Zh (Zh (Zi (Zo J (Zo J (Zv J J (Zx J J (Zn (Za (wC (fun h8=>?_) (fun h8=>?_))))))))))
 obtain ⟨x,hx⟩:∃ x,code[a]?=some x:=⟨_,List.getElem?_eq_getElem ZO⟩
 refine Zj (Za (Zh (Zk (Zi (Zo J (Zo J (Zo J ?_)))))))
 (refine ZC0 rfl ZK (fun w hS=>frame hS ZQ (fun B' hB hS'=>ref14_Next hS' A cp code (Kd.C_grow hB hC) a x hx W0)) ?_;rintro ⟨A14,c14⟩ -)
 refine oBuildSlice1 J J J J J ZP J (fun b15=>?_)
 refine oApp1 (kd:=kHdr) ((A14,(rnext x a).length,c14):Hdr) J J J J ZP ZP J ZO J (fun g16 cp16=>?_)
 refine oSnoc (kd:=Kd.int .i64) (W:=W0) (ei:=3) (u:=(A14,(rnext x a).length,c14)) (l:=rnext x a) (hs:=hs) (xss:=(rg code).take a) ZP ZP ZO ?_
 rw [take_atW (rg_at hx),hl]
 refine Zp J (Zn (Zzd ?_))
 refine Zp J (Zn (Za ?_))
 exact ⟨rfl,(a+1,hs++[(A14,(rnext x a).length,c14)],some ⟨g16,0,none⟩,cp16),⟨by show a+1≤_;omega,by show (hs++_).length=a+1;rw [List.length_append,hl];rfl⟩,by show code.length-(a+1)<code.length-a;omega,cv,Lh⟩
 obtain rfl:a=code.length:=by omega
 rw [show (rg code).take code.length=rg code by rw [← rg_len code,List.take_length]]
 refine Zm (Zzf ?_)
 exact ⟨(A5,c5,hs),hl,rfl,Lh⟩
open Go.Proofs.YtogaiijhicfoaaaGreatG
def fromL (code:List ApiInstr) (marks:List Nat):List Int:=(marks.map fun k=>rnext (code.getD k default) k).flatten
def dfrN (code:List ApiInstr):List Nat:=(List.range code.length).filter (dP code)
theorem dfr_N (code:List ApiInstr):dfr code code.length=(dfrN code).map fun k=>((k:Nat):Int):=rfl
theorem dfrN_lt {code:List ApiInstr}{k:Nat}(h:k ∈ dfrN code):k<code.length:=List.mem_range.1 (List.mem_filter.1 h).1
theorem rnext_len (x:ApiInstr) (k:Nat):(rnext x k).length≤2:=by
 unfold rnext
 repeat' split
 all_goals simp
theorem fromL_len (code:List ApiInstr):∀ marks:List Nat,(fromL code marks).length≤2 * marks.length
 | []=>by simp [fromL]
 | k :: marks=>by
  have h:=fromL_len code marks
  have h2:=rnext_len (code.getD k default) k
  unfold fromL at *
  rw [List.map_cons,List.flatten_cons,List.length_append,List.length_cons]
  omega
theorem fromL_snoc (code:List ApiInstr) (marks:List Nat) (k:Nat):fromL code (marks++[k])=fromL code marks++rnext (code.getD k default) k:=by
 unfold fromL;simp
theorem rg_small {code:List ApiInstr}(h:code.length≤1000):SmallG (rg code):=by
 refine ⟨by rw [rg_len];exact h,fun l hl=>?_⟩
 unfold rg at hl
 obtain ⟨k,_,rfl⟩:=List.mem_map.1 hl
 exact Nat.le_trans (rnext_len _ _) (by decide)
theorem ref14_After {B:Base}{w:World}(hS:St B [] w) (A:Option Addr) (cp:Nat) (code:List ApiInstr) (hC:kApiInstr.C B.e A code) (hl:code.length≤1000) (A1:Option Addr) (cp1:Nat) (ks:List Nat) (hC1:(Kd.int .i64).C B.e A1 (ks.map fun k=>((k:Nat):Int))) (hk:∀ k ∈ ks,k<code.length) (hn:ks.length≤1000) (W0:World) :
 CW 217 #[.slice A code.length cp,.slice A1 ks.length cp1] w
  (Ret B (fun z:Option Addr×Nat×List Bool=>z.2.2.length=code.length∧∀ i:Nat,z.2.2[i]?=some true↔RP (rg code) (fromL code ks) (i:Int)) (fun z=>.slice z.1 code.length z.2.1) (fun z=>[row Kd.bool W0 4 (.slice z.1 code.length z.2.1) z.2.2])):=by
 refine ZX Tryz.func217 hS ?_
 refine Zh (Zi (Zp J (Zn (Za (Zh (Zi (Zp J (Zn (Za (Zh (Zh (Zi (Zp J (Zn (Za (Zk (wLoop (ι:=Nat×Option Addr×Nat) (fun z=>[(0,.slice A code.length cp),(1,.slice A1 ks.length cp1),(5,.slice z.2.1 (fromL code (ks.take z.1)).length z.2.2),(6,.int .i64 (z.1:Int))]) (fun z=>[row (Kd.int .i64) W0 3 (.slice z.2.1 (fromL code (ks.take z.1)).length z.2.2) (fromL code (ks.take z.1))]) (fun z=>z.1≤ks.length) (fun z=>ks.length-z.1) (0,none,0) ?_ cv (Leads.nilrow.trans Lh) ?_)))))))))))))))))
 exact Nat.zero_le _
 rintro ⟨i,A2,c2⟩ hi
 dsimp only at hi
 have hle:=fromL_len code (ks.take i)
 rw [List.length_take] at hle
 try dsimp only
 refine Zh (Zh (Zi (Zo J (Zo J (Zv J J (Zx J J (Zn (Za (wC (fun h10=>?_) (fun h10=>?_))))))))))
 obtain ⟨k,hki⟩:∃ k,ks[i]?=some k:=⟨_,List.getElem?_eq_getElem ZO⟩
 have hkl:=hk k (List.mem_of_getElem? hki)
 obtain ⟨x,hx⟩:∃ x,code[k]?=some x:=⟨_,List.getElem?_eq_getElem hkl⟩
 obtain ⟨e1,cs1,hE⟩:=hC1.elm (i:=i) (u:=(k:Int)) (by rw [List.getElem?_map,hki];rfl)
 obtain rfl:=(show cs1=[Value.int .i64 (k:Int)] from hE.K)
 have hft:fromL code (ks.take (i+1))=fromL code (ks.take i)++rnext x k:=by rw [List.take_add_one,hki];show fromL code (ks.take i++[k])=_;rw [fromL_snoc,List.getD_eq_getElem?_getD,hx];rfl
 have hrl:=rnext_len x k
 refine Zj (Za (Zh (Zk (Zi (Zo J (Zo J (Zo J (Zo J (oIdxE J J (hE) ZO J J ?_)))))))))
 have hc17:=(hE).cell
 refine Zlx hc17 ?_
 (refine ZC0 rfl ZK (fun w hS=>frame hS ZQ (fun B' hB hS'=>ref14_Next hS' A cp code (Kd.C_grow hB hC) k x hx W0)) ?_;rintro ⟨A19,c19⟩ -)
 refine oAppA (kd:=Kd.int .i64) (W:=W0) (xs:=fromL code (ks.take i)) (ys:=rnext x k) J J J J ZP J (fun w hw=>src_row (e:=3) (n:=(rnext x k).length) (cp:=c19) (hw.get ZP)) ZO J (fun A20 c20 hc20=>?_)
 rw [← hft,show (fromL code (ks.take i)).length+(rnext x k).length=(fromL code (ks.take (i+1))).length by rw [hft,List.length_append]]
 refine Zp J (Zn (Zzd ?_))
 refine Zp J (Zn (Za ?_))
 exact ⟨rfl,(i+1,A20,c20),by show i+1≤_;omega,by show ks.length-(i+1)<ks.length-i;omega,cv,Lh⟩
 obtain rfl:i=ks.length:=by omega
 rw [List.take_length] at *
 refine Zm (Zb (Zb (Ze (Zzn ?_))))
 (refine ZC0 rfl ZK (fun w hS=>frame hS ZQ (fun B' hB hS'=>ref14_Graph hS' A cp code (Kd.C_grow hB hC) ZO B.e)) ?_;rintro ⟨A22,c22,hs22⟩ hl22)
 refine ZS0 (t:=22) (v':=.slice A22 (rg code).length c22) rfl (by rw [rg_len]) ?_
 refine Zo J ?_
 (refine ZD J (fun w B' hB hR hS'=>refReach hS' (rg code) A22 c22 (grid_C (hR _ _ ZP) (hR _ _ ZP) (by rw [rg_len];exact hl22) hB) (rg_small hl) (fromL code ks) A2 c2 (row_Cs (W:=W0) (e:=3) (n:=(fromL code ks).length) (cp:=c2) (hR _ _ ZP)) W0) ?_;rintro ⟨A24,c24,l24⟩ ⟨h24a,h24b⟩)
 dsimp only at h24a h24b ⊢
 rw [rg_len] at h24a ⊢
 refine Zp J (Zzx ?_)
 exact ⟨(A24,c24,l24),⟨h24a,h24b⟩,rfl,Lh⟩
def inR (f:ApiFunc) (i:Int):Bool:=decide (f.fFrom≤i) && decide (i<f.fTo)
theorem ref18_In {B:Base}{w:World}(hS:St B [] w) (f:ApiFunc) (fc:List Value) (hf:kApiFunc.K B.e f fc) (i:Int) :
 CW 219 #[.agg fc.toArray,.int .i64 i] w (Ret B (fun _:Unit=>True) (fun _=>.bool (inR f i)) (fun _=>[])):=by
 obtain ⟨A0,c0,A1,c1,A2,c2,A3,c3,rfl,l0,g0,l1,g1,l2,g2,l3,g3⟩:=kApiFunc_open hf
 refine ZX Tryz.func219 hS ?_
 refine Zh (Zi (oBox J ZP (fun b2=>?_)))
 refine Zp J (Zn (Za (Zh (Zi (Zo J (Zz (n:=4) (m:=4) J J J (Zld ?_)))))))
 refine Z2 J J (Zo J (ZS (ZT 9) (fun h9=>?_) (fun h9=>?_)))
 refine Zq J J (Zo J (Zq J J (Zz (n:=5) (m:=5) J J J (Zzg ?_))))
 refine Zq J J (Zx J J (Zt J J (Zza ?_)))
 exact ⟨(),trivial,by simp_all [resVal,inR] <;> omega,Lh⟩
 refine Zr J J J J (Zzp ?_)
 exact ⟨(),trivial,by simp_all [resVal,inR] <;> omega,Lh⟩
def outR (f:ApiFunc):Prop:=∃ i:Nat,i<f.fCode.length∧RP (rg f.fCode) (fromL f.fCode (dfrN f.fCode)) (i:Int)∧inR f (i:Int)=false
open Classical in
noncomputable def rangeF (f:ApiFunc):Int:=if outR f then 9 else 0
theorem ref18_Check {B:Base}{w:World}(hS:St B [] w) (f:ApiFunc) (fc:List Value) (hf:kApiFunc.K B.e f fc) (hl:f.fCode.length≤1000) :
 CW 188 #[.agg fc.toArray] w (Ret B (fun _:Unit=>True) (fun _=>.int .i64 (rangeF f)) (fun _=>[])):=by
 obtain ⟨A0,c0,A1,c1,A2,c2,A3,c3,rfl,l0,g0,l1,g1,l2,g2,l3,g3⟩:=kApiFunc_open hf
 have hdl:(dfrN f.fCode).length≤1000:=Nat.le_trans (List.length_filter_le _ _) (by simpa using hl)
 refine ZX Tryz.func188 hS ?_
 refine Zh (Zi (oBox J ZP (fun b1=>?_)))
 refine Zp J (Zn (Za (Zh (wDrawG J [0,1,2,3] [(4,[0,1],[]),(5,[],[])] [6] 24 ZK J J (fun w0=>?_)))))
 refine Zz (n:=7) (m:=7) J J J (Zld ?_)
 refine Zz (n:=7) (m:=7) J J J (Zld ?_)
 refine Z4 (Z5 J ?_)
 (refine ZC0 rfl ZK (fun w hS=>frame hS ZQ (fun B' hB hS'=>ref18_Marks hS' A2 c2 f.fCode (Kd.C_grow hB g2) ZO B.e)) ?_;rintro ⟨A9,c9⟩ -)
 refine ZS0 (t:=9) (v':=.slice A9 (dfrN f.fCode).length c9) rfl (by rw [dfr_N,List.length_map]) ?_
 refine ZG ?_ J (fun w0=>?_)
 refine Z8 J J J J (fun w0=>?_) ?_
 refine Zz (n:=7) (m:=7) J J J ?_
 exact Z9 rfl
 refine Z8 J J J J (fun w0=>?_) ?_
 refine Zld ?_
 exact Z9 rfl
 exact AgainG.nil
 refine Z4 (Z5 J ?_)
 (refine ZD J (fun w B' hB hR hS'=>ref14_After hS' A2 c2 f.fCode (Kd.C_grow hB g2) hl A9 c9 (dfrN f.fCode) (row_Cs (W:=B.e) (e:=3) (n:=(dfr f.fCode f.fCode.length).length) (cp:=c9) (hR _ _ ZP)) (fun k hk=>dfrN_lt hk) hdl B.e) ?_;rintro ⟨A10,c10,l10⟩ ⟨h10a,h10b⟩)
 dsimp only at h10a h10b
 refine ZG ?_ J (fun w0=>?_)
 exact AgainG.nil
 refine Z6 (Zp J (Zn (Za (Zh (Zh (Zi (Zp J (Zn (Za (Zk (wLoop (ι:=Nat) (fun i=>[(1,.pointer (some ⟨b1,0,none⟩)),(3,.slice A10 f.fCode.length c10),(4,.int .i64 (i:Int))]) (fun i=>[blk b1 47 [.int .i64 f.fClass,.slice A0 f.fKinds.length c0,.int .i64 f.fPad,.bool f.fNosplit,.int .i64 f.fFrom,.int .i64 f.fTo,.slice A1 f.fLines.length c1,.slice A2 f.fCode.length c2,.slice A3 f.fRelocs.length c3],row Kd.bool B.e 4 (.slice A10 f.fCode.length c10) l10]) (fun i=>i≤f.fCode.length∧∀ j:Nat,j<i→RP (rg f.fCode) (fromL f.fCode (dfrN f.fCode)) (j:Int)→inR f (j:Int)=true) (fun i=>f.fCode.length-i) 0 ?_ cv Lh ?_)))))))))))
 exact ⟨Nat.zero_le _,fun j hj=>by omega⟩
 rintro i ⟨hi,hs⟩
 try dsimp only
 refine Zh (Zh (Zi (Zo J (Zo J (Zv J J (Zx J J (Zn (Za (wC (fun h14=>?_) (fun h14=>?_))))))))))
 refine Zj (Za (Zh (Zk (Zh (Zi (Zo J (Zo J (ZR J J ZP ZO J J (fun g19 hg19=>?_)))))))))
 first | subst hg19 | (injection hg19 with hg19;injection hg19 with hg19;subst hg19)
 refine ZR1 J ZP ZO J (fun u20 hu20=>?_)
 refine Zo J (ZS (ZT 21) (fun h21=>?_) (fun h21=>?_))
 refine Zq J J (Zla ?_)
 refine Zq J J (Zo J (Zq J J ?_))
 (refine ZC0 rfl ZK (fun w hS=>frame hS ZQ (fun B' hB hS'=>ref18_In hS' f _ (kApiFunc.K_grow hB hf) (i:Int))) ?_;rintro ⟨⟩ -)
 refine Zq J J (Zno ?_)
 refine Zt J J (Zn (Za (wC (fun h26=>?_) (fun h26=>?_))))
 refine Zh (Zi (Zzb ?_))
 have ho:outR f:=⟨i,by omega,(h10b i).1 (by rw [hu20];simp_all),by simp_all⟩
 exact ⟨(),trivial,by unfold rangeF;rw [if_pos ho];rfl,Lh⟩
 refine Zj (Zzd ?_)
 refine Zp J (Zn (Za ?_))
 exact ⟨rfl,i+1,⟨by omega,fun j hj hr=>by
 by_cases e:j=i
 · subst e;simp_all
 · exact hs j ZO hr⟩,by omega,cv,Lh⟩
 refine Zr J J J J (Zr J J J J (Zr J J J J (Zr J J J J (Zu J J (Zn (Za (wCondF J (Zj (Zzd ?_)))))))))
 refine Zp J (Zn (Za ?_))
 exact ⟨rfl,i+1,⟨by omega,fun j hj hr=>by
 by_cases e:j=i
 · subst e;have:=(h10b j).2 hr;rw [hu20] at this;simp_all
 · exact hs j ZO hr⟩,by omega,cv,Lh⟩
 refine Zm (Zzj ?_)
 have ho:¬ outR f:=fun ⟨j,hj,hr,hb⟩=>by rw [hs j ZO hr] at hb;cases hb
 exact ⟨(),trivial,by unfold rangeF;rw [if_neg ho];rfl,Lh⟩
def dRelE (d:ApiData) (l:List ApiSymbol) (i:Nat) (x:ApiReloc):Int:=
  if d.fKind=0∨x.fAt<0∨(d.fWords.length:Int)≤x.fAt∨(0<i∧x.fAt≤(d.fRelocs.getD (i-1) default).fAt)∨x.fSym<0∨(l.length:Int)≤x.fSym then 11 else
  if (l.getD x.fSym.toNat default).fSort≠1∨(l.getD x.fSym.toNat default).fKind≠d.fKind-1 then 8 else 0
def relE (d:ApiData) (l:List ApiSymbol) (i:Nat):Int:=dRelE d l i (d.fRelocs.getD i default)
def dataF (d:ApiData) (l:List ApiSymbol):Int:=
  if textF d.fKind=ByteArray.empty then 8 else if 32<d.fWords.length then 6 else
  if d.fWords.any (fun w=>decide (d.fKind≠0∧w≠0)) then 2 else fstE ((List.range d.fRelocs.length).map (relE d l))
theorem relE_at {d:ApiData}{l:List ApiSymbol}{i:Nat}{x:ApiReloc}(h:d.fRelocs[i]?=some x):relE d l i=dRelE d l i x:=by
 unfold relE;rw [List.getD_eq_getElem?_getD,h];rfl
theorem any_not {α:Type}{p:α→Bool}{l:List α}(h:∀ y ∈ l,p y=false):l.any p=false:=List.any_eq_false.2 (fun y hy=>by rw [h y hy];simp)
theorem any_hit {α:Type}{p:α→Bool}{l:List α}{i:Nat}{x:α}(hi:l[i]?=some x) (h:p x=true):l.any p=true:=List.any_eq_true.2 ⟨x,List.mem_of_getElem? hi,h⟩
abbrev dWordP (d:ApiData) (w:Int):Bool:=decide (d.fKind≠0∧w≠0)
theorem ref15_Check {B:Base}{w:World}(hS:St B [] w) (d:ApiData) (dc:List Value) (hd:kApiData.K B.e d dc) (hk:in64 d.fKind) (hl2:d.fRelocs.length≤100000) (Al:Option Addr) (cl:Nat) (l:List ApiSymbol) (hC:kApiSymbol.C B.e Al l) :
 CW 186 #[.agg dc.toArray,.slice Al l.length cl] w (Ret B (fun _:Unit=>True) (fun _=>.int .i64 (dataF d l)) (fun _=>[])):=by
 obtain ⟨A0,c0,A1,c1,rfl,l0,g0,l1,g1⟩:=kApiData_open hd
 have hw1:=g0.1
 refine ZX Tryz.func186 hS ?_
 refine Zh (Zi (oBox J ZP (fun b2=>?_)))
 refine Zp J (Zn (Za (Zh (Zh (Zi (Zz (n:=0) (m:=0) J J J (Zld ?_)))))))
 (refine ZC0 rfl ZK (fun w hS=>frame hS ZQ (fun B' hB hS'=>ref5_Text hS' d.fKind hk)) ?_;rintro ⟨⟩ -)
 refine oSEq J J (Zn (Za (wC (fun h11=>?_) (fun h11=>?_))))
 have h11:textF d.fKind=ByteArray.empty:=h11
 refine Zh (Zi (Zze ?_))
 exact ⟨(),trivial,by unfold dataF;rw [if_pos h11];rfl,Lh⟩
 have h11:¬ textF d.fKind=ByteArray.empty:=h11
 have hk0:0≤d.fKind:=(Classical.not_not.1 (fun h=>h11 (textF_no.2 h))).1
 refine Zj (Za (Zh (Zh (Zi (Zz (n:=1) (m:=1) J J J (Zld ?_))))))
 refine Zv J J (Z1 J J (Zn (Za (wC (fun h15=>?_) (fun h15=>?_)))))
 refine Zh (Zi (Zze ?_))
 exact ⟨(),trivial,by unfold dataF;rw [if_neg h11,if_pos ZO];rfl,Lh⟩
 have hn32:¬ 32<d.fWords.length:=by omega
 refine Zj (Za (Zh (Zh (Zi (Zp J (Zn (Za (Zk (wLoop (ι:=Nat) (fun i=>[(1,.slice Al l.length cl),(2,.pointer (some ⟨b2,0,none⟩)),(5,.int .i64 (i:Int))]) (fun i=>[blk b2 96 [.int .i64 d.fKind,.slice A0 d.fWords.length c0,.slice A1 d.fRelocs.length c1]]) (fun i=>i≤d.fWords.length∧∀ y ∈ d.fWords.take i,dWordP d y=false) (fun i=>d.fWords.length-i) 0 ?_ cv Lh ?_)))))))))
 exact ⟨Nat.zero_le _,by simp⟩
 rintro i ⟨hi,hs⟩
 try dsimp only
 refine Zh (Zh (Zi (Zo J (Zz (n:=1) (m:=1) J J J (Zld ?_)))))
 refine Zv J J (Zx J J (Zn (Za (wC (fun h20=>?_) (fun h20=>?_)))))
 obtain ⟨x,hx⟩:∃ x,d.fWords[i]?=some x:=⟨_,List.getElem?_eq_getElem ZO⟩
 obtain ⟨e1,cs1,hE⟩:=g0.elm hx
 obtain rfl:=(show cs1=[Value.int .i64 x] from hE.K)
 refine Zj (Za (Zh (Zk (Zh (Zi (Zz (n:=0) (m:=0) J J J (Zld ?_)))))))
 refine Z0 J J (Zo J (ZS (ZT 26) (fun h26=>?_) (fun h26=>?_)))
 refine Zq J J (Zz (n:=1) (m:=1) J J J (Zzg ?_))
 refine Zq J J (Zo J (Zq J J (oIdxE J J (hE) ZO J J ?_)))
 have hc30:=(hE).cell
 refine Zq J J (Zlx hc30 ?_)
 refine Zq J J (Z0 J J (Zt J J (Zn (Za (wC (fun h33=>?_) (fun h33=>?_))))))
 refine Zh (Zi (Zzb ?_))
 exact ⟨(),trivial,by unfold dataF;rw [if_neg h11,if_neg hn32,if_pos (any_hit hx (decide_eq_true (by simp_all)))];rfl,Lh⟩
 refine Zj (Zzd ?_)
 refine Zp J (Zn (Za ?_))
 exact ⟨rfl,i+1,⟨by omega,take_not hs hx (decide_eq_false (by simp_all))⟩,by omega,cv,Lh⟩
 refine Zr J J J J (Zr J J J J (Zr J J J J (Zr J J J J (Zr J J J J (Zr J J J J (Zu J J (Zn (Za (wCondF J (Zj (Zzd ?_)))))))))))
 refine Zp J (Zn (Za ?_))
 exact ⟨rfl,i+1,⟨by omega,take_not hs hx (decide_eq_false (by simp_all))⟩,by omega,cv,Lh⟩
 obtain rfl:i=d.fWords.length:=by omega
 rw [List.take_length] at hs
 have hdF:dataF d l=fstE ((List.range d.fRelocs.length).map (relE d l)):=by unfold dataF;rw [if_neg h11,if_neg hn32,any_not hs];rfl
 refine Zm (Zb (Zb (Ze (Za (Zh (Zh (Zi (Zp J (Zn (Za (Zk (wLoop (ι:=Nat) (fun i=>[(1,.slice Al l.length cl),(2,.pointer (some ⟨b2,0,none⟩)),(6,.int .i64 (i:Int))]) (fun i=>[blk b2 96 [.int .i64 d.fKind,.slice A0 d.fWords.length c0,.slice A1 d.fRelocs.length c1]]) (fun i=>i≤d.fRelocs.length∧fstE (((List.range d.fRelocs.length).map (relE d l)).take i)=0) (fun i=>d.fRelocs.length-i) 0 ?_ cv Lh ?_))))))))))))
 exact ⟨Nat.zero_le _,rfl⟩
 rintro i ⟨hi,hs⟩
 try dsimp only
 refine Zh (Zh (Zi (Zo J (Zz (n:=2) (m:=2) J J J (Zld ?_)))))
 refine Zv J J (Zx J J (Zn (Za (wC (fun h38=>?_) (fun h38=>?_)))))
 obtain ⟨x,hx⟩:∃ x,d.fRelocs[i]?=some x:=⟨_,List.getElem?_eq_getElem ZO⟩
 obtain ⟨e1,cs1,hE⟩:=g1.elm hx
 obtain rfl:=kApiReloc_open hE.K
 have hre:((List.range d.fRelocs.length).map (relE d l))[i]?=some (relE d l i):=rmap_at ZO
 have hrx:=relE_at (l:=l) hx
 refine Zj (Za (Zh (Zk (Zh (Zi (Zz (n:=2) (m:=2) J J J (Zld ?_)))))))
 refine Zo J (oIdxE J J (hE) ZO J J ?_)
 have hc44:=(hE).cell
 refine Zlx hc44 ?_
 refine oAlloc J ZP (fun b7=>?_)
 refine Zsa ?_
 refine Zn (Za (Zh (Zh (wDraw2 J J [] [0,1,2,3,4,5,6,7,8,9,10,11,12,13,14,15,16,17,18,19,20,21,22,23,24,25,26,27,28,29,30,31,32,33,34,35,36,37,38,39,40,41,42] 43 ZK J J J (fun w0=>?_)))))
 refine Zz (n:=0) (m:=0) J J J (Zld ?_)
 refine Zy J J (Zo J (ZS (ZT 49) (fun h49=>?_) (fun h49=>?_)))
 refine Zr J J J J (Zzt ?_)
 refine Zr J J J J (Zr J J J J (Zt J J (Zo J (Zr J J J J (Zr J J J J (Zr J J J J (Zr J J J J (Zr J J J J (oHead (Zt J J (oNilT (Za (wCondT J (Zh (Zi (Zzr ?_))))))))))))))))
 exact ⟨(),trivial,by rw [hdF,fstE_stop hs hre (by rw [hrx];unfold dRelE;rw [if_pos (by first | omega | (rw [hy'];omega))];decide),hrx];unfold dRelE;rw [if_pos (by first | omega | (rw [hy'];omega))];rfl,Lh⟩
 refine Zq J J (Zz (n:=0) (m:=0) J J J (Zzg ?_))
 refine Zq J J (Zx J J (Zu J J (Zo J (ZS (ZT 54) (fun h54=>?_) (fun h54=>?_)))))
 refine Zr J J J J (Zzl ?_)
 refine Zr J J J J (Zr J J J J (Zr J J J J (Zr J J J J (oHead (Zt J J (oNilT (Za (wCondT J (Zh (Zi (Zzr ?_)))))))))))
 exact ⟨(),trivial,by rw [hdF,fstE_stop hs hre (by rw [hrx];unfold dRelE;rw [if_pos (by first | omega | (rw [hy'];omega))];decide),hrx];unfold dRelE;rw [if_pos (by first | omega | (rw [hy'];omega))];rfl,Lh⟩
 refine Zq J J (Zz (n:=0) (m:=0) J J J (Zzg ?_))
 refine Zq J J (Zz (n:=1) (m:=1) J J J (Zzg ?_))
 refine Zq J J (Zv J J (Zq J J (Z2 J J (Zu J J (Zo J (ZS (ZT 62) (fun h62=>?_) (fun h62=>?_)))))))
 refine Zr J J J J (Zr J J J J (Zr J J J J (Zs J J J (Zs J J J (Zs J J J (Zs J J J (Zs J J J (Zs J J J (Zs J J J (Zs J J J (Zs J J J (Zs J J J (Zr J J J J (Zt J J (Zo J (Zr J J J J (Zr J J J J (Zr J J J J (Zt J J (Zo J (Zr J J J J (Zr J J J J (Zr J J J J (Zr J J J J (Zr J J J J (oHead (Zt J J (oNilT (Za ?_)))))))))))))))))))))))))))))
 refine wCondT J (Zh (Zi (Zzr ?_)))
 exact ⟨(),trivial,by rw [hdF,fstE_stop hs hre (by rw [hrx];unfold dRelE;rw [if_pos (by first | omega | (rw [hy'];omega))];decide),hrx];unfold dRelE;rw [if_pos (by first | omega | (rw [hy'];omega))];rfl,Lh⟩
 refine Zq J J (Zo J (Zq J J (Z1 J J (Zq J J (Zo J (ZS (ZT 65) (fun h65=>?_) (fun h65=>?_)))))))
 obtain ⟨y,hy⟩:∃ y,d.fRelocs[i-1]?=some y:=⟨_,List.getElem?_eq_getElem ZO⟩
 obtain ⟨e3,cs3,hE3⟩:=g1.elm hy
 obtain rfl:=kApiReloc_open hE3.K
 have hy':(d.fRelocs.getD (i-1) default)=y:=by rw [List.getD_eq_getElem?_getD,hy];rfl
 refine Zq J J (Zz (n:=0) (m:=0) J J J (Zzg ?_))
 refine Zq J J (Zz (n:=2) (m:=2) J J J (Zzg ?_))
 refine Zq J J (Zo J (Zq J J (oSub J J ZO ?_)))
 refine ZS0 (t:=71) (v':=.int .i64 ((i-1:Nat):Int)) J (by congr 1;omega) ?_
 refine Zq J J (oIdxE J J (hE3) ZO J J ?_)
 have hc72:=(hE3).cell
 refine Zq J J (ZF (ZT 0) (ZT 0) ?_)
 refine Zq J J (Zlx hc72 ?_)
 refine Zq J J (oLeq J J (Zq J J (Zt J J (Zu J J (Zo J (ZS (ZT 78) (fun h78=>?_) (fun h78=>?_)))))))
 refine Zr J J J J (Zr J J J J (Zr J J J J (Zt J J (Zo J (Zr J J J J (Zr J J J J (Zr J J J J (Zr J J J J (Zr J J J J (oHead (Zt J J (oNilT (Za (wCondT J (Zh (Zi (Zzr ?_)))))))))))))))))
 exact ⟨(),trivial,by rw [hdF,fstE_stop hs hre (by rw [hrx];unfold dRelE;rw [if_pos (by first | omega | (rw [hy'];omega))];decide),hrx];unfold dRelE;rw [if_pos (by first | omega | (rw [hy'];omega))];rfl,Lh⟩
 refine Zq J J (Zz (n:=1) (m:=1) J J J (Zzg ?_))
 refine Zq J J (Zx J J (Zu J J (Zo J (ZS (ZT 83) (fun h83=>?_) (fun h83=>?_)))))
 refine Zr J J J J (Zr J J J J (Zr J J J J (Zr J J J J (Zr J J J J (oHead (Zt J J (oNilT (Za (wCondT J (Zh (Zi (Zzr ?_))))))))))))
 exact ⟨(),trivial,by rw [hdF,fstE_stop hs hre (by rw [hrx];unfold dRelE;rw [if_pos (by first | omega | (rw [hy'];omega))];decide),hrx];unfold dRelE;rw [if_pos (by first | omega | (rw [hy'];omega))];rfl,Lh⟩
 refine Zq J J (Zz (n:=1) (m:=1) J J J (Zzg ?_))
 refine Zq J J (Zo J (Zq J J (Zv J J (Zq J J (Z2 J J (oHead (Zu J J (oNilT (Za (wC (fun h89=>?_) (fun h89=>?_)))))))))))
 refine Zh (Zi (Zzr ?_))
 exact ⟨(),trivial,by rw [hdF,fstE_stop hs hre (by rw [hrx];unfold dRelE;rw [if_pos (by first | omega | (rw [hy'];omega))];decide),hrx];unfold dRelE;rw [if_pos (by first | omega | (rw [hy'];omega))];rfl,Lh⟩
 obtain ⟨s,hsm⟩:=Int.eq_ofNat_of_zero_le (show 0≤x.fSym by omega)
 obtain ⟨sy,hsy⟩:∃ sy,l[s]?=some sy:=⟨_,List.getElem?_eq_getElem ZO⟩
 obtain ⟨e4,cs4,hE4⟩:=hC.elm hsy
 obtain rfl:=kApiSymbol_open hE4.K
 have hlg:l.getD x.fSym.toNat default=sy:=by rw [hsm,Int.toNat_natCast,List.getD_eq_getElem?_getD,hsy];rfl
 refine Zj (Za (Zh (wDraw2 J J [0] [1,2,3,4,5,6,7,8,9,10,11,12,13,14,15,16,17] 18 ZK J J J (fun w0=>?_))))
 refine Zz (n:=1) (m:=1) J J J (Zld ?_)
 refine ZS0 (t:=92) (v':=.int .i64 (s:Int)) rfl (by rw [hsm]) ?_
 refine oIdxE J J (hE4) ZO J J ?_
 have hc93:=(hE4).cell
 refine ZF (ZT 2) (ZT 2) ?_
 refine Zlx hc93 ?_
 refine Z0 J J (Zo J (ZS (ZT 97) (fun h97=>?_) (fun h97=>?_)))
 refine Zr J J J J (Zr J J J J (Zr J J J J (Zr J J J J (Zr J J J J (Zr J J J J (Zr J J J J (Zr J J J J (Zr J J J J (Zr J J J J (oHead (Zt J J (oNilT (Za (wCondT J (Zh (Zi (Zzb ?_)))))))))))))))))
 exact ⟨(),trivial,by rw [hdF,fstE_stop hs hre (by rw [hrx];unfold dRelE;rw [if_neg (by first | omega | (rw [hy'];omega)),hlg,if_pos (by simp_all <;> omega)];decide),hrx];unfold dRelE;rw [if_neg (by first | omega | (rw [hy'];omega)),hlg,if_pos (by simp_all <;> omega)];rfl,Lh⟩
 refine Zq J J (Zo J (Zq J J (Zz (n:=1) (m:=1) J J J (Zzg ?_))))
 refine ZS0 (t:=100) (v':=.int .i64 (s:Int)) rfl (by rw [hsm]) ?_
 refine Zq J J (oIdxE J J (hE4) ZO J J ?_)
 have hc101:=(hE4).cell
 refine Zq J J (ZF (ZT 3) (ZT 3) ?_)
 refine Zq J J (Zlx hc101 ?_)
 refine Zq J J (Zz (n:=0) (m:=0) J J J (Zzg ?_))
 refine Zq J J ?_
 refine oSub J J (by unfold in64 at hk;omega) ?_
 refine Zq J J (Z0 J J (oHead (Zu J J (oNilT (Za (wC (fun h108=>?_) (fun h108=>?_)))))))
 refine Zh (Zi (Zzb ?_))
 exact ⟨(),trivial,by rw [hdF,fstE_stop hs hre (by rw [hrx];unfold dRelE;rw [if_neg (by first | omega | (rw [hy'];omega)),hlg,if_pos (by simp_all <;> omega)];decide),hrx];unfold dRelE;rw [if_neg (by first | omega | (rw [hy'];omega)),hlg,if_pos (by simp_all <;> omega)];rfl,Lh⟩
 refine Zj (Zzd ?_)
 refine Zp J (Zn (Za ?_))
 exact ⟨rfl,i+1,⟨by omega,fstE_next hs hre (by rw [hrx];unfold dRelE;rw [if_neg (by first | omega | (rw [hy'];omega)),hlg,if_neg (by simp_all <;> omega)])⟩,by omega,cv,Lh⟩
 refine Zr J J J J (Zr J J J J (Zr J J J J (Zr J J J J (Zr J J J J (Zr J J J J (Zr J J J J (Zr J J J J (Zr J J J J (Zr J J J J (Zq J J (Zu J J (Zu J J (Zo J (Zq J J (Zz (n:=1) (m:=1) J J J (Zzg ?_))))))))))))))))
 refine Zq J J (Zx J J (Zu J J (Zo J (ZS (ZT 83) (fun h83=>?_) (fun h83=>?_)))))
 refine Zr J J J J (Zr J J J J (Zr J J J J (Zr J J J J (Zr J J J J (oHead (Zt J J (oNilT (Za (wCondT J (Zh (Zi (Zzr ?_))))))))))))
 exact ⟨(),trivial,by rw [hdF,fstE_stop hs hre (by rw [hrx];unfold dRelE;rw [if_pos (by first | omega | (rw [hy'];omega))];decide),hrx];unfold dRelE;rw [if_pos (by first | omega | (rw [hy'];omega))];rfl,Lh⟩
 refine Zq J J (Zz (n:=1) (m:=1) J J J (Zzg ?_))
 refine Zq J J (Zo J (Zq J J (Zv J J (Zq J J (Z2 J J (oHead (Zu J J (oNilT (Za (wC (fun h89=>?_) (fun h89=>?_)))))))))))
 refine Zh (Zi (Zzr ?_))
 exact ⟨(),trivial,by rw [hdF,fstE_stop hs hre (by rw [hrx];unfold dRelE;rw [if_pos (by first | omega | (rw [hy'];omega))];decide),hrx];unfold dRelE;rw [if_pos (by first | omega | (rw [hy'];omega))];rfl,Lh⟩
 obtain ⟨s,hsm⟩:=Int.eq_ofNat_of_zero_le (show 0≤x.fSym by omega)
 obtain ⟨sy,hsy⟩:∃ sy,l[s]?=some sy:=⟨_,List.getElem?_eq_getElem ZO⟩
 obtain ⟨e4,cs4,hE4⟩:=hC.elm hsy
 obtain rfl:=kApiSymbol_open hE4.K
 have hlg:l.getD x.fSym.toNat default=sy:=by rw [hsm,Int.toNat_natCast,List.getD_eq_getElem?_getD,hsy];rfl
 refine Zj (Za (Zh (wDraw2 J J [0] [1,2,3,4,5,6,7,8,9,10,11,12,13,14,15,16,17] 18 ZK J J J (fun w0=>?_))))
 refine Zz (n:=1) (m:=1) J J J (Zld ?_)
 refine ZS0 (t:=92) (v':=.int .i64 (s:Int)) rfl (by rw [hsm]) ?_
 refine oIdxE J J (hE4) ZO J J ?_
 have hc93:=(hE4).cell
 refine ZF (ZT 2) (ZT 2) ?_
 refine Zlx hc93 ?_
 refine Z0 J J (Zo J (ZS (ZT 97) (fun h97=>?_) (fun h97=>?_)))
 refine Zr J J J J (Zr J J J J (Zr J J J J (Zr J J J J (Zr J J J J (Zr J J J J (Zr J J J J (Zr J J J J (Zr J J J J (Zr J J J J (oHead (Zt J J (oNilT (Za (wCondT J (Zh (Zi (Zzb ?_)))))))))))))))))
 exact ⟨(),trivial,by rw [hdF,fstE_stop hs hre (by rw [hrx];unfold dRelE;rw [if_neg (by first | omega | (rw [hy'];omega)),hlg,if_pos (by simp_all <;> omega)];decide),hrx];unfold dRelE;rw [if_neg (by first | omega | (rw [hy'];omega)),hlg,if_pos (by simp_all <;> omega)];rfl,Lh⟩
 refine Zq J J (Zo J (Zq J J (Zz (n:=1) (m:=1) J J J (Zzg ?_))))
 refine ZS0 (t:=100) (v':=.int .i64 (s:Int)) rfl (by rw [hsm]) ?_
 refine Zq J J (oIdxE J J (hE4) ZO J J ?_)
 have hc101:=(hE4).cell
 refine Zq J J (ZF (ZT 3) (ZT 3) ?_)
 refine Zq J J (Zlx hc101 ?_)
 refine Zq J J (Zz (n:=0) (m:=0) J J J (Zzg ?_))
 refine Zq J J ?_
 refine oSub J J (by unfold in64 at hk;omega) ?_
 refine Zq J J (Z0 J J (oHead (Zu J J (oNilT (Za (wC (fun h108=>?_) (fun h108=>?_)))))))
 refine Zh (Zi (Zzb ?_))
 exact ⟨(),trivial,by rw [hdF,fstE_stop hs hre (by rw [hrx];unfold dRelE;rw [if_neg (by first | omega | (rw [hy'];omega)),hlg,if_pos (by simp_all <;> omega)];decide),hrx];unfold dRelE;rw [if_neg (by first | omega | (rw [hy'];omega)),hlg,if_pos (by simp_all <;> omega)];rfl,Lh⟩
 refine Zj (Zzd ?_)
 refine Zp J (Zn (Za ?_))
 exact ⟨rfl,i+1,⟨by omega,fstE_next hs hre (by rw [hrx];unfold dRelE;rw [if_neg (by first | omega | (rw [hy'];omega)),hlg,if_neg (by simp_all <;> omega)])⟩,by omega,cv,Lh⟩
 refine Zm (Zzj ?_)
 obtain rfl:i=d.fRelocs.length:=by omega
 rw [rmap_all] at hs
 exact ⟨(),trivial,by rw [hdF,hs];rfl,Lh⟩
end Go.Proofs.YtogaiijhicfoaaaGreatW
