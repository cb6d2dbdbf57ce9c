/-
  Part 2 of the proof of BindTells: contracts of functions, and what follows from them; without conditions.
-/
import Derived.Test.YtafiabekcekdbaaGreatBindTells1
import Derived.Test.YtafiabekcekdbaaGreatProg
import Derived.Shelf.Lays
import Derived.Shelf.Lays2
set_option linter.unusedVariables false
set_option linter.unusedSimpArgs false
set_option linter.defProp false
namespace Go.Proofs.YtafiabekcekdbaaGreatT
open Go.RowKit Go.Proofs.YtafiabekcekdbaaGreatK Go.ChangeShapes Go.WideShapes
structure ApiSymbol where
  fName:ByteArray
  fLocal:Bool
  fSort:Int
  fKind:Int
  fDef:Int
instance:Inhabited ApiSymbol:=⟨⟨ByteArray.empty,false,0,0,0⟩⟩
def kApiSymbol:Kd ApiSymbol:=Kd.iso (Kd.pair Kd.string (Kd.pair Kd.bool (Kd.pair (Kd.int .i64) (Kd.pair (Kd.int .i64) (Kd.int .i64))))) (fun x=>(x.fName,x.fLocal,x.fSort,x.fKind,x.fDef))
theorem kApiSymbol_open {w:World}{x:ApiSymbol}{cs:List Value}(h:kApiSymbol.K w x cs):cs=[.string x.fName,.bool x.fLocal,.int .i64 x.fSort,.int .i64 x.fKind,.int .i64 x.fDef]:=by
 obtain ⟨_,_,rfl,rfl,⟨_,_,rfl,rfl,⟨_,_,rfl,rfl,⟨_,_,rfl,rfl,rfl⟩⟩⟩⟩:=h
 exact rfl
theorem kApiSymbol_mk (w:World) (x:ApiSymbol):kApiSymbol.K w x [.string x.fName,.bool x.fLocal,.int .i64 x.fSort,.int .i64 x.fKind,.int .i64 x.fDef]:=⟨_,_,rfl,rfl,⟨_,_,rfl,rfl,⟨_,_,rfl,rfl,⟨_,_,rfl,rfl,rfl⟩⟩⟩⟩
def vApiSymbol (x:ApiSymbol):Prop:=x.fName.size≤maxLen∧True∧in64 x.fSort∧in64 x.fKind∧in64 x.fDef
set_option maxRecDepth 100000 in
theorem opApiSymbol:Opens Tryz.prog 37 kApiSymbol vApiSymbol:=Opens.weak (opens_struct (fun p=>(⟨p.1,p.2.1,p.2.2.1,p.2.2.2.1,p.2.2.2.2⟩:ApiSymbol)) (fun _=>rfl) Tryz.underlying37 (opensF_cons (opens_string rfl) rfl (opensF_cons (opens_bool rfl) rfl (opensF_cons (opens_i64 rfl) rfl (opensF_cons (opens_i64 rfl) rfl (opensF_one (opens_i64 rfl) rfl rfl)))))) (fun _ h=>h)
structure ApiLine where
  fAt:Int
  fLine:Int
instance:Inhabited ApiLine:=⟨⟨0,0⟩⟩
def kApiLine:Kd ApiLine:=Kd.iso (Kd.pair (Kd.int .i64) (Kd.int .i64)) (fun x=>(x.fAt,x.fLine))
theorem kApiLine_open {w:World}{x:ApiLine}{cs:List Value}(h:kApiLine.K w x cs):cs=[.int .i64 x.fAt,.int .i64 x.fLine]:=by
 obtain ⟨_,_,rfl,rfl,rfl⟩:=h
 exact rfl
def vApiLine (x:ApiLine):Prop:=in64 x.fAt∧in64 x.fLine
set_option maxRecDepth 100000 in
theorem opApiLine:Opens Tryz.prog 134 kApiLine vApiLine:=Opens.weak (opens_struct (fun p=>(⟨p.1,p.2⟩:ApiLine)) (fun _=>rfl) Tryz.underlying134 (opensF_cons (opens_i64 rfl) rfl (opensF_one (opens_i64 rfl) rfl rfl))) (fun _ h=>h)
structure ApiInstr where
  fOp:Int
  fA:Int
  fB:Int
  fC:Int
  fN:Int
instance:Inhabited ApiInstr:=⟨⟨0,0,0,0,0⟩⟩
def kApiInstr:Kd ApiInstr:=Kd.iso (Kd.pair (Kd.int .i64) (Kd.pair (Kd.int .i64) (Kd.pair (Kd.int .i64) (Kd.pair (Kd.int .i64) (Kd.int .i64))))) (fun x=>(x.fOp,x.fA,x.fB,x.fC,x.fN))
theorem kApiInstr_open {w:World}{x:ApiInstr}{cs:List Value}(h:kApiInstr.K w x cs):cs=[.int .i64 x.fOp,.int .i64 x.fA,.int .i64 x.fB,.int .i64 x.fC,.int .i64 x.fN]:=by
 obtain ⟨_,_,rfl,rfl,⟨_,_,rfl,rfl,⟨_,_,rfl,rfl,⟨_,_,rfl,rfl,rfl⟩⟩⟩⟩:=h
 exact rfl
theorem kApiInstr_mk (w:World) (x:ApiInstr):kApiInstr.K w x [.int .i64 x.fOp,.int .i64 x.fA,.int .i64 x.fB,.int .i64 x.fC,.int .i64 x.fN]:=⟨_,_,rfl,rfl,⟨_,_,rfl,rfl,⟨_,_,rfl,rfl,⟨_,_,rfl,rfl,rfl⟩⟩⟩⟩
def vApiInstr (x:ApiInstr):Prop:=in64 x.fOp∧in64 x.fA∧in64 x.fB∧in64 x.fC∧in64 x.fN
set_option maxRecDepth 100000 in
theorem opApiInstr:Opens Tryz.prog 67 kApiInstr vApiInstr:=Opens.weak (opens_struct (fun p=>(⟨p.1,p.2.1,p.2.2.1,p.2.2.2.1,p.2.2.2.2⟩:ApiInstr)) (fun _=>rfl) Tryz.underlying67 (opensF_cons (opens_i64 rfl) rfl (opensF_cons (opens_i64 rfl) rfl (opensF_cons (opens_i64 rfl) rfl (opensF_cons (opens_i64 rfl) rfl (opensF_one (opens_i64 rfl) rfl rfl)))))) (fun _ h=>h)
structure ApiReloc where
  fAt:Int
  fSym:Int
  fWide:Bool
instance:Inhabited ApiReloc:=⟨⟨0,0,false⟩⟩
def kApiReloc:Kd ApiReloc:=Kd.iso (Kd.pair (Kd.int .i64) (Kd.pair (Kd.int .i64) Kd.bool)) (fun x=>(x.fAt,x.fSym,x.fWide))
theorem kApiReloc_open {w:World}{x:ApiReloc}{cs:List Value}(h:kApiReloc.K w x cs):cs=[.int .i64 x.fAt,.int .i64 x.fSym,.bool x.fWide]:=by
 obtain ⟨_,_,rfl,rfl,⟨_,_,rfl,rfl,rfl⟩⟩:=h
 exact rfl
theorem kApiReloc_mk (w:World) (x:ApiReloc):kApiReloc.K w x [.int .i64 x.fAt,.int .i64 x.fSym,.bool x.fWide]:=⟨_,_,rfl,rfl,⟨_,_,rfl,rfl,rfl⟩⟩
def vApiReloc (x:ApiReloc):Prop:=in64 x.fAt∧in64 x.fSym∧True
set_option maxRecDepth 100000 in
theorem opApiReloc:Opens Tryz.prog 103 kApiReloc vApiReloc:=Opens.weak (opens_struct (fun p=>(⟨p.1,p.2.1,p.2.2⟩:ApiReloc)) (fun _=>rfl) Tryz.underlying103 (opensF_cons (opens_i64 rfl) rfl (opensF_cons (opens_i64 rfl) rfl (opensF_one (opens_bool rfl) rfl rfl)))) (fun _ h=>h)
structure ApiFunc where
  fClass:Int
  fKinds:List Int
  fPad:Int
  fNosplit:Bool
  fFrom:Int
  fTo:Int
  fLines:List ApiLine
  fCode:List ApiInstr
  fRelocs:List ApiReloc
instance:Inhabited ApiFunc:=⟨⟨0,[],0,false,0,0,[],[],[]⟩⟩
def kApiFunc:Kd ApiFunc:=Kd.iso (Kd.pair (Kd.int .i64) (Kd.pair (Kd.slice (Kd.int .i64)) (Kd.pair (Kd.int .i64) (Kd.pair Kd.bool (Kd.pair (Kd.int .i64) (Kd.pair (Kd.int .i64) (Kd.pair (Kd.slice kApiLine) (Kd.pair (Kd.slice kApiInstr) (Kd.slice kApiReloc))))))))) (fun x=>(x.fClass,x.fKinds,x.fPad,x.fNosplit,x.fFrom,x.fTo,x.fLines,x.fCode,x.fRelocs))
theorem kApiFunc_open {w:World}{x:ApiFunc}{cs:List Value}(h:kApiFunc.K w x cs):∃ A0 c0 A1 c1 A2 c2 A3 c3,cs=[.int .i64 x.fClass,.slice A0 x.fKinds.length c0,.int .i64 x.fPad,.bool x.fNosplit,.int .i64 x.fFrom,.int .i64 x.fTo,.slice A1 x.fLines.length c1,.slice A2 x.fCode.length c2,.slice A3 x.fRelocs.length c3]∧x.fKinds.length≤c0∧(Kd.int .i64).C w A0 x.fKinds∧x.fLines.length≤c1∧kApiLine.C w A1 x.fLines∧x.fCode.length≤c2∧kApiInstr.C w A2 x.fCode∧x.fRelocs.length≤c3∧kApiReloc.C w A3 x.fRelocs:=by
 obtain ⟨_,_,rfl,rfl,⟨_,_,rfl,⟨A0,c0,rfl,l0,g0⟩,⟨_,_,rfl,rfl,⟨_,_,rfl,rfl,⟨_,_,rfl,rfl,⟨_,_,rfl,rfl,⟨_,_,rfl,⟨A1,c1,rfl,l1,g1⟩,⟨_,_,rfl,⟨A2,c2,rfl,l2,g2⟩,⟨A3,c3,rfl,l3,g3⟩⟩⟩⟩⟩⟩⟩⟩⟩:=h
 exact ⟨A0,c0,A1,c1,A2,c2,A3,c3,rfl,l0,g0,l1,g1,l2,g2,l3,g3⟩
theorem kApiFunc_mk (w:World) (x:ApiFunc) {A0 A1 A2 A3:Option Addr}{c0 c1 c2 c3:Nat}(l0:x.fKinds.length≤c0) (g0:(Kd.int .i64).C w A0 x.fKinds) (l1:x.fLines.length≤c1) (g1:kApiLine.C w A1 x.fLines) (l2:x.fCode.length≤c2) (g2:kApiInstr.C w A2 x.fCode) (l3:x.fRelocs.length≤c3) (g3:kApiReloc.C w A3 x.fRelocs):kApiFunc.K w x [.int .i64 x.fClass,.slice A0 x.fKinds.length c0,.int .i64 x.fPad,.bool x.fNosplit,.int .i64 x.fFrom,.int .i64 x.fTo,.slice A1 x.fLines.length c1,.slice A2 x.fCode.length c2,.slice A3 x.fRelocs.length c3]:=⟨_,_,rfl,rfl,⟨_,_,rfl,⟨A0,c0,rfl,l0,g0⟩,⟨_,_,rfl,rfl,⟨_,_,rfl,rfl,⟨_,_,rfl,rfl,⟨_,_,rfl,rfl,⟨_,_,rfl,⟨A1,c1,rfl,l1,g1⟩,⟨_,_,rfl,⟨A2,c2,rfl,l2,g2⟩,⟨A3,c3,rfl,l3,g3⟩⟩⟩⟩⟩⟩⟩⟩⟩
def vApiFunc (x:ApiFunc):Prop:=in64 x.fClass∧(x.fKinds.length≤maxLen∧∀ y ∈ x.fKinds,in64 y)∧in64 x.fPad∧True∧in64 x.fFrom∧in64 x.fTo∧(x.fLines.length≤maxLen∧∀ y ∈ x.fLines,vApiLine y)∧(x.fCode.length≤maxLen∧∀ y ∈ x.fCode,vApiInstr y)∧(x.fRelocs.length≤maxLen∧∀ y ∈ x.fRelocs,vApiReloc y)
set_option maxRecDepth 100000 in
theorem opApiFunc:Opens Tryz.prog 57 kApiFunc vApiFunc:=Opens.weak (opens_struct (fun p=>(⟨p.1,p.2.1,p.2.2.1,p.2.2.2.1,p.2.2.2.2.1,p.2.2.2.2.2.1,p.2.2.2.2.2.2.1,p.2.2.2.2.2.2.2.1,p.2.2.2.2.2.2.2.2⟩:ApiFunc)) (fun _=>rfl) Tryz.underlying57 (opensF_cons (opens_i64 rfl) rfl (opensF_cons (opens_slice rfl rfl (opens_i64 rfl)) rfl (opensF_cons (opens_i64 rfl) rfl (opensF_cons (opens_bool rfl) rfl (opensF_cons (opens_i64 rfl) rfl (opensF_cons (opens_i64 rfl) rfl (opensF_cons (opens_slice rfl rfl opApiLine) rfl (opensF_cons (opens_slice rfl rfl opApiInstr) rfl (opensF_one (opens_slice rfl rfl opApiReloc) rfl rfl)))))))))) (fun _ h=>h)
structure ApiData where
  fKind:Int
  fWords:List Int
  fRelocs:List ApiReloc
instance:Inhabited ApiData:=⟨⟨0,[],[]⟩⟩
def kApiData:Kd ApiData:=Kd.iso (Kd.pair (Kd.int .i64) (Kd.pair (Kd.slice (Kd.int .i64)) (Kd.slice kApiReloc))) (fun x=>(x.fKind,x.fWords,x.fRelocs))
theorem kApiData_open {w:World}{x:ApiData}{cs:List Value}(h:kApiData.K w x cs):∃ A0 c0 A1 c1,cs=[.int .i64 x.fKind,.slice A0 x.fWords.length c0,.slice A1 x.fRelocs.length c1]∧x.fWords.length≤c0∧(Kd.int .i64).C w A0 x.fWords∧x.fRelocs.length≤c1∧kApiReloc.C w A1 x.fRelocs:=by
 obtain ⟨_,_,rfl,rfl,⟨_,_,rfl,⟨A0,c0,rfl,l0,g0⟩,⟨A1,c1,rfl,l1,g1⟩⟩⟩:=h
 exact ⟨A0,c0,A1,c1,rfl,l0,g0,l1,g1⟩
theorem kApiData_mk (w:World) (x:ApiData) {A0 A1:Option Addr}{c0 c1:Nat}(l0:x.fWords.length≤c0) (g0:(Kd.int .i64).C w A0 x.fWords) (l1:x.fRelocs.length≤c1) (g1:kApiReloc.C w A1 x.fRelocs):kApiData.K w x [.int .i64 x.fKind,.slice A0 x.fWords.length c0,.slice A1 x.fRelocs.length c1]:=⟨_,_,rfl,rfl,⟨_,_,rfl,⟨A0,c0,rfl,l0,g0⟩,⟨A1,c1,rfl,l1,g1⟩⟩⟩
def vApiData (x:ApiData):Prop:=in64 x.fKind∧(x.fWords.length≤maxLen∧∀ y ∈ x.fWords,in64 y)∧(x.fRelocs.length≤maxLen∧∀ y ∈ x.fRelocs,vApiReloc y)
set_option maxRecDepth 100000 in
theorem opApiData:Opens Tryz.prog 62 kApiData vApiData:=Opens.weak (opens_struct (fun p=>(⟨p.1,p.2.1,p.2.2⟩:ApiData)) (fun _=>rfl) Tryz.underlying62 (opensF_cons (opens_i64 rfl) rfl (opensF_cons (opens_slice rfl rfl (opens_i64 rfl)) rfl (opensF_one (opens_slice rfl rfl opApiReloc) rfl rfl)))) (fun _ h=>h)
structure ApiObject where
  fSymbols:List ApiSymbol
  fFuncs:List ApiFunc
  fDatas:List ApiData
instance:Inhabited ApiObject:=⟨⟨[],[],[]⟩⟩
def kApiObject:Kd ApiObject:=Kd.iso (Kd.pair (Kd.slice kApiSymbol) (Kd.pair (Kd.slice kApiFunc) (Kd.slice kApiData))) (fun x=>(x.fSymbols,x.fFuncs,x.fDatas))
theorem kApiObject_open {w:World}{x:ApiObject}{cs:List Value}(h:kApiObject.K w x cs):∃ A0 c0 A1 c1 A2 c2,cs=[.slice A0 x.fSymbols.length c0,.slice A1 x.fFuncs.length c1,.slice A2 x.fDatas.length c2]∧x.fSymbols.length≤c0∧kApiSymbol.C w A0 x.fSymbols∧x.fFuncs.length≤c1∧kApiFunc.C w A1 x.fFuncs∧x.fDatas.length≤c2∧kApiData.C w A2 x.fDatas:=by
 obtain ⟨_,_,rfl,⟨A0,c0,rfl,l0,g0⟩,⟨_,_,rfl,⟨A1,c1,rfl,l1,g1⟩,⟨A2,c2,rfl,l2,g2⟩⟩⟩:=h
 exact ⟨A0,c0,A1,c1,A2,c2,rfl,l0,g0,l1,g1,l2,g2⟩
theorem kApiObject_mk (w:World) (x:ApiObject) {A0 A1 A2:Option Addr}{c0 c1 c2:Nat}(l0:x.fSymbols.length≤c0) (g0:kApiSymbol.C w A0 x.fSymbols) (l1:x.fFuncs.length≤c1) (g1:kApiFunc.C w A1 x.fFuncs) (l2:x.fDatas.length≤c2) (g2:kApiData.C w A2 x.fDatas):kApiObject.K w x [.slice A0 x.fSymbols.length c0,.slice A1 x.fFuncs.length c1,.slice A2 x.fDatas.length c2]:=⟨_,_,rfl,⟨A0,c0,rfl,l0,g0⟩,⟨_,_,rfl,⟨A1,c1,rfl,l1,g1⟩,⟨A2,c2,rfl,l2,g2⟩⟩⟩
def vApiObject (x:ApiObject):Prop:=(x.fSymbols.length≤maxLen∧∀ y ∈ x.fSymbols,vApiSymbol y)∧(x.fFuncs.length≤maxLen∧∀ y ∈ x.fFuncs,vApiFunc y)∧(x.fDatas.length≤maxLen∧∀ y ∈ x.fDatas,vApiData y)
set_option maxRecDepth 100000 in
theorem opApiObject:Opens Tryz.prog 26 kApiObject vApiObject:=Opens.weak (opens_struct (fun p=>(⟨p.1,p.2.1,p.2.2⟩:ApiObject)) (fun _=>rfl) Tryz.underlying26 (opensF_cons (opens_slice rfl rfl opApiSymbol) rfl (opensF_cons (opens_slice rfl rfl opApiFunc) rfl (opensF_one (opens_slice rfl rfl opApiData) rfl rfl)))) (fun _ h=>h)
structure ApiFun where
  fFile:Int
  fItem:Int
  fName:ByteArray
  fF:ApiFunc
  fRefs:List Int
instance:Inhabited ApiFun:=⟨⟨0,0,ByteArray.empty,default,[]⟩⟩
def kApiFun:Kd ApiFun:=Kd.iso (Kd.pair (Kd.int .i64) (Kd.pair (Kd.int .i64) (Kd.pair Kd.string (Kd.pair kApiFunc (Kd.slice (Kd.int .i64)))))) (fun x=>(x.fFile,x.fItem,x.fName,x.fF,x.fRefs))
theorem kApiFun_open {w:World}{x:ApiFun}{cs:List Value}(h:kApiFun.K w x cs):∃ A0 c0 A1 c1 A2 c2 A3 c3 A4 c4,cs=[.int .i64 x.fFile,.int .i64 x.fItem,.string x.fName,.int .i64 x.fF.fClass,.slice A0 x.fF.fKinds.length c0,.int .i64 x.fF.fPad,.bool x.fF.fNosplit,.int .i64 x.fF.fFrom,.int .i64 x.fF.fTo,.slice A1 x.fF.fLines.length c1,.slice A2 x.fF.fCode.length c2,.slice A3 x.fF.fRelocs.length c3,.slice A4 x.fRefs.length c4]∧x.fF.fKinds.length≤c0∧(Kd.int .i64).C w A0 x.fF.fKinds∧x.fF.fLines.length≤c1∧kApiLine.C w A1 x.fF.fLines∧x.fF.fCode.length≤c2∧kApiInstr.C w A2 x.fF.fCode∧x.fF.fRelocs.length≤c3∧kApiReloc.C w A3 x.fF.fRelocs∧x.fRefs.length≤c4∧(Kd.int .i64).C w A4 x.fRefs:=by
 obtain ⟨_,_,rfl,rfl,⟨_,_,rfl,rfl,⟨_,_,rfl,rfl,⟨_,_,rfl,h3,⟨A4,c4,rfl,l4,g4⟩⟩⟩⟩⟩:=h
 obtain ⟨A0,c0,A1,c1,A2,c2,A3,c3,rfl,l0,g0,l1,g1,l2,g2,l3,g3⟩:=kApiFunc_open h3
 exact ⟨A0,c0,A1,c1,A2,c2,A3,c3,A4,c4,rfl,l0,g0,l1,g1,l2,g2,l3,g3,l4,g4⟩
structure ApiDat where
  fFile:Int
  fItem:Int
  fName:ByteArray
  fD:ApiData
  fRefs:List Int
instance:Inhabited ApiDat:=⟨⟨0,0,ByteArray.empty,default,[]⟩⟩
def kApiDat:Kd ApiDat:=Kd.iso (Kd.pair (Kd.int .i64) (Kd.pair (Kd.int .i64) (Kd.pair Kd.string (Kd.pair kApiData (Kd.slice (Kd.int .i64)))))) (fun x=>(x.fFile,x.fItem,x.fName,x.fD,x.fRefs))
theorem kApiDat_open {w:World}{x:ApiDat}{cs:List Value}(h:kApiDat.K w x cs):∃ A0 c0 A1 c1 A2 c2,cs=[.int .i64 x.fFile,.int .i64 x.fItem,.string x.fName,.int .i64 x.fD.fKind,.slice A0 x.fD.fWords.length c0,.slice A1 x.fD.fRelocs.length c1,.slice A2 x.fRefs.length c2]∧x.fD.fWords.length≤c0∧(Kd.int .i64).C w A0 x.fD.fWords∧x.fD.fRelocs.length≤c1∧kApiReloc.C w A1 x.fD.fRelocs∧x.fRefs.length≤c2∧(Kd.int .i64).C w A2 x.fRefs:=by
 obtain ⟨_,_,rfl,rfl,⟨_,_,rfl,rfl,⟨_,_,rfl,rfl,⟨_,_,rfl,h3,⟨A2,c2,rfl,l2,g2⟩⟩⟩⟩⟩:=h
 obtain ⟨A0,c0,A1,c1,rfl,l0,g0,l1,g1⟩:=kApiData_open h3
 exact ⟨A0,c0,A1,c1,A2,c2,rfl,l0,g0,l1,g1,l2,g2⟩
structure ApiProgram where
  fFuns:List ApiFun
  fDats:List ApiDat
  fEntry:Int
instance:Inhabited ApiProgram:=⟨⟨[],[],0⟩⟩
def kApiProgram:Kd ApiProgram:=Kd.iso (Kd.pair (Kd.slice kApiFun) (Kd.pair (Kd.slice kApiDat) (Kd.int .i64))) (fun x=>(x.fFuns,x.fDats,x.fEntry))
theorem kApiProgram_open {w:World}{x:ApiProgram}{cs:List Value}(h:kApiProgram.K w x cs):∃ A0 c0 A1 c1,cs=[.slice A0 x.fFuns.length c0,.slice A1 x.fDats.length c1,.int .i64 x.fEntry]∧x.fFuns.length≤c0∧kApiFun.C w A0 x.fFuns∧x.fDats.length≤c1∧kApiDat.C w A1 x.fDats:=by
 obtain ⟨_,_,rfl,⟨A0,c0,rfl,l0,g0⟩,⟨_,_,rfl,⟨A1,c1,rfl,l1,g1⟩,rfl⟩⟩:=h
 exact ⟨A0,c0,A1,c1,rfl,l0,g0,l1,g1⟩
theorem kApiProgram_mk (w:World) (x:ApiProgram) {A0 A1:Option Addr}{c0 c1:Nat}(l0:x.fFuns.length≤c0) (g0:kApiFun.C w A0 x.fFuns) (l1:x.fDats.length≤c1) (g1:kApiDat.C w A1 x.fDats):kApiProgram.K w x [.slice A0 x.fFuns.length c0,.slice A1 x.fDats.length c1,.int .i64 x.fEntry]:=⟨_,_,rfl,⟨A0,c0,rfl,l0,g0⟩,⟨_,_,rfl,⟨A1,c1,rfl,l1,g1⟩,rfl⟩⟩
end Go.Proofs.YtafiabekcekdbaaGreatT
namespace Go.Proofs.YtafiabekcekdbaaGreatK
open Go.RowKit Go.Proofs.YtafiabekcekdbaaGreatT
abbrev tT:=true
abbrev fF:=false
noncomputable abbrev CW:=CallsIn Fence.wide 0 Tryz.prog
theorem gPg {w w':World}{x:ApiProgram}{cs:List Value}(hB:Grow w w') (h:kApiProgram.K w x cs):kApiProgram.K w' x cs:=kApiProgram.K_grow hB h
abbrev pcL (p:ApiProgram) (A0:Option Addr) (c0:Nat) (A1:Option Addr) (c1:Nat):List Value:=[.slice A0 p.fFuns.length c0,.slice A1 p.fDats.length c1,.int .i64 p.fEntry]
abbrev pcA (p:ApiProgram) (A0:Option Addr) (c0:Nat) (A1:Option Addr) (c1:Nat):Array Value:=#[.slice A0 p.fFuns.length c0,.slice A1 p.fDats.length c1,.int .i64 p.fEntry]
end Go.Proofs.YtafiabekcekdbaaGreatK
namespace Go.Proofs.YtafiabekcekdbaaGreatL
set_option maxRecDepth 100000
open Go.Shelf Go.Proofs
def laysn189_ren:Go.Shelf.Ren:=⟨fun | 125=>202 | 128=>213 | 129=>214 | 189=>195 | 215=>220 | 216=>210 | 257=>201 | 294=>204 | 295=>205 | 296=>206 | 297=>207 | 298=>208 | 299=>209 | 300=>211 | 301=>212 | 328=>215 | 329=>216 | 330=>217 | 331=>218 | 332=>219 | 343=>221 | n=>n,fun | 0=>0 | 1=>1 | 2=>2 | 3=>3 | 4=>4 | 5=>5 | 6=>6 | 7=>7 | 8=>8 | 9=>9 | 10=>10 | 11=>11 | 12=>12 | 13=>13 | 14=>14 | 15=>15 | 16=>16 | 17=>17 | 18=>18 | 19=>19 | 20=>20 | 21=>21 | 28=>35 | 31=>167 | 34=>93 | 35=>205 | 37=>178 | 43=>89 | 46=>199 | 47=>211 | 51=>221 | 52=>220 | 53=>223 | 54=>222 | 80=>233 | 81=>239 | 83=>111 | 111=>101 | 112=>217 | 114=>98 | 127=>243 | 131=>68 | 132=>150 | 134=>210 | 164=>248 | 181=>212 | 182=>213 | 183=>214 | 184=>215 | 185=>216 | 186=>218 | 187=>219 | 218=>224 | 219=>225 | 220=>226 | 221=>227 | 222=>228 | 223=>229 | 228=>230 | 229=>231 | 230=>232 | 238=>234 | 239=>235 | 240=>236 | 241=>237 | 242=>238 | 243=>240 | 244=>241 | 245=>242 | 246=>244 | 247=>245 | 248=>246 | 249=>247 | n=>n,fun n=>n⟩
theorem laysn189_at:Go.Proofs.Lays.n189 Tryz.prog laysn189_ren:={
 mixed:=by kernel_rfl
 f125:=Tryz.func202.trans (congrArg some (by kernel_rfl))
 f128:=Tryz.func213.trans (congrArg some (by kernel_rfl))
 f129:=Tryz.func214.trans (congrArg some (by kernel_rfl))
 f189:=Tryz.func195.trans (congrArg some (by kernel_rfl))
 f215:=Tryz.func220.trans (congrArg some (by kernel_rfl))
 f216:=Tryz.func210.trans (congrArg some (by kernel_rfl))
 f257:=Tryz.func201.trans (congrArg some (by kernel_rfl))
 f294:=Tryz.func204.trans (congrArg some (by kernel_rfl))
 f295:=Tryz.func205.trans (congrArg some (by kernel_rfl))
 f296:=Tryz.func206.trans (congrArg some (by kernel_rfl))
 f297:=Tryz.func207.trans (congrArg some (by kernel_rfl))
 f298:=Tryz.func208.trans (congrArg some (by kernel_rfl))
 f299:=Tryz.func209.trans (congrArg some (by kernel_rfl))
 f300:=Tryz.func211.trans (congrArg some (by kernel_rfl))
 f301:=Tryz.func212.trans (congrArg some (by kernel_rfl))
 f328:=Tryz.func215.trans (congrArg some (by kernel_rfl))
 f329:=Tryz.func216.trans (congrArg some (by kernel_rfl))
 f330:=Tryz.func217.trans (congrArg some (by kernel_rfl))
 f331:=Tryz.func218.trans (congrArg some (by kernel_rfl))
 f332:=Tryz.func219.trans (congrArg some (by kernel_rfl))
 f343:=Tryz.func221.trans (congrArg some (by kernel_rfl))
 t0:=Tryz.underlying0
 a0:=Tryz.isAgg0
 z0:=Tryz.sizeOf0
 v0:=Tryz.zeroValue0
 t3:=Tryz.underlying3
 a3:=Tryz.isAgg3
 z3:=Tryz.sizeOf3
 v3:=Tryz.zeroValue3
 t4:=Tryz.underlying4
 a4:=Tryz.isAgg4
 z4:=Tryz.sizeOf4
 v4:=Tryz.zeroValue4
 t5:=Tryz.underlying5
 a5:=Tryz.isAgg5
 z5:=Tryz.sizeOf5
 v5:=Tryz.zeroValue5
 t9:=Tryz.underlying9
 a9:=Tryz.isAgg9
 z9:=Tryz.sizeOf9
 v9:=Tryz.zeroValue9
 t28:=Tryz.underlying35
 a28:=Tryz.isAgg35
 z28:=Tryz.sizeOf35
 v28:=Tryz.zeroValue35
 t46:=Tryz.underlying199
 a46:=Tryz.isAgg199
 z46:=Tryz.sizeOf199
 v46:=Tryz.zeroValue199
 t51:=Tryz.underlying221
 a51:=Tryz.isAgg221
 z51:=Tryz.sizeOf221
 v51:=Tryz.zeroValue221
 t53:=Tryz.underlying223
 a53:=Tryz.isAgg223
 z53:=Tryz.sizeOf223
 v53:=Tryz.zeroValue223
 t131:=Tryz.underlying68
 a131:=Tryz.isAgg68
 z131:=Tryz.sizeOf68
 v131:=Tryz.zeroValue68
 t182:=Tryz.underlying213
 a182:=Tryz.isAgg213
 z182:=Tryz.sizeOf213
 v182:=Tryz.zeroValue213
 t183:=Tryz.underlying214
 a183:=Tryz.isAgg214
 z183:=Tryz.sizeOf214
 v183:=Tryz.zeroValue214
 t218:=Tryz.underlying224
 a218:=Tryz.isAgg224
 z218:=Tryz.sizeOf224
 v218:=Tryz.zeroValue224
 t222:=Tryz.underlying228
 a222:=Tryz.isAgg228
 z222:=Tryz.sizeOf228
 v222:=Tryz.zeroValue228
 t228:=Tryz.underlying230
 a228:=Tryz.isAgg230
 z228:=Tryz.sizeOf230
 v228:=Tryz.zeroValue230
 t229:=Tryz.underlying231
 a229:=Tryz.isAgg231
 z229:=Tryz.sizeOf231
 v229:=Tryz.zeroValue231 }
def lays2n20_ren:Go.Shelf.Ren:=⟨fun | 20=>196 | n=>n,fun | 0=>0 | 1=>1 | 2=>2 | 3=>3 | 4=>4 | 5=>5 | 6=>6 | 7=>7 | 8=>8 | 9=>9 | 10=>10 | 11=>11 | 12=>12 | 13=>13 | 14=>14 | 15=>15 | 16=>16 | 17=>17 | 18=>18 | 19=>19 | 20=>20 | 21=>21 | 22=>35 | 23=>160 | 24=>167 | 33=>68 | 36=>93 | 40=>199 | 41=>217 | 42=>101 | 45=>205 | 46=>233 | 47=>234 | 48=>235 | 49=>236 | 50=>237 | 51=>238 | 52=>239 | 53=>221 | 54=>240 | 55=>241 | 56=>242 | 57=>243 | 58=>244 | 59=>245 | 60=>246 | 61=>247 | 62=>248 | n=>n,fun n=>n⟩
theorem lays2n20_at:Go.Proofs.Lays2.n20 Tryz.prog lays2n20_ren:={
 mixed:=by kernel_rfl
 f20:=Tryz.func196.trans (congrArg some (by kernel_rfl))
 t0:=Tryz.underlying0
 a0:=Tryz.isAgg0
 z0:=Tryz.sizeOf0
 v0:=Tryz.zeroValue0
 t3:=Tryz.underlying3
 a3:=Tryz.isAgg3
 z3:=Tryz.sizeOf3
 v3:=Tryz.zeroValue3
 t4:=Tryz.underlying4
 a4:=Tryz.isAgg4
 z4:=Tryz.sizeOf4
 v4:=Tryz.zeroValue4
 t22:=Tryz.underlying35
 a22:=Tryz.isAgg35
 z22:=Tryz.sizeOf35
 v22:=Tryz.zeroValue35
 i3:=by kernel_rfl }
end Go.Proofs.YtafiabekcekdbaaGreatL
namespace Go.Proofs.YtafiabekcekdbaaGreatV
set_option maxRecDepth 100000
set_option maxHeartbeats 4000000
open Go.RowKit Go.Proofs.YtafiabekcekdbaaGreatK Go.Proofs.YtafiabekcekdbaaGreatT Go.Proofs.YtafiabekcekdbaaGreatL

def isC (c:Int):Bool:=decide (0≤c) && decide (c<8)
def parF (c:Int):Int:=if isC c then c / 2 else 0
def ansF (c:Int):Bool:=isC c && decide (c % 2=1)
def latF (c:Int):Bool:=isC c && !ansF c && decide (parF c≤1)
theorem isC_iff {c:Int} : isC c=true↔0≤c∧c<8:=by simp [isC]
theorem parF_in (c:Int):0≤parF c∧parF c≤3:=by
 unfold parF
 split
 · next h=>have:=isC_iff.1 h;omega
 · omega
theorem sig_Is {B:Base}{w:World}(hS:St B [] w) (c:Int) :
 CW 60 #[.int .i64 c] w (Ret B (fun _:Unit=>True) (fun _=>.bool (isC c)) (fun _=>[])):=by
 refine ZX Tryz.func60 hS ?_
 refine Zh (Zi (Zp J (Zn (Za (Zh (Zi (Zo J (Z2 J J (Zo J (ZS (ZT 5) (fun h5=>?_) (fun h5=>?_)))))))))))
 refine Zq J J (Zo J (Zq J J (Zx J J (Zt J J (Zza ?_)))))
 exact ⟨(),trivial,by simp_all [resVal,isC] <;> omega,Lh⟩
 refine Zr J J J J (Zr J J J J (Zu J J (Zza ?_)))
 exact ⟨(),trivial,by simp_all [resVal,isC] <;> omega,Lh⟩
theorem sig_Params {B:Base}{w:World}(hS:St B [] w) (c:Int) :
 CW 158 #[.int .i64 c] w (Ret B (fun _:Unit=>True) (fun _=>.int .i64 (parF c)) (fun _=>[])):=by
 refine ZX Tryz.func158 hS ?_
 refine Zh (Zi (Zp J (Zn (Za (Zh (Zh (Zi (Zo J ?_))))))))
 (refine ZC0 rfl ZK (fun w hS=>frame hS ZQ (fun B' hB hS'=>sig_Is hS' c)) ?_;rintro ⟨⟩ -)
 refine Zno ?_
 refine Zn (Za (wC (fun h5=>?_) (fun h5=>?_)))
 refine Zh (Zi (Zzc ?_))
 exact ⟨(),trivial,by simp_all [resVal,parF],Lh⟩
 refine Zj (Za (Zh (Zi (Zo J (oShr1 J J (Zza ?_))))))
 exact ⟨(),trivial,by simp_all [resVal,parF],Lh⟩
theorem sig_Answers {B:Base}{w:World}(hS:St B [] w) (c:Int) :
 CW 164 #[.int .i64 c] w (Ret B (fun _:Unit=>True) (fun _=>.bool (ansF c)) (fun _=>[])):=by
 refine ZX Tryz.func164 hS ?_
 refine Zh (Zi (Zp J (Zn (Zzm ?_))))
 (refine ZC0 rfl ZK (fun w hS=>frame hS ZQ (fun B' hB hS'=>sig_Is hS' c)) ?_;rintro ⟨⟩ -)
 refine Zo J (ZS (ZT 5) (fun h5=>?_) (fun h5=>?_))
 refine Zq J J (Zo J (Zq J J (oAnd1 J J (Zq J J (Zy J J (Zt J J (Zza ?_)))))))
 exact ⟨(),trivial,by simp_all [resVal,ansF],Lh⟩
 refine Zr J J J J (Zzp ?_)
 exact ⟨(),trivial,by simp_all [resVal,ansF],Lh⟩
theorem sig_Later {B:Base}{w:World}(hS:St B [] w) (c:Int) :
 CW 140 #[.int .i64 c] w (Ret B (fun _:Unit=>True) (fun _=>.bool (latF c)) (fun _=>[])):=by
 refine ZX Tryz.func140 hS ?_
 refine Zh (Zi (Zp J (Zn (Zzm ?_))))
 (refine ZC0 rfl ZK (fun w hS=>frame hS ZQ (fun B' hB hS'=>sig_Is hS' c)) ?_;rintro ⟨⟩ -)
 refine Zo J (ZS (ZT 5) (fun h5=>?_) (fun h5=>?_))
 refine Zq J J (Zo J (Zq J J ?_))
 (refine ZC0 rfl ZK (fun w hS=>frame hS ZQ (fun B' hB hS'=>sig_Answers hS' c)) ?_;rintro ⟨⟩ -)
 refine Zq J J (Zno ?_)
 refine Zt J J (Zo J (ZS (ZT 10) (fun h10=>?_) (fun h10=>?_)))
 refine Zq J J (Zo J (Zq J J ?_))
 (refine ZC0 rfl ZK (fun w hS=>frame hS ZQ (fun B' hB hS'=>sig_Params hS' c)) ?_;rintro ⟨⟩ -)
 refine Zq J J (oLeq J J (Zt J J (Zza ?_)))
 exact ⟨(),trivial,by simp_all [resVal,latF],Lh⟩
 refine Zr J J J J (Zzp ?_)
 exact ⟨(),trivial,by simp_all [resVal,latF],Lh⟩
 refine Zr J J J J (Zr J J J J (Zr J J J J (Zu J J (Zo J (Zr J J J J (Zzp ?_))))))
 exact ⟨(),trivial,by simp_all [resVal,latF],Lh⟩
theorem sig_Class {B:Base}{w:World}(hS:St B [] w) (k:Int) :
 CW 129 #[.int .i64 k] w (Ret B (fun _:Unit=>True) (fun _=>.tuple #[.int .i64 (if isC (IntKind.i64.wrap (k-1)) then IntKind.i64.wrap (k-1) else 0),.bool (isC (IntKind.i64.wrap (k-1)))]) (fun _=>[])):=by
 generalize hz:IntKind.i64.wrap (k-1)=z
 refine ZX Tryz.func129 hS ?_
 refine Zh (Zi (Zp J (Zp J (Zn (Za (Zh (Zh (Zi (Zo J (oSubW J J ?_))))))))))
 rw [hz]
 (refine ZC0 rfl ZK (fun w hS=>frame hS ZQ (fun B' hB hS'=>sig_Is hS' z)) ?_;rintro ⟨⟩ -)
 refine Zno ?_
 refine Zn (Za (wC (fun h7=>?_) (fun h7=>?_)))
 refine Zh (Zi (Zzo ?_))
 refine ⟨rfl,_,(ResL.cons (ResR.tmp rfl) (ResL.cons (ResR.tmp rfl) ResL.nil)),?_⟩
 exact ⟨(),trivial,by simp_all [resVal],Lh⟩
 refine Zj (Za (Zh (Zi (Zo J (oSubW J J ?_)))))
 rw [hz]
 refine Zp J (Zp J (Zn (Za (Zl (Zw ?_)))))
 refine ⟨rfl,_,(ResL.cons (ResR.tmp rfl) (ResL.cons (ResR.tmp rfl) ResL.nil)),?_⟩
 exact ⟨(),trivial,by simp_all [resVal],Lh⟩
def textsL:List ByteArray:=[⟨#[110]⟩,⟨#[102,48]⟩,⟨#[102,48,114]⟩,⟨#[102,49]⟩,⟨#[102,49,114]⟩,⟨#[102,50]⟩,⟨#[102,50,114]⟩,⟨#[102,51]⟩,⟨#[102,51,114]⟩]
def textF (k:Int):ByteArray:=if 0≤k∧k<9 then textsL.getD k.toNat ByteArray.empty else ByteArray.empty
theorem textF_no {k:Int} : textF k=ByteArray.empty↔¬ (0≤k∧k<9):=by
 unfold textF
 by_cases h:0≤k∧k<9
 · rw [if_pos h]
   obtain ⟨n,rfl⟩:=Int.eq_ofNat_of_zero_le h.1
   have:∀ n,n<9→textsL.getD n ByteArray.empty≠ByteArray.empty:=by decide
   rw [Int.toNat_natCast]
   constructor
   · intro e;exact absurd e (this n ZO)
   · intro e;exact absurd h e
 · rw [if_neg h];simp [h]
theorem strs_at {L:List ByteArray}{k n:Nat}(hn:L.length=n) (h:k<n):(L.map Value.string)[k]?=some (.string (L.getD k ByteArray.empty)):=by
 subst hn
 rw [List.getElem?_map,List.getD_eq_getElem?_getD,List.getElem?_eq_getElem h];rfl
theorem sig_texts {B:Base}{w:World}(hS:St B [] w) (W0:World) :
 CW 127 #[] w (Ret B (fun _:Nat=>True) (fun b=>.slice (some ⟨b,0,none⟩) 9 9) (fun b=>[row Kd.string W0 9 (.slice (some ⟨b,0,none⟩) 9 9) textsL])):=by
 refine ZX Tryz.func127 hS ?_
 refine Zh (Zi (Zp J (Zn (Za (Zh (Zi ?_))))))
 refine oBuildSliceF (Parts.cons J (Parts.cons J (Parts.cons J (Parts.cons J (Parts.cons J (Parts.cons J (Parts.cons J (Parts.cons J (Parts.cons J Parts.nil))))))))) J J J J J (Fulls.cons ZP J (Fulls.cons ZP J (Fulls.cons ZP J (Fulls.cons ZP J (Fulls.cons ZP J (Fulls.cons ZP J (Fulls.cons ZP J (Fulls.cons ZP J (Fulls.cons ZP J Fulls.nil ap) ap) ap) ap) ap) ap) ap) ap) ap) (fun b1=>?_)
 refine Zp J (Zzk ?_)
 exact ⟨b1,trivial,rfl,Leads.trans (blk_row (enc:=Value.string) (h1:=fun _=>rfl) (W:=W0) (xs:=textsL) ZP rfl rfl (by decide)) Lh⟩
theorem sig_Text {B:Base}{w:World}(hS:St B [] w) (k:Int) :
 CW 96 #[.int .i64 k] w (Ret B (fun _:Unit=>True) (fun _=>.string (textF k)) (fun _=>[])):=by
 refine ZX Tryz.func96 hS ?_
 refine Zh (Zi (Zp J (Zn (Za (Zh (Zi ?_))))))
 (refine ZC0 rfl ZK (fun w hS=>frame hS ZQ (fun B' hB hS'=>sig_texts hS' B.e)) ?_;rintro b4 -)
 refine Zp J (Zn (Za (Zh (Zh (Zi (Zo J (Zx J J (Zo J (ZS (ZT 7) (fun h7=>?_) (fun h7=>?_))))))))))
 refine Zr J J J J (Zr J J J J (Zr J J J J (Zr J J J J (Zt J J (Zn (Za (wCondT J (Zh (Zi (Zzc ?_))))))))))
 exact ⟨(),trivial,by unfold textF;rw [if_neg ZO];rfl,Lh⟩
 refine Zq J J (Zo J (Zq J J (Zo J (Zq J J (Zv J J (Zq J J (Z2 J J (Zu J J (Zn (Za (wC (fun h12=>?_) (fun h12=>?_))))))))))))
 refine Zh (Zi (Zzc ?_))
 exact ⟨(),trivial,by unfold textF;rw [if_neg ZO];rfl,Lh⟩
 obtain ⟨n,rfl⟩:=Int.eq_ofNat_of_zero_le (show 0≤k by omega)
 have hn9:n<9:=by omega
 refine Zj (Zzv ?_)
 refine ZR J J ZP (by first | exact hn9 | (show n<9;omega)) J J (fun g15 hg15=>?_)
 first | subst hg15 | (injection hg15 with hg15;injection hg15 with hg15;subst hg15)
 refine ZR1 J ZP (by first | exact hn9 | (show n<9;omega)) J (fun u16 hu16=>?_)
 obtain rfl:u16=textsL.getD n ByteArray.empty:=by rw [List.getD_eq_getElem?_getD,hu16];rfl
 refine Zp J (Zzk ?_)
 exact ⟨(),trivial,by unfold textF;rw [if_pos ZO,Int.toNat_natCast];rfl,Lh⟩
def ownF (o:Int):Bool:=decide (1≤o) && decide (o≤24)
theorem ownF_iff {o:Int} : ownF o=true↔1≤o∧o≤24:=by simp [ownF]
def needF (o:Int):Int:=if o=19 then 1 else if o=17 then 2 else if o=15∨o=16 then 3 else if o=18 then 4 else if o=21 then 5 else 0
def endsF (o:Int):Bool:=decide (o=11∨o=22∨o=24)
def shapesL:List ByteArray:=[⟨#[45,45,45,45]⟩,⟨#[119,45,45,110]⟩,⟨#[119,114,45,45]⟩,⟨#[119,114,114,45]⟩,⟨#[119,114,114,45]⟩,⟨#[119,114,114,45]⟩,⟨#[119,114,114,45]⟩,⟨#[119,114,114,45]⟩,⟨#[119,114,114,45]⟩,⟨#[119,114,114,45]⟩,⟨#[45,45,45,116]⟩,⟨#[114,45,45,116]⟩,⟨#[119,45,45,45]⟩,⟨#[114,45,45,45]⟩,⟨#[119,114,45,45]⟩,⟨#[114,114,45,45]⟩,⟨#[103,45,45,45]⟩,⟨#[103,114,45,45]⟩,⟨#[99,45,45,45]⟩,⟨#[99,102,107,45]⟩,⟨#[100,45,45,45]⟩,⟨#[114,45,45,45]⟩,⟨#[119,119,45,45]⟩,⟨#[118,45,45,45]⟩]
def namesL:List ByteArray:=[⟨#[110,111,112]⟩,⟨#[115,101,116]⟩,⟨#[109,111,118,101]⟩,⟨#[97,100,100]⟩,⟨#[115,117,98]⟩,⟨#[109,117,108]⟩,⟨#[100,105,118]⟩,⟨#[109,111,100]⟩,⟨#[108,101,115,115]⟩,⟨#[115,97,109,101]⟩,⟨#[106,117,109,112]⟩,⟨#[122,101,114,111]⟩,⟨#[105,110]⟩,⟨#[111,117,116]⟩,⟨#[108,111,97,100]⟩,⟨#[115,116,111,114,101]⟩,⟨#[102,117,110,99]⟩,⟨#[112,105,99,107]⟩,⟨#[99,97,108,108]⟩,⟨#[118,105,97]⟩,⟨#[100,101,102,101,114]⟩,⟨#[112,97,110,105,99]⟩,⟨#[114,101,99,111,118,101,114]⟩,⟨#[114,101,116,117,114,110]⟩,⟨#[99,104,101,99,107]⟩,⟨#[101,110,116,101,114]⟩,⟨#[98,111,116,116,111,109]⟩,⟨#[100,114,105,118,101,114]⟩]
def shapeF (o:Int):ByteArray:=if ownF o then shapesL.getD (o-1).toNat ByteArray.empty else ByteArray.empty
def nameF (o:Int):ByteArray:=if 1≤o∧o≤28 then namesL.getD (o-1).toNat ByteArray.empty else ByteArray.empty
theorem shapeF_size (o:Int):(shapeF o).size=if ownF o then 4 else 0:=by
 unfold shapeF
 by_cases h:ownF o=true
 · rw [if_pos h,if_pos h]
   have h2:=ownF_iff.1 h
   have:∀ n,n<24→(shapesL.getD n ByteArray.empty).size=4:=by decide
   exact this _ ZO
 · rw [if_neg h,if_neg h];rfl
theorem shapeF_asc (o:Int):Asc (shapeF o):=by
 intro i hi
 have hs:=shapeF_size o
 unfold shapeF at *
 by_cases h:ownF o=true
 · rw [if_pos h] at *
   rw [hs,if_pos h] at hi
   have h2:=ownF_iff.1 h
   have:∀ n,n<24→∀ i,i<4→byteAt (shapesL.getD n ByteArray.empty) i<128:=by decide
   exact this _ ZO i hi
 · rw [if_neg h] at *
   exact absurd hi (Nat.not_lt_zero _)
theorem op_Own {B:Base}{w:World}(hS:St B [] w) (o:Int) :
 CW 161 #[.int .i64 o] w (Ret B (fun _:Unit=>True) (fun _=>.bool (ownF o)) (fun _=>[])):=by
 refine ZX Tryz.func161 hS ?_
 refine Zh (Zi (Zp J (Zn (Za (Zh (Zi (Zo J (Z2 J J (Zo J (ZS (ZT 5) (fun h5=>?_) (fun h5=>?_)))))))))))
 refine Zq J J (Zo J (Zq J J (oLeq J J (Zt J J (Zza ?_)))))
 exact ⟨(),trivial,by simp_all [resVal,ownF] <;> omega,Lh⟩
 refine Zr J J J J (Zr J J J J (Zu J J (Zza ?_)))
 exact ⟨(),trivial,by simp_all [resVal,ownF] <;> omega,Lh⟩
theorem op_Need {B:Base}{w:World}(hS:St B [] w) (o:Int) :
 CW 55 #[.int .i64 o] w (Ret B (fun _:Unit=>True) (fun _=>.int .i64 (needF o)) (fun _=>[])):=by
 refine ZX Tryz.func55 hS ?_
 refine Zh (Zi (Zp J (Zn (Za (Zh (Zh (Zi (Zo J (Zn (Za (Zk (Zh (Zi (Zy J J (Zp J (Zn (Za (wC (fun h4=>?_) (fun h4=>?_)))))))))))))))))))
 refine Zh (Zi (Zzh ?_))
 exact ⟨(),trivial,by simp_all [resVal,needF],Lh⟩
 refine Zh (Zi (Zy J J (Zp J (Zn (Za (wC (fun h6=>?_) (fun h6=>?_)))))))
 refine Zh (Zi (Zzh ?_))
 exact ⟨(),trivial,by simp_all [resVal,needF],Lh⟩
 refine Zh (Zh (Zi (Zy J J (Zp J (Zn (Za (wC (fun h8=>?_) (fun h8=>?_))))))))
 refine Zj (Za (ZY h8 ?_))
 refine Zh (Zi (Zzh ?_))
 exact ⟨(),trivial,by simp_all [resVal,needF],Lh⟩
 refine Zi (Zy J J (Zp J (Zn (Za (wC (fun h8=>?_) (fun h8=>?_))))))
 refine Zh (Zi (Zzh ?_))
 exact ⟨(),trivial,by simp_all [resVal,needF],Lh⟩
 refine Zh (Zi (Zy J J (Zp J (Zn (Za (wC (fun h11=>?_) (fun h11=>?_)))))))
 refine Zh (Zi (Zzh ?_))
 exact ⟨(),trivial,by simp_all [resVal,needF],Lh⟩
 refine Zh (Zi (Zy J J (Zp J (Zn (Za (wC (fun h13=>?_) (fun h13=>?_)))))))
 refine Zh (Zi (Zzh ?_))
 exact ⟨(),trivial,by simp_all [resVal,needF],Lh⟩
 refine Zj (Zd (Zzy ?_))
 exact ⟨(),trivial,by simp_all [resVal,needF],Lh⟩
theorem op_Ends {B:Base}{w:World}(hS:St B [] w) (o:Int) :
 CW 194 #[.int .i64 o] w (Ret B (fun _:Unit=>True) (fun _=>.bool (endsF o)) (fun _=>[])):=by
 refine ZX Tryz.func194 hS ?_
 refine Zh (Zi (Zp J (Zn (Za (Zh (Zi (Zo J (Zy J J (Zo J (ZS (ZT 5) (fun h5=>?_) (fun h5=>?_)))))))))))
 refine Zr J J J J (Zr J J J J (Zt J J (Zo J (Zr J J J J (Zr J J J J (Zt J J (Zza ?_)))))))
 exact ⟨(),trivial,by simp_all [resVal,endsF],Lh⟩
 refine Zq J J (Zo J (Zq J J (Zy J J (Zu J J (Zo J (ZS (ZT 9) (fun h9=>?_) (fun h9=>?_)))))))
 refine Zr J J J J (Zr J J J J (Zt J J (Zza ?_)))
 exact ⟨(),trivial,by simp_all [resVal,endsF],Lh⟩
 refine Zq J J (Zo J (Zq J J (Zy J J (Zu J J (Zza ?_)))))
 exact ⟨(),trivial,by simp_all [resVal,endsF],Lh⟩
theorem op_shapes {B:Base}{w:World}(hS:St B [] w) :
 CW 192 #[] w (Ret B (fun _:Unit=>True) (fun _=>.agg (shapesL.map Value.string).toArray) (fun _=>[])):=by
 refine ZX Tryz.func192 hS ?_
 refine Zh (Zi (oAlloc J ZP (fun b0=>?_)))
 refine Zn (Za (Zh (Zi (oBuildArr (Parts.cons J (Parts.cons J (Parts.cons J (Parts.cons J (Parts.cons J (Parts.cons J (Parts.cons J (Parts.cons J (Parts.cons J (Parts.cons J (Parts.cons J (Parts.cons J (Parts.cons J (Parts.cons J (Parts.cons J (Parts.cons J (Parts.cons J (Parts.cons J (Parts.cons J (Parts.cons J (Parts.cons J (Parts.cons J (Parts.cons J (Parts.cons J Parts.nil)))))))))))))))))))))))) J J (Built.cons (off:=0) (s:=1) J ZP J ZP (Built.cons (off:=1) (s:=1) J ZP J ZP (Built.cons (off:=2) (s:=1) J ZP J ZP (Built.cons (off:=3) (s:=1) J ZP J ZP (Built.cons (off:=4) (s:=1) J ZP J ZP (Built.cons (off:=5) (s:=1) J ZP J ZP (Built.cons (off:=6) (s:=1) J ZP J ZP (Built.cons (off:=7) (s:=1) J ZP J ZP (Built.cons (off:=8) (s:=1) J ZP J ZP (Built.cons (off:=9) (s:=1) J ZP J ZP (Built.cons (off:=10) (s:=1) J ZP J ZP (Built.cons (off:=11) (s:=1) J ZP J ZP (Built.cons (off:=12) (s:=1) J ZP J ZP (Built.cons (off:=13) (s:=1) J ZP J ZP (Built.cons (off:=14) (s:=1) J ZP J ZP (Built.cons (off:=15) (s:=1) J ZP J ZP (Built.cons (off:=16) (s:=1) J ZP J ZP (Built.cons (off:=17) (s:=1) J ZP J ZP (Built.cons (off:=18) (s:=1) J ZP J ZP (Built.cons (off:=19) (s:=1) J ZP J ZP (Built.cons (off:=20) (s:=1) J ZP J ZP (Built.cons (off:=21) (s:=1) J ZP J ZP (Built.cons (off:=22) (s:=1) J ZP J ZP (Built.cons (off:=23) (s:=1) J ZP J ZP Built.nil)))))))))))))))))))))))) ?_))))
 refine Zsa ?_
 refine Zn (Za (Zl (Zw (ZI ?_))))
 exact ⟨(),trivial,rfl,Lh⟩
theorem op_names {B:Base}{w:World}(hS:St B [] w) :
 CW 198 #[] w (Ret B (fun _:Unit=>True) (fun _=>.agg (namesL.map Value.string).toArray) (fun _=>[])):=by
 refine ZX Tryz.func198 hS ?_
 refine Zh (Zi (oAlloc J ZP (fun b0=>?_)))
 refine Zn (Za (Zh (Zi (oBuildArr (Parts.cons J (Parts.cons J (Parts.cons J (Parts.cons J (Parts.cons J (Parts.cons J (Parts.cons J (Parts.cons J (Parts.cons J (Parts.cons J (Parts.cons J (Parts.cons J (Parts.cons J (Parts.cons J (Parts.cons J (Parts.cons J (Parts.cons J (Parts.cons J (Parts.cons J (Parts.cons J (Parts.cons J (Parts.cons J (Parts.cons J (Parts.cons J (Parts.cons J (Parts.cons J (Parts.cons J (Parts.cons J Parts.nil)))))))))))))))))))))))))))) J J (Built.cons (off:=0) (s:=1) J ZP J ZP (Built.cons (off:=1) (s:=1) J ZP J ZP (Built.cons (off:=2) (s:=1) J ZP J ZP (Built.cons (off:=3) (s:=1) J ZP J ZP (Built.cons (off:=4) (s:=1) J ZP J ZP (Built.cons (off:=5) (s:=1) J ZP J ZP (Built.cons (off:=6) (s:=1) J ZP J ZP (Built.cons (off:=7) (s:=1) J ZP J ZP (Built.cons (off:=8) (s:=1) J ZP J ZP (Built.cons (off:=9) (s:=1) J ZP J ZP (Built.cons (off:=10) (s:=1) J ZP J ZP (Built.cons (off:=11) (s:=1) J ZP J ZP (Built.cons (off:=12) (s:=1) J ZP J ZP (Built.cons (off:=13) (s:=1) J ZP J ZP (Built.cons (off:=14) (s:=1) J ZP J ZP (Built.cons (off:=15) (s:=1) J ZP J ZP (Built.cons (off:=16) (s:=1) J ZP J ZP (Built.cons (off:=17) (s:=1) J ZP J ZP (Built.cons (off:=18) (s:=1) J ZP J ZP (Built.cons (off:=19) (s:=1) J ZP J ZP (Built.cons (off:=20) (s:=1) J ZP J ZP (Built.cons (off:=21) (s:=1) J ZP J ZP (Built.cons (off:=22) (s:=1) J ZP J ZP (Built.cons (off:=23) (s:=1) J ZP J ZP (Built.cons (off:=24) (s:=1) J ZP J ZP (Built.cons (off:=25) (s:=1) J ZP J ZP (Built.cons (off:=26) (s:=1) J ZP J ZP (Built.cons (off:=27) (s:=1) J ZP J ZP Built.nil)))))))))))))))))))))))))))) ?_))))
 refine Zsa ?_
 refine Zn (Za (Zl (Zw (ZI ?_))))
 exact ⟨(),trivial,rfl,Lh⟩
theorem op_Shape {B:Base}{w:World}(hS:St B [] w) (o:Int) :
 CW 166 #[.int .i64 o] w (Ret B (fun _:Unit=>True) (fun _=>.string (shapeF o)) (fun _=>[])):=by
 refine ZX Tryz.func166 hS ?_
 refine Zh (Zi (Zp J (Zn (Za (Zh (Zh (Zi (Zo J ?_))))))))
 (refine ZC0 rfl ZK (fun w hS=>frame hS ZQ (fun B' hB hS'=>op_Own hS' o)) ?_;rintro ⟨⟩ -)
 refine Zno ?_
 refine Zn (Za (wC (fun h5=>?_) (fun h5=>?_)))
 refine Zh (Zi (Zzc ?_))
 exact ⟨(),trivial,by unfold shapeF;rw [if_neg (by simpa using h5)];rfl,Lh⟩
 have ho:ownF o=true:=by simpa using h5
 have ho2:=ownF_iff.1 ho
 refine Zj (Za (Zh (Zi ?_)))
 (refine ZC0 rfl ZK (fun w hS=>frame hS ZQ (fun B' hB hS'=>op_shapes hS')) ?_;rintro ⟨⟩ -)
 refine Zo J ?_
 first | refine oSub rfl rfl ZO ?_ | refine oSubW rfl rfl ?_
 refine oIndexArr (i:=(o-1).toNat) J J ZO J J ZO (strs_at J (by show _<24;omega)) ?_
 refine Zp J (Zzk ?_)
 exact ⟨(),trivial,by unfold shapeF;rw [if_pos ho];rfl,Lh⟩
theorem op_Name {B:Base}{w:World}(hS:St B [] w) (o:Int) :
 CW 184 #[.int .i64 o] w (Ret B (fun _:Unit=>True) (fun _=>.string (nameF o)) (fun _=>[])):=by
 refine ZX Tryz.func184 hS ?_
 refine Zh (Zi (Zp J (Zn (Za (Zh (Zi ?_))))))
 (refine ZC0 rfl ZK (fun w hS=>frame hS ZQ (fun B' hB hS'=>op_names hS')) ?_;rintro ⟨⟩ -)
 refine oAlloc J ZP (fun b3=>?_)
 refine Zsa ?_
 refine Zn (Za (Zh (Zh (Zi (Zo J (Zx J J (Zo J (ZS (ZT 7) (fun h7=>?_) (fun h7=>?_)))))))))
 refine Zr J J J J (Zr J J J J (Zt J J (Zn (Za (wCondT J (Zh (Zi (Zzc ?_))))))))
 exact ⟨(),trivial,by unfold nameF;rw [if_neg ZO];rfl,Lh⟩
 refine Zq J J (Zo J (Zq J J (Z1 J J (Zu J J (Zn (Za (wC (fun h10=>?_) (fun h10=>?_))))))))
 refine Zh (Zi (Zzc ?_))
 exact ⟨(),trivial,by unfold nameF;rw [if_neg ZO];rfl,Lh⟩
 refine Zj (Zzm ?_)
 first | refine oSub rfl rfl ZO ?_ | refine oSubW rfl rfl ?_
 refine oIdxA (s:=1) (i:=(o-1).toNat) (m:=(o-1).toNat) J J ZO J ZO ZO ?_
 refine oLd J ZP (strs_at J (by show _<28;omega)) J ?_
 refine Zp J (Zzk ?_)
 exact ⟨(),trivial,by unfold nameF;rw [if_pos ZO];rfl,Lh⟩
theorem any_T {n j:Nat}{p:Nat→Bool}(hj:j<n) (h:p j=true):(List.range n).any p=true:=List.any_eq_true.2 ⟨j,List.mem_range.2 hj,h⟩
theorem any_F {n:Nat}{p:Nat→Bool}(h:∀ j,j<n→p j=false):(List.range n).any p=false:=List.any_eq_false.2 (fun j hj=>by rw [h j (List.mem_range.1 hj)];simp)
def fstE:List Int→Int
  | []=>0
  | e :: l=>if e≠0 then e else fstE l
theorem fstE_app {l l':List Int}(h:fstE l=0):fstE (l++l')=fstE l':=by
 induction l with
 | nil=>rfl
 | cons e l ih=>
  unfold fstE at h
  split at h
  · next k=>exact absurd h k
  · next k=>show (if e≠0 then e else fstE (l++l'))=_;rw [if_neg k];exact ih h
theorem fstE_stop {l:List Int}{i:Nat}{e:Int}(h:fstE (l.take i)=0) (hi:l[i]?=some e) (he:e≠0):fstE l=e:=by
 obtain ⟨hl,he0⟩:=List.getElem?_eq_some_iff.1 hi
 have h1:l=l.take i++(e :: l.drop (i+1)):=by rw [← he0,← List.drop_eq_getElem_cons hl,List.take_append_drop]
 have h2:fstE (l.take i++(e :: l.drop (i+1)))=e:=by
  rw [fstE_app h]
  show (if e≠0 then e else _)=_
  rw [if_pos he]
 rw [← h1] at h2
 exact h2
theorem fstE_next {l:List Int}{i:Nat}{e:Int}(h:fstE (l.take i)=0) (hi:l[i]?=some e) (he:e=0):fstE (l.take (i+1))=0:=by
 rw [List.take_add_one,hi,fstE_app h]
 subst he;rfl
theorem fstE_zero {l:List Int} : fstE l=0↔∀ e ∈ l,e=0:=by
  induction l with
  | nil=>simp [fstE]
  | cons e l ih=>
    unfold fstE
    split
    · next k => constructor
                · intro h;exact absurd h k
                · intro h;exact absurd (h e List.mem_cons_self) k
    · next k => rw [ih]; constructor
                · intro h x hx
                  rcases List.mem_cons.1 hx with rfl | hx
                  · omega
                  · exact h x hx
                · intro h x hx;exact h x (List.mem_cons_of_mem _ hx)
def numsL (x:ApiInstr):List Int:=[x.fOp,x.fA,x.fB,x.fC,x.fN]
theorem nums_at (x:ApiInstr) {k:Nat}(h:k<5):((numsL x).map (Value.int .i64))[k]?=some (.int .i64 ((numsL x).getD k 0)):=by
 rw [List.getElem?_map,List.getD_eq_getElem?_getD,List.getElem?_eq_getElem (show k<(numsL x).length from h)];rfl
def opdF (x:ApiInstr) (i:Int):Int:=if i<0∨3<i then 0 else (numsL x).getD (1+i.toNat) 0
def badA (x:ApiInstr) (j:Nat):Bool:=decide ((numsL x).getD (1+j) 0<0∨255<(numsL x).getD (1+j) 0)
def badS (x:ApiInstr) (j:Nat):Bool:=decide (byteAt (shapeF x.fOp) j=45) && decide ((numsL x).getD (1+j) 0≠0)
def icF (x:ApiInstr):Int:=if nameF x.fOp=ByteArray.empty then 8 else if (List.range 3).any (badA x) then 9 else if x.fN < -2147483648∨2147483647<x.fN then 9 else if (List.range (shapeF x.fOp).size).any (badS x) then 2 else 0
theorem instr_numbers {B:Base}{w:World}(hS:St B [] w) (x:ApiInstr) (xc:List Value) (hx:kApiInstr.K B.e x xc) :
 CW 185 #[.agg xc.toArray] w (Ret B (fun _:Unit=>True) (fun _=>.agg ((numsL x).map (Value.int .i64)).toArray) (fun _=>[])):=by
 obtain rfl:=kApiInstr_open hx
 refine ZX Tryz.func185 hS ?_
 refine Zh (Zi (oBox J ZP (fun b1=>?_)))
 refine oAlloc J ZP (fun b2=>?_)
 refine Zn (Za (Zh (Zi (Zz (n:=0) (m:=0) J J J (Zld ?_)))))
 refine Zz (n:=1) (m:=1) J J J (Zld ?_)
 refine Zz (n:=2) (m:=2) J J J (Zld ?_)
 refine Zz (n:=3) (m:=3) J J J (Zld ?_)
 refine Zz (n:=4) (m:=4) J J J (Zld ?_)
 refine oBuildArr (Parts.cons J (Parts.cons J (Parts.cons J (Parts.cons J (Parts.cons J Parts.nil))))) J J (Built.cons (off:=0) (s:=1) J ZP J ZP (Built.cons (off:=1) (s:=1) J ZP J ZP (Built.cons (off:=2) (s:=1) J ZP J ZP (Built.cons (off:=3) (s:=1) J ZP J ZP (Built.cons (off:=4) (s:=1) J ZP J ZP Built.nil))))) ?_
 refine Zsa ?_
 refine Zn (Za (Zl (Zw (ZI ?_))))
 exact ⟨(),trivial,rfl,Lh⟩
theorem instr_Operand {B:Base}{w:World}(hS:St B [] w) (x:ApiInstr) (xc:List Value) (hx:kApiInstr.K B.e x xc) (i:Int) :
 CW 168 #[.agg xc.toArray,.int .i64 i] w (Ret B (fun _:Unit=>True) (fun _=>.int .i64 (opdF x i)) (fun _=>[])):=by
 obtain rfl:=kApiInstr_open hx
 refine ZX Tryz.func168 hS ?_
 refine Zh (Zi (oBox J ZP (fun b2=>?_)))
 refine Zp J (Zn (Za (Zh (Zh (Zi (Zo J (Zx J J (Zo J (ZS (ZT 7) (fun h7=>?_) (fun h7=>?_))))))))))
 refine Zr J J J J (Zr J J J J (Zt J J (Zn (Za (wCondT J (Zh (Zi (Zzc ?_))))))))
 exact ⟨(),trivial,by unfold opdF;rw [if_pos ZO];rfl,Lh⟩
 refine Zq J J (Zo J (Zq J J (Z1 J J (Zu J J (Zn (Za (wC (fun h10=>?_) (fun h10=>?_))))))))
 refine Zh (Zi (Zzc ?_))
 exact ⟨(),trivial,by unfold opdF;rw [if_pos ZO];rfl,Lh⟩
 refine Zj (Za (Zzs ?_))
 (refine ZC0 rfl ZK (fun w hS=>frame hS ZQ (fun B' hB hS'=>instr_numbers hS' x _ (kApiInstr_mk _ x))) ?_;rintro ⟨⟩ -)
 refine Zo J (oAdd J J ZO ?_)
 refine oIndexArr (i:=1+i.toNat) J J ZO J J ZO (nums_at x ZO) ?_
 refine Zp J (Zzk ?_)
 exact ⟨(),trivial,by unfold opdF;rw [if_neg ZO];rfl,Lh⟩
theorem instr_Check {B:Base}{w:World}(hS:St B [] w) (x:ApiInstr) (xc:List Value) (hx:kApiInstr.K B.e x xc) :
 CW 160 #[.agg xc.toArray] w (Ret B (fun _:Unit=>True) (fun _=>.int .i64 (icF x)) (fun _=>[])):=by
 obtain rfl:=kApiInstr_open hx
 have hsz:=shapeF_size x.fOp
 refine ZX Tryz.func160 hS ?_
 refine Zh (Zi (oBox J ZP (fun b1=>?_)))
 refine Zp J (Zn (Za (Zh (Zh (Zi (Zz (n:=0) (m:=0) J J J (Zld ?_)))))))
 (refine ZC0 rfl ZK (fun w hS=>frame hS ZQ (fun B' hB hS'=>op_Name hS' x.fOp)) ?_;rintro ⟨⟩ -)
 refine oSEq J J (Zn (Za (wC (fun h11=>?_) (fun h11=>?_))))
 refine Zh (Zi (Zzc ?_))
 exact ⟨(),trivial,by unfold icF;rw [if_pos (show nameF x.fOp=ByteArray.empty from h11)];rfl,Lh⟩
 refine Zj (Za (Zzs ?_))
 (refine ZC0 rfl ZK (fun w hS=>frame hS ZQ (fun B' hB hS'=>instr_numbers hS' x _ (kApiInstr_mk _ x))) ?_;rintro ⟨⟩ -)
 refine oAlloc J ZP (fun b3=>?_)
 refine Zsa ?_
 refine Zn (Za (Zh (Zh (Zi (oSliceArr (l:=1) (m:=4) J J J J (by decide) (by decide) ?_)))))
 refine ZS0 (t:=14) (v':=.slice (some ⟨b3,1,none⟩) 3 4) J J (Zv J J (Zo J (Zn (Za (Zk (wLoop (ι:=Nat) (fun i=>[(1,.pointer (some ⟨b1,0,none⟩)),(3,.pointer (some ⟨b3,0,none⟩)),(14,.slice (some ⟨b3,1,none⟩) 3 4),(15,.int .i64 ((3:Nat):Int)),(16,.int .i64 (i:Int))]) (fun i=>[blk b1 67 [.int .i64 x.fOp,.int .i64 x.fA,.int .i64 x.fB,.int .i64 x.fC,.int .i64 x.fN],blk b3 200 ((numsL x).map (Value.int .i64))]) (fun i=>i≤3∧∀ j,j<i→badA x j=false) (fun i=>3-i) 0 ?_ cv (Leads.has ZQ) ?_))))))
 exact ⟨Nat.zero_le _,fun j hj=>by omega⟩
 rintro i ⟨hi,hs⟩
 try dsimp only
 refine Zh (Zi (Zx J J (Zn (Za (Zh (wC (fun h17=>?_) (fun h17=>?_)))))))
 have hi3:i<3:=by omega
 refine Zj (Za (Zh (Zk (Zh (Zi (oIdxB (s:=1) (m:=1+i) J J J hi3 ZO ?_))))))
 refine oLd J ZP (nums_at x ZO) J ?_
 refine Zp J (Zn (Za (Zh (Zi (Zo J (Zx J J (Zo J (ZS (ZT 22) (fun h22=>?_) (fun h22=>?_)))))))))
 refine Zr J J J J (Zr J J J J (Zt J J (Zn (Za (wCondT J (Zh (Zi (Zzb ?_))))))))
 exact ⟨(),trivial,by unfold icF;rw [if_neg (show ¬ nameF x.fOp=ByteArray.empty from h11),if_pos (any_T hi3 (by unfold badA;exact decide_eq_true (.inl h22)))];rfl,Lh⟩
 refine Zq J J (Zo J (Zq J J (Z1 J J (Zu J J (Zn (Za (wC (fun h25=>?_) (fun h25=>?_))))))))
 refine Zh (Zi (Zzb ?_))
 exact ⟨(),trivial,by unfold icF;rw [if_neg (show ¬ nameF x.fOp=ByteArray.empty from h11),if_pos (any_T hi3 (by unfold badA;exact decide_eq_true (.inr h25)))];rfl,Lh⟩
 refine Zj (Zzi ?_)
 refine Zo J (Zn (Za ?_))
 exact ⟨rfl,i+1,⟨by omega,fun j hj=>by
 by_cases e:j=i
 · subst e;unfold badA;exact decide_eq_false ZO
 · exact hs j ZO⟩,by omega,cv,Lh⟩
 obtain rfl:i=3:=by omega
 have hA:=any_F hs
 refine Zm (Zb (Zb (Ze (Za (Zh (Zh (Zi (Zz (n:=4) (m:=4) J J J (Zld ?_)))))))))
 refine Zx J J (Zo J (ZS (ZT 30) (fun h30=>?_) (fun h30=>?_)))
 refine Zr J J J J (Zr J J J J (Zr J J J J (Zt J J (Zn (Za (wCondT J (Zh (Zi (Zzc ?_)))))))))
 exact ⟨(),trivial,by unfold icF;rw [if_neg (show ¬ nameF x.fOp=ByteArray.empty from h11),if_neg (by rw [hA];simp),if_pos (.inl h30)];rfl,Lh⟩
 refine Zq J J (Zz (n:=4) (m:=4) J J J (Zzf ?_))
 refine Zq J J (Z1 J J (Zu J J (Zn (Za (wC (fun h34=>?_) (fun h34=>?_))))))
 refine Zh (Zi (Zzc ?_))
 exact ⟨(),trivial,by unfold icF;rw [if_neg (show ¬ nameF x.fOp=ByteArray.empty from h11),if_neg (by rw [hA];simp),if_pos (.inr h34)];rfl,Lh⟩
 refine Zj (Za (Zh (Zi (Zz (n:=0) (m:=0) J J J (Zld ?_)))))
 (refine ZC0 rfl ZK (fun w hS=>frame hS ZQ (fun B' hB hS'=>op_Shape hS' x.fOp)) ?_;rintro ⟨⟩ -)
 refine Zp J (Zn (Za (Zh (Zh (Zi (Zo J (oLenStr J J (Zo J (Zn (Za (Zk (wLoop (ι:=Nat) (fun i=>[(3,.pointer (some ⟨b3,0,none⟩)),(6,.string (shapeF x.fOp)),(39,.int .i64 ((shapeF x.fOp).size:Int)),(40,.int .i64 (i:Int))]) (fun i=>[blk b3 200 ((numsL x).map (Value.int .i64))]) (fun i=>i≤(shapeF x.fOp).size∧∀ j,j<i→badS x j=false) (fun i=>(shapeF x.fOp).size-i) 0 ?_ cv (Leads.has ZQ) ?_))))))))))))
 exact ⟨Nat.zero_le _,fun j hj=>by omega⟩
 rintro i ⟨hi,hs⟩
 try dsimp only
 refine Zh (Zi (Zx J J (Zn (Za (Zh (wC (fun h41=>?_) (fun h41=>?_)))))))
 have hi4:i<(shapeF x.fOp).size:=by omega
 have hi5:i<4:=by rw [hsz] at hi4;split at hi4 <;> omega
 refine Zj (Za (Zh (Zk (Zh (Zi (Zo J (Zp J (Zn (Za (Zh (Zi (Zo J (Zo J (oIndexStr J J J hi4 (Zy J J (Zo J (ZS (ZT 47) (fun h47=>?_) (fun h47=>?_))))))))))))))))))
 refine Zq J J (Zo J (Zq J J (oAdd J J ZO ?_)))
 refine Zq J J (oIdxA (s:=1) (i:=1+i) (m:=1+i) J J ZO J ZO ZO ?_)
 refine Zq J J (oLd J ZP (nums_at x ZO) J ?_)
 refine Zq J J (Z0 J J (Zt J J (Zn (Za (wC (fun h53=>?_) (fun h53=>?_))))))
 refine Zh (Zi (Zzb ?_))
 exact ⟨(),trivial,by unfold icF;rw [if_neg (show ¬ nameF x.fOp=ByteArray.empty from h11),if_neg (by rw [hA];simp),if_neg ZO,if_pos (any_T hi4 (by unfold badS;simp_all))];rfl,Lh⟩
 refine Zj (Zzi ?_)
 refine Zo J (Zn (Za ?_))
 exact ⟨rfl,i+1,⟨by omega,fun j hj=>by
 by_cases e:j=i
 · subst e;unfold badS;simp_all
 · exact hs j ZO⟩,by omega,cv,Lh⟩
 refine Zr J J J J (Zr J J J J (Zr J J J J (Zr J J J J (Zr J J J J (Zu J J (Zn (Za (wCondF J (Zj (Zzi ?_))))))))))
 refine Zo J (Zn (Za ?_))
 exact ⟨rfl,i+1,⟨by omega,fun j hj=>by
 by_cases e:j=i
 · subst e;unfold badS;simp_all
 · exact hs j ZO⟩,by omega,cv,Lh⟩
 refine Zm (Zzg ?_)
 obtain rfl:i=(shapeF x.fOp).size:=by omega
 exact ⟨(),trivial,by unfold icF;rw [if_neg (show ¬ nameF x.fOp=ByteArray.empty from h11),if_neg (by rw [hA];simp),if_neg ZO,if_neg (by rw [any_F hs];simp)];rfl,Lh⟩
def risF (n last:Int):List Int→Bool
  | []=>true
  | a :: l=>if a≤last∨n≤a then false else risF n a l
theorem fun_rising {B:Base}{w:World}(hS:St B [] w) (n:Int) (A:Option Addr) (cp:Nat) (l:List Int) (hC:(Kd.int .i64).C B.e A l) :
 CW 162 #[.int .i64 n,.slice A l.length cp] w (Ret B (fun _:Unit=>True) (fun _=>.bool (risF n (-1) l)) (fun _=>[])):=by
 have hl:=hC.1
 refine ZX Tryz.func162 hS ?_
 refine Zh (Zi (Zp J (Zn (Za (Zh (Zi (Zp J (Zn (Za (Zh (Zh (Zi (Zo J (Zv J J (Zo J (Zn (Za (Zk (wLoop (ι:=Nat×Int) (fun z=>[(0,.int .i64 n),(5,.int .i64 z.2),(8,.slice A l.length cp),(9,.int .i64 (l.length:Int)),(10,.int .i64 (z.1:Int))]) (fun z=>[]) (fun z=>z.1≤l.length∧risF n (-1) l=risF n z.2 (l.drop z.1)) (fun z=>l.length-z.1) (0,-1) ?_ cv (Leads.has ZQ) ?_)))))))))))))))))))
 exact ⟨Nat.zero_le _,rfl⟩
 rintro ⟨i,last⟩ ⟨hi,hr⟩
 dsimp only at hi hr
 try dsimp only
 refine Zh (Zi (Zx J J (Zn (Za (Zh (wC (fun h11=>?_) (fun h11=>?_)))))))
 refine Zj (Za (Zh (Zk (Zh (Zi (oIdx J J (hC) J ZO J J (fun e12 u12 cs12 hu12 hk12 hc12=>?_)))))))
 obtain rfl:=hk12
 refine Zlx hc12 ?_
 have hd:l.drop i=u12 :: l.drop (i+1):=by obtain ⟨hl2,rfl⟩:=List.getElem?_eq_some_iff.1 hu12;exact List.drop_eq_getElem_cons hl2
 refine Zp J (Zn (Za (Zh (Zh (Zi (Zo J (Zo J (oLeq J J (Zo J (ZS (ZT 17) (fun h17=>?_) (fun h17=>?_)))))))))))
 refine Zr J J J J (Zr J J J J (Zr J J J J (Zt J J (Zn (Za (wCondT J (Zh (Zi (Zzj ?_)))))))))
 exact ⟨(),trivial,by rw [hr,hd];show _=Value.bool (if u12≤last∨n≤u12 then _ else _);rw [if_pos ZO];rfl,Lh⟩
 refine Zq J J (Zo J (Zq J J (Zo J (Zq J J (Z2 J J (Zu J J (Zn (Za (wC (fun h21=>?_) (fun h21=>?_))))))))))
 refine Zh (Zi (Zzj ?_))
 exact ⟨(),trivial,by rw [hr,hd];show _=Value.bool (if u12≤last∨n≤u12 then _ else _);rw [if_pos ZO];rfl,Lh⟩
 refine Zj (Za (Zi (Zo J (Zp J (Zn (Zzi ?_))))))
 refine Zo J (Zn (Za ?_))
 exact ⟨rfl,(i+1,u12),⟨by show i+1≤_;omega,by rw [hr,hd];show (if u12≤last∨n≤u12 then _ else _)=_;rw [if_neg ZO]⟩,by show l.length-(i+1)<l.length-i;omega,cv,Lh⟩
 refine Zm (Zzg ?_)
 obtain rfl:i=l.length:=by omega
 exact ⟨(),trivial,by rw [hr,List.drop_length];rfl,Lh⟩
abbrev kII:Kd (List Int):=Kd.slice (Kd.int .i64)
def idxI {α:Type}(p:α→Bool) (l:List α):Int:=if l.any p then (l.findIdx p:Int) else -1
theorem idxI_stop {α:Type}{p:α→Bool}{l:List α}{i:Nat}{x:α}(h:∀ y ∈ l.take i,p y=false) (hi:l[i]?=some x) (hp:p x=true):idxI p l=(i:Int):=by
 obtain ⟨hl,rfl⟩:=List.getElem?_eq_some_iff.1 hi
 unfold idxI
 rw [if_pos (List.any_eq_true.2 ⟨_,List.getElem_mem hl,hp⟩)]
 rw [(List.findIdx_eq hl).2 ⟨hp,fun j hj=>h _ (List.mem_take_iff_getElem.2 ⟨j,by omega,rfl⟩)⟩]
theorem idxI_none {α:Type}{p:α→Bool}{l:List α}(h:∀ y ∈ l,p y=false):idxI p l = -1:=by
 unfold idxI
 rw [if_neg]
 intro k
 obtain ⟨x,hx,hp⟩:=List.any_eq_true.1 k
 rw [h x hx] at hp;cases hp
theorem take_not {α:Type}{p:α→Bool}{l:List α}{i:Nat}{x:α}(h:∀ y ∈ l.take i,p y=false) (hi:l[i]?=some x) (hp:p x=false):∀ y ∈ l.take (i+1),p y=false:=by
 intro y hy
 rw [List.take_add_one,hi] at hy
 rcases List.mem_append.1 hy with k | k
 · exact h y k
 · obtain rfl:y=x:=by simpa using k
   exact hp
theorem idxI_iff {α:Type}{p:α→Bool}{l:List α} : 0≤idxI p l↔l.any p=true:=by
 unfold idxI
 split
 · next h=>simp [h] <;> omega
 · next h=>simp [h] <;> omega
theorem idxI_at {α:Type}{p:α→Bool}{l:List α}(h:0≤idxI p l):∃ (k:Nat) (x:α),idxI p l=(k:Int)∧l[k]?=some x∧p x=true:=by
 have ha:=idxI_iff.1 h
 unfold idxI
 rw [if_pos ha]
 have hl:l.findIdx p<l.length:=List.findIdx_lt_length_of_exists (by simpa using ha)
 exact ⟨_,_,rfl,List.getElem?_eq_getElem hl,List.findIdx_getElem⟩
theorem indexFunc_int {B:Base}{w:World}{R:Res}(hS:St B [R] w) (l:List Int) (A:Option Addr) (cp:Nat) (hC:(Kd.int .i64).C B.e A l) (gf:Nat) (lb:Array Value) (p:Int→Bool) (hg:goodF Tryz.prog gf=true)
 (hh:∀ B' w (x:Int),Grow B.e B'.e→x ∈ l→St B' [R] w→CW gf (#[]++[Value.int .i64 x].toArray++lb) w (Ret B' (fun _:Unit=>True) (fun _=>.bool (p x)) (fun _=>[R]))) :
 CW 123 #[.slice A l.length cp,.func (.func gf) #[] lb] w (Ret B (fun _:Unit=>True) (fun _=>.int .i64 (idxI p l)) (fun _=>[R])):=by
 have hl:=hC.1
 refine ZX Tryz.func123 hS ?_
 refine Zh (Zi (Zp J (Zn (Za (Zh (Zh (Zi (Zo J (Zv J J (Zo J (Zn (Za (Zk (wLoop (ι:=Nat) (fun i=>[(0,.slice A l.length cp),(1,.func (.func gf) #[] lb),(7,.int .i64 (l.length:Int)),(8,.int .i64 (i:Int))]) (fun i=>[R]) (fun i=>i≤l.length∧∀ y ∈ l.take i,p y=false) (fun i=>l.length-i) 0 ?_ cv (Leads.has ZQ) ?_))))))))))))))
 exact ⟨Nat.zero_le _,by simp⟩
 rintro i ⟨hi,hs⟩
 try dsimp only
 refine Zh (Zi (Zx J J (Zn (Za (Zh (wC (fun h9=>?_) (fun h9=>?_)))))))
 refine Zj (Za (Zh (Zk (Zh (Zi (Zo J (Zp J (Zn (Za (Zh (Zi (Zo J (Zo J (Zo J (oIdx J J (hC) J ZO J J (fun e14 u14 cs14 hu14 hk14 hc14=>?_))))))))))))))))
 obtain rfl:=hk14
 refine Zlx hc14 ?_
 (refine oCallV rfl rfl rfl hg (fun w hS=>frame hS ZQ (fun B' hB hS'=>hh B' w u14 hB (List.mem_of_getElem? hu14) hS')) ?_;rintro ⟨⟩ -)
 refine Zn (Za (wC (fun h16=>?_) (fun h16=>?_)))
 refine Zh (Zzz ?_)
 exact ⟨(),trivial,by rw [idxI_stop hs hu14 (by simpa using h16)];rfl,Lh⟩
 refine Zj (Zzi ?_)
 refine Zo J (Zn (Za ?_))
 exact ⟨rfl,i+1,⟨by omega,take_not hs hu14 (by simpa using h16)⟩,by omega,cv,Lh⟩
 refine Zm (Zzg ?_)
 obtain rfl:i=l.length:=by omega
 rw [List.take_length] at hs
 exact ⟨(),trivial,by rw [idxI_none hs];rfl,Lh⟩
theorem containsFunc_int {B:Base}{w:World}{R:Res}(hS:St B [R] w) (l:List Int) (A:Option Addr) (cp:Nat) (hC:(Kd.int .i64).C B.e A l) (gf:Nat) (lb:Array Value) (p:Int→Bool) (hg:goodF Tryz.prog gf=true)
 (hh:∀ B' w (x:Int),Grow B.e B'.e→x ∈ l→St B' [R] w→CW gf (#[]++[Value.int .i64 x].toArray++lb) w (Ret B' (fun _:Unit=>True) (fun _=>.bool (p x)) (fun _=>[R]))) :
 CW 92 #[.slice A l.length cp,.func (.func gf) #[] lb] w (Ret B (fun _:Unit=>True) (fun _=>.bool (l.any p)) (fun _=>[R])):=by
 refine ZX Tryz.func92 hS ?_
 refine Zh (Zi (Zp J (Zn (Zzv ?_))))
 (refine ZC0 rfl ZK (fun w hS=>frame hS ZQ (fun B' hB hS'=>indexFunc_int hS' l A cp (Kd.C_grow hB hC) gf lb p hg (fun B2 w2 x hB2 hx hS2=>hh B2 w2 x (hB.trans hB2) hx hS2))) ?_;rintro ⟨⟩ -)
 refine Z2 J J (Zza ?_)
 exact ⟨(),trivial,by show Value.bool (decide (0≤idxI p l))=_;congr 1;rw [Bool.eq_iff_iff,decide_eq_true_eq];exact idxI_iff,Lh⟩
def nextR (x:ApiInstr) (i:Int):List Int:=if x.fOp=12 then [i+1,x.fN] else if x.fOp=11 then [x.fN] else if endsF x.fOp then [] else [i+1]
def nextL (x:ApiInstr) (i:Int):List Int:=Lib.compact ((nextR x i).mergeSort leI)
def nextF (code:List ApiInstr) (i:Int):List Int:=if i<0∨(code.length:Int)≤i then [] else nextL (code.getD i.toNat default) i
theorem nextR_len (x:ApiInstr) (i:Int):(nextR x i).length≤2:=by
 unfold nextR
 split <;> (try split) <;> (try split) <;> simp
theorem flow_Next {B:Base}{w:World}(hS:St B [] w) (A:Option Addr) (cp:Nat) (code:List ApiInstr) (hC:kApiInstr.C B.e A code) (i:Int) (W0:World) :
 CW 169 #[.slice A code.length cp,.int .i64 i] w (Ret B (fun _:Option Addr×Nat=>True) (fun z=>.slice z.1 (nextF code i).length z.2) (fun z=>[row (Kd.int .i64) W0 3 (.slice z.1 (nextF code i).length z.2) (nextF code i)])):=by
 have hl:=hC.1
 refine ZX Tryz.func169 hS ?_
 refine Zh (Zi (Zp J (Zn (Za (Zh (Zh (Zi (Zo J (Zx J J (Zo J (ZS (ZT 9) (fun h9=>?_) (fun h9=>?_))))))))))))
 refine Zr J J J J (Zr J J J J (Zr J J J J (Zr J J J J (Zt J J (Zn (Za (wCondT J (Zh (Zi (Zzc ?_))))))))))
 rw [show nextF code i=[] from if_pos (.inl h9)]
 exact ⟨(none,0),trivial,rfl,Leads.nilrow.trans Lh⟩
 refine Zq J J (Zo J (Zq J J (Zo J (Zq J J (Zv J J (Zq J J (Z2 J J (Zu J J (Zn (Za (wC (fun h14=>?_) (fun h14=>?_))))))))))))
 refine Zh (Zi (Zzc ?_))
 rw [show nextF code i=[] from if_pos (.inr h14)]
 exact ⟨(none,0),trivial,rfl,Leads.nilrow.trans Lh⟩
 obtain ⟨k,rfl⟩:=Int.eq_ofNat_of_zero_le (show 0≤i by omega)
 obtain ⟨x,hx⟩:∃ x,code[k]?=some x:=⟨_,List.getElem?_eq_getElem ZO⟩
 have hkl:k<code.length:=by omega
 have hnx:nextF code (k:Int)=nextL x (k:Int):=by unfold nextF;rw [if_neg ZO,Int.toNat_natCast,List.getD_eq_getElem?_getD,hx];rfl
 obtain ⟨e1,cs1,hE⟩:=hC.elm hx
 obtain rfl:=kApiInstr_open hE.K
 refine Zj (Za (Zh (Zi (Zp J (Zn (Za (Zh (Zh (Zi (Zo J (Zo J (oIdxE J J (hE) ZO J J ?_))))))))))))
 have hc17:=(hE).cell
 refine Zlx hc17 ?_
 refine oAlloc J ZP (fun b6=>?_)
 refine Zsa ?_
 refine Zn (Za (Zk (Zh (Zk (Zh (Zk (Zh (Zk (Zh (Zh (Zh (Zi (Zz (n:=0) (m:=0) J J J (Zld ?_))))))))))))))
 refine Zy J J (Zp J (Zn (Za (wC (fun h19=>?_) (fun h19=>?_)))))
 refine Zm (Zb (Zb (Ze (Za (Zi (Zo J (Zo J (oAdd J J ZO ?_))))))))
 refine oBuildSlice1 J J J J J ZP J (fun b35=>?_)
 refine oConv (Leads.nilrow (kd:=Kd.int .i64) (W:=W0) (e:=3)) (oApp1 ((k:Int)+1) J J J J ZP ZP J (by simp) J (fun g36 cp36=>?_))
 refine Zp J (Zn (Zd (Za (Zh (Zi (Zo J (Zz (n:=4) (m:=4) J J J (Zld ?_))))))))
 refine oBuildSlice1 J J J J J ZP J (fun b40=>?_)
 refine oApp1 x.fN J J J J ZP ZP J (by simp) J (fun g41 cp41=>?_)
 refine Zp J (Zn (Za (Zm (Zg J (Zb (Ze (Zzm ?_)))))))
 (refine ZC0 rfl ZK (fun w hS=>frame hS ZQ (fun B' hB hS'=>sort_int laysn189_at hS' (by simp))) ?_;rintro ⟨⟩ -)
 refine Zn (Zzm ?_)
 (refine ZC0 rfl ZK (fun w hS=>frame hS ZQ (fun B' hB hS'=>compact_int lays2n20_at hS' (by rw [List.length_mergeSort];simp))) ?_;rintro ⟨⟩ -)
 refine Zp J (Zzk ?_)
 have hnr:nextF code (k:Int)=Lib.compact ((([]++[(k:Int)+1])++[x.fN]).mergeSort leI):=by rw [hnx];unfold nextL nextR;rw [if_pos h19];rfl
 rw [hnr]
 exact ⟨(_,_),trivial,rfl,Lh⟩
 refine Zj (Za (Zh (Zh (Zi (Zz (n:=0) (m:=0) J J J (Zld ?_))))))
 refine Zy J J (Zp J (Zn (Za (wC (fun h23=>?_) (fun h23=>?_)))))
 refine Zm (Zb (Zb (Zg J (Zb (Ze (Za (Zh (Zi (Zo J (Zz (n:=4) (m:=4) J J J (Zld ?_)))))))))))
 refine oBuildSlice1 J J J J J ZP J (fun b40=>?_)
 refine oConv (Leads.nilrow (kd:=Kd.int .i64) (W:=W0) (e:=3)) (oApp1 x.fN J J J J ZP ZP J (by simp) J (fun g41 cp41=>?_))
 refine Zp J (Zn (Za (Zm (Zg J (Zb (Ze (Zzm ?_)))))))
 (refine ZC0 rfl ZK (fun w hS=>frame hS ZQ (fun B' hB hS'=>sort_int laysn189_at hS' (by simp))) ?_;rintro ⟨⟩ -)
 refine Zn (Zzm ?_)
 (refine ZC0 rfl ZK (fun w hS=>frame hS ZQ (fun B' hB hS'=>compact_int lays2n20_at hS' (by rw [List.length_mergeSort];simp))) ?_;rintro ⟨⟩ -)
 refine Zp J (Zzk ?_)
 have hnr:nextF code (k:Int)=Lib.compact (([]++[x.fN]).mergeSort leI):=by rw [hnx];unfold nextL nextR;rw [if_neg h19,if_pos h23];rfl
 rw [hnr]
 exact ⟨(_,_),trivial,rfl,Lh⟩
 refine Zj (Za (Zh (Zi (Zz (n:=0) (m:=0) J J J (Zld ?_)))))
 (refine ZC0 rfl ZK (fun w hS=>frame hS ZQ (fun B' hB hS'=>op_Ends hS' x.fOp)) ?_;rintro ⟨⟩ -)
 refine Zno ?_
 refine Zp J (Zn (Za (wC (fun h27=>?_) (fun h27=>?_))))
 refine Zm (Zb (Zg J (Zb (Zg J (Zb (Ze (Za (Zh (Zi (Zo J (Zo J (oAdd J J ZO ?_))))))))))))
 refine oBuildSlice1 J J J J J ZP J (fun b45=>?_)
 refine oConv (Leads.nilrow (kd:=Kd.int .i64) (W:=W0) (e:=3)) (oApp1 ((k:Int)+1) J J J J ZP ZP J (by simp) J (fun g46 cp46=>?_))
 refine Zp J (Zn (Za (Zm (Ze (Zzm ?_)))))
 (refine ZC0 rfl ZK (fun w hS=>frame hS ZQ (fun B' hB hS'=>sort_int laysn189_at hS' (by simp))) ?_;rintro ⟨⟩ -)
 refine Zn (Zzm ?_)
 (refine ZC0 rfl ZK (fun w hS=>frame hS ZQ (fun B' hB hS'=>compact_int lays2n20_at hS' (by rw [List.length_mergeSort];simp))) ?_;rintro ⟨⟩ -)
 refine Zp J (Zzk ?_)
 have hnr:nextF code (k:Int)=Lib.compact (([]++[(k:Int)+1]).mergeSort leI):=by rw [hnx];unfold nextL nextR;rw [if_neg h19,if_neg h23,if_neg (by have:=h27;simp [endsF] at this ⊢;omega)];rfl
 rw [hnr]
 exact ⟨(_,_),trivial,rfl,Lh⟩
 refine Zj (Za (Zm (Zg J (Zb (Zg J (Zb (Zg J (Zb (Ze (Za (Zh (Zi (Zo J (oConv (Leads.nilrow (kd:=Kd.int .i64) (W:=W0) (e:=3)) ?_))))))))))))))
 (refine ZC0 rfl ZK (fun w hS=>frame hS ZQ (fun B' hB hS'=>sort_int laysn189_at hS' (by simp))) ?_;rintro ⟨⟩ -)
 refine Zn (Zzm ?_)
 (refine ZC0 rfl ZK (fun w hS=>frame hS ZQ (fun B' hB hS'=>compact_int lays2n20_at hS' (by rw [List.length_mergeSort];simp))) ?_;rintro ⟨⟩ -)
 refine Zp J (Zzk ?_)
 have hnr:nextF code (k:Int)=Lib.compact (([]:List Int).mergeSort leI):=by rw [hnx];unfold nextL nextR;rw [if_neg h19,if_neg h23,if_pos (by have:=h27;simp [endsF] at this ⊢;omega)]
 rw [hnr]
 exact ⟨(_,_),trivial,rfl,Lh⟩
def graphF (code:List ApiInstr):List (List Int):=(List.range code.length).map fun i:Nat=>nextF code (i:Int)
theorem graphF_len (code:List ApiInstr):(graphF code).length=code.length:=by simp [graphF]
theorem graphF_at {code:List ApiInstr}{i:Nat}(h:i<code.length):(graphF code)[i]?=some (nextF code (i:Int)):=by simp [graphF,h]
theorem take_at' {α:Type}{l:List α}{a:Nat}{u:α}(hu:l[a]?=some u):l.take a++[u]=l.take (a+1):=by
 rw [List.take_add_one,hu];rfl
theorem flow_graph {B:Base}{w:World}(hS:St B [] w) (A:Option Addr) (cp:Nat) (code:List ApiInstr) (hC:kApiInstr.C B.e A code) (hl:code.length≤1000) (W0:World) :
 CW 171 #[.slice A code.length cp] w
  (Ret B (fun z:Option Addr×Nat×List Hdr=>z.2.2.length=code.length) (fun z=>.slice z.1 code.length z.2.1) (fun z=>[row kHdr W0 35 (.slice z.1 code.length z.2.1) z.2.2,bun (rws (Kd.int .i64) W0 3 z.2.2 (graphF code))])):=by
 have hgl:=graphF_len code
 refine ZX Tryz.func171 hS ?_
 refine Zh (Zi (Zp J (Zn (Za (Zh (Zi (Zp J (Zn (Za (Zh (Zh (Zi (Zo J (Zv J J (Zo J (Zn (Za (Zk (wLoop (ι:=Nat×List Hdr×Option Addr×Nat) (fun z=>[(0,.slice A code.length cp),(3,.slice z.2.2.1 z.1 z.2.2.2),(6,.int .i64 (code.length:Int)),(7,.int .i64 (z.1:Int))]) (fun z=>[row kHdr W0 35 (.slice z.2.2.1 z.1 z.2.2.2) z.2.1,bun (rws (Kd.int .i64) W0 3 z.2.1 ((graphF code).take z.1))]) (fun z=>z.1≤code.length∧z.2.1.length=z.1) (fun z=>code.length-z.1) (0,[],none,0) ?_ cv (Leads.nilrow.trans (bun_nil.trans Lh)) ?_)))))))))))))))))))
 exact ⟨Nat.zero_le _,rfl⟩
 rintro ⟨a,hs,A5,c5⟩ ⟨ha,hhl⟩
 dsimp only at ha hhl
 have hxl:((graphF code).take a).length=a:=by rw [List.length_take];omega
 try dsimp only
 refine Zh (Zi (Zx J J (Zn (Za (Zh (wC (fun h8=>?_) (fun h8=>?_)))))))
 refine Zj (Za (Zh (Zk (Zh (Zi (Zo J (Zp J (Zn (Za (Zi (Zo J (Zo J (Zo J ?_)))))))))))))
 (refine ZC0 rfl ZK (fun w hS=>frame hS ZQ (fun B' hB hS'=>flow_Next hS' A cp code (Kd.C_grow hB hC) (a:Int) W0)) ?_;rintro ⟨A13,c13⟩ -)
 refine oBuildSlice1 J J J J J ZP J (fun b14=>?_)
 refine oApp1 (kd:=kHdr) ((A13,(nextF code (a:Int)).length,c13):Hdr) J J J J ZP ZP J ZO J (fun g15 cp15=>?_)
 refine oSnoc (kd:=Kd.int .i64) (W:=W0) (ei:=3) (u:=(A13,(nextF code (a:Int)).length,c13)) (l:=nextF code (a:Int)) (hs:=hs) (xss:=(graphF code).take a) ZP ZP ZO ?_
 rw [take_at' (graphF_at ZO),hhl]
 refine Zp J (Zn (Zzi ?_))
 refine Zo J (Zn (Za ?_))
 exact ⟨rfl,(a+1,hs++[(A13,(nextF code (a:Int)).length,c13)],some ⟨g15,0,none⟩,cp15),⟨by show a+1≤_;omega,by show (hs++_).length=a+1;rw [List.length_append,hhl];rfl⟩,by show code.length-(a+1)<code.length-a;omega,cv,Lh⟩
 obtain rfl:a=code.length:=by omega
 rw [show (graphF code).take code.length=graphF code by rw [← hgl,List.take_length]]
 refine Zm (Zzr ?_)
 exact ⟨(A5,c5,hs),hhl,rfl,Lh⟩
def outF (n:Nat) (to:Int):Bool:=decide (to<0∨(n:Int)≤to)
def flowF (code:List ApiInstr):Int:=if code.length=0 then 3 else if 64<code.length then 6 else if (graphF code).any (fun l=>l.any (outF code.length)) then 10 else 0
theorem flow_Check1 {B:Base}{w:World}(A:Option Addr) (n cp b1:Nat) (hS:St B [blk b1 54 [.slice A n cp]] w) (to:Int) :
 CW 183 #[.int .i64 to,.pointer (some ⟨b1,0,none⟩)] w (Ret B (fun _:Unit=>True) (fun _=>.bool (outF n to)) (fun _=>[blk b1 54 [.slice A n cp]])):=by
 refine ZX Tryz.func183 hS ?_
 refine Zh (Zi (Zp J (Zn (Za (Zh (Zi (Zo J (Zx J J (Zo J (ZS (ZT 6) (fun h6=>?_) (fun h6=>?_)))))))))))
 refine Zr J J J J (Zr J J J J (Zr J J J J (Zr J J J J (Zt J J (Zza ?_)))))
 exact ⟨(),trivial,by simp_all [resVal,outF] <;> omega,Lh⟩
 refine Zq J J (Zo J (Zzf ?_))
 refine Zq J J (Zv J J (Zq J J (Z2 J J (Zu J J (Zza ?_)))))
 exact ⟨(),trivial,by simp_all [resVal,outF] <;> omega,Lh⟩
theorem flow_Check {B:Base}{w:World}(hS:St B [] w) (A:Option Addr) (cp:Nat) (code:List ApiInstr) (hC:kApiInstr.C B.e A code) :
 CW 159 #[.slice A code.length cp] w (Ret B (fun _:Unit=>True) (fun _=>.int .i64 (flowF code)) (fun _=>[])):=by
 have hgl:=graphF_len code
 refine ZX Tryz.func159 hS ?_
 refine Zh (Zi (oBox J ZP (fun b1=>?_)))
 refine Zp J (Zn (Za (Zh (Zk (Zh (Zi (Zld ?_)))))))
 refine Zv J J (Zy J J (Zp J (Zn (Za (wC (fun h5=>?_) (fun h5=>?_))))))
 refine Zh (Zi (Zzh ?_))
 exact ⟨(),trivial,by unfold flowF;rw [if_pos ZO];rfl,Lh⟩
 refine Zh (Zi (Zld ?_))
 refine Zv J J (Z1 J J (Zp J (Zn (Za (wC (fun h9=>?_) (fun h9=>?_))))))
 refine Zh (Zi (Zzh ?_))
 exact ⟨(),trivial,by unfold flowF;rw [if_neg ZO,if_pos ZO];rfl,Lh⟩
 have hc0:¬ code.length=0:=by omega
 have hc1:¬ 64<code.length:=by omega
 refine Zj (Zd (Za (Zh (Zh (Zi (Zld ?_))))))
 (refine ZC0 rfl ZK (fun w hS=>frame hS ZQ (fun B' hB hS'=>flow_graph hS' A cp code (Kd.C_grow hB hC) ZO B.e)) ?_;rintro ⟨A14,c14,hs14⟩ hl14)
 dsimp only at hl14 ⊢
 refine ZS0 (t:=14) (v':=.slice A14 (graphF code).length c14) rfl (by rw [hgl]) ?_
 refine Zv J J (Zo J (Zn (Za (wFreeze [row kHdr B.e 35 (.slice A14 code.length c14) hs14,bun (rws (Kd.int .i64) B.e 3 hs14 (graphF code))] ZQ (fun B1 hB1 hq1=>?_)))))
 have hCg:=grid_C (hq1 _ _ ZP) (hq1 _ _ ZP) (by rw [hgl];exact hl14) hB1
 refine Zk (wLoop (ι:=Nat) (fun i=>[(1,.pointer (some ⟨b1,0,none⟩)),(14,.slice A14 (graphF code).length c14),(15,.int .i64 ((graphF code).length:Int)),(16,.int .i64 (i:Int))]) (fun i=>[blk b1 54 [.slice A code.length cp]]) (fun i=>i≤code.length∧∀ y ∈ (graphF code).take i,y.any (outF code.length)=false) (fun i=>code.length-i) 0 ?_ cv (Leads.has ZQ) ?_)
 exact ⟨Nat.zero_le _,by simp⟩
 rintro i ⟨hi,hs⟩
 try dsimp only
 refine Zh (Zi (Zx J J (Zn (Za (Zh (wC (fun h17=>?_) (fun h17=>?_)))))))
 refine Zj (Za (Zh (Zk (Zh (Zi (oIdx J J (hCg) J ZO J J (fun e18 u18 cs18 hu18 hk18 hc18=>?_)))))))
 obtain ⟨A0,c0,rfl,hle18,g0⟩:=hk18
 refine Zlx hc18 ?_
 refine Zp J (Zn (Za (Zh (Zi (Zo J (oMakeFunc J ?_))))))
 (refine ZC0 rfl ZK (fun w hS=>frame hS ZQ (fun B' hB hS'=>containsFunc_int hS' u18 A0 c0 (Kd.C_grow hB g0) _ _ (outF code.length) ZK (fun B2 w2 x hB2 hx hS2=>flow_Check1 A code.length cp b1 hS2 x))) ?_;rintro ⟨⟩ -)
 refine Zn (Za (wC (fun h22=>?_) (fun h22=>?_)))
 refine Zh (Zi (Zzb ?_))
 exact ⟨(),trivial,by unfold flowF;rw [if_neg hc0,if_neg hc1,if_pos (List.any_eq_true.2 ⟨u18,List.mem_of_getElem? hu18,by simpa using h22⟩)];rfl,Lh⟩
 refine Zj (Zzi ?_)
 refine Zo J (Zn (Za ?_))
 exact ⟨rfl,i+1,⟨by omega,take_not (p:=fun l:List Int=>l.any (outF code.length)) hs hu18 (by simpa using h22)⟩,by omega,cv,Lh⟩
 refine Zm (Zzg ?_)
 obtain rfl:i=code.length:=by omega
 rw [← hgl,List.take_length] at hs
 exact ⟨(),trivial,by unfold flowF;rw [if_neg hc0,if_neg hc1,if_neg (by intro k;obtain ⟨y,hy,hp⟩:=List.any_eq_true.1 k;have:=hs y hy;rw [hgl,hp] at this;cases this)];rfl,Lh⟩
def kindBad (par:Int) (i:Nat) (k:Int):Bool:=decide (textF k=ByteArray.empty) || (decide ((i:Int)<par) && decide (k≠0))
def slotsF (f:ApiFunc):Int:=if isC f.fClass then (if 16<f.fKinds.length then 6 else if (f.fKinds.length:Int)<parF f.fClass then 2 else if (List.range f.fKinds.length).any (fun i=>kindBad (parF f.fClass) i (f.fKinds.getD i 0)) then 8 else 0) else 14
theorem getDat {α:Type}{l:List α}{i:Nat}{o d:α}(h:l[i]?=some o):l.getD i d=o:=by rw [List.getD_eq_getElem?_getD,h];rfl
theorem fun_slots {B:Base}{w:World}(hS:St B [] w) (f:ApiFunc) (fc:List Value) (hf:kApiFunc.K B.e f fc) :
 CW 135 #[.agg fc.toArray] w (Ret B (fun _:Unit=>True) (fun _=>.int .i64 (slotsF f)) (fun _=>[])):=by
 obtain ⟨A0,c0,A1,c1,A2,c2,A3,c3,rfl,l0,g0,l1,g1,l2,g2,l3,g3⟩:=kApiFunc_open hf
 have hp:=parF_in f.fClass
 refine ZX Tryz.func135 hS ?_
 refine Zh (Zi (oBox J ZP (fun b1=>?_)))
 refine Zp J (Zn (Za (Zh (Zi (Zz (n:=0) (m:=0) J J J (Zld ?_))))))
 (refine ZC0 rfl ZK (fun w hS=>frame hS ZQ (fun B' hB hS'=>sig_Params hS' f.fClass)) ?_;rintro ⟨⟩ -)
 refine Zp J (Zn (Za (Zh (Zk (Zh (Zi (Zz (n:=0) (m:=0) J J J (Zld ?_))))))))
 (refine ZC0 rfl ZK (fun w hS=>frame hS ZQ (fun B' hB hS'=>sig_Is hS' f.fClass)) ?_;rintro ⟨⟩ -)
 refine Zno ?_
 refine Zp J (Zn (Za (wC (fun h9=>?_) (fun h9=>?_))))
 refine Zh (Zi (Zzh ?_))
 exact ⟨(),trivial,by unfold slotsF;rw [if_neg (by simpa using h9)];rfl,Lh⟩
 have hc:isC f.fClass=true:=by simpa using h9
 refine Zh (Zi (Zz (n:=1) (m:=1) J J J (Zld ?_)))
 refine Zv J J (Z1 J J (Zp J (Zn (Za (wC (fun h14=>?_) (fun h14=>?_))))))
 refine Zh (Zi (Zzh ?_))
 exact ⟨(),trivial,by unfold slotsF;rw [if_pos hc,if_pos ZO];rfl,Lh⟩
 refine Zh (Zi (Zz (n:=1) (m:=1) J J J (Zld ?_)))
 refine Zv J J (Zo J (Zx J J (Zp J (Zn (Za (wC (fun h19=>?_) (fun h19=>?_)))))))
 refine Zh (Zi (Zzh ?_))
 exact ⟨(),trivial,by unfold slotsF;rw [if_pos hc,if_neg ZO,if_pos ZO];rfl,Lh⟩
 have hk1:¬ 16<f.fKinds.length:=by omega
 have hk2:¬ (f.fKinds.length:Int)<parF f.fClass:=by omega
 refine Zj (Zd (Za (Zh (Zh (Zi (Zz (n:=1) (m:=1) J J J (Zld ?_)))))))
 refine Zv J J (Zo J (Zn (Za (Zk (wLoop (ι:=Nat) (fun i=>[(3,.int .i64 (parF f.fClass)),(26,.slice A0 f.fKinds.length c0),(27,.int .i64 (f.fKinds.length:Int)),(28,.int .i64 (i:Int))]) (fun i=>[]) (fun i=>i≤f.fKinds.length∧∀ j,j<i→kindBad (parF f.fClass) j (f.fKinds.getD j 0)=false) (fun i=>f.fKinds.length-i) 0 ?_ cv (Leads.has ZQ) ?_)))))
 exact ⟨Nat.zero_le _,fun j hj=>by omega⟩
 rintro i ⟨hi,hs⟩
 try dsimp only
 refine Zh (Zi (Zx J J (Zn (Za (Zh (wC (fun h29=>?_) (fun h29=>?_)))))))
 refine Zj (Za (Zh (Zk (Zh (Zi (Zo J (oIdx J J (g0) J ZO J J (fun e31 u31 cs31 hu31 hk31 hc31=>?_))))))))
 obtain rfl:=hk31
 refine Zlx hc31 ?_
 refine Zp J (Zp J (Zn (Zzm ?_)))
 (refine ZC0 rfl ZK (fun w hS=>frame hS ZQ (fun B' hB hS'=>sig_Text hS' u31)) ?_;rintro ⟨⟩ -)
 refine oSEq J J (Zo J (ZS (ZT 36) (fun h36=>?_) (fun h36=>?_)))
 have h36:textF u31=ByteArray.empty:=h36
 refine Zr J J J J (Zr J J J J (Zr J J J J (Zr J J J J (Zs J J J (Zs J J J (Zr J J J J (Zt J J (Zn (Za (wCondT J (Zh (Zi (Zzb ?_)))))))))))))
 exact ⟨(),trivial,by unfold slotsF;rw [if_pos hc,if_neg hk1,if_neg hk2,if_pos (any_T (show i<f.fKinds.length by omega) (by rw [getDat hu31];simp_all [kindBad]))];rfl,Lh⟩
 have h36:¬ textF u31=ByteArray.empty:=h36
 refine Zq J J (Zo J (Zq J J (Zo J (Zq J J (Zx J J (Zq J J (Zo J (ZS (ZT 40) (fun h40=>?_) (fun h40=>?_)))))))))
 refine Zq J J (Zo J (Zq J J (Z0 J J (Zq J J (Zt J J (Zu J J (Zn (Za (wC (fun h44=>?_) (fun h44=>?_))))))))))
 refine Zh (Zi (Zzb ?_))
 exact ⟨(),trivial,by unfold slotsF;rw [if_pos hc,if_neg hk1,if_neg hk2,if_pos (any_T (show i<f.fKinds.length by omega) (by rw [getDat hu31];simp_all [kindBad]))];rfl,Lh⟩
 refine Zj (Zzi ?_)
 refine Zo J (Zn (Za ?_))
 exact ⟨rfl,i+1,⟨by omega,fun j hj=>by
 by_cases e:j=i
 · subst e;rw [getDat hu31];simp_all [kindBad] <;> omega
 · exact hs j ZO⟩,by omega,cv,Lh⟩
 refine Zr J J J J (Zr J J J J (Zq J J (Zu J J (Zu J J (Zn (Za (wCondF J (Zj (Zzi ?_)))))))))
 refine Zo J (Zn (Za ?_))
 exact ⟨rfl,i+1,⟨by omega,fun j hj=>by
 by_cases e:j=i
 · subst e;rw [getDat hu31];simp_all [kindBad] <;> omega
 · exact hs j ZO⟩,by omega,cv,Lh⟩
 refine Zm (Zzg ?_)
 obtain rfl:i=f.fKinds.length:=by omega
 exact ⟨(),trivial,by unfold slotsF;rw [if_pos hc,if_neg hk1,if_neg hk2,if_neg (by rw [any_F hs];simp)];rfl,Lh⟩
def ceF (x:ApiInstr):Int:=if icF x≠0 then icF x else if ownF x.fOp then 0 else 8
def codeF (f:ApiFunc):Int:=if flowF f.fCode≠0 then flowF f.fCode else fstE (f.fCode.map ceF)
theorem fun_code {B:Base}{w:World}(hS:St B [] w) (f:ApiFunc) (fc:List Value) (hf:kApiFunc.K B.e f fc) :
 CW 136 #[.agg fc.toArray] w (Ret B (fun _:Unit=>True) (fun _=>.int .i64 (codeF f)) (fun _=>[])):=by
 obtain ⟨A0,c0,A1,c1,A2,c2,A3,c3,rfl,l0,g0,l1,g1,l2,g2,l3,g3⟩:=kApiFunc_open hf
 have hcl:=g2.1
 refine ZX Tryz.func136 hS ?_
 refine Zh (Zi (oBox J ZP (fun b1=>?_)))
 refine Zp J (Zn (Za (Zh (Zh (Zi (Zz (n:=7) (m:=7) J J J (Zld ?_)))))))
 (refine ZC0 rfl ZK (fun w hS=>frame hS ZQ (fun B' hB hS'=>flow_Check hS' A2 c2 f.fCode (Kd.C_grow hB g2))) ?_;rintro ⟨⟩ -)
 refine Zp J (Zn (Za (Zh (Zi (Zo J (Z0 J J (Zn (Za (wC (fun h11=>?_) (fun h11=>?_))))))))))
 refine Zh (Zi (Zo J (Zzc ?_)))
 exact ⟨(),trivial,by unfold codeF;rw [if_pos h11];rfl,Lh⟩
 refine Zj (Za (Zh (Zh (Zi (Zz (n:=7) (m:=7) J J J (Zld ?_))))))
 refine Zv J J (Zo J (Zn (Za (Zk (wLoop (ι:=Nat) (fun i=>[(14,.slice A2 f.fCode.length c2),(15,.int .i64 (f.fCode.length:Int)),(16,.int .i64 (i:Int))]) (fun i=>[]) (fun i=>i≤f.fCode.length∧fstE ((f.fCode.map ceF).take i)=0) (fun i=>f.fCode.length-i) 0 ?_ cv (Leads.has ZQ) ?_)))))
 exact ⟨Nat.zero_le _,rfl⟩
 rintro i ⟨hi,hs⟩
 try dsimp only
 refine Zh (Zi (Zx J J (Zn (Za (Zh (wC (fun h17=>?_) (fun h17=>?_)))))))
 obtain ⟨x,hx⟩:∃ x,f.fCode[i]?=some x:=⟨_,List.getElem?_eq_getElem ZO⟩
 have hxe:(f.fCode.map ceF)[i]?=some (ceF x):=by rw [List.getElem?_map,hx];rfl
 obtain ⟨e1,cs1,hE⟩:=g2.elm hx
 obtain rfl:=kApiInstr_open hE.K
 refine Zj (Za (Zh (Zk (Zh (Zi (oIdxE J J (hE) ZO J J ?_))))))
 have hc18:=(hE).cell
 refine Zlx hc18 ?_
 refine oAlloc J ZP (fun b5=>?_)
 refine Zsa ?_
 refine Zn (Za (Zh (Zzs ?_)))
 (refine ZC0 rfl ZK (fun w hS=>frame hS ZQ (fun B' hB hS'=>instr_Check hS' x _ (kApiInstr_mk _ x))) ?_;rintro ⟨⟩ -)
 refine Zp J (Zn (Za (Zh (Zi (Zo J (Z0 J J (Zn (Za (wC (fun h23=>?_) (fun h23=>?_))))))))))
 refine Zh (Zi (Zo J (Zzj ?_)))
 exact ⟨(),trivial,by unfold codeF;rw [if_neg h11,fstE_stop hs hxe (by unfold ceF;rw [if_pos h23];exact h23)];unfold ceF;rw [if_pos h23];rfl,Lh⟩
 refine Zj (Za (Zh (Zi (Zz (n:=0) (m:=0) J J J (Zld ?_)))))
 (refine ZC0 rfl ZK (fun w hS=>frame hS ZQ (fun B' hB hS'=>op_Own hS' x.fOp)) ?_;rintro ⟨⟩ -)
 refine Zno ?_
 refine Zn (Za (wC (fun h28=>?_) (fun h28=>?_)))
 refine Zh (Zi (Zzb ?_))
 have hce:ceF x=8:=by unfold ceF;rw [if_neg h23,if_neg (by simpa using h28)]
 exact ⟨(),trivial,by unfold codeF;rw [if_neg h11,fstE_stop hs hxe (by rw [hce];decide),hce];rfl,Lh⟩
 refine Zj (Zzi ?_)
 refine Zo J (Zn (Za ?_))
 exact ⟨rfl,i+1,⟨by omega,fstE_next hs hxe (by unfold ceF;rw [if_neg h23,if_pos (by simpa using h28)])⟩,by omega,cv,Lh⟩
 refine Zm (Zzg ?_)
 obtain rfl:i=f.fCode.length:=by omega
 rw [← List.length_map (f:=ceF),List.take_length] at hs
 exact ⟨(),trivial,by unfold codeF;rw [if_neg h11,hs];rfl,Lh⟩
def lineBad (x:ApiLine):Bool:=decide (x.fLine<0∨65535<x.fLine)
def linesF (f:ApiFunc):Int:=if 16<f.fLines.length then 6 else if f.fLines.any lineBad then 9 else if (f.fLines.map (·.fAt)).getD 0 0≠0∨risF f.fCode.length (-1) (f.fLines.map (·.fAt))=false then 9 else 0
theorem fun_lines {B:Base}{w:World}(hS:St B [] w) (f:ApiFunc) (fc:List Value) (hf:kApiFunc.K B.e f fc) :
 CW 137 #[.agg fc.toArray] w (Ret B (fun _:Unit=>True) (fun _=>.int .i64 (linesF f)) (fun _=>[])):=by
 obtain ⟨A0,c0,A1,c1,A2,c2,A3,c3,rfl,l0,g0,l1,g1,l2,g2,l3,g3⟩:=kApiFunc_open hf
 have hcl:=g2.1
 have hml:(f.fLines.map (·.fAt)).length=f.fLines.length:=List.length_map _
 refine ZX Tryz.func137 hS ?_
 refine Zh (Zi (oBox J ZP (fun b1=>?_)))
 refine Zp J (Zn (Za (Zh (Zh (Zi (Zz (n:=6) (m:=6) J J J (Zld ?_)))))))
 refine Zv J J (Z1 J J (Zn (Za (wC (fun h9=>?_) (fun h9=>?_)))))
 refine Zh (Zi (Zzc ?_))
 exact ⟨(),trivial,by unfold linesF;rw [if_pos ZO];rfl,Lh⟩
 have hk0:¬ 16<f.fLines.length:=by omega
 refine Zj (Za (Zh (Zi (Zp J (Zn (Za (Zh (Zh (Zi (Zz (n:=6) (m:=6) J J J (Zld ?_)))))))))))
 refine Zv J J (Zo J (Zn (Za (Zk (wLoop (ι:=Nat×Option Addr×Nat) (fun z=>[(1,.pointer (some ⟨b1,0,none⟩)),(3,.slice z.2.1 ((f.fLines.map (·.fAt)).take z.1).length z.2.2),(11,.slice A1 f.fLines.length c1),(12,.int .i64 (f.fLines.length:Int)),(13,.int .i64 (z.1:Int))]) (fun z=>[blk b1 57 [.int .i64 f.fClass,.slice A0 f.fKinds.length c0,.int .i64 f.fPad,.bool f.fNosplit,.int .i64 f.fFrom,.int .i64 f.fTo,.slice A1 f.fLines.length c1,.slice A2 f.fCode.length c2,.slice A3 f.fRelocs.length c3],row (Kd.int .i64) B.e 3 (.slice z.2.1 ((f.fLines.map (·.fAt)).take z.1).length z.2.2) ((f.fLines.map (·.fAt)).take z.1)]) (fun z=>z.1≤f.fLines.length∧∀ y ∈ f.fLines.take z.1,lineBad y=false) (fun z=>f.fLines.length-z.1) (0,none,0) ?_ cv (Leads.nilrow.trans Lh) ?_)))))
 exact ⟨Nat.zero_le _,by simp⟩
 rintro ⟨i,A6,c6⟩ ⟨hi,hs⟩
 dsimp only at hi hs
 have hti:((f.fLines.map (·.fAt)).take i).length=i:=by rw [List.length_take];omega
 try dsimp only
 refine Zh (Zi (Zx J J (Zn (Za (Zh (wC (fun h14=>?_) (fun h14=>?_)))))))
 obtain ⟨x,hx⟩:∃ x,f.fLines[i]?=some x:=⟨_,List.getElem?_eq_getElem ZO⟩
 have htk:=take_at' (l:=f.fLines.map (·.fAt)) (a:=i) (u:=x.fAt) (by rw [List.getElem?_map,hx];rfl)
 obtain ⟨e1,cs1,hE⟩:=g1.elm hx
 obtain rfl:=kApiLine_open hE.K
 refine Zj (Za (Zh (Zk (Zh (Zi (oIdxE J J (hE) ZO J J ?_))))))
 have hc15:=(hE).cell
 refine Zlx hc15 ?_
 refine oAlloc J ZP (fun b5=>?_)
 refine Zsa ?_
 refine Zn (Za (Zh (Zh (Zi (Zz (n:=1) (m:=1) J J J (Zld ?_))))))
 refine Zx J J (Zo J (ZS (ZT 20) (fun h20=>?_) (fun h20=>?_)))
 refine Zr J J J J (Zr J J J J (Zr J J J J (Zt J J (Zn (Za (wCondT J (Zh (Zi (Zzj ?_)))))))))
 exact ⟨(),trivial,by unfold linesF;rw [if_neg hk0,if_pos (List.any_eq_true.2 ⟨x,List.mem_of_getElem? hx,decide_eq_true ZO⟩)];rfl,Lh⟩
 refine Zq J J (Zz (n:=1) (m:=1) J J J (Zzf ?_))
 refine Zq J J (Z1 J J (Zu J J (Zn (Za (wC (fun h24=>?_) (fun h24=>?_))))))
 refine Zh (Zi (Zzj ?_))
 exact ⟨(),trivial,by unfold linesF;rw [if_neg hk0,if_pos (List.any_eq_true.2 ⟨x,List.mem_of_getElem? hx,decide_eq_true ZO⟩)];rfl,Lh⟩
 refine Zj (Za (Zi (Zo J (Zz (n:=0) (m:=0) J J J (Zld ?_)))))
 refine oBuildSlice1 J J J J J ZP J (fun b28=>?_)
 refine oApp1 x.fAt J J J J ZP ZP J ZO J (fun g29 cp29=>?_)
 rw [show ((f.fLines.map (·.fAt)).take i).length+1=((f.fLines.map (·.fAt)).take (i+1)).length by rw [← htk,List.length_append];rfl,htk]
 refine Zp J (Zn (Zzi ?_))
 refine Zo J (Zn (Za ?_))
 exact ⟨rfl,(i+1,some ⟨g29,0,none⟩,cp29),⟨by show i+1≤_;omega,take_not hs hx (by unfold lineBad;exact decide_eq_false ZO)⟩,by show f.fLines.length-(i+1)<f.fLines.length-i;omega,cv,Lh⟩
 obtain rfl:i=f.fLines.length:=by omega
 rw [List.take_length] at hs
 have hna:¬ f.fLines.any lineBad=true:=by intro k;obtain ⟨y,hy,hp⟩:=List.any_eq_true.1 k;rw [hs y hy] at hp;cases hp
 rw [← hml,List.take_length]
 generalize hP:f.fLines.map (·.fAt)=P at *
 refine Zm (Zb (Zb (Ze (Za (Zh (Zh (Zi (Zo J (Zv J J (Z1 J J (Zo J (ZS (ZT 34) (fun h34=>?_) (fun h34=>?_)))))))))))))
 refine Zq J J (Zo J (Zq J J (ZR (i:=0) J J ZP ZO J J (fun g36 hg36=>?_))))
 subst hg36
 refine Zq J J (ZR1 (i:=0) J ZP ZO J (fun u37 hu37=>?_))
 have h0v:P.getD 0 0=u37:=getDat hu37
 refine Zq J J (Z0 J J (Zt J J (Zo J (ZS (ZT 40) (fun h40=>?_) (fun h40=>?_)))))
 refine Zr J J J J (Zr J J J J (Zr J J J J (Zr J J J J (Zr J J J J (Zr J J J J (Zt J J (Zn (Za (wCondT J (Zh (Zi (Zzc ?_))))))))))))
 exact ⟨(),trivial,by unfold linesF;rw [if_neg hk0,if_neg hna,hP,if_pos (.inl (by rw [h0v];exact h40))];rfl,Lh⟩
 refine Zq J J (Zz (n:=7) (m:=7) J J J (Zzf ?_))
 refine Zq J J (Zv J J (Zq J J (Zo J (Zq J J ?_))))
 (refine ZD J (fun w B' hB hR hS'=>fun_rising hS' (f.fCode.length:Int) (some ⟨g36,0,none⟩) c6 P (row_Cs (W:=B.e) (e:=3) (n:=P.length) (cp:=c6) (hR _ _ ZP))) ?_;rintro ⟨⟩ -)
 refine Zq J J (Zno ?_)
 refine Zu J J (Zn (Za (wC (fun h47=>?_) (fun h47=>?_))))
 refine Zh (Zi (Zzc ?_))
 exact ⟨(),trivial,by unfold linesF;rw [if_neg hk0,if_neg hna,hP,if_pos (.inr (by simpa using h47))];rfl,Lh⟩
 refine Zj (Zzy ?_)
 exact ⟨(),trivial,by unfold linesF;rw [if_neg hk0,if_neg hna,hP,if_neg (by rintro (h | h);exact h40 (h0v ▸ h);simp [h] at h47)];rfl,Lh⟩
 have h0v:P.getD 0 0=0:=by cases P with | nil=>rfl | cons y P=>simp at h34
 refine Zr J J J J (Zr J J J J (Zr J J J J (Zr J J J J (Zu J J (Zo J (Zq J J (Zz (n:=7) (m:=7) J J J (Zzf ?_))))))))
 refine Zq J J (Zv J J (Zq J J (Zo J (Zq J J ?_))))
 (refine ZD J (fun w B' hB hR hS'=>fun_rising hS' (f.fCode.length:Int) A6 c6 P (row_Cs (W:=B.e) (e:=3) (n:=P.length) (cp:=c6) (hR _ _ ZP))) ?_;rintro ⟨⟩ -)
 refine Zq J J (Zno ?_)
 refine Zu J J (Zn (Za (wC (fun h47=>?_) (fun h47=>?_))))
 refine Zh (Zi (Zzc ?_))
 exact ⟨(),trivial,by unfold linesF;rw [if_neg hk0,if_neg hna,hP,if_pos (.inr (by simpa using h47))];rfl,Lh⟩
 refine Zj (Zzy ?_)
 exact ⟨(),trivial,by unfold linesF;rw [if_neg hk0,if_neg hna,hP,if_neg (by rintro (h | h);exact h h0v;simp [h] at h47)];rfl,Lh⟩
def relBad (x:ApiReloc):Bool:=decide (x.fSym<0∨32≤x.fSym)
def relocsF (f:ApiFunc):Int:=if f.fRelocs.any relBad then 11 else if risF f.fCode.length (-1) (f.fRelocs.map (·.fAt)) then 0 else 11
theorem fun_relocs {B:Base}{w:World}(hS:St B [] w) (f:ApiFunc) (fc:List Value) (hf:kApiFunc.K B.e f fc) (hsm:f.fRelocs.length≤1000) :
 CW 138 #[.agg fc.toArray] w (Ret B (fun _:Unit=>True) (fun _=>.int .i64 (relocsF f)) (fun _=>[])):=by
 obtain ⟨A0,c0,A1,c1,A2,c2,A3,c3,rfl,l0,g0,l1,g1,l2,g2,l3,g3⟩:=kApiFunc_open hf
 have hcl:=g2.1
 have hml:(f.fRelocs.map (·.fAt)).length=f.fRelocs.length:=List.length_map _
 refine ZX Tryz.func138 hS ?_
 refine Zh (Zi (oBox J ZP (fun b1=>?_)))
 refine Zp J (Zn (Za (Zh (Zi (Zp J (Zn (Za (Zh (Zh (Zi (Zz (n:=8) (m:=8) J J J (Zld ?_))))))))))))
 refine Zv J J (Zo J (Zn (Za (Zk (wLoop (ι:=Nat×Option Addr×Nat) (fun z=>[(1,.pointer (some ⟨b1,0,none⟩)),(3,.slice z.2.1 ((f.fRelocs.map (·.fAt)).take z.1).length z.2.2),(7,.slice A3 f.fRelocs.length c3),(8,.int .i64 (f.fRelocs.length:Int)),(9,.int .i64 (z.1:Int))]) (fun z=>[blk b1 57 [.int .i64 f.fClass,.slice A0 f.fKinds.length c0,.int .i64 f.fPad,.bool f.fNosplit,.int .i64 f.fFrom,.int .i64 f.fTo,.slice A1 f.fLines.length c1,.slice A2 f.fCode.length c2,.slice A3 f.fRelocs.length c3],row (Kd.int .i64) B.e 3 (.slice z.2.1 ((f.fRelocs.map (·.fAt)).take z.1).length z.2.2) ((f.fRelocs.map (·.fAt)).take z.1)]) (fun z=>z.1≤f.fRelocs.length∧∀ y ∈ f.fRelocs.take z.1,relBad y=false) (fun z=>f.fRelocs.length-z.1) (0,none,0) ?_ cv (Leads.nilrow.trans Lh) ?_)))))
 exact ⟨Nat.zero_le _,by simp⟩
 rintro ⟨i,A6,c6⟩ ⟨hi,hs⟩
 dsimp only at hi hs
 have hti:((f.fRelocs.map (·.fAt)).take i).length=i:=by rw [List.length_take];omega
 try dsimp only
 refine Zh (Zi (Zx J J (Zn (Za (Zh (wC (fun h10=>?_) (fun h10=>?_)))))))
 obtain ⟨x,hx⟩:∃ x,f.fRelocs[i]?=some x:=⟨_,List.getElem?_eq_getElem ZO⟩
 have htk:=take_at' (l:=f.fRelocs.map (·.fAt)) (a:=i) (u:=x.fAt) (by rw [List.getElem?_map,hx];rfl)
 obtain ⟨e1,cs1,hE⟩:=g3.elm hx
 obtain rfl:=kApiReloc_open hE.K
 refine Zj (Za (Zh (Zk (Zh (Zi (oIdxE J J (hE) ZO J J ?_))))))
 have hc11:=(hE).cell
 refine Zlx hc11 ?_
 refine oAlloc J ZP (fun b5=>?_)
 refine Zsa ?_
 refine Zn (Za (Zh (Zh (Zi (Zz (n:=1) (m:=1) J J J (Zld ?_))))))
 refine Zx J J (Zo J (ZS (ZT 16) (fun h16=>?_) (fun h16=>?_)))
 refine Zr J J J J (Zr J J J J (Zr J J J J (Zt J J (Zn (Za (wCondT J (Zh (Zi (Zzj ?_)))))))))
 exact ⟨(),trivial,by unfold relocsF;rw [if_pos (List.any_eq_true.2 ⟨x,List.mem_of_getElem? hx,decide_eq_true ZO⟩)];rfl,Lh⟩
 refine Zq J J (Zz (n:=1) (m:=1) J J J (Zzf ?_))
 refine Zq J J (Z2 J J (Zu J J (Zn (Za (wC (fun h20=>?_) (fun h20=>?_))))))
 refine Zh (Zi (Zzj ?_))
 exact ⟨(),trivial,by unfold relocsF;rw [if_pos (List.any_eq_true.2 ⟨x,List.mem_of_getElem? hx,decide_eq_true ZO⟩)];rfl,Lh⟩
 refine Zj (Za (Zi (Zo J (Zz (n:=0) (m:=0) J J J (Zld ?_)))))
 refine oBuildSlice1 J J J J J ZP J (fun b24=>?_)
 refine oApp1 x.fAt J J J J ZP ZP J ZO J (fun g25 cp25=>?_)
 rw [show ((f.fRelocs.map (·.fAt)).take i).length+1=((f.fRelocs.map (·.fAt)).take (i+1)).length by rw [← htk,List.length_append];rfl,htk]
 refine Zp J (Zn (Zzi ?_))
 refine Zo J (Zn (Za ?_))
 exact ⟨rfl,(i+1,some ⟨g25,0,none⟩,cp25),⟨by show i+1≤_;omega,take_not hs hx (by unfold relBad;exact decide_eq_false ZO)⟩,by show f.fRelocs.length-(i+1)<f.fRelocs.length-i;omega,cv,Lh⟩
 obtain rfl:i=f.fRelocs.length:=by omega
 rw [List.take_length] at hs
 have hna:¬ f.fRelocs.any relBad=true:=by intro k;obtain ⟨y,hy,hp⟩:=List.any_eq_true.1 k;rw [hs y hy] at hp;cases hp
 rw [← hml,List.take_length]
 generalize hP:f.fRelocs.map (·.fAt)=P at *
 refine Zm (Zb (Zb (Ze (Za (Zh (Zh (Zi (Zz (n:=7) (m:=7) J J J (Zld ?_)))))))))
 refine Zv J J (Zo J ?_)
 (refine ZD J (fun w B' hB hR hS'=>fun_rising hS' (f.fCode.length:Int) A6 c6 P (row_Cs (W:=B.e) (e:=3) (n:=P.length) (cp:=c6) (hR _ _ ZP))) ?_;rintro ⟨⟩ -)
 refine Zno ?_
 refine Zn (Za (wC (fun h32=>?_) (fun h32=>?_)))
 refine Zh (Zi (Zzc ?_))
 exact ⟨(),trivial,by unfold relocsF;rw [if_neg hna,hP,if_neg (by simpa using h32)];rfl,Lh⟩
 refine Zj (Zzy ?_)
 exact ⟨(),trivial,by unfold relocsF;rw [if_neg hna,hP,if_pos (by simpa using h32)];rfl,Lh⟩
def funF (f:ApiFunc):Int:=if slotsF f≠0 then slotsF f else if f.fPad<0∨4096<f.fPad then 9 else if codeF f≠0 then codeF f else if f.fFrom<0∨f.fTo<f.fFrom∨(f.fCode.length:Int)<f.fTo then 9 else if linesF f≠0 then linesF f else relocsF f
theorem fun_Check {B:Base}{w:World}(hS:St B [] w) (f:ApiFunc) (fc:List Value) (hf:kApiFunc.K B.e f fc) (hsm:f.fRelocs.length≤1000) :
 CW 100 #[.agg fc.toArray] w (Ret B (fun _:Unit=>True) (fun _=>.int .i64 (funF f)) (fun _=>[])):=by
 obtain ⟨A0,c0,A1,c1,A2,c2,A3,c3,rfl,l0,g0,l1,g1,l2,g2,l3,g3⟩:=kApiFunc_open hf
 refine ZX Tryz.func100 hS ?_
 refine Zh (Zi (oBox J ZP (fun b1=>?_)))
 refine Zp J (Zn (Za (Zh (Zzs ?_))))
 (refine ZC0 rfl ZK (fun w hS=>frame hS ZQ (fun B' hB hS'=>fun_slots hS' f _ (kApiFunc.K_grow hB hf))) ?_;rintro ⟨⟩ -)
 refine Zp J (Zn (Za (Zh (Zi (Zo J (Z0 J J (Zn (Za (wC (fun h9=>?_) (fun h9=>?_))))))))))
 refine Zh (Zi (Zo J (Zzc ?_)))
 exact ⟨(),trivial,by unfold funF;rw [if_pos h9];rfl,Lh⟩
 refine Zj (Za (Zh (Zh (Zi (Zz (n:=2) (m:=2) J J J (Zld ?_))))))
 refine Zx J J (Zo J (ZS (ZT 14) (fun h14=>?_) (fun h14=>?_)))
 refine Zr J J J J (Zr J J J J (Zr J J J J (Zt J J (Zn (Za (wCondT J (Zh (Zi (Zzc ?_)))))))))
 exact ⟨(),trivial,by unfold funF;rw [if_neg h9,if_pos ZO];rfl,Lh⟩
 refine Zq J J (Zz (n:=2) (m:=2) J J J (Zzf ?_))
 refine Zq J J (Z1 J J (Zu J J (Zn (Za (wC (fun h18=>?_) (fun h18=>?_))))))
 refine Zh (Zi (Zzc ?_))
 exact ⟨(),trivial,by unfold funF;rw [if_neg h9,if_pos ZO];rfl,Lh⟩
 refine Zj (Za (Zh (Zzs ?_)))
 (refine ZC0 rfl ZK (fun w hS=>frame hS ZQ (fun B' hB hS'=>fun_code hS' f _ (kApiFunc.K_grow hB hf))) ?_;rintro ⟨⟩ -)
 refine Zp J (Zn (Za (Zh (Zi (Zo J (Z0 J J (Zn (Za (wC (fun h22=>?_) (fun h22=>?_))))))))))
 refine Zh (Zi (Zo J (Zzc ?_)))
 exact ⟨(),trivial,by unfold funF;rw [if_neg h9,if_neg ZO,if_pos h22];rfl,Lh⟩
 refine Zj (Za (Zh (Zh (Zi (Zz (n:=4) (m:=4) J J J (Zld ?_))))))
 refine Zx J J (Zo J (ZS (ZT 27) (fun h27=>?_) (fun h27=>?_)))
 refine Zr J J J J (Zr J J J J (Zr J J J J (Zr J J J J (Zr J J J J (Zt J J (Zo J (Zr J J J J (Zr J J J J (Zr J J J J (Zr J J J J (Zr J J J J (Zr J J J J (Zt J J (Zn (Za (wCondT J (Zh (Zi (Zzc ?_)))))))))))))))))))
 exact ⟨(),trivial,by unfold funF;rw [if_neg h9,if_neg ZO,if_neg h22,if_pos ZO];rfl,Lh⟩
 refine Zq J J (Zz (n:=5) (m:=5) J J J (Zzf ?_))
 refine Zq J J (Zz (n:=4) (m:=4) J J J (Zzf ?_))
 refine Zq J J (Zx J J (Zu J J (Zo J (ZS (ZT 34) (fun h34=>?_) (fun h34=>?_)))))
 refine Zr J J J J (Zr J J J J (Zr J J J J (Zr J J J J (Zr J J J J (Zr J J J J (Zt J J (Zn (Za (wCondT J (Zh (Zi (Zzc ?_))))))))))))
 exact ⟨(),trivial,by unfold funF;rw [if_neg h9,if_neg ZO,if_neg h22,if_pos ZO];rfl,Lh⟩
 refine Zq J J (Zz (n:=5) (m:=5) J J J (Zzf ?_))
 refine Zq J J (Zz (n:=7) (m:=7) J J J (Zzf ?_))
 refine Zq J J (Zv J J (Zq J J (Z1 J J (Zu J J (Zn (Za (wC (fun h41=>?_) (fun h41=>?_))))))))
 refine Zh (Zi (Zzc ?_))
 exact ⟨(),trivial,by unfold funF;rw [if_neg h9,if_neg ZO,if_neg h22,if_pos ZO];rfl,Lh⟩
 refine Zj (Za (Zh (Zzs ?_)))
 (refine ZC0 rfl ZK (fun w hS=>frame hS ZQ (fun B' hB hS'=>fun_lines hS' f _ (kApiFunc.K_grow hB hf))) ?_;rintro ⟨⟩ -)
 refine Zp J (Zn (Za (Zh (Zi (Zo J (Z0 J J (Zn (Za (wC (fun h45=>?_) (fun h45=>?_))))))))))
 refine Zh (Zi (Zo J (Zzc ?_)))
 exact ⟨(),trivial,by unfold funF;rw [if_neg h9,if_neg ZO,if_neg h22,if_neg ZO,if_pos h45];rfl,Lh⟩
 refine Zj (Za (Zzs ?_))
 (refine ZC0 rfl ZK (fun w hS=>frame hS ZQ (fun B' hB hS'=>fun_relocs hS' f _ (kApiFunc.K_grow hB hf) hsm)) ?_;rintro ⟨⟩ -)
 refine Zp J (Zzk ?_)
 exact ⟨(),trivial,by unfold funF;rw [if_neg h9,if_neg ZO,if_neg h22,if_neg ZO,if_neg h45];rfl,Lh⟩
structure FunA where
  A0:Option Addr
  c0:Nat
  A1:Option Addr
  c1:Nat
  A2:Option Addr
  c2:Nat
  A3:Option Addr
  c3:Nat
abbrev symL (s:ApiSymbol):List Value:=[.string s.fName,.bool s.fLocal,.int .i64 s.fSort,.int .i64 s.fKind,.int .i64 s.fDef]
abbrev ckL (f:ApiFunc) (a:FunA) (x:ApiInstr) (s:ApiSymbol) (k:Int):List Value:=[.int .i64 f.fClass,.slice a.A0 f.fKinds.length a.c0,.int .i64 f.fPad,.bool f.fNosplit,.int .i64 f.fFrom,.int .i64 f.fTo,.slice a.A1 f.fLines.length a.c1,.slice a.A2 f.fCode.length a.c2,.slice a.A3 f.fRelocs.length a.c3,.int .i64 x.fOp,.int .i64 x.fA,.int .i64 x.fB,.int .i64 x.fC,.int .i64 x.fN,.string s.fName,.bool s.fLocal,.int .i64 s.fSort,.int .i64 s.fKind,.int .i64 s.fDef,.int .i64 k]
abbrev ckR (b:Nat) (f:ApiFunc) (a:FunA) (x:ApiInstr) (s:ApiSymbol) (k:Int):Res:=blk b 176 (ckL f a x s k)
def slotF (kinds:List Int) (at_ kind:Int):Int:=if at_<0∨(kinds.length:Int)≤at_ then 9 else if kinds.getD at_.toNat 0≠kind then 8 else 0
def zeroF (at_:Int):Int:=if at_≠0 then 2 else 0
def nCall (k:Int):Int:=if parF k=0∧ansF k=true then 1 else parF k
def callF (kinds:List Int) (k at_:Int):Int:=if nCall k=0 then zeroF at_ else fstE ((List.range (nCall k).toNat).map fun i:Nat=>slotF kinds (IntKind.i64.wrap (at_+(i:Int))) 0)
def lateF (kinds:List Int) (k at_:Int):Int:=if parF k=0 then zeroF at_ else slotF kinds at_ 0
def answF (kinds:List Int) (c at_:Int):Int:=if ansF c then slotF kinds at_ 0 else zeroF at_
theorem nCall_in (k:Int):0≤nCall k∧nCall k≤3:=by
 have:=parF_in k
 unfold nCall
 split <;> omega
section
variable {B : Base} {w : World} {b : Nat} {f : ApiFunc} {a : FunA} {x : ApiInstr} {s : ApiSymbol} {k : Int}
theorem ck_slot (hS:St B [ckR b f a x s k] w) (g0:(Kd.int .i64).C B.e a.A0 f.fKinds) (at_ kind:Int) :
 CW 199 #[.pointer (some ⟨b,0,none⟩),.int .i64 at_,.int .i64 kind] w (Ret B (fun _:Unit=>True) (fun _=>.int .i64 (slotF f.fKinds at_ kind)) (fun _=>[ckR b f a x s k])):=by
 refine ZX Tryz.func199 hS ?_
 refine Zh (Zi (Zp J (Zn (Za (Zh (Zk (Zh (Zh (Zi (Zo J (Zx J J (Zp J (Zn (Za (wC (fun h7=>?_) (fun h7=>?_))))))))))))))))
 refine Zj (Za (ZY h7 ?_))
 refine Zh (Zi (Zzh ?_))
 exact ⟨(),trivial,by unfold slotF;rw [if_pos ZO];rfl,Lh⟩
 refine Zi (Zo J (Zo J (Z3 J (Zz (n:=0) (m:=0) J J J (Zz (n:=1) (m:=1) J J J (Zld ?_))))))
 refine Zv J J (Z2 J J (Zp J (Zn (Za (wC (fun h7=>?_) (fun h7=>?_))))))
 refine Zh (Zi (Zzh ?_))
 exact ⟨(),trivial,by unfold slotF;rw [if_pos ZO];rfl,Lh⟩
 refine Zh (Zi (Zo J ?_))
 obtain ⟨n,rfl⟩:=Int.eq_ofNat_of_zero_le (show 0≤at_ by omega)
 refine Z3 J (Zz (n:=0) (m:=0) J J J (Zz (n:=1) (m:=1) J J J (Zld ?_)))
 refine Zo J (oIdx J J (g0) J ZO J J (fun e25 u25 cs25 hu25 hk25 hc25=>?_))
 obtain rfl:=hk25
 refine Zlx hc25 ?_
 refine Zo J (Z0 J J (Zp J (Zn (Za (wC (fun h18=>?_) (fun h18=>?_))))))
 refine Zh (Zi (Zzh ?_))
 exact ⟨(),trivial,by unfold slotF;rw [if_neg ZO,Int.toNat_natCast,getDat hu25,if_pos h18];rfl,Lh⟩
 refine Zj (Zd (Zzy ?_))
 exact ⟨(),trivial,by unfold slotF;rw [if_neg ZO,Int.toNat_natCast,getDat hu25,if_neg h18];rfl,Lh⟩
theorem ck_number (hS:St B [ckR b f a x s k] w) (g0:(Kd.int .i64).C B.e a.A0 f.fKinds) (at_:Int) :
 CW 186 #[.pointer (some ⟨b,0,none⟩),.int .i64 at_] w (Ret B (fun _:Unit=>True) (fun _=>.int .i64 (slotF f.fKinds at_ 0)) (fun _=>[ckR b f a x s k])):=by
 refine ZX Tryz.func186 hS ?_
 refine Zh (Zi (Zp J (Zn (Zzv ?_))))
 (refine ZC0 rfl ZK (fun w hS=>frame hS ZQ (fun B' hB hS'=>ck_slot hS' (Kd.C_grow hB g0) at_ 0)) ?_;rintro ⟨⟩ -)
 refine Zp J (Zzk ?_)
 exact ⟨(),trivial,rfl,Lh⟩
theorem ck_function (hS:St B [ckR b f a x s k] w) (g0:(Kd.int .i64).C B.e a.A0 f.fKinds) (at_:Int) :
 CW 187 #[.pointer (some ⟨b,0,none⟩),.int .i64 at_] w (Ret B (fun _:Unit=>True) (fun _=>.int .i64 (slotF f.fKinds at_ (IntKind.i64.wrap (1+k)))) (fun _=>[ckR b f a x s k])):=by
 generalize hz:IntKind.i64.wrap (1+k)=z
 refine ZX Tryz.func187 hS ?_
 refine Zh (Zi (Zp J (Zn (Za (Zh (Zi (Zo J (Zo J (Zo J (Z3 J (Zz (n:=19) (m:=19) J J J (Zld ?_))))))))))))
 refine oAddW J J ?_
 rw [hz]
 (refine ZC0 rfl ZK (fun w hS=>frame hS ZQ (fun B' hB hS'=>ck_slot hS' (Kd.C_grow hB g0) at_ z)) ?_;rintro ⟨⟩ -)
 refine Zp J (Zzk ?_)
 exact ⟨(),trivial,rfl,Lh⟩
theorem ck_nothing (hS:St B [] w) (v:Value) (at_:Int) :
 CW 200 #[v,.int .i64 at_] w (Ret B (fun _:Unit=>True) (fun _=>.int .i64 (zeroF at_)) (fun _=>[])):=by
 refine ZX Tryz.func200 hS ?_
 refine Zh (Zi (Zp J (Zn (Za (Zh (Zh (Zi (Zo J (Z0 J J (Zn (Za (wC (fun h6=>?_) (fun h6=>?_)))))))))))))
 refine Zh (Zi (Zzc ?_))
 exact ⟨(),trivial,by unfold zeroF;rw [if_pos h6];rfl,Lh⟩
 refine Zj (Zzy ?_)
 exact ⟨(),trivial,by unfold zeroF;rw [if_neg h6];rfl,Lh⟩
theorem ck_fineR (hS:St B [ckR b f a x s k] w) (at_:Int) :
 CW 191 #[.pointer (some ⟨b,0,none⟩),.int .i64 at_] w (Ret B (fun _:Unit=>True) (fun _=>.int .i64 0) (fun _=>[ckR b f a x s k])):=by
 refine ZX Tryz.func191 hS ?_
 refine Zh (Zi (Zp J (Zn (Zzy ?_))))
 exact ⟨(),trivial,rfl,Lh⟩
theorem ck_later (hS:St B [ckR b f a x s k] w) (g0:(Kd.int .i64).C B.e a.A0 f.fKinds) (at_:Int) :
 CW 189 #[.pointer (some ⟨b,0,none⟩),.int .i64 at_] w (Ret B (fun _:Unit=>True) (fun _=>.int .i64 (lateF f.fKinds k at_)) (fun _=>[ckR b f a x s k])):=by
 refine ZX Tryz.func189 hS ?_
 refine Zh (Zi (Zp J (Zn (Za (Zh (Zh (Zi (Zo J (Z3 J (Zz (n:=19) (m:=19) J J J (Zld ?_)))))))))))
 (refine ZC0 rfl ZK (fun w hS=>frame hS ZQ (fun B' hB hS'=>sig_Params hS' k)) ?_;rintro ⟨⟩ -)
 refine Zy J J (Zn (Za (wC (fun h10=>?_) (fun h10=>?_))))
 refine Zh (Zi (Zo J (Zo J ?_)))
 (refine ZC0 rfl ZK (fun w hS=>frame hS ZQ (fun B' hB hS'=>ck_nothing hS' _ at_)) ?_;rintro ⟨⟩ -)
 refine Zp J (Zzt ?_)
 exact ⟨(),trivial,by unfold lateF;rw [if_pos h10];rfl,Lh⟩
 refine Zj (Zzv ?_)
 (refine ZC0 rfl ZK (fun w hS=>frame hS ZQ (fun B' hB hS'=>ck_number hS' (Kd.C_grow hB g0) at_)) ?_;rintro ⟨⟩ -)
 refine Zp J (Zzk ?_)
 exact ⟨(),trivial,by unfold lateF;rw [if_neg h10];rfl,Lh⟩
theorem ck_answer (hS:St B [ckR b f a x s k] w) (g0:(Kd.int .i64).C B.e a.A0 f.fKinds) (at_:Int) :
 CW 190 #[.pointer (some ⟨b,0,none⟩),.int .i64 at_] w (Ret B (fun _:Unit=>True) (fun _=>.int .i64 (answF f.fKinds f.fClass at_)) (fun _=>[ckR b f a x s k])):=by
 refine ZX Tryz.func190 hS ?_
 refine Zh (Zi (Zp J (Zn (Za (Zh (Zh (Zi (Zo J (Z3 J (Zz (n:=0) (m:=0) J J J (Zz (n:=0) (m:=0) J J J (Zld ?_))))))))))))
 (refine ZC0 rfl ZK (fun w hS=>frame hS ZQ (fun B' hB hS'=>sig_Answers hS' f.fClass)) ?_;rintro ⟨⟩ -)
 refine Zno ?_
 refine Zn (Za (wC (fun h11=>?_) (fun h11=>?_)))
 refine Zh (Zi (Zo J (Zo J ?_)))
 (refine ZC0 rfl ZK (fun w hS=>frame hS ZQ (fun B' hB hS'=>ck_nothing hS' _ at_)) ?_;rintro ⟨⟩ -)
 refine Zp J (Zzt ?_)
 exact ⟨(),trivial,by unfold answF;rw [if_neg (by simpa using h11)];rfl,Lh⟩
 refine Zj (Zzv ?_)
 (refine ZC0 rfl ZK (fun w hS=>frame hS ZQ (fun B' hB hS'=>ck_number hS' (Kd.C_grow hB g0) at_)) ?_;rintro ⟨⟩ -)
 refine Zp J (Zzk ?_)
 exact ⟨(),trivial,by unfold answF;rw [if_pos (by simpa using h11)];rfl,Lh⟩
theorem ck_call (hS:St B [ckR b f a x s k] w) (g0:(Kd.int .i64).C B.e a.A0 f.fKinds) (at_:Int) :
 CW 188 #[.pointer (some ⟨b,0,none⟩),.int .i64 at_] w (Ret B (fun _:Unit=>True) (fun _=>.int .i64 (callF f.fKinds k at_)) (fun _=>[ckR b f a x s k])):=by
 have hn:=nCall_in k
 have hml:((List.range (nCall k).toNat).map fun i:Nat=>slotF f.fKinds (IntKind.i64.wrap (at_+(i:Int))) 0).length=(nCall k).toNat:=by simp
 refine ZX Tryz.func188 hS ?_
 refine Zh (Zi (Zp J (Zn (Za (Zh (Zi (Zo J (Z3 J (Zz (n:=19) (m:=19) J J J (Zld ?_))))))))))
 (refine ZC0 rfl ZK (fun w hS=>frame hS ZQ (fun B' hB hS'=>sig_Params hS' k)) ?_;rintro ⟨⟩ -)
 refine Zp J (Zn (Za (Zh (Zh (Zi (Zo J (Zy J J (Zo J (ZS (ZT 15) (fun h15=>?_) (fun h15=>?_))))))))))
 refine Zq J J (Zo J (Zq J J (Z3 J (Zq J J (Zz (n:=19) (m:=19) J J J (Zzf ?_))))))
 refine Zq J J ?_
 (refine ZC0 rfl ZK (fun w hS=>frame hS ZQ (fun B' hB hS'=>sig_Answers hS' k)) ?_;rintro ⟨⟩ -)
 refine Zt J J (Zn (Za (wC (fun h21=>?_) (fun h21=>?_))))
 refine Zi (Zp J (Zn (Za (Zh (Zh (Zi (Zo J ?_)))))))
 refine ZS0 (t:=5) (v':=.int .i64 (nCall k)) J (by unfold nCall;rw [if_pos (by simp_all)]) ?_
 refine ZS0 (t:=22) (v':=.int .i64 (nCall k)) J (by unfold nCall;rw [if_pos (by simp_all)]) ?_
 refine Zy J J (Zn (Za (wC (fun h23=>?_) (fun h23=>?_))))
 refine Zh (Zi (Zo J (Zo J ?_)))
 (refine ZC0 rfl ZK (fun w hS=>frame hS ZQ (fun B' hB hS'=>ck_nothing hS' _ at_)) ?_;rintro ⟨⟩ -)
 refine Zp J (Zzt ?_)
 exact ⟨(),trivial,by unfold callF;rw [if_pos h23];rfl,Lh⟩
 have h23:=h23
 refine Zj (Za (Zh (Zh (Zi (Zo J (Zo J (Zn (Za (Zk (wLoop (ι:=Nat) (fun i=>[(0,.pointer (some ⟨b,0,none⟩)),(1,.int .i64 at_),(27,.int .i64 (nCall k)),(28,.int .i64 (i:Int))]) (fun i=>[ckR b f a x s k]) (fun i=>i≤(nCall k).toNat∧fstE (((List.range (nCall k).toNat).map fun i:Nat=>slotF f.fKinds (IntKind.i64.wrap (at_+(i:Int))) 0).take i)=0) (fun i=>(nCall k).toNat-i) 0 ?_ cv (Leads.has ZQ) ?_))))))))))
 exact ⟨Nat.zero_le _,rfl⟩
 rintro i ⟨hi,hs⟩
 try dsimp only
 refine Zh (Zi (Zx J J (Zn (Za (Zh (wC (fun h29=>?_) (fun h29=>?_)))))))
 have hxe:((List.range (nCall k).toNat).map fun i:Nat=>slotF f.fKinds (IntKind.i64.wrap (at_+(i:Int))) 0)[i]?=some (slotF f.fKinds (IntKind.i64.wrap (at_+(i:Int))) 0):=by rw [List.getElem?_map,List.getElem?_range ZO];rfl
 refine Zj (Za (Zh (Zk (Zh (Zi (Zo J (Zp J (Zn (Za (Zh (Zi (Zo J (Zo J (Zo J (oAddW J J ?_)))))))))))))))
 (refine ZC0 rfl ZK (fun w hS=>frame hS ZQ (fun B' hB hS'=>ck_number hS' (Kd.C_grow hB g0) (IntKind.i64.wrap (at_+(i:Int))))) ?_;rintro ⟨⟩ -)
 refine Zp J (Zn (Za (Zh (Zi (Zo J (Z0 J J (Zn (Za (wC (fun h37=>?_) (fun h37=>?_))))))))))
 refine Zh (Zzz ?_)
 exact ⟨(),trivial,by unfold callF;rw [if_neg h23,fstE_stop hs hxe h37];rfl,Lh⟩
 refine Zj (Zzi ?_)
 refine Zo J (Zn (Za ?_))
 exact ⟨rfl,i+1,⟨by omega,fstE_next hs hxe (Classical.not_not.1 h37)⟩,by omega,cv,Lh⟩
 refine Zm (Zzg ?_)
 obtain rfl:i=(nCall k).toNat:=by omega
 rw [List.take_of_length_le (by rw [hml];exact Nat.le_refl _)] at hs
 exact ⟨(),trivial,by unfold callF;rw [if_neg h23,hs];rfl,Lh⟩
 refine Zj (Za (Zh (Zh (Zi (Zo J ?_)))))
 refine ZS0 (t:=5) (v':=.int .i64 (nCall k)) J (by unfold nCall;rw [if_neg (by simp_all)]) ?_
 refine ZS0 (t:=22) (v':=.int .i64 (nCall k)) J (by unfold nCall;rw [if_neg (by simp_all)]) ?_
 refine Zy J J (Zn (Za (wC (fun h23=>?_) (fun h23=>?_))))
 refine Zh (Zi (Zo J (Zo J ?_)))
 (refine ZC0 rfl ZK (fun w hS=>frame hS ZQ (fun B' hB hS'=>ck_nothing hS' _ at_)) ?_;rintro ⟨⟩ -)
 refine Zp J (Zzt ?_)
 exact ⟨(),trivial,by unfold callF;rw [if_pos h23];rfl,Lh⟩
 have h23:=h23
 refine Zj (Za (Zh (Zh (Zi (Zo J (Zo J (Zn (Za (Zk (wLoop (ι:=Nat) (fun i=>[(0,.pointer (some ⟨b,0,none⟩)),(1,.int .i64 at_),(27,.int .i64 (nCall k)),(28,.int .i64 (i:Int))]) (fun i=>[ckR b f a x s k]) (fun i=>i≤(nCall k).toNat∧fstE (((List.range (nCall k).toNat).map fun i:Nat=>slotF f.fKinds (IntKind.i64.wrap (at_+(i:Int))) 0).take i)=0) (fun i=>(nCall k).toNat-i) 0 ?_ cv (Leads.has ZQ) ?_))))))))))
 exact ⟨Nat.zero_le _,rfl⟩
 rintro i ⟨hi,hs⟩
 try dsimp only
 refine Zh (Zi (Zx J J (Zn (Za (Zh (wC (fun h29=>?_) (fun h29=>?_)))))))
 have hxe:((List.range (nCall k).toNat).map fun i:Nat=>slotF f.fKinds (IntKind.i64.wrap (at_+(i:Int))) 0)[i]?=some (slotF f.fKinds (IntKind.i64.wrap (at_+(i:Int))) 0):=by rw [List.getElem?_map,List.getElem?_range ZO];rfl
 refine Zj (Za (Zh (Zk (Zh (Zi (Zo J (Zp J (Zn (Za (Zh (Zi (Zo J (Zo J (Zo J (oAddW J J ?_)))))))))))))))
 (refine ZC0 rfl ZK (fun w hS=>frame hS ZQ (fun B' hB hS'=>ck_number hS' (Kd.C_grow hB g0) (IntKind.i64.wrap (at_+(i:Int))))) ?_;rintro ⟨⟩ -)
 refine Zp J (Zn (Za (Zh (Zi (Zo J (Z0 J J (Zn (Za (wC (fun h37=>?_) (fun h37=>?_))))))))))
 refine Zh (Zzz ?_)
 exact ⟨(),trivial,by unfold callF;rw [if_neg h23,fstE_stop hs hxe h37];rfl,Lh⟩
 refine Zj (Zzi ?_)
 refine Zo J (Zn (Za ?_))
 exact ⟨rfl,i+1,⟨by omega,fstE_next hs hxe (Classical.not_not.1 h37)⟩,by omega,cv,Lh⟩
 refine Zm (Zzg ?_)
 obtain rfl:i=(nCall k).toNat:=by omega
 rw [List.take_of_length_le (by rw [hml];exact Nat.le_refl _)] at hs
 exact ⟨(),trivial,by unfold callF;rw [if_neg h23,hs];rfl,Lh⟩
 refine Zr J J J J (Zr J J J J (Zr J J J J (Zr J J J J (Zr J J J J (Zu J J (Zn (Za (wCondF J (Zj (Za (Zh (Zh (Zi (Zo J ?_))))))))))))))
 refine ZS0 (t:=5) (v':=.int .i64 (nCall k)) J (by unfold nCall;rw [if_neg (by simp_all)]) ?_
 refine ZS0 (t:=22) (v':=.int .i64 (nCall k)) J (by unfold nCall;rw [if_neg (by simp_all)]) ?_
 refine Zy J J (Zn (Za (wC (fun h23=>?_) (fun h23=>?_))))
 refine Zh (Zi (Zo J (Zo J ?_)))
 (refine ZC0 rfl ZK (fun w hS=>frame hS ZQ (fun B' hB hS'=>ck_nothing hS' _ at_)) ?_;rintro ⟨⟩ -)
 refine Zp J (Zzt ?_)
 exact ⟨(),trivial,by unfold callF;rw [if_pos h23];rfl,Lh⟩
 have h23:=h23
 refine Zj (Za (Zh (Zh (Zi (Zo J (Zo J (Zn (Za (Zk (wLoop (ι:=Nat) (fun i=>[(0,.pointer (some ⟨b,0,none⟩)),(1,.int .i64 at_),(27,.int .i64 (nCall k)),(28,.int .i64 (i:Int))]) (fun i=>[ckR b f a x s k]) (fun i=>i≤(nCall k).toNat∧fstE (((List.range (nCall k).toNat).map fun i:Nat=>slotF f.fKinds (IntKind.i64.wrap (at_+(i:Int))) 0).take i)=0) (fun i=>(nCall k).toNat-i) 0 ?_ cv (Leads.has ZQ) ?_))))))))))
 exact ⟨Nat.zero_le _,rfl⟩
 rintro i ⟨hi,hs⟩
 try dsimp only
 refine Zh (Zi (Zx J J (Zn (Za (Zh (wC (fun h29=>?_) (fun h29=>?_)))))))
 have hxe:((List.range (nCall k).toNat).map fun i:Nat=>slotF f.fKinds (IntKind.i64.wrap (at_+(i:Int))) 0)[i]?=some (slotF f.fKinds (IntKind.i64.wrap (at_+(i:Int))) 0):=by rw [List.getElem?_map,List.getElem?_range ZO];rfl
 refine Zj (Za (Zh (Zk (Zh (Zi (Zo J (Zp J (Zn (Za (Zh (Zi (Zo J (Zo J (Zo J (oAddW J J ?_)))))))))))))))
 (refine ZC0 rfl ZK (fun w hS=>frame hS ZQ (fun B' hB hS'=>ck_number hS' (Kd.C_grow hB g0) (IntKind.i64.wrap (at_+(i:Int))))) ?_;rintro ⟨⟩ -)
 refine Zp J (Zn (Za (Zh (Zi (Zo J (Z0 J J (Zn (Za (wC (fun h37=>?_) (fun h37=>?_))))))))))
 refine Zh (Zzz ?_)
 exact ⟨(),trivial,by unfold callF;rw [if_neg h23,fstE_stop hs hxe h37];rfl,Lh⟩
 refine Zj (Zzi ?_)
 refine Zo J (Zn (Za ?_))
 exact ⟨rfl,i+1,⟨by omega,fstE_next hs hxe (Classical.not_not.1 h37)⟩,by omega,cv,Lh⟩
 refine Zm (Zzg ?_)
 obtain rfl:i=(nCall k).toNat:=by omega
 rw [List.take_of_length_le (by rw [hml];exact Nat.le_refl _)] at hs
 exact ⟨(),trivial,by unfold callF;rw [if_neg h23,hs];rfl,Lh⟩
end
def kLook:Kd (ByteArray×Nat) where
  sz:=2
  K:=fun _ x cs=>cs=[.string x.1,.func (.func x.2) #[] #[]]
  K_len:=by rintro w x cs rfl;rfl
  K_one:=by
    rintro w x cs rfl u hu
    rcases List.mem_cons.1 hu with rfl | hu
    · rfl
    · obtain rfl:=List.mem_singleton.1 hu;rfl
  K_grow:=fun _ h=>h
def looksL:List (ByteArray×Nat):=[(⟨#[119,114]⟩,186),(⟨#[103,102]⟩,187),(⟨#[99]⟩,188),(⟨#[100]⟩,189),(⟨#[118]⟩,190),(⟨#[116,110,107,45]⟩,191)]
abbrev looksC:List Value:=[.string ⟨#[119,114]⟩,.func (.func 186) #[] #[],.string ⟨#[103,102]⟩,.func (.func 187) #[] #[],.string ⟨#[99]⟩,.func (.func 188) #[] #[],.string ⟨#[100]⟩,.func (.func 189) #[] #[],.string ⟨#[118]⟩,.func (.func 190) #[] #[],.string ⟨#[116,110,107,45]⟩,.func (.func 191) #[] #[]]
theorem cat_looks (w:World):Cat kLook w looksL looksC:=⟨[_,_],_,rfl,rfl,[_,_],_,rfl,rfl,[_,_],_,rfl,rfl,[_,_],_,rfl,rfl,[_,_],_,rfl,rfl,[_,_],_,rfl,rfl,rfl⟩
theorem verify_looks {B:Base}{w:World}(hS:St B [] w) :
 CW 165 #[] w (Ret B (fun _:Nat=>True) (fun b=>.slice (some ⟨b,0,none⟩) 6 6) (fun b=>[blk b 194 looksC])):=by
 refine ZX Tryz.func165 hS ?_
 refine Zh (Zi (Zp J (Zn (Za (Zh (Zi (oBuild (Parts.cons J (Parts.cons J Parts.nil)) J J (Built.cons (off:=0) (s:=1) J ZP J ZP (Built.cons (off:=1) (s:=1) J ZP J ZP Built.nil)) ?_)))))))
 refine oBuild (Parts.cons J (Parts.cons J Parts.nil)) J J (Built.cons (off:=0) (s:=1) J ZP J ZP (Built.cons (off:=1) (s:=1) J ZP J ZP Built.nil)) ?_
 refine oBuild (Parts.cons J (Parts.cons J Parts.nil)) J J (Built.cons (off:=0) (s:=1) J ZP J ZP (Built.cons (off:=1) (s:=1) J ZP J ZP Built.nil)) ?_
 refine oBuild (Parts.cons J (Parts.cons J Parts.nil)) J J (Built.cons (off:=0) (s:=1) J ZP J ZP (Built.cons (off:=1) (s:=1) J ZP J ZP Built.nil)) ?_
 refine oBuild (Parts.cons J (Parts.cons J Parts.nil)) J J (Built.cons (off:=0) (s:=1) J ZP J ZP (Built.cons (off:=1) (s:=1) J ZP J ZP Built.nil)) ?_
 refine oBuild (Parts.cons J (Parts.cons J Parts.nil)) J J (Built.cons (off:=0) (s:=1) J ZP J ZP (Built.cons (off:=1) (s:=1) J ZP J ZP Built.nil)) ?_
 refine oBuildSliceF (Parts.cons J (Parts.cons J (Parts.cons J (Parts.cons J (Parts.cons J (Parts.cons J Parts.nil)))))) J J J J J (Fulls.cons ZP J (Fulls.cons ZP J (Fulls.cons ZP J (Fulls.cons ZP J (Fulls.cons ZP J (Fulls.cons ZP J Fulls.nil ap) ap) ap) ap) ap) ap) (fun b7=>?_)
 refine Zp J (Zzk ?_)
 exact ⟨b7,trivial,rfl,Lh⟩
def lookV (f:ApiFunc) (k n:Int) (j:Nat):Int:=[slotF f.fKinds n 0,slotF f.fKinds n (IntKind.i64.wrap (1+k)),callF f.fKinds k n,lateF f.fKinds k n,answF f.fKinds f.fClass n,0].getD j 0
theorem look_any {B:Base}{w:World}{b:Nat}{f:ApiFunc}{a:FunA}{x:ApiInstr}{s:ApiSymbol}{k:Int}(hS:St B [ckR b f a x s k] w) (g0:(Kd.int .i64).C B.e a.A0 f.fKinds) (n:Int) (j:Nat) (lk:ByteArray×Nat) (hj:looksL[j]?=some lk) :
    CW lk.2 #[.pointer (some ⟨b,0,none⟩),.int .i64 n] w (Ret B (fun _:Unit=>True) (fun _=>.int .i64 (lookV f k n j)) (fun _=>[ckR b f a x s k])):=by
  match j,hj with
  | 0,hj=>obtain rfl:=Option.some.inj hj;exact ck_number hS g0 n
  | 1,hj=>obtain rfl:=Option.some.inj hj;exact ck_function hS g0 n
  | 2,hj=>obtain rfl:=Option.some.inj hj;exact ck_call hS g0 n
  | 3,hj=>obtain rfl:=Option.some.inj hj;exact ck_later hS g0 n
  | 4,hj=>obtain rfl:=Option.some.inj hj;exact ck_answer hS g0 n
  | 5,hj=>obtain rfl:=Option.some.inj hj;exact ck_fineR hS n
  | j+6,hj=>cases hj
theorem look_good0:goodF Tryz.prog 186=true:=by kernel_rfl
theorem look_good1:goodF Tryz.prog 187=true:=by kernel_rfl
theorem look_good2:goodF Tryz.prog 188=true:=by kernel_rfl
theorem look_good3:goodF Tryz.prog 189=true:=by kernel_rfl
theorem look_good4:goodF Tryz.prog 190=true:=by kernel_rfl
theorem look_good5:goodF Tryz.prog 191=true:=by kernel_rfl
theorem look_good (j:Nat) (lk:ByteArray×Nat) (hj:looksL[j]?=some lk):goodF Tryz.prog lk.2=true:=by
  match j,hj with
  | 0,hj=>obtain rfl:=Option.some.inj hj;exact look_good0
  | 1,hj=>obtain rfl:=Option.some.inj hj;exact look_good1
  | 2,hj=>obtain rfl:=Option.some.inj hj;exact look_good2
  | 3,hj=>obtain rfl:=Option.some.inj hj;exact look_good3
  | 4,hj=>obtain rfl:=Option.some.inj hj;exact look_good4
  | 5,hj=>obtain rfl:=Option.some.inj hj;exact look_good5
  | j+6,hj=>cases hj
theorem index_rune {B:Base}{w:World}(hS:St B [] w) (l:List Int) (A:Option Addr) (cp:Nat) (hC:(Kd.int .i32).C B.e A l) (v:Int) :
 CW 193 #[.slice A l.length cp,.int .i32 v] w (Ret B (fun _:Unit=>True) (fun _=>.int .i64 (idxI (fun y=>decide (v=y)) l)) (fun _=>[])):=by
 have hl:=hC.1
 refine ZX Tryz.func193 hS ?_
 refine Zh (Zi (Zp J (Zn (Za (Zh (Zh (Zi (Zo J (Zv J J (Zo J (Zn (Za (Zk (wLoop (ι:=Nat) (fun i=>[(0,.slice A l.length cp),(1,.int .i32 v),(7,.int .i64 (l.length:Int)),(8,.int .i64 (i:Int))]) (fun i=>[]) (fun i=>i≤l.length∧∀ y ∈ l.take i,decide (v=y)=false) (fun i=>l.length-i) 0 ?_ cv (Leads.has ZQ) ?_))))))))))))))
 exact ⟨Nat.zero_le _,by simp⟩
 rintro i ⟨hi,hs⟩
 try dsimp only
 refine Zh (Zi (Zx J J (Zn (Za (Zh (wC (fun h9=>?_) (fun h9=>?_)))))))
 refine Zj (Za (Zh (Zk (Zh (Zi (Zo J (Zp J (Zn (Za (Zh (Zi (Zo J (Zo J (Zo J (oIdx J J (hC) J ZO J J (fun e14 u14 cs14 hu14 hk14 hc14=>?_))))))))))))))))
 obtain rfl:=hk14
 refine Zlx hc14 ?_
 refine Zy J J (Zn (Za (wC (fun h16=>?_) (fun h16=>?_))))
 refine Zh (Zzz ?_)
 exact ⟨(),trivial,by rw [idxI_stop (p:=fun y:Int=>decide (v=y)) hs hu14 (decide_eq_true h16)];rfl,Lh⟩
 refine Zj (Zzi ?_)
 refine Zo J (Zn (Za ?_))
 exact ⟨rfl,i+1,⟨by omega,take_not (p:=fun y:Int=>decide (v=y)) hs hu14 (decide_eq_false h16)⟩,by omega,cv,Lh⟩
 refine Zm (Zzg ?_)
 obtain rfl:i=l.length:=by omega
 rw [List.take_length] at hs
 exact ⟨(),trivial,by rw [idxI_none (p:=fun y:Int=>decide (v=y)) hs];rfl,Lh⟩
theorem contains_rune {B:Base}{w:World}(hS:St B [] w) (l:List Int) (A:Option Addr) (cp:Nat) (hC:(Kd.int .i32).C B.e A l) (v:Int) :
 CW 167 #[.slice A l.length cp,.int .i32 v] w (Ret B (fun _:Unit=>True) (fun _=>.bool (l.any fun y=>decide (v=y))) (fun _=>[])):=by
 refine ZX Tryz.func167 hS ?_
 refine Zh (Zi (Zp J (Zn (Zzv ?_))))
 (refine ZC0 rfl ZK (fun w hS=>frame hS ZQ (fun B' hB hS'=>index_rune hS' l A cp (Kd.C_grow hB hC) v)) ?_;rintro ⟨⟩ -)
 refine Z2 J J (Zza ?_)
 exact ⟨(),trivial,by show Value.bool (decide (0≤idxI (fun y:Int=>decide (v=y)) l))=_;congr 1;rw [Bool.eq_iff_iff,decide_eq_true_eq];exact idxI_iff,Lh⟩
def hasL (j:Nat) (letter:Int):Bool:=(runesL (looksL.getD j (ByteArray.empty,0)).1).any fun y=>decide (letter=y)
def lookE (f:ApiFunc) (k letter n:Int) (j:Nat):Int:=if hasL j letter then lookV f k n j else 0
def letE (f:ApiFunc) (k letter n:Int):Int:=fstE ((List.range 6).map (lookE f k letter n))
def opsE (f:ApiFunc) (x:ApiInstr) (k:Int) (i:Nat):Int:=letE f k (byteAt (shapeF x.fOp) i) (opdF x i)
def operF (f:ApiFunc) (x:ApiInstr) (k:Int):Int:=fstE ((List.range (shapeF x.fOp).size).map (opsE f x k))
theorem rmap_at {n i:Nat}{e:Nat→Int}(h:i<n):((List.range n).map e)[i]?=some (e i):=by rw [List.getElem?_map,List.getElem?_range h];rfl
theorem rmap_all {n:Nat}{e:Nat→Int} : ((List.range n).map e).take n=(List.range n).map e:=List.take_of_length_le (by simp)
theorem looks_ok:∀ j,j<6→Asc (looksL.getD j (ByteArray.empty,0)).1∧(looksL.getD j (ByteArray.empty,0)).1.size≤4:=by
 intro j hj
 have h1:∀ j,j<6→(looksL.getD j (ByteArray.empty,0)).1.size≤4:=by decide
 have h2:∀ j,j<6→∀ i,i<4→byteAt (looksL.getD j (ByteArray.empty,0)).1 i<128:=by decide
 exact ⟨fun i hi=>h2 j hj i (by have:=h1 j hj;omega),h1 j hj⟩
theorem ck_operands {B:Base}{w:World}{b:Nat}{f:ApiFunc}{a:FunA}{x:ApiInstr}{s:ApiSymbol}{k:Int}(hS:St B [ckR b f a x s k] w) (g0:(Kd.int .i64).C B.e a.A0 f.fKinds) :
 CW 141 #[.pointer (some ⟨b,0,none⟩)] w (Ret B (fun _:Unit=>True) (fun _=>.int .i64 (operF f x k)) (fun _=>[ckR b f a x s k])):=by
 have hsz:=shapeF_size x.fOp
 have hs4:(shapeF x.fOp).size≤4:=by rw [hsz];split <;> omega
 have hasc:=shapeF_asc x.fOp
 refine ZX Tryz.func141 hS ?_
 refine Zh (Zi (Zp J (Zn (Za (Zh (Zi ?_))))))
 (refine ZC0 rfl ZK (fun w hS=>frame hS ZQ (fun B' hB hS'=>verify_looks hS')) ?_;rintro b9 -)
 refine Zp J (Zn (Za (wFreeze [blk b9 194 looksC] ZQ (fun B1 hB1 hq1=>?_))))
 have hCl:kLook.C B1.e (some ⟨b9,0,none⟩) looksL:=C_blk (hq1 _ _ ZP) (by decide) (cat_looks _)
 have g0:=Kd.C_grow hB1 g0
 refine Zh (Zh (Zi (Zo J (Z3 J (Zz (n:=9) (m:=9) J J J (Zz (n:=0) (m:=9) J J J (Zld ?_)))))))
 (refine ZC0 rfl ZK (fun w hS=>frame hS ZQ (fun B' hB hS'=>op_Shape hS' x.fOp)) ?_;rintro ⟨⟩ -)
 refine oRangeStr J J (fun b16=>?_)
 refine Zn (Za (Zk (wLoop (ι:=Nat) (fun i=>[(0,.pointer (some ⟨b,0,none⟩)),(3,.slice (some ⟨b9,0,none⟩) 6 6),(16,.pointer (some ⟨b16,0,none⟩))]) (fun i=>[ckR b f a x s k,ob b16 (.stringIter (shapeF x.fOp) i)]) (fun i=>i≤(shapeF x.fOp).size∧fstE (((List.range (shapeF x.fOp).size).map (opsE f x k)).take i)=0) (fun i=>(shapeF x.fOp).size-i) 0 ?_ cv (Leads.has ZQ) ?_)))
 exact ⟨Nat.zero_le _,rfl⟩
 rintro i ⟨hi,hs⟩
 try dsimp only
 refine Zh (Zi (oNextStr J ZP ?_))
 refine oExtN J (Zn (Za (Zh (wC (fun h18=>?_) (fun h18=>?_)))))
 have hi4:i<(shapeF x.fOp).size:=h18
 have hl:=hasc i hi4
 rw [nextV_T hi4 hl,nextP_T hi4 hl]
 generalize hlet:byteAt (shapeF x.fOp) i=letter at *
 refine Zj (Za (Zk (Zh (Zi (oExt J ZP ?_)))))
 refine oExt J ZP ?_
 refine Zp J (Zp J (Zn (Za (Zh (Zi (Zo J (Zv J J (Zo J (Zn (Za (Zk (wLoop (ι:=Nat) (fun j=>[(0,.pointer (some ⟨b,0,none⟩)),(3,.slice (some ⟨b9,0,none⟩) 6 6),(4,.int .i64 (i:Int)),(5,.int .i32 letter),(16,.pointer (some ⟨b16,0,none⟩)),(21,.slice (some ⟨b9,0,none⟩) 6 6),(22,.int .i64 ((6:Nat):Int)),(23,.int .i64 (j:Int))]) (fun j=>[ckR b f a x s k,ob b16 (.stringIter (shapeF x.fOp) (i+1))]) (fun j=>j≤6∧fstE (((List.range 6).map (lookE f k letter (opdF x i))).take j)=0) (fun j=>6-j) 0 ?_ cv (Leads.has ZQ) ?_))))))))))))
 exact ⟨Nat.zero_le _,rfl⟩
 rintro j ⟨hj,hs2⟩
 try dsimp only
 refine Zh (Zi (Zx J J (Zn (Za (Zh (wC (fun h24=>?_) (fun h24=>?_)))))))
 have hj6:j<6:=by omega
 obtain ⟨lk,hlk⟩:∃ lk,looksL[j]?=some lk:=⟨_,List.getElem?_eq_getElem hj6⟩
 obtain ⟨e1,cs1,hE⟩:=hCl.elm hlk
 obtain rfl:=hE.K
 have hok:=looks_ok j hj6
 have hhas:hasL j letter=(runesL lk.1).any (fun y=>decide (letter=y)):=by unfold hasL;rw [List.getD_eq_getElem?_getD,hlk];rfl
 rw [List.getD_eq_getElem?_getD,hlk] at hok
 refine Zj (Za (Zh (Zk (Zh (Zi (oIdxE J J (hE) ZO J J ?_))))))
 have hc25:=(hE).cell
 refine Zlx hc25 ?_
 refine oAlloc J ZP (fun b7=>?_)
 refine Zsa ?_
 refine Zn (Za (Zh (Zh (Zi (Zz (n:=0) (m:=0) J J J (Zld ?_))))))
 refine oConvRunes (W:=B1.e) (e:=21) J J J J hok.1 (Nat.le_trans hok.2 (by decide)) (fun b29 c29=>?_)
 have hrl:(runesL lk.1).length=lk.1.size:=by simp [runesL]
 refine ZS0 (t:=29) (v':=.slice (some ⟨b29,0,none⟩) (runesL lk.1).length c29) rfl (by rw [hrl]) ?_
 refine Zo J ?_
 (refine ZD J (fun w B' hB hR hS'=>contains_rune hS' (runesL lk.1) (some ⟨b29,0,none⟩) c29 (row_Cs (W:=B1.e) (e:=21) (n:=lk.1.size) (cp:=c29) (hR _ _ ZP)) letter) ?_;rintro ⟨⟩ -)
 refine Zno ?_
 refine Zn (Za (wC (fun h32=>?_) (fun h32=>?_)))
 refine Zm (Zb (Ze (Za (Zi (Zsu ?_)))))
 refine Zo J (Zn (Za ?_))
 exact ⟨rfl,j+1,⟨by omega,fstE_next hs2 (rmap_at hj6) (by unfold lookE;rw [hhas,if_neg (by simpa only [Bool.not_eq_true',Bool.not_eq_true] using h32)])⟩,by omega,cv,Lh⟩
 refine Zj (Za (Zh (wDrawG J [0,1,2,3,7] [(4,[0,1,2,7],[5,6]),(8,[0,1,2],[]),(9,[],[])] [10] 24 ZK J J (fun w0=>?_))))
 refine Zz (n:=1) (m:=1) J J J (Zld ?_)
 refine Zo J (Zo J (Zo J (Z4 (Z5 J (Z3 J (ZG ?_ J (fun w0=>?_)))))))
 refine Z8 J J J J (fun w0=>?_) ?_
 refine Zz (n:=1) (m:=1) J J J ?_
 exact Z9 rfl
 refine Z8 J J J J (fun w0=>?_) ?_
 refine Zld ?_
 exact Z9 rfl
 refine Z8 J J J J (fun w0=>?_) ?_
 refine Zo J ?_
 exact Z9 rfl
 refine Z8 J J J J (fun w0=>?_) ?_
 refine Zo J ?_
 exact Z9 rfl
 exact AgainG.nil
 refine Zz (n:=9) (m:=9) J J J (Zla ?_)
 refine Z4 (Z5 J ?_)
 (refine ZC0 rfl ZK (fun w hS=>frame hS ZQ (fun B' hB hS'=>instr_Operand hS' x _ (kApiInstr_mk _ x) (i:Int))) ?_;rintro ⟨⟩ -)
 refine ZG ?_ J (fun w0=>?_)
 refine Z8 J J J J (fun w0=>?_) ?_
 refine Zz (n:=1) (m:=1) J J J ?_
 exact Z9 rfl
 refine Z8 J J J J (fun w0=>?_) ?_
 refine Zld ?_
 exact Z9 rfl
 refine Z8 J J J J (fun w0=>?_) ?_
 refine Zo J ?_
 exact Z9 rfl
 exact AgainG.nil
 refine Z4 (Z5 J ?_)
 (refine oCallV rfl rfl rfl (look_good j lk hlk) (fun w hS=>frame hS ZQ (fun B' hB hS'=>look_any (a:=a) hS' (Kd.C_grow hB g0) (opdF x i) j lk hlk)) ?_;rintro ⟨⟩ -)
 refine ZG ?_ J (fun w0=>?_)
 exact AgainG.nil
 refine Z6 (Zp J (Zn (Za (Zh (Zi (Zo J (Z0 J J (Zn (Za (wC (fun h44=>?_) (fun h44=>?_)))))))))))
 refine Zh (Zi (Zo J (Zp J (Zn (Za (Zl (Zf (Zc (Zc (Zf (Zf (Zc (Zf (Zc (Zw (fi1 J ?_))))))))))))))))
 exact ⟨(),trivial,by
 have hle:letE f k (byteAt (shapeF x.fOp) i) (opdF x i)=lookV f k (opdF x i) j:=by rw [hlet];unfold letE;rw [fstE_stop hs2 (rmap_at hj6) (by unfold lookE;rw [hhas,if_pos (by simpa only [Bool.not_eq_false'] using h32)];exact h44)];unfold lookE;rw [hhas,if_pos (by simpa only [Bool.not_eq_false'] using h32)]
 unfold operF
 rw [fstE_stop hs (rmap_at hi4) (by unfold opsE;rw [hle];exact h44)]
 unfold opsE
 rw [hle];rfl,Lh⟩
 refine Zj (Zzi ?_)
 refine Zo J (Zn (Za ?_))
 exact ⟨rfl,j+1,⟨by omega,fstE_next hs2 (rmap_at hj6) (by unfold lookE;rw [hhas,if_pos (by simpa only [Bool.not_eq_false'] using h32)];exact Classical.not_not.1 h44)⟩,by omega,cv,Lh⟩
 obtain rfl:j=6:=by omega
 rw [rmap_all] at hs2
 have hs2:opsE f x k i=0:=by unfold opsE letE;rw [hlet];exact hs2
 refine Zm (Zb (Zb (Ze (Zd (Za ?_)))))
 exact ⟨rfl,i+1,⟨by omega,fstE_next hs (rmap_at hi4) hs2⟩,by omega,cv,Lh⟩
 refine Zm (Zzg ?_)
 obtain rfl:i=(shapeF x.fOp).size:=by omega
 rw [rmap_all] at hs
 exact ⟨(),trivial,by unfold operF;rw [hs];rfl,Lh⟩
def fitsF (need:Int) (s:ApiSymbol):Bool:=if need=3 then decide (s.fSort=2) && decide (s.fKind=0) else if need=4 then decide (s.fSort=2) && isC (IntKind.i64.wrap (s.fKind-1)) else decide (s.fSort=1)
theorem verify_fits {B:Base}{w:World}(hS:St B [] w) (need:Int) (s:ApiSymbol) (sc:List Value) (hs:kApiSymbol.K B.e s sc) :
 CW 163 #[.int .i64 need,.agg sc.toArray] w (Ret B (fun _:Unit=>True) (fun _=>.bool (fitsF need s)) (fun _=>[])):=by
 obtain rfl:=kApiSymbol_open hs
 refine ZX Tryz.func163 hS ?_
 refine Zh (Zi (oBox J ZP (fun b3=>?_)))
 refine Zp J (Zn (Za (Zh (Zh (Zi (Zo J (Zn (Za (Zk (Zh (Zi (Zy J J (Zp J (Zn (Za (wC (fun h8=>?_) (fun h8=>?_)))))))))))))))))
 refine Zh (Zi (Zz (n:=2) (m:=2) J J J (Zld ?_)))
 refine Zy J J (Zo J (ZS (ZT 13) (fun h13=>?_) (fun h13=>?_)))
 refine Zq J J (Zz (n:=3) (m:=3) J J J (Zzf ?_))
 refine Zq J J (Zy J J (Zt J J (Zzh ?_)))
 exact ⟨(),trivial,by simp_all [resVal,fitsF],Lh⟩
 refine Zr J J J J (Zr J J J J (Zr J J J J (Zu J J (Zzh ?_))))
 exact ⟨(),trivial,by simp_all [resVal,fitsF],Lh⟩
 refine Zh (Zi (Zy J J (Zp J (Zn (Za (wC (fun h18=>?_) (fun h18=>?_)))))))
 refine Zh (Zi (Zz (n:=3) (m:=3) J J J (Zld ?_)))
 (refine ZC0 rfl ZK (fun w hS=>frame hS ZQ (fun B' hB hS'=>sig_Class hS' s.fKind)) ?_;rintro ⟨⟩ -)
 refine Zo J (oExt J ZP ?_)
 refine oExt J ZP ?_
 refine Zp J (Zp J (Zn (Za (Zh (Zi (Zz (n:=2) (m:=2) J J J (Zld ?_)))))))
 refine Zy J J (Zo J (ZS (ZT 29) (fun h29=>?_) (fun h29=>?_)))
 refine Zq J J (Zo J (Zt J J (Zzh ?_)))
 exact ⟨(),trivial,by simp_all [resVal,fitsF],Lh⟩
 refine Zr J J J J (Zu J J (Zzh ?_))
 exact ⟨(),trivial,by simp_all [resVal,fitsF],Lh⟩
 refine Zj (Zd (Za (Zh (Zi (Zz (n:=2) (m:=2) J J J (Zld ?_))))))
 refine Zy J J (Zza ?_)
 exact ⟨(),trivial,by simp_all [resVal,fitsF],Lh⟩
abbrev atR (i:Int) (r:ApiReloc):Bool:=decide (r.fAt=i)
def markF (f:ApiFunc) (i:Int):Int:=idxI (atR i) f.fRelocs
def symF (f:ApiFunc) (i:Int):Int:=if markF f i<0 then -1 else (f.fRelocs.getD (markF f i).toNat default).fSym
theorem indexFunc_rel {B:Base}{w:World}{R:Res}(hS:St B [R] w) (l:List ApiReloc) (A:Option Addr) (cp:Nat) (hC:kApiReloc.C B.e A l) (gf:Nat) (lb:Array Value) (p:ApiReloc→Bool) (hg:goodF Tryz.prog gf=true)
 (hh:∀ B' w (x:ApiReloc),Grow B.e B'.e→St B' [R] w→CW gf (#[]++[Value.agg #[.int .i64 x.fAt,.int .i64 x.fSym,.bool x.fWide]].toArray++lb) w (Ret B' (fun _:Unit=>True) (fun _=>.bool (p x)) (fun _=>[R]))) :
 CW 125 #[.slice A l.length cp,.func (.func gf) #[] lb] w (Ret B (fun _:Unit=>True) (fun _=>.int .i64 (idxI p l)) (fun _=>[R])):=by
 have hl:=hC.1
 refine ZX Tryz.func125 hS ?_
 refine Zh (Zi (Zp J (Zn (Za (Zh (Zh (Zi (Zo J (Zv J J (Zo J (Zn (Za (Zk (wLoop (ι:=Nat) (fun i=>[(0,.slice A l.length cp),(1,.func (.func gf) #[] lb),(7,.int .i64 (l.length:Int)),(8,.int .i64 (i:Int))]) (fun i=>[R]) (fun i=>i≤l.length∧∀ y ∈ l.take i,p y=false) (fun i=>l.length-i) 0 ?_ cv (Leads.has ZQ) ?_))))))))))))))
 exact ⟨Nat.zero_le _,by simp⟩
 rintro i ⟨hi,hs⟩
 try dsimp only
 refine Zh (Zi (Zx J J (Zn (Za (Zh (wC (fun h9=>?_) (fun h9=>?_)))))))
 obtain ⟨x,hx⟩:∃ x,l[i]?=some x:=⟨_,List.getElem?_eq_getElem ZO⟩
 obtain ⟨e1,cs1,hE⟩:=hC.elm hx
 obtain rfl:=kApiReloc_open hE.K
 refine Zj (Za (Zh (Zk (Zh (Zi (Zo J (Zp J (Zn (Za (Zh (Zi (Zo J (Zo J (Zo J (oIdxE J J (hE) ZO J J ?_)))))))))))))))
 have hc14:=(hE).cell
 refine Zlx hc14 ?_
 (refine oCallV rfl rfl rfl hg (fun w hS=>frame hS ZQ (fun B' hB hS'=>hh B' w x hB hS')) ?_;rintro ⟨⟩ -)
 refine Zn (Za (wC (fun h16=>?_) (fun h16=>?_)))
 refine Zh (Zzz ?_)
 exact ⟨(),trivial,by rw [idxI_stop hs hx (by simpa using h16)];rfl,Lh⟩
 refine Zj (Zzi ?_)
 refine Zo J (Zn (Za ?_))
 exact ⟨rfl,i+1,⟨by omega,take_not hs hx (by simpa using h16)⟩,by omega,cv,Lh⟩
 refine Zm (Zzg ?_)
 obtain rfl:i=l.length:=by omega
 rw [List.take_length] at hs
 exact ⟨(),trivial,by rw [idxI_none hs];rfl,Lh⟩
theorem mark1 {B:Base}{w:World}{b1:Nat}{i:Int}(hS:St B [blk b1 3 [.int .i64 i]] w) (x:ApiReloc) :
 CW 126 #[.agg #[.int .i64 x.fAt,.int .i64 x.fSym,.bool x.fWide],.pointer (some ⟨b1,0,none⟩)] w (Ret B (fun _:Unit=>True) (fun _=>.bool (atR i x)) (fun _=>[blk b1 3 [.int .i64 i]])):=by
 refine ZX Tryz.func126 hS ?_
 refine Zh (Zi (oBox J ZP (fun b2=>?_)))
 refine Zp J (Zn (Za (Zh (Zi (Zz (n:=0) (m:=0) J J J (Zld ?_))))))
 refine Zld ?_
 refine Zy J J (Zza ?_)
 exact ⟨(),trivial,rfl,Lh⟩
theorem verify_mark {B:Base}{w:World}(hS:St B [] w) (f:ApiFunc) (fc:List Value) (hf:kApiFunc.K B.e f fc) (i:Int) :
 CW 95 #[.agg fc.toArray,.int .i64 i] w (Ret B (fun _:Unit=>True) (fun _=>.int .i64 (markF f i)) (fun _=>[])):=by
 obtain ⟨A0,c0,A1,c1,A2,c2,A3,c3,rfl,l0,g0,l1,g1,l2,g2,l3,g3⟩:=kApiFunc_open hf
 refine ZX Tryz.func95 hS ?_
 refine Zh (Zi (oBox J ZP (fun b2=>?_)))
 refine oBox J ZP (fun b3=>?_)
 refine Zp J (Zn (Za (Zh (Zi (Zz (n:=8) (m:=8) J J J (Zld ?_))))))
 refine oMakeFunc J ?_
 (refine ZC0 rfl ZK (fun w hS=>frame hS ZQ (fun B' hB hS'=>indexFunc_rel hS' f.fRelocs A3 c3 (Kd.C_grow hB g3) _ _ (atR i) ZK (fun B2 w2 x hB2 hS2=>mark1 hS2 x))) ?_;rintro ⟨⟩ -)
 refine Zp J (Zzk ?_)
 exact ⟨(),trivial,rfl,Lh⟩
theorem mark_at {f:ApiFunc}{i:Int}(h:0≤markF f i):∃ (m:Nat) (r:ApiReloc),markF f i=(m:Int)∧f.fRelocs[m]?=some r∧symF f i=r.fSym:=by
 obtain ⟨m,r,hm,hr,_⟩:=idxI_at h
 refine ⟨m,r,hm,hr,?_⟩
 unfold symF
 rw [if_neg ZO,show markF f i=(m:Int) from hm,Int.toNat_natCast,List.getD_eq_getElem?_getD,hr];rfl
theorem verify_Sym {B:Base}{w:World}(hS:St B [] w) (f:ApiFunc) (fc:List Value) (hf:kApiFunc.K B.e f fc) (i:Int) :
 CW 59 #[.agg fc.toArray,.int .i64 i] w (Ret B (fun _:Unit=>True) (fun _=>.int .i64 (symF f i)) (fun _=>[])):=by
 obtain ⟨A0,c0,A1,c1,A2,c2,A3,c3,rfl,l0,g0,l1,g1,l2,g2,l3,g3⟩:=kApiFunc_open hf
 refine ZX Tryz.func59 hS ?_
 refine Zh (Zi (oBox J ZP (fun b2=>?_)))
 refine Zp J (Zn (Za (Zzs ?_)))
 refine Zo J ?_
 (refine ZC0 rfl ZK (fun w hS=>frame hS ZQ (fun B' hB hS'=>verify_mark hS' f _ (kApiFunc.K_grow hB hf) i)) ?_;rintro ⟨⟩ -)
 refine Zp J (Zn (Za (Zh (Zh (Zi (Zo J (Zx J J (Zn (Za (wC (fun h10=>?_) (fun h10=>?_)))))))))))
 refine Zh (Zi (Zzc ?_))
 exact ⟨(),trivial,by unfold symF;rw [if_pos h10];rfl,Lh⟩
 obtain ⟨m,r,hm,hr,hsy⟩:=mark_at (show 0≤markF f i by omega)
 rw [hm]
 obtain ⟨e1,cs1,hE⟩:=g3.elm hr
 obtain rfl:=kApiReloc_open hE.K
 refine Zj (Za (Zh (Zi (Zz (n:=8) (m:=8) J J J (Zld ?_)))))
 refine Zo J ?_
 refine oIdxE J J (hE) (by obtain ⟨h,_⟩:=List.getElem?_eq_some_iff.1 hr;exact h) J J ?_
 have hc14:=(hE).cell
 refine ZF (ZT 1) (ZT 1) ?_
 refine Zlx hc14 ?_
 refine Zp J (Zzk ?_)
 exact ⟨(),trivial,by rw [hsy];rfl,Lh⟩
def symAtF (f:ApiFunc) (l:List ApiSymbol) (i:Int):ApiSymbol:=l.getD (symF f i).toNat default
def codeAt (f:ApiFunc) (i:Int):ApiInstr:=f.fCode.getD i.toNat default
def refE (f:ApiFunc) (l:List ApiSymbol) (i:Int):Int:=if needF (codeAt f i).fOp=0∧markF f i<0 then 0 else if needF (codeAt f i).fOp=0∨markF f i<0∨symF f i<0∨(l.length:Int)≤symF f i then 11 else if fitsF (needF (codeAt f i).fOp) (symAtF f l i) then 0 else 8
def refS (f:ApiFunc) (l:List ApiSymbol) (i:Int):ApiSymbol:=if needF (codeAt f i).fOp=0∨refE f l i≠0 then default else symAtF f l i
theorem verify_refers {B:Base}{w:World}(hS:St B [] w) (f:ApiFunc) (fc:List Value) (hf:kApiFunc.K B.e f fc) (Al:Option Addr) (cl:Nat) (l:List ApiSymbol) (hl:kApiSymbol.C B.e Al l) (i:Nat) (hi:i<f.fCode.length) :
 CW 139 #[.agg fc.toArray,.slice Al l.length cl,.int .i64 (i:Int)] w (Ret B (fun _:Unit=>True) (fun _=>.tuple #[.agg (symL (refS f l i)).toArray,.int .i64 (refE f l i)]) (fun _=>[])):=by
 obtain ⟨A0,c0,A1,c1,A2,c2,A3,c3,rfl,l0,g0,l1,g1,l2,g2,l3,g3⟩:=kApiFunc_open hf
 obtain ⟨x,hx⟩:∃ x,f.fCode[i]?=some x:=⟨_,List.getElem?_eq_getElem hi⟩
 have hca:codeAt f (i:Int)=x:=by unfold codeAt;rw [Int.toNat_natCast,List.getD_eq_getElem?_getD,hx];rfl
 obtain ⟨e0,cs0,hE0⟩:=g2.elm hx
 obtain rfl:=kApiInstr_open hE0.K
 generalize hne:needF x.fOp=need
 refine ZX Tryz.func139 hS ?_
 refine Zh (Zi (oBox J ZP (fun b3=>?_)))
 refine oAlloc J ZP (fun b6=>?_)
 refine Zp J (Zn (Za (Zh (wDrawG J [0,1,2,3,4,5,7,8] [(6,[7,8],[]),(9,[],[])] [10,11] 24 ZK J J (fun w0=>?_)))))
 refine Zz (n:=7) (m:=7) J J J (Zld ?_)
 refine Zo J (oIdxE J J (hE0) ZO J J ?_)
 have hc14:=(hE0).cell
 refine ZF (ZT 0) (ZT 0) ?_
 refine Zlx hc14 ?_
 refine Zla ?_
 refine Zo J (Z4 (Z5 J ?_))
 (refine ZC0 rfl ZK (fun w hS=>frame hS ZQ (fun B' hB hS'=>op_Need hS' x.fOp)) ?_;rintro ⟨⟩ -)
 rw [hne]
 refine ZG ?_ J (fun w0=>?_)
 refine Z8 J J J J (fun w0=>?_) ?_
 refine Zla ?_
 exact Z9 rfl
 refine Z8 J J J J (fun w0=>?_) ?_
 refine Zo J ?_
 exact Z9 rfl
 exact AgainG.nil
 refine Z4 (Z5 J ?_)
 (refine ZC0 rfl ZK (fun w hS=>frame hS ZQ (fun B' hB hS'=>verify_mark hS' f _ (kApiFunc.K_grow hB hf) (i:Int))) ?_;rintro ⟨⟩ -)
 refine ZG ?_ J (fun w0=>?_)
 exact AgainG.nil
 refine Z6 (Zp J (Zp J (Zn (Za (Zh (Zk (Zh (Zi (Zo J (Zy J J (Zo J (ZS (ZT 24) (fun h24=>?_) (fun h24=>?_)))))))))))))
 refine Zq J J (Zo J (Zq J J (Zx J J (Zt J J (Zp J (Zn (Za (wC (fun h21=>?_) (fun h21=>?_)))))))))
 refine Zh (Zi (oBuild Parts.nil J J Built.nil (Zsa ?_)))
 refine Zp J (Zn (Za (Zl (Zf (Zc (Zw (ZI2 ?_)))))))
 have he:refE f l i=0:=by unfold refE;rw [hca,hne,if_pos ⟨h24,h21⟩]
 have hr:refS f l i=default:=by unfold refS;rw [hca,hne,if_pos (.inl h24)]
 exact ⟨(),trivial,by rw [he,hr];rfl,Lh⟩
 refine Zh (Zh (Zi (Zo J (Zy J J (Zp J (Zn (Za (wC (fun h29=>?_) (fun h29=>?_)))))))))
 refine Zj (Za (ZY h29 ?_))
 refine Zh (Zi (oBuild Parts.nil J J Built.nil (Zsa ?_)))
 refine Zp J (Zn (Za (Zl (Zf (Zc (Zw (ZI2 ?_)))))))
 have he:refE f l i=11:=by unfold refE;rw [hca,hne,if_neg ZO,if_pos ZO]
 have hr:refS f l i=default:=by unfold refS;rw [he,if_pos (.inr (by decide))]
 exact ⟨(),trivial,by rw [he,hr];rfl,Lh⟩
 refine Zh (Zi (Zo J (Zx J J (Zp J (Zn (Za (wC (fun h29=>?_) (fun h29=>?_))))))))
 refine Zj (Za (ZY h29 ?_))
 refine Zh (Zi (oBuild Parts.nil J J Built.nil (Zsa ?_)))
 refine Zp J (Zn (Za (Zl (Zf (Zc (Zw (ZI2 ?_)))))))
 have he:refE f l i=11:=by unfold refE;rw [hca,hne,if_neg ZO,if_pos ZO]
 have hr:refS f l i=default:=by unfold refS;rw [he,if_pos (.inr (by decide))]
 exact ⟨(),trivial,by rw [he,hr];rfl,Lh⟩
 refine Zh (Zi (Zz (n:=8) (m:=8) J J J ?_))
 obtain ⟨m,r,hm,hr,hsy⟩:=mark_at (show 0≤markF f i by omega)
 rw [hm]
 obtain ⟨e1,cs1,hE1⟩:=g3.elm hr
 obtain rfl:=kApiReloc_open hE1.K
 have hml:=(List.getElem?_eq_some_iff.1 hr).1
 refine Zld ?_
 refine Zo J (oIdxE J J (hE1) ZO J J ?_)
 have hc37:=(hE1).cell
 refine ZF (ZT 1) (ZT 1) ?_
 refine Zlx hc37 ?_
 refine Zx J J (Zp J (Zn (Za (wC (fun h29=>?_) (fun h29=>?_)))))
 refine Zj (Za (ZY h29 ?_))
 refine Zh (Zi (oBuild Parts.nil J J Built.nil (Zsa ?_)))
 refine Zp J (Zn (Za (Zl (Zf (Zc (Zw (ZI2 ?_)))))))
 have he:refE f l i=11:=by unfold refE;rw [hca,hne,if_neg ZO,if_pos ZO]
 have hr:refS f l i=default:=by unfold refS;rw [he,if_pos (.inr (by decide))]
 exact ⟨(),trivial,by rw [he,hr];rfl,Lh⟩
 refine Zi (Zz (n:=8) (m:=8) J J J (Zld ?_))
 refine Zo J (oIdxE J J (hE1) ZO J J ?_)
 have hc44:=(hE1).cell
 refine ZF (ZT 1) (ZT 1) ?_
 refine Zlx hc44 ?_
 refine Zo J (Zv J J (Z2 J J (Zp J (Zn (Za (wC (fun h29=>?_) (fun h29=>?_)))))))
 refine Zh (Zi (oBuild Parts.nil J J Built.nil (Zsa ?_)))
 refine Zp J (Zn (Za (Zl (Zf (Zc (Zw (ZI2 ?_)))))))
 have he:refE f l i=11:=by unfold refE;rw [hca,hne,if_neg ZO,if_pos ZO]
 have hr:refS f l i=default:=by unfold refS;rw [he,if_pos (.inr (by decide))]
 exact ⟨(),trivial,by rw [he,hr];rfl,Lh⟩
 refine Zj (Zd (Zzm ?_))
 obtain ⟨n,hn⟩:=Int.eq_ofNat_of_zero_le (show 0≤r.fSym by omega)
 obtain ⟨s,hs⟩:∃ s,l[n]?=some s:=⟨_,List.getElem?_eq_getElem ZO⟩
 obtain ⟨e2,cs2,hE2⟩:=hl.elm hs
 obtain rfl:=kApiSymbol_open hE2.K
 have hsa:symAtF f l i=s:=by unfold symAtF;rw [hsy,hn,Int.toNat_natCast,List.getD_eq_getElem?_getD,hs];rfl
 refine Zz (n:=8) (m:=8) J J J (Zld ?_)
 refine Zo J (oIdxE J J (hE1) ZO J J ?_)
 have hc55:=(hE1).cell
 refine ZF (ZT 1) (ZT 1) ?_
 refine Zlx hc55 ?_
 rw [hn]
 refine oIdxE J J (hE2) (by obtain ⟨h,_⟩:=List.getElem?_eq_some_iff.1 hs;exact h) J J ?_
 have hc58:=(hE2).cell
 refine Zlx hc58 ?_
 refine oAlloc J ZP (fun b10=>?_)
 refine Zsa ?_
 refine Zn (Za (Zh (Zh (Zi (Zo J (Zla ?_))))))
 (refine ZC0 rfl ZK (fun w hS=>frame hS ZQ (fun B' hB hS'=>verify_fits hS' need s _ (kApiSymbol_mk _ s))) ?_;rintro ⟨⟩ -)
 refine Zno ?_
 refine Zn (Za (wC (fun h63=>?_) (fun h63=>?_)))
 refine Zh (Zi (oBuild Parts.nil J J Built.nil (Zsa ?_)))
 refine Zp J (Zzu ?_)
 have he:refE f l i=8:=by unfold refE;rw [hca,hne,hsa,if_neg ZO,if_neg ZO,if_neg (by simpa using h63)]
 have hr:refS f l i=default:=by unfold refS;rw [he,if_pos (.inr (by decide))]
 exact ⟨(),trivial,by rw [he,hr];rfl,Lh⟩
 refine Zj (Za (Zzs ?_))
 refine Zsa ?_
 refine Zp J (Zn (Za (Zl (Zw (ZI2 ?_)))))
 have he:refE f l i=0:=by unfold refE;rw [hca,hne,hsa,if_neg ZO,if_neg ZO,if_pos (by simpa using h63)]
 have hr:refS f l i=s:=by unfold refS;rw [he,hca,hne,hsa,if_neg ZO]
 exact ⟨(),trivial,by rw [he,hr];rfl,Lh⟩
 refine Zr J J J J (Zr J J J J (Zu J J (Zp J (Zn (Za (wCondF J (Zh (Zh (Zi (Zo J (Zy J J (Zp J (Zn (Za (wC (fun h29=>?_) (fun h29=>?_))))))))))))))))
 refine Zj (Za (ZY h29 ?_))
 refine Zh (Zi (oBuild Parts.nil J J Built.nil (Zsa ?_)))
 refine Zp J (Zn (Za (Zl (Zf (Zc (Zw (ZI2 ?_)))))))
 have he:refE f l i=11:=by unfold refE;rw [hca,hne,if_neg ZO,if_pos ZO]
 have hr:refS f l i=default:=by unfold refS;rw [he,if_pos (.inr (by decide))]
 exact ⟨(),trivial,by rw [he,hr];rfl,Lh⟩
 refine Zh (Zi (Zo J (Zx J J (Zp J (Zn (Za (wC (fun h29=>?_) (fun h29=>?_))))))))
 refine Zj (Za (ZY h29 ?_))
 refine Zh (Zi (oBuild Parts.nil J J Built.nil (Zsa ?_)))
 refine Zp J (Zn (Za (Zl (Zf (Zc (Zw (ZI2 ?_)))))))
 have he:refE f l i=11:=by unfold refE;rw [hca,hne,if_neg ZO,if_pos ZO]
 have hr:refS f l i=default:=by unfold refS;rw [he,if_pos (.inr (by decide))]
 exact ⟨(),trivial,by rw [he,hr];rfl,Lh⟩
 refine Zh (Zi (Zz (n:=8) (m:=8) J J J ?_))
 obtain ⟨m,r,hm,hr,hsy⟩:=mark_at (show 0≤markF f i by omega)
 rw [hm]
 obtain ⟨e1,cs1,hE1⟩:=g3.elm hr
 obtain rfl:=kApiReloc_open hE1.K
 have hml:=(List.getElem?_eq_some_iff.1 hr).1
 refine Zld ?_
 refine Zo J (oIdxE J J (hE1) ZO J J ?_)
 have hc37:=(hE1).cell
 refine ZF (ZT 1) (ZT 1) ?_
 refine Zlx hc37 ?_
 refine Zx J J (Zp J (Zn (Za (wC (fun h29=>?_) (fun h29=>?_)))))
 refine Zj (Za (ZY h29 ?_))
 refine Zh (Zi (oBuild Parts.nil J J Built.nil (Zsa ?_)))
 refine Zp J (Zn (Za (Zl (Zf (Zc (Zw (ZI2 ?_)))))))
 have he:refE f l i=11:=by unfold refE;rw [hca,hne,if_neg ZO,if_pos ZO]
 have hr:refS f l i=default:=by unfold refS;rw [he,if_pos (.inr (by decide))]
 exact ⟨(),trivial,by rw [he,hr];rfl,Lh⟩
 refine Zi (Zz (n:=8) (m:=8) J J J (Zld ?_))
 refine Zo J (oIdxE J J (hE1) ZO J J ?_)
 have hc44:=(hE1).cell
 refine ZF (ZT 1) (ZT 1) ?_
 refine Zlx hc44 ?_
 refine Zo J (Zv J J (Z2 J J (Zp J (Zn (Za (wC (fun h29=>?_) (fun h29=>?_)))))))
 refine Zh (Zi (oBuild Parts.nil J J Built.nil (Zsa ?_)))
 refine Zp J (Zn (Za (Zl (Zf (Zc (Zw (ZI2 ?_)))))))
 have he:refE f l i=11:=by unfold refE;rw [hca,hne,if_neg ZO,if_pos ZO]
 have hr:refS f l i=default:=by unfold refS;rw [he,if_pos (.inr (by decide))]
 exact ⟨(),trivial,by rw [he,hr];rfl,Lh⟩
 refine Zj (Zd (Zzm ?_))
 obtain ⟨n,hn⟩:=Int.eq_ofNat_of_zero_le (show 0≤r.fSym by omega)
 obtain ⟨s,hs⟩:∃ s,l[n]?=some s:=⟨_,List.getElem?_eq_getElem ZO⟩
 obtain ⟨e2,cs2,hE2⟩:=hl.elm hs
 obtain rfl:=kApiSymbol_open hE2.K
 have hsa:symAtF f l i=s:=by unfold symAtF;rw [hsy,hn,Int.toNat_natCast,List.getD_eq_getElem?_getD,hs];rfl
 refine Zz (n:=8) (m:=8) J J J (Zld ?_)
 refine Zo J (oIdxE J J (hE1) ZO J J ?_)
 have hc55:=(hE1).cell
 refine ZF (ZT 1) (ZT 1) ?_
 refine Zlx hc55 ?_
 rw [hn]
 refine oIdxE J J (hE2) (by obtain ⟨h,_⟩:=List.getElem?_eq_some_iff.1 hs;exact h) J J ?_
 have hc58:=(hE2).cell
 refine Zlx hc58 ?_
 refine oAlloc J ZP (fun b10=>?_)
 refine Zsa ?_
 refine Zn (Za (Zh (Zh (Zi (Zo J (Zla ?_))))))
 (refine ZC0 rfl ZK (fun w hS=>frame hS ZQ (fun B' hB hS'=>verify_fits hS' need s _ (kApiSymbol_mk _ s))) ?_;rintro ⟨⟩ -)
 refine Zno ?_
 refine Zn (Za (wC (fun h63=>?_) (fun h63=>?_)))
 refine Zh (Zi (oBuild Parts.nil J J Built.nil (Zsa ?_)))
 refine Zp J (Zzu ?_)
 have he:refE f l i=8:=by unfold refE;rw [hca,hne,hsa,if_neg ZO,if_neg ZO,if_neg (by simpa using h63)]
 have hr:refS f l i=default:=by unfold refS;rw [he,if_pos (.inr (by decide))]
 exact ⟨(),trivial,by rw [he,hr];rfl,Lh⟩
 refine Zj (Za (Zzs ?_))
 refine Zsa ?_
 refine Zp J (Zn (Za (Zl (Zw (ZI2 ?_)))))
 have he:refE f l i=0:=by unfold refE;rw [hca,hne,hsa,if_neg ZO,if_neg ZO,if_pos (by simpa using h63)]
 have hr:refS f l i=s:=by unfold refS;rw [he,hca,hne,hsa,if_neg ZO]
 exact ⟨(),trivial,by rw [he,hr];rfl,Lh⟩
def instrF (f:ApiFunc) (l:List ApiSymbol) (i:Int):Int:=if i<0∨(f.fCode.length:Int)≤i then 2 else if refE f l i≠0 then refE f l i else if (codeAt f i).fOp=20 then (if isC (codeAt f i).fC then operF f (codeAt f i) (codeAt f i).fC else 14) else if (codeAt f i).fOp=21 then (if latF (refS f l i).fKind then operF f (codeAt f i) (refS f l i).fKind else 14) else if (codeAt f i).fOp=18 then operF f (codeAt f i) (IntKind.i64.wrap ((refS f l i).fKind-1)) else operF f (codeAt f i) (refS f l i).fKind
theorem verify_Instr {B:Base}{w:World}(hS:St B [] w) (f:ApiFunc) (fc:List Value) (hf:kApiFunc.K B.e f fc) (Al:Option Addr) (cl:Nat) (l:List ApiSymbol) (hl:kApiSymbol.C B.e Al l) (i:Int) :
 CW 101 #[.agg fc.toArray,.slice Al l.length cl,.int .i64 i] w (Ret B (fun _:Unit=>True) (fun _=>.int .i64 (instrF f l i)) (fun _=>[])):=by
 obtain ⟨A0,c0,A1,c1,A2,c2,A3,c3,rfl,l0,g0,l1,g1,l2,g2,l3,g3⟩:=kApiFunc_open hf
 refine ZX Tryz.func101 hS ?_
 refine Zh (Zi (oBox J ZP (fun b3=>?_)))
 refine Zp J (Zn (Za (Zh (Zh (Zi (Zo J (Zx J J (Zo J (ZS (ZT 12) (fun h12=>?_) (fun h12=>?_))))))))))
 refine Zr J J J J (Zr J J J J (Zr J J J J (Zr J J J J (Zr J J J J (Zt J J (Zn (Za (wCondT J (Zh (Zi (Zzc ?_)))))))))))
 exact ⟨(),trivial,by unfold instrF;rw [if_pos (.inl h12)];rfl,Lh⟩
 refine Zq J J (Zo J (Zq J J (Zz (n:=7) (m:=7) J J J (Zzf ?_))))
 refine Zq J J (Zv J J (Zq J J (Z2 J J (Zu J J (Zn (Za (wC (fun h18=>?_) (fun h18=>?_))))))))
 refine Zh (Zi (Zzc ?_))
 exact ⟨(),trivial,by unfold instrF;rw [if_pos (.inr h18)];rfl,Lh⟩
 have hir:¬ (i<0∨(f.fCode.length:Int)≤i):=by omega
 obtain ⟨n,rfl⟩:=Int.eq_ofNat_of_zero_le (show 0≤i by omega)
 have hnl:n<f.fCode.length:=by omega
 obtain ⟨x,hx⟩:∃ x,f.fCode[n]?=some x:=⟨_,List.getElem?_eq_getElem hnl⟩
 have hca:codeAt f (n:Int)=x:=by unfold codeAt;rw [Int.toNat_natCast,List.getD_eq_getElem?_getD,hx];rfl
 obtain ⟨e0,cs0,hE0⟩:=g2.elm hx
 obtain rfl:=kApiInstr_open hE0.K
 refine Zj (Za (Zzs ?_))
 refine Zo J (Zo J ?_)
 (refine ZC0 rfl ZK (fun w hS=>frame hS ZQ (fun B' hB hS'=>verify_refers hS' f _ (kApiFunc.K_grow hB hf) Al cl l (Kd.C_grow hB hl) n hnl)) ?_;rintro ⟨⟩ -)
 refine Zo J (oExt J ZP ?_)
 refine oExt J ZP ?_
 refine oAlloc J ZP (fun b7=>?_)
 refine Zsa ?_
 refine Zp J (Zn (Za (Zh (Zh (Zi (Zo J (Z0 J J (Zn (Za (wC (fun h27=>?_) (fun h27=>?_)))))))))))
 refine Zh (Zi (Zo J (Zzc ?_)))
 exact ⟨(),trivial,by unfold instrF;rw [if_neg hir,if_pos h27];rfl,Lh⟩
 generalize hs:refS f l (n:Int)=s
 refine Zj (Za (Zh (wDraw2 J J [3] [0,1,2,4,5,6,7,8,9] 10 ZK J J J (fun w0=>?_))))
 refine Zla ?_
 refine Zz (n:=7) (m:=7) J J J (Zld ?_)
 refine oIdxE J J (hE0) ZO J J ?_
 have hc33:=(hE0).cell
 refine Zlx hc33 ?_
 refine Zla ?_
 refine Zz (n:=3) (m:=3) J J J (Zld ?_)
 refine oBuild (Parts.cons J (Parts.cons J (Parts.cons J (Parts.cons J Parts.nil)))) J J (Built.cons (off:=0) (s:=9) J ZP J ZP (Built.cons (off:=9) (s:=5) J ZP J ZP (Built.cons (off:=14) (s:=5) J ZP J ZP (Built.cons (off:=19) (s:=1) J ZP J ZP Built.nil)))) ?_
 refine oHead (oBox J ZP (fun b39=>?_))
 refine Zp J (oNilT (Za (Zh (Zh (Zi (Zo J (Z3 J (Zz (n:=9) (m:=9) J J J (Zz (n:=0) (m:=9) J J J (Zld ?_))))))))))
 refine Zn (Za (Zk (Zh (Zi (Zy J J (Zp J (Zn (Za (wC (fun h45=>?_) (fun h45=>?_))))))))))
 refine Zh (Zi (Zo J (Zo J (Z3 J (Zz (n:=9) (m:=9) J J J (Zz (n:=3) (m:=12) J J J (Zld ?_)))))))
 refine Z3 J (Zz (n:=19) (m:=19) J J J (Zst ?_))
 refine Zn (Za (Zh (Zi (Zo J (Z3 J (Zz (n:=19) (m:=19) J J J (Zld ?_)))))))
 (refine ZC0 rfl ZK (fun w hS=>frame hS ZQ (fun B' hB hS'=>sig_Is hS' x.fC)) ?_;rintro ⟨⟩ -)
 refine Zno ?_
 refine Zn (Za (wC (fun h60=>?_) (fun h60=>?_)))
 refine Zh (Zi (Zzh ?_))
 exact ⟨(),trivial,by unfold instrF;rw [if_neg hir,if_neg h27,hca,if_pos h45,if_neg (by simpa using h60)];rfl,Lh⟩
 refine Zj (Zd (Zzm ?_))
 (refine ZC0 rfl ZK (fun w hS=>frame hS ZQ (fun B' hB hS'=>ck_operands (a:=⟨A0,c0,A1,c1,A2,c2,A3,c3⟩) (f:=f) (x:=x) (s:=s) (k:=x.fC) hS' (Kd.C_grow hB g0))) ?_;rintro ⟨⟩ -)
 refine Zp J (Zzk ?_)
 exact ⟨(),trivial,by unfold instrF;rw [if_neg hir,if_neg h27,hca,if_pos h45,if_pos (by simpa using h60)];rfl,Lh⟩
 refine Zh (Zi (Zy J J (Zp J (Zn (Za (wC (fun h61=>?_) (fun h61=>?_)))))))
 refine Zh (Zi (Zo J (Z3 J (Zz (n:=19) (m:=19) J J J (Zld ?_)))))
 (refine ZC0 rfl ZK (fun w hS=>frame hS ZQ (fun B' hB hS'=>sig_Later hS' s.fKind)) ?_;rintro ⟨⟩ -)
 refine Zno ?_
 refine Zn (Za (wC (fun h68=>?_) (fun h68=>?_)))
 refine Zh (Zi (Zzh ?_))
 exact ⟨(),trivial,by unfold instrF;rw [if_neg hir,if_neg h27,hca,hs,if_neg h45,if_pos h61,if_neg (by simpa using h68)];rfl,Lh⟩
 refine Zj (Zd (Zzm ?_))
 (refine ZC0 rfl ZK (fun w hS=>frame hS ZQ (fun B' hB hS'=>ck_operands (a:=⟨A0,c0,A1,c1,A2,c2,A3,c3⟩) (f:=f) (x:=x) (s:=s) (k:=s.fKind) hS' (Kd.C_grow hB g0))) ?_;rintro ⟨⟩ -)
 refine Zp J (Zzk ?_)
 exact ⟨(),trivial,by unfold instrF;rw [if_neg hir,if_neg h27,hca,hs,if_neg h45,if_pos h61,if_pos (by simpa using h68)];rfl,Lh⟩
 refine Zh (Zi (Zy J J (Zp J (Zn (Za (wC (fun h69=>?_) (fun h69=>?_)))))))
 refine Zi (Zo J (Z3 J (Zz (n:=19) (m:=19) J J J (Zld ?_))))
 refine oSubW J J (Z3 J (Zz (n:=19) (m:=19) J J J (Zst ?_)))
 refine Zn (Zd (Zzm ?_))
 (refine ZC0 rfl ZK (fun w hS=>frame hS ZQ (fun B' hB hS'=>ck_operands (a:=⟨A0,c0,A1,c1,A2,c2,A3,c3⟩) (f:=f) (x:=x) (s:=s) (k:=IntKind.i64.wrap (s.fKind-1)) hS' (Kd.C_grow hB g0))) ?_;rintro ⟨⟩ -)
 refine Zp J (Zzk ?_)
 exact ⟨(),trivial,by unfold instrF;rw [if_neg hir,if_neg h27,hca,hs,if_neg h45,if_neg h61,if_pos h69];rfl,Lh⟩
 refine Zj (Zd (Zzm ?_))
 (refine ZC0 rfl ZK (fun w hS=>frame hS ZQ (fun B' hB hS'=>ck_operands (a:=⟨A0,c0,A1,c1,A2,c2,A3,c3⟩) (f:=f) (x:=x) (s:=s) (k:=s.fKind) hS' (Kd.C_grow hB g0))) ?_;rintro ⟨⟩ -)
 refine Zp J (Zzk ?_)
 exact ⟨(),trivial,by unfold instrF;rw [if_neg hir,if_neg h27,hca,hs,if_neg h45,if_neg h61,if_neg h69];rfl,Lh⟩
def insL (f:ApiFunc) (l:List ApiSymbol):List Int:=(List.range f.fCode.length).map fun i:Nat=>instrF f l (i:Int)
abbrev non0 (e:Int):Bool:=decide (e≠0)
def chkE (f:ApiFunc) (l:List ApiSymbol):Int:=if funF f≠0 then funF f else fstE (insL f l)
def chkI (f:ApiFunc) (l:List ApiSymbol):Int:=if funF f≠0 then -1 else idxI non0 (insL f l)
theorem verify_Check {B:Base}{w:World}(hS:St B [] w) (f:ApiFunc) (fc:List Value) (hf:kApiFunc.K B.e f fc) (hsm:f.fRelocs.length≤1000) (Al:Option Addr) (cl:Nat) (l:List ApiSymbol) (hl:kApiSymbol.C B.e Al l) :
 CW 68 #[.agg fc.toArray,.slice Al l.length cl] w (Ret B (fun _:Unit=>True) (fun _=>.tuple #[.int .i64 (chkE f l),.int .i64 (chkI f l)]) (fun _=>[])):=by
 obtain ⟨A0,c0,A1,c1,A2,c2,A3,c3,rfl,l0,g0,l1,g1,l2,g2,l3,g3⟩:=kApiFunc_open hf
 have hcl:=g2.1
 have hil:(insL f l).length=f.fCode.length:=by simp [insL]
 refine ZX Tryz.func68 hS ?_
 refine Zh (Zi (oBox J ZP (fun b2=>?_)))
 refine Zp J (Zp J (Zn (Za (Zh (Zzs ?_)))))
 (refine ZC0 rfl ZK (fun w hS=>frame hS ZQ (fun B' hB hS'=>fun_Check hS' f _ (kApiFunc.K_grow hB hf) hsm)) ?_;rintro ⟨⟩ -)
 refine Zp J (Zn (Za (Zh (Zi (Zo J (Z0 J J (Zn (Za (wC (fun h12=>?_) (fun h12=>?_))))))))))
 refine Zh (Zi (Zo J (Zzo ?_)))
 refine ⟨rfl,_,(ResL.cons (ResR.tmp rfl) (ResL.cons (ResR.tmp rfl) ResL.nil)),?_⟩
 exact ⟨(),trivial,by unfold chkE chkI;rw [if_pos h12,if_pos h12];rfl,Lh⟩
 refine Zj (Za (Zh (Zh (Zi (Zz (n:=7) (m:=7) J J J (Zld ?_))))))
 refine Zv J J (Zo J (Zn (Za (Zk (wLoop (ι:=Nat) (fun i=>[(1,.slice Al l.length cl),(2,.pointer (some ⟨b2,0,none⟩)),(16,.int .i64 (f.fCode.length:Int)),(17,.int .i64 (i:Int))]) (fun i=>[blk b2 57 [.int .i64 f.fClass,.slice A0 f.fKinds.length c0,.int .i64 f.fPad,.bool f.fNosplit,.int .i64 f.fFrom,.int .i64 f.fTo,.slice A1 f.fLines.length c1,.slice A2 f.fCode.length c2,.slice A3 f.fRelocs.length c3]]) (fun i=>i≤f.fCode.length∧fstE ((insL f l).take i)=0∧∀ y ∈ (insL f l).take i,non0 y=false) (fun i=>f.fCode.length-i) 0 ?_ cv (Leads.has ZQ) ?_)))))
 exact ⟨Nat.zero_le _,rfl,by simp⟩
 rintro i ⟨hi,hs,hs2⟩
 try dsimp only
 refine Zh (Zi (Zx J J (Zn (Za (Zh (wC (fun h18=>?_) (fun h18=>?_)))))))
 have hxe:(insL f l)[i]?=some (instrF f l (i:Int)):=rmap_at (e:=fun i:Nat=>instrF f l (i:Int)) ZO
 refine Zj (Za (Zh (Zk (Zh (Zi (Zo J (Zp J (Zn (Za (Zzs ?_))))))))))
 refine Zo J (Zo J ?_)
 (refine ZC0 rfl ZK (fun w hS=>frame hS ZQ (fun B' hB hS'=>verify_Instr hS' f _ (kApiFunc.K_grow hB hf) Al cl l (Kd.C_grow hB hl) (i:Int))) ?_;rintro ⟨⟩ -)
 refine Zp J (Zn (Za (Zh (Zi (Zo J (Z0 J J (Zn (Za (wC (fun h25=>?_) (fun h25=>?_))))))))))
 refine Zh (Zi (Zo J (Zo J (Zp J (Zp J (Zn (Za (Zl (Zf (Zc (Zc (Zf (Zc (Zw ?_))))))))))))))
 refine ⟨rfl,_,(ResL.cons (ResR.tmp rfl) (ResL.cons (ResR.tmp rfl) ResL.nil)),?_⟩
 exact ⟨(),trivial,by unfold chkE chkI;rw [if_neg h12,if_neg h12,fstE_stop hs hxe h25,idxI_stop hs2 hxe (decide_eq_true h25)];rfl,Lh⟩
 refine Zj (Zzi ?_)
 refine Zo J (Zn (Za ?_))
 exact ⟨rfl,i+1,⟨by omega,fstE_next hs hxe (Classical.not_not.1 h25),take_not hs2 hxe (decide_eq_false h25)⟩,by omega,cv,Lh⟩
 refine Zm (Zb (Zb (Ze (Za (Zh (Zi (Zp J (Zp J (Zn (Za (Zl (Zw ?_))))))))))))
 refine ⟨rfl,_,(ResL.cons (ResR.tmp rfl) (ResL.cons (ResR.tmp rfl) ResL.nil)),?_⟩
 obtain rfl:i=f.fCode.length:=by omega
 rw [← hil,List.take_length] at hs hs2
 exact ⟨(),trivial,by unfold chkE chkI;rw [if_neg h12,if_neg h12,hs,idxI_none hs2];rfl,Lh⟩
theorem ref5_Is {B:Base}{w:World}(hS:St B [] w) (c:Int) :
 CW 71 #[.int .i64 c] w (Ret B (fun _:Unit=>True) (fun _=>.bool (isC c)) (fun _=>[])):=by
 refine ZX Tryz.func71 hS ?_
 refine Zh (Zi (Zp J (Zn (Za (Zh (Zi (Zo J (Z2 J J (Zo J (ZS (ZT 5) (fun h5=>?_) (fun h5=>?_)))))))))))
 refine Zq J J (Zo J (Zq J J (oLeq J J (Zt J J (Zza ?_)))))
 exact ⟨(),trivial,by simp_all [resVal,isC] <;> omega,Lh⟩
 refine Zr J J J J (Zr J J J J (Zu J J (Zza ?_)))
 exact ⟨(),trivial,by simp_all [resVal,isC] <;> omega,Lh⟩
theorem ref17_Sym {B:Base}{w:World}(hS:St B [] w) (f:ApiFunc) (fc:List Value) (hf:kApiFunc.K B.e f fc) (i:Int) :
 CW 87 #[.agg fc.toArray,.int .i64 i] w (Ret B (fun _:Unit=>True) (fun _=>.int .i64 (symF f i)) (fun _=>[])):=by
 obtain ⟨A0,c0,A1,c1,A2,c2,A3,c3,rfl,l0,g0,l1,g1,l2,g2,l3,g3⟩:=kApiFunc_open hf
 have hcl:=g3.1
 refine ZX Tryz.func87 hS ?_
 refine Zh (Zi (oBox J ZP (fun b2=>?_)))
 refine Zp J (Zn (Za (Zh (Zh (Zi (Zp J (Zn (Za (Zk (wLoop (ι:=Nat) (fun j=>[(1,.int .i64 i),(2,.pointer (some ⟨b2,0,none⟩)),(5,.int .i64 (j:Int))]) (fun j=>[blk b2 57 [.int .i64 f.fClass,.slice A0 f.fKinds.length c0,.int .i64 f.fPad,.bool f.fNosplit,.int .i64 f.fFrom,.int .i64 f.fTo,.slice A1 f.fLines.length c1,.slice A2 f.fCode.length c2,.slice A3 f.fRelocs.length c3]]) (fun j=>j≤f.fRelocs.length∧∀ y ∈ f.fRelocs.take j,atR i y=false) (fun j=>f.fRelocs.length-j) 0 ?_ cv (Leads.has ZQ) ?_))))))))))
 exact ⟨Nat.zero_le _,by simp⟩
 rintro j ⟨hj,hs⟩
 try dsimp only
 refine Zh (Zh (Zi (Zo J (Zz (n:=8) (m:=8) J J J (Zld ?_)))))
 refine Zv J J (Zx J J (Zn (Za (wC (fun h10=>?_) (fun h10=>?_)))))
 obtain ⟨x,hx⟩:∃ x,f.fRelocs[j]?=some x:=⟨_,List.getElem?_eq_getElem ZO⟩
 obtain ⟨e1,cs1,hE⟩:=g3.elm hx
 obtain rfl:=kApiReloc_open hE.K
 refine Zj (Za (Zh (Zk (Zh (Zi (Zz (n:=8) (m:=8) J J J (Zld ?_)))))))
 refine Zo J (oIdxE J J (hE) ZO J J ?_)
 have hc16:=(hE).cell
 refine ZF (ZT 0) (ZT 0) ?_
 refine Zlx hc16 ?_
 refine Zo J (Zy J J (Zn (Za (wC (fun h20=>?_) (fun h20=>?_)))))
 refine Zh (Zi (Zz (n:=8) (m:=8) J J J (Zld ?_)))
 refine Zo J (oIdxE J J (hE) ZO J J ?_)
 have hc24:=(hE).cell
 refine ZF (ZT 1) (ZT 1) ?_
 refine Zlx hc24 ?_
 refine Zp J (Zn (Za (Zl (Zf (Zc (Zc (Zf (Zc (Zw (fi1 J ?_))))))))))
 have hm:markF f i=(j:Int):=idxI_stop hs hx (decide_eq_true h20)
 have hsy:symF f i=x.fSym:=by unfold symF;rw [hm,if_neg ZO,Int.toNat_natCast,List.getD_eq_getElem?_getD,hx];rfl
 exact ⟨(),trivial,by rw [hsy];rfl,Lh⟩
 refine Zj (Zze ?_)
 refine Zp J (Zn (Za ?_))
 exact ⟨rfl,j+1,⟨by omega,take_not hs hx (decide_eq_false h20)⟩,by omega,cv,Lh⟩
 refine Zm (Zzg ?_)
 obtain rfl:j=f.fRelocs.length:=by omega
 rw [List.take_length] at hs
 have hm:markF f i = -1:=idxI_none hs
 exact ⟨(),trivial,by unfold symF;rw [hm,if_pos (by decide)];rfl,Lh⟩
end Go.Proofs.YtafiabekcekdbaaGreatV
namespace Go.Proofs.YtafiabekcekdbaaGreatK
open Go.RowKit
section
variable {c : Cx} {M : Md c} {d : Nat} {ty : TypeId} {pos : String} {af : Array Edge} {rest : List Oper} {E : Env} {D : List Deferred} {H H' : List Res} {x y : Operand} {t t' : TypeId} {v : Value}
theorem oConvInt {k k':IntKind}{n m:Int}(hx:E.op x=some (.int k n)) (hs:(c.P.underlying t).isSome=true) (hd:c.P.underlying t'=some (.int k')) (hw:k'.wrap n=m) (h:O M rest ((d,.int k' m) :: E) D H) (hN:Nat.blt d c.N=true:=by rfl):O M (⟨some d,.convert t t' x,ty,pos,af,none⟩ :: rest) E D H:=
 oC _ rfl hN (fun u w ha hw'=>by
  obtain ⟨ut,hu⟩:=Option.isSome_iff_exists.1 hs
  subst hw
  simp [execOp,ha.op hx,convert,run_underlying hu,run_underlying hd,Conv.intToInt]) h
theorem oAddStr {s r:ByteArray}(hx:E.op x=some (.string s)) (hy:E.op y=some (.string r)) (hl:s.size+r.size≤1000000000) (h:O M rest ((d,.string (s++r)) :: E) D H) (hN:Nat.blt d c.N=true:=by rfl):O M (⟨some d,.binOp .add t x y t',ty,pos,af,none⟩ :: rest) E D H:=
 oC _ rfl hN (fun u w ha hw=>by
  have hg:(eqGuard .add t x y (.string s) (.string r)).run c.P w=.ok () w:=by unfold eqGuard;split <;> simp
  have hm:¬ ((s.size+r.size:Nat):Int) > IntKind.i64.max:=by have:IntKind.i64.max=9223372036854775807:=rfl;omega
  simp only [execOp,ha.op hx,ha.op hy,Sem.run_bind,hg,Result.andThen_ok,binOp,Op.stringOp,if_neg hm]
  simp) h
def bytesS (xs:List Int):ByteArray:=⟨(xs.map fun v=>UInt8.ofNat v.toNat).toArray⟩
theorem u8_ofNat (n:Nat) (h:n<256):(UInt8.ofNat n).toNat=n:=by
 show (BitVec.ofNat 8 n).toNat=n
 rw [BitVec.toNat_ofNat]
 exact Nat.mod_eq_of_lt h
theorem oConvBS {b n cp:Nat}{e:TypeId}{tb:TypeId}{cs:List Value}{xs:List Int}(hx:E.op x=some (.slice (some ⟨b,0,none⟩) n cp)) (hs:c.P.underlying t=some (.slice e)) (he:c.P.underlying e=some (.int .u8)) (hd:c.P.underlying t'=some .string) (hp:Pick H (blk b tb cs) H') (hc:cs=xs.map (Value.int .u8)) (hn:n=xs.length) (hr:∀ v ∈ xs,0≤v∧v<256)
 (h:O M rest ((d,.string (bytesS xs)) :: E) D H) (hN:Nat.blt d c.N=true:=by rfl):O M (⟨some d,.convert t t' x,ty,pos,af,none⟩ :: rest) E D H:=
 oC _ rfl hN (fun u w ha hw=>by
  subst hc hn
  have hb:w.heap[b]?=some (.cells (xs.map (Value.int .u8)).toArray tb (0,0)):=hw.get hp
  have key:=run_convert_bytes_back (P:=c.P) w t t' e ⟨b,0,none⟩ cp (xs.map fun v=>UInt8.ofNat v.toNat) hs he hd (fun j hj=>by
   rw [List.length_map] at hj
   rw [add_at,Nat.zero_add,cell_of hb]
   have h0:=hr _ (List.getElem_mem hj)
   simp only [List.getElem?_map,List.getElem?_eq_getElem hj,List.getElem_map,Option.map_some]
   congr 2
   have h8:=u8_ofNat xs[j].toNat (by omega)
   rw [h8]
   omega)
  rw [List.length_map] at key
  simp only [execOp,ha.op hx,Sem.run_bind,key,Result.andThen_ok]
  rfl) h
end
end Go.Proofs.YtafiabekcekdbaaGreatK
namespace Go.Proofs.YtafiabekcekdbaaGreatV
set_option maxRecDepth 100000
set_option maxHeartbeats 4000000
open Go.RowKit Go.Proofs.YtafiabekcekdbaaGreatK Go.Proofs.YtafiabekcekdbaaGreatT Go.Proofs.YtafiabekcekdbaaGreatL

def digB (k:Int):Int:=48+((k.tmod 10).natAbs:Int)
def digS:Nat→Int→ByteArray→ByteArray
  | 0,_,s=>s
  | f+1,k,s=>if k=0 then s else digS f (k.tdiv 10) (bytesS [digB k]++s)
def decF (n:Int):ByteArray:=if n=0 then ⟨#[48]⟩ else if n<0 then ⟨#[45]⟩++digS 20 n ByteArray.empty else digS 20 n ByteArray.empty
theorem digB_in (k:Int):48≤digB k∧digB k≤57:=by
 unfold digB
 have h:(k.tmod 10).natAbs<10:=by
  rw [Int.natAbs_tmod]
  exact Nat.mod_lt _ (by decide)
 omega
theorem bytesS_size (xs:List Int):(bytesS xs).size=xs.length:=by simp [bytesS,ByteArray.size]
theorem digS_size:∀ (f:Nat) (k:Int) (s:ByteArray),(digS f k s).size≤f+s.size
 | 0,_,s=>by simp [digS]
 | f+1,k,s=>by
  unfold digS
  split
  · omega
  · have:=digS_size f (k.tdiv 10) (bytesS [digB k]++s)
    rw [ByteArray.size_append,bytesS_size] at this
    simp only [List.length_cons,List.length_nil] at this
    omega
theorem decF_size (n:Int):(decF n).size≤21:=by
 have h:=digS_size 20 n ByteArray.empty
 have h0:ByteArray.empty.size=0:=rfl
 unfold decF
 split
 · decide
 · split
   · rw [ByteArray.size_append]
     have:(⟨#[45]⟩:ByteArray).size=1:=rfl
     omega
   · omega
theorem wrap8 {n:Int}(h:48≤n∧n≤57):IntKind.u8.wrap n=n:=by
 obtain ⟨m,rfl⟩:=Int.eq_ofNat_of_zero_le (show 0≤n by omega)
 have:∀ m,m<58→IntKind.u8.wrap ((m:Nat):Int)=((m:Nat):Int):=by decide
 exact this m ZO
theorem in64_tdiv {k:Int}(h:in64 k):in64 (k.tdiv 10):=by
 have h1:(k.tdiv 10).natAbs≤k.natAbs / 10:=by rw [Int.natAbs_tdiv];exact Nat.le_refl _
 unfold in64 at *
 omega
theorem tdiv_small {k:Int}{m:Nat}(h:k.natAbs<10 * m):(k.tdiv 10).natAbs<m:=by
 rw [Int.natAbs_tdiv]
 exact Nat.div_lt_of_lt_mul (by simpa using h)
theorem ref_Digits {B:Base}{w:World}(hS:St B [] w) (n:Int) (hn:in64 n) :
 CW 106 #[.int .i64 n] w (Ret B (fun _:Unit=>True) (fun _=>.string (decF n)) (fun _=>[])):=by
 have hnn:n.natAbs<10 ^ 20:=by unfold in64 at hn;omega
 refine ZX Tryz.func106 hS ?_
 refine Zh (Zi (Zp J (Zn (Za (Zh (Zh (Zi (Zo J (Zy J J (Zn (Za (wC (fun h7=>?_) (fun h7=>?_)))))))))))))
 refine Zh (Zi (Zzc ?_))
 exact ⟨(),trivial,by unfold decF;rw [if_pos h7];rfl,Lh⟩
 refine Zj (Za (Zh (Zi (Zp J (Zn (Za (Zh (Zh (Zi (Zo J (Zp J (Zn (Za (Zk (wLoop (ι:=Nat×Int×ByteArray) (fun z=>[(0,.int .i64 n),(3,.string z.2.2),(4,.int .i64 z.2.1)]) (fun z=>[]) (fun z=>in64 z.2.1∧z.1≤20∧z.2.1.natAbs<10 ^ z.1∧digS 20 n ByteArray.empty=digS z.1 z.2.1 z.2.2∧z.1+z.2.2.size≤20) (fun z=>z.1) (20,n,ByteArray.empty) ?_ cv (Leads.has ZQ) ?_)))))))))))))))
 exact ⟨hn,Nat.le_refl _,hnn,rfl,Nat.le_refl _⟩
 rintro ⟨f,k,s⟩ ⟨hk64,hf,hk,hd,hsz⟩
 dsimp only at hk64 hf hk hd hsz
 try dsimp only
 refine Zh (Zh (Zi (Zo J (Z0 J J (Zn (Za (wC (fun h10=>?_) (fun h10=>?_))))))))
 obtain ⟨f,rfl⟩:∃ f',f=f'+1:=⟨f-1,by cases f with | zero=>simp at hk;omega | succ f=>rfl⟩
 have hkb:k.natAbs<10 ^ 20:=Nat.lt_of_lt_of_le hk (Nat.pow_le_pow_right (by decide) hf)
 have hdb:=digB_in k
 have hk64':=hk64
 unfold in64 at hk64'
 have hq:∀ z,z=digB k→IntKind.u8.wrap z=digB k:=fun z hz=>by rw [hz];exact wrap8 hdb
 refine Zj (Za (Zh (Zk (Zh (Zi (Zo J (oRem J J (by decide) ?_)))))))
 refine Zp J (Zn (Za (Zh (Zh (Zi (Zo J (Zx J J (Zn (Za (wC (fun h16=>?_) (fun h16=>?_)))))))))))
 refine Zi (Zo J ?_)
 refine oSub J J (by have:=digB_in k;unfold digB at this;omega) ?_
 refine Zp J (Zn (Za (Zi (Zo J ?_))))
 refine oAdd J J (by have:=digB_in k;unfold digB at this;omega) ?_
 refine oConvInt (m:=digB k) J J J (hq _ (by unfold digB;omega)) ?_
 refine oBuildSlice1 J J J J J ZP J (fun b22=>?_)
 refine oConvBS (xs:=[digB k]) J J J J ZP J J (by intro v hv;obtain J:=List.mem_singleton.1 hv;omega) ?_
 refine Zo J ?_
 refine oAddStr rfl rfl (by rw [bytesS_size];simp only [List.length_cons,List.length_nil];omega) ?_
 refine Zp J (Zn (Zd (Za (Zi (Zo J (oQuo J J ZO ?_))))))
 refine Zp J (Zn (Za ?_))
 exact ⟨rfl,(f,k.tdiv 10,bytesS [digB k]++s),⟨in64_tdiv hk64,by show f≤20;omega,tdiv_small (by show k.natAbs<10 * 10 ^ f;rw [Nat.pow_succ] at hk;omega),by rw [hd];show (if k=0 then s else _)=_;rw [if_neg h10],by show f+(bytesS [digB k]++s).size≤20;rw [ByteArray.size_append,bytesS_size];simp only [List.length_cons,List.length_nil];omega⟩,by show f<f+1;omega,cv,Lh⟩
 refine Zj (Za (Zi (Zo J ?_)))
 refine oAdd J J (by have:=digB_in k;unfold digB at this;omega) ?_
 refine oConvInt (m:=digB k) J J J (hq _ (by unfold digB;omega)) ?_
 refine oBuildSlice1 J J J J J ZP J (fun b22=>?_)
 refine oConvBS (xs:=[digB k]) J J J J ZP J J (by intro v hv;obtain J:=List.mem_singleton.1 hv;omega) ?_
 refine Zo J ?_
 refine oAddStr rfl rfl (by rw [bytesS_size];simp only [List.length_cons,List.length_nil];omega) ?_
 refine Zp J (Zn (Zd (Za (Zi (Zo J (oQuo J J ZO ?_))))))
 refine Zp J (Zn (Za ?_))
 exact ⟨rfl,(f,k.tdiv 10,bytesS [digB k]++s),⟨in64_tdiv hk64,by show f≤20;omega,tdiv_small (by show k.natAbs<10 * 10 ^ f;rw [Nat.pow_succ] at hk;omega),by rw [hd];show (if k=0 then s else _)=_;rw [if_neg h10],by show f+(bytesS [digB k]++s).size≤20;rw [ByteArray.size_append,bytesS_size];simp only [List.length_cons,List.length_nil];omega⟩,by show f<f+1;omega,cv,Lh⟩
 obtain rfl:k=0:=by omega
 have hd0:digS 20 n ByteArray.empty=s:=by rw [hd];cases f with | zero=>rfl | succ f=>show (if (0:Int)=0 then s else _)=s;rw [if_pos rfl]
 refine Zm (Zb (Zb (Ze (Za (Zh (Zh (Zi (Zo J (Zx J J (Zn (Za (wC (fun h27=>?_) (fun h27=>?_)))))))))))))
 refine Zh (Zi (Zo J ?_))
 refine oAddStr J J (by show 1+_≤_;omega) ?_
 refine Zp J (Zzt ?_)
 exact ⟨(),trivial,by unfold decF;rw [if_neg h7,if_pos h27,hd0];rfl,Lh⟩
 refine Zj (Za (Zh (Zi (Zo J (Zza ?_)))))
 exact ⟨(),trivial,by unfold decF;rw [if_neg h7,if_neg h27,hd0];rfl,Lh⟩
theorem ref5_Params {B:Base}{w:World}(hS:St B [] w) (c:Int) :
 CW 172 #[.int .i64 c] w (Ret B (fun _:Unit=>True) (fun _=>.int .i64 (parF c)) (fun _=>[])):=by
 refine ZX Tryz.func172 hS ?_
 refine Zh (Zi (Zp J (Zn (Za (Zh (Zh (Zi (Zo J ?_))))))))
 (refine ZC0 rfl ZK (fun w hS=>frame hS ZQ (fun B' hB hS'=>ref5_Is hS' c)) ?_;rintro ⟨⟩ -)
 refine Zno ?_
 refine Zn (Za (wC (fun h5=>?_) (fun h5=>?_)))
 refine Zh (Zi (Zzc ?_))
 exact ⟨(),trivial,by unfold parF;rw [if_neg (by simpa using h5)];rfl,Lh⟩
 have hc:=isC_iff.1 (show isC c=true by simpa using h5)
 refine Zj (Za (Zh (Zi (Zo J (oQuo J J ZO ?_)))))
 refine Zp J (Zzk ?_)
 exact ⟨(),trivial,by unfold parF;rw [if_pos (by simpa using h5),Int.tdiv_eq_ediv_of_nonneg hc.1];rfl,Lh⟩
theorem ref5_Answers {B:Base}{w:World}(hS:St B [] w) (c:Int) :
 CW 181 #[.int .i64 c] w (Ret B (fun _:Unit=>True) (fun _=>.bool (ansF c)) (fun _=>[])):=by
 refine ZX Tryz.func181 hS ?_
 refine Zh (Zi (Zp J (Zn (Zzm ?_))))
 (refine ZC0 rfl ZK (fun w hS=>frame hS ZQ (fun B' hB hS'=>ref5_Is hS' c)) ?_;rintro ⟨⟩ -)
 refine Zo J (ZS (ZT 5) (fun h5=>?_) (fun h5=>?_))
 have hc:=isC_iff.1 (show isC c=true by simpa using h5)
 refine Zq J J (Zo J (Zq J J (oRem J J (by decide) ?_)))
 rw [Int.tmod_eq_emod_of_nonneg hc.1]
 refine Zq J J (Zy J J (Zt J J (Zza ?_)))
 exact ⟨(),trivial,by simp_all [resVal,ansF],Lh⟩
 refine Zr J J J J (Zzp ?_)
 exact ⟨(),trivial,by simp_all [resVal,ansF],Lh⟩
theorem latF_eq (c:Int):latF c=decide (c=0∨c=2):=by
 by_cases h:0≤c∧c<8
 · have:∀ n,n<8→latF ((n:Nat):Int)=decide (((n:Nat):Int)=0∨((n:Nat):Int)=2):=by decide
   obtain ⟨n,rfl⟩:=Int.eq_ofNat_of_zero_le h.1
   exact this n ZO
 · have:isC c=false:=by unfold isC;rw [← Bool.decide_and];exact decide_eq_false h
   have h2:decide (c=0∨c=2)=false:=decide_eq_false ZO
   rw [h2]
   unfold latF
   rw [this];rfl
theorem ref5_Later {B:Base}{w:World}(hS:St B [] w) (c:Int) :
 CW 149 #[.int .i64 c] w (Ret B (fun _:Unit=>True) (fun _=>.bool (latF c)) (fun _=>[])):=by
 rw [latF_eq]
 refine ZX Tryz.func149 hS ?_
 refine Zh (Zi (Zp J (Zn (Za (Zh (Zi (Zo J (Zy J J (Zo J (ZS (ZT 5) (fun h5=>?_) (fun h5=>?_)))))))))))
 refine Zr J J J J (Zr J J J J (Zt J J (Zza ?_)))
 exact ⟨(),trivial,by simp_all [resVal],Lh⟩
 refine Zq J J (Zo J (Zq J J (Zy J J (Zu J J (Zza ?_)))))
 exact ⟨(),trivial,by simp_all [resVal],Lh⟩
theorem ref5_Class {B:Base}{w:World}(hS:St B [] w) (k:Int) :
 CW 105 #[.int .i64 k] w (Ret B (fun _:Unit=>True) (fun _=>.tuple #[.int .i64 (if isC (IntKind.i64.wrap (k-1)) then IntKind.i64.wrap (k-1) else 0),.bool (isC (IntKind.i64.wrap (k-1)))]) (fun _=>[])):=by
 generalize hz:IntKind.i64.wrap (k-1)=z
 refine ZX Tryz.func105 hS ?_
 refine Zh (Zi (Zp J (Zp J (Zn (Za (Zh (Zh (Zi (Zo J (oSubW J J ?_))))))))))
 rw [hz]
 (refine ZC0 rfl ZK (fun w hS=>frame hS ZQ (fun B' hB hS'=>ref5_Is hS' z)) ?_;rintro ⟨⟩ -)
 refine Zno ?_
 refine Zn (Za (wC (fun h7=>?_) (fun h7=>?_)))
 refine Zh (Zi (Zzo ?_))
 refine ⟨rfl,_,(ResL.cons (ResR.tmp rfl) (ResL.cons (ResR.tmp rfl) ResL.nil)),?_⟩
 exact ⟨(),trivial,by simp_all [resVal],Lh⟩
 refine Zj (Za (Zh (Zi (Zo J (oSubW J J ?_)))))
 rw [hz]
 refine Zp J (Zp J (Zn (Za (Zl (Zw ?_)))))
 refine ⟨rfl,_,(ResL.cons (ResR.tmp rfl) (ResL.cons (ResR.tmp rfl) ResL.nil)),?_⟩
 exact ⟨(),trivial,by simp_all [resVal],Lh⟩
theorem textF_some:∀ k:Nat,k<8→(⟨#[102]⟩++decF ((k / 2:Nat):Int))++(if k % 2=1 then (⟨#[114]⟩:ByteArray) else ByteArray.empty)=textF ((k+1:Nat):Int):=by decide
theorem emp_app (s:ByteArray):s++ByteArray.empty=s:=by simp
theorem ref5_Text {B:Base}{w:World}(hS:St B [] w) (k:Int) (hk:in64 k) :
 CW 72 #[.int .i64 k] w (Ret B (fun _:Unit=>True) (fun _=>.string (textF k)) (fun _=>[])):=by
 have hw:isC (IntKind.i64.wrap (k-1))=decide (1≤k∧k<9):=by
  unfold in64 at hk
  by_cases h : -9223372036854775808≤k-1
  · rw [wrap_in (by unfold in64;omega)];unfold isC;rw [← Bool.decide_and];exact decide_eq_decide.2 ZO
  · obtain rfl:k = -9223372036854775808:=by omega
    decide
 refine ZX Tryz.func72 hS ?_
 refine Zh (Zi (Zp J (Zn (Za (Zh (Zh (Zi (Zo J (Zy J J (Zn (Za (wC (fun h7=>?_) (fun h7=>?_)))))))))))))
 refine Zh (Zi (Zzc ?_))
 exact ⟨(),trivial,by subst h7;rfl,Lh⟩
 refine Zj (Zzm ?_)
 (refine ZC0 rfl ZK (fun w hS=>frame hS ZQ (fun B' hB hS'=>ref5_Class hS' k)) ?_;rintro ⟨⟩ -)
 rw [hw]
 refine Zo J (oExt J ZP ?_)
 refine oExt J ZP ?_
 refine Zp J (Zp J (Zn (Za (Zh (Zh (Zi (Zo J (Zno ?_))))))))
 refine Zn (Za (wC (fun h14=>?_) (fun h14=>?_)))
 refine Zh (Zi (Zzc ?_))
 exact ⟨(),trivial,by rw [textF_no.2 ZO];rfl,Lh⟩
 have hk9:1≤k∧k<9:=by omega
 rw [if_pos (by simpa using hk9),wrap_in (by unfold in64;omega)]
 obtain ⟨m,hm⟩:=Int.eq_ofNat_of_zero_le (show 0≤k-1 by omega)
 have htf:=textF_some m ZO
 rw [hm]
 refine Zj (Za (Zh (Zi (Zo J (oQuo J J ZO ?_)))))
 refine ZS0 (t:=16) (v':=.int .i64 ((m / 2:Nat):Int)) rfl (by rw [Int.tdiv_eq_ediv_of_nonneg ZO];rfl) ?_
 (refine ZC0 rfl ZK (fun w hS=>frame hS ZQ (fun B' hB hS'=>ref_Digits hS' ((m / 2:Nat):Int) (by unfold in64;omega))) ?_;rintro ⟨⟩ -)
 have hds:(decF ((m / 2:Nat):Int)).size≤21:=decF_size _
 refine oAddStr J J (by show 1+_≤_;omega) ?_
 refine Zp J (Zn (Za (Zh (Zh (Zi (Zo J (oRem J J (by decide) ?_)))))))
 rw [Int.tmod_eq_emod_of_nonneg ZO]
 refine Zy J J (Zn (Za (wC (fun h21=>?_) (fun h21=>?_))))
 refine Zi (Zo J ?_)
 refine oAddStr rfl rfl (by rw [ByteArray.size_append];show 1+_+1≤_;omega) ?_
 refine Zp J (Zn (Za (Zh (Zi (Zo J (Zza ?_))))))
 exact ⟨(),trivial,by rw [if_pos ZO] at htf;rw [show k=((m+1:Nat):Int) by omega,← htf];rfl,Lh⟩
 refine Zj (Za (Zh (Zi (Zo J (Zza ?_)))))
 exact ⟨(),trivial,by rw [if_neg ZO,emp_app] at htf;rw [show k=((m+1:Nat):Int) by omega,← htf];rfl,Lh⟩
theorem name_case {s:ByteArray}(n:Nat) (hn:∀ k,k<28→namesL.getD k ByteArray.empty=s→k=n) (hs:s≠ByteArray.empty) {o:Int}(h:nameF o=s):o=(n:Int)+1:=by
 unfold nameF at h
 split at h
 · next k=>have:=hn (o-1).toNat ZO h;omega
 · exact absurd h.symm hs
theorem name_not {s:ByteArray}(n:Nat) (hn:n<28) (hs:namesL.getD n ByteArray.empty=s) {o:Int}(h:¬ nameF o=s):o≠(n:Int)+1:=by
 rintro rfl
 apply h
 unfold nameF
 rw [if_pos ZO,← hs]
 congr 1
 omega
theorem ref7_Own {B:Base}{w:World}(hS:St B [] w) (o:Int) :
 CW 175 #[.int .i64 o] w (Ret B (fun _:Unit=>True) (fun _=>.bool (ownF o)) (fun _=>[])):=by
 refine ZX Tryz.func175 hS ?_
 refine Zh (Zi (Zp J (Zn (Za (Zh (Zi (Zo J (Z2 J J (Zo J (ZS (ZT 5) (fun h5=>?_) (fun h5=>?_)))))))))))
 refine Zq J J (Zo J (Zq J J (oLeq J J (Zt J J (Zza ?_)))))
 exact ⟨(),trivial,by simp_all [resVal,ownF] <;> omega,Lh⟩
 refine Zr J J J J (Zr J J J J (Zu J J (Zza ?_)))
 exact ⟨(),trivial,by simp_all [resVal,ownF] <;> omega,Lh⟩
theorem ref7_names {B:Base}{w:World}(hS:St B [] w) (W0:World) :
 CW 124 #[] w (Ret B (fun _:Nat=>True) (fun b=>.slice (some ⟨b,0,none⟩) 28 28) (fun b=>[row Kd.string W0 9 (.slice (some ⟨b,0,none⟩) 28 28) namesL])):=by
 refine ZX Tryz.func124 hS ?_
 refine Zh (Zi (Zp J (Zn (Za (Zh (Zi ?_))))))
 refine oBuildSliceF (Parts.cons J (Parts.cons J (Parts.cons J (Parts.cons J (Parts.cons J (Parts.cons J (Parts.cons J (Parts.cons J (Parts.cons J (Parts.cons J (Parts.cons J (Parts.cons J (Parts.cons J (Parts.cons J (Parts.cons J (Parts.cons J (Parts.cons J (Parts.cons J (Parts.cons J (Parts.cons J (Parts.cons J (Parts.cons J (Parts.cons J (Parts.cons J (Parts.cons J (Parts.cons J (Parts.cons J (Parts.cons J Parts.nil)))))))))))))))))))))))))))) J J J J J (Fulls.cons ZP J (Fulls.cons ZP J (Fulls.cons ZP J (Fulls.cons ZP J (Fulls.cons ZP J (Fulls.cons ZP J (Fulls.cons ZP J (Fulls.cons ZP J (Fulls.cons ZP J (Fulls.cons ZP J (Fulls.cons ZP J (Fulls.cons ZP J (Fulls.cons ZP J (Fulls.cons ZP J (Fulls.cons ZP J (Fulls.cons ZP J (Fulls.cons ZP J (Fulls.cons ZP J (Fulls.cons ZP J (Fulls.cons ZP J (Fulls.cons ZP J (Fulls.cons ZP J (Fulls.cons ZP J (Fulls.cons ZP J (Fulls.cons ZP J (Fulls.cons ZP J (Fulls.cons ZP J (Fulls.cons ZP J Fulls.nil ap) ap) ap) ap) ap) ap) ap) ap) ap) ap) ap) ap) ap) ap) ap) ap) ap) ap) ap) ap) ap) ap) ap) ap) ap) ap) ap) ap) (fun b1=>?_)
 refine Zp J (Zzk ?_)
 exact ⟨b1,trivial,rfl,Leads.trans (blk_row (enc:=Value.string) (h1:=fun _=>rfl) (W:=W0) (xs:=namesL) ZP rfl rfl (by decide)) Lh⟩
theorem ref7_Name {B:Base}{w:World}(hS:St B [] w) (o:Int) :
 CW 94 #[.int .i64 o] w (Ret B (fun _:Unit=>True) (fun _=>.string (nameF o)) (fun _=>[])):=by
 refine ZX Tryz.func94 hS ?_
 refine Zh (Zi (Zp J (Zn (Za (Zh (Zi ?_))))))
 (refine ZC0 rfl ZK (fun w hS=>frame hS ZQ (fun B' hB hS'=>ref7_names hS' B.e)) ?_;rintro b4 -)
 refine Zp J (Zn (Za (Zh (Zh (Zi (Zo J (Zx J J (Zo J (ZS (ZT 7) (fun h7=>?_) (fun h7=>?_))))))))))
 refine Zr J J J J (Zr J J J J (Zr J J J J (Zr J J J J (Zt J J (Zn (Za (wCondT J (Zh (Zi (Zzc ?_))))))))))
 exact ⟨(),trivial,by unfold nameF;rw [if_neg ZO];rfl,Lh⟩
 refine Zq J J (Zo J (Zq J J (Zo J (Zq J J (Zv J J (Zq J J (Z1 J J (Zu J J (Zn (Za (wC (fun h12=>?_) (fun h12=>?_))))))))))))
 refine Zh (Zi (Zzc ?_))
 exact ⟨(),trivial,by unfold nameF;rw [if_neg ZO];rfl,Lh⟩
 obtain ⟨n,hn⟩:=Int.eq_ofNat_of_zero_le (show 0≤o-1 by omega)
 have hn28:n<28:=by omega
 refine Zj (Zzv ?_)
 first | refine oSub rfl rfl ZO ?_ | refine oSubW rfl rfl ?_
 rw [hn]
 refine ZR J J ZP (by first | exact hn28 | (show n<28;omega)) J J (fun g16 hg16=>?_)
 first | subst hg16 | (injection hg16 with hg16;injection hg16 with hg16;subst hg16)
 refine ZR1 J ZP (by first | exact hn28 | (show n<28;omega)) J (fun u17 hu17=>?_)
 obtain rfl:u17=namesL.getD n ByteArray.empty:=by rw [List.getD_eq_getElem?_getD,hu17];rfl
 refine Zp J (Zzk ?_)
 exact ⟨(),trivial,by unfold nameF;rw [if_pos ZO,hn,Int.toNat_natCast];rfl,Lh⟩
theorem ref7_Need {B:Base}{w:World}(hS:St B [] w) (o:Int) :
 CW 57 #[.int .i64 o] w (Ret B (fun _:Unit=>True) (fun _=>.int .i64 (needF o)) (fun _=>[])):=by
 refine ZX Tryz.func57 hS ?_
 refine Zh (Zi (Zp J (Zn (Zzm ?_))))
 (refine ZC0 rfl ZK (fun w hS=>frame hS ZQ (fun B' hB hS'=>ref7_Name hS' o)) ?_;rintro ⟨⟩ -)
 refine Zn (Za (Zk (Zh (Zi (oSEq J J (Zp J (Zn (Za (wC (fun h5=>?_) (fun h5=>?_))))))))))
 refine Zh (Zzn ?_)
 have ho:=name_case 18 (by decide) (by decide) h5
 exact ⟨(),trivial,by subst ho;rfl,Lh⟩
 have n5:=name_not 18 (by decide) rfl h5
 refine Zh (Zi (oSEq J J (Zp J (Zn (Za (wC (fun h7=>?_) (fun h7=>?_)))))))
 refine Zh (Zzn ?_)
 have ho:=name_case 16 (by decide) (by decide) h7
 exact ⟨(),trivial,by subst ho;rfl,Lh⟩
 have n7:=name_not 16 (by decide) rfl h7
 refine Zh (Zh (Zi (oSEq J J (Zp J (Zn (Za (wC (fun h9=>?_) (fun h9=>?_))))))))
 refine Zj (Za (ZY h9 ?_))
 refine Zh (Zzn ?_)
 have ho:o=15∨o=16:=by
  first
  | exact .inl (name_case 14 (by decide) (by decide) h9)
  | exact .inr (name_case 15 (by decide) (by decide) h9)
 exact ⟨(),trivial,by rcases ho with rfl | rfl <;> rfl,Lh⟩
 refine Zi (oSEq J J ?_)
 have n9:=name_not 14 (by decide) rfl h9
 refine Zp J (Zn (Za (wC (fun h9=>?_) (fun h9=>?_))))
 refine Zh (Zzn ?_)
 have ho:o=15∨o=16:=by
  first
  | exact .inl (name_case 14 (by decide) (by decide) h9)
  | exact .inr (name_case 15 (by decide) (by decide) h9)
 exact ⟨(),trivial,by rcases ho with rfl | rfl <;> rfl,Lh⟩
 refine Zh (Zi (oSEq J J (Zp J (Zn (Za (wC (fun h12=>?_) (fun h12=>?_)))))))
 refine Zh (Zzn ?_)
 have ho:=name_case 17 (by decide) (by decide) h12
 exact ⟨(),trivial,by subst ho;rfl,Lh⟩
 refine Zh (Zi (oSEq J J (Zp J (Zn (Za (wC (fun h14=>?_) (fun h14=>?_)))))))
 refine Zh (Zzn ?_)
 have ho:=name_case 20 (by decide) (by decide) h14
 exact ⟨(),trivial,by subst ho;rfl,Lh⟩
 refine Zh (Zzn ?_)
 have m9:=name_not 15 (by decide) rfl h9
 have m12:=name_not 17 (by decide) rfl h12
 have m14:=name_not 20 (by decide) rfl h14
 exact ⟨(),trivial,by unfold needF;rw [if_neg ZO,if_neg ZO,if_neg ZO,if_neg ZO,if_neg ZO];rfl,Lh⟩
theorem ref7_Ends {B:Base}{w:World}(hS:St B [] w) (o:Int) :
 CW 182 #[.int .i64 o] w (Ret B (fun _:Unit=>True) (fun _=>.bool (endsF o)) (fun _=>[])):=by
 have e1:(nameF o=⟨#[106,117,109,112]⟩)↔o=11:=⟨fun h=>name_case 10 (by decide) (by decide) h,fun h=>by subst h;decide⟩
 have e2:(nameF o=⟨#[112,97,110,105,99]⟩)↔o=22:=⟨fun h=>name_case 21 (by decide) (by decide) h,fun h=>by subst h;decide⟩
 have e3:(nameF o=⟨#[114,101,116,117,114,110]⟩)↔o=24:=⟨fun h=>name_case 23 (by decide) (by decide) h,fun h=>by subst h;decide⟩
 refine ZX Tryz.func182 hS ?_
 refine Zh (Zi (Zp J (Zn (Zzm ?_))))
 (refine ZC0 rfl ZK (fun w hS=>frame hS ZQ (fun B' hB hS'=>ref7_Name hS' o)) ?_;rintro ⟨⟩ -)
 refine oSEq J J (Zo J (ZS (ZT 6) (fun h6=>?_) (fun h6=>?_)))
 refine Zr J J J J (Zr J J J J (Zr J J J J (Zt J J (Zo J (Zr J J J J (Zr J J J J (Zr J J J J (Zt J J (Zza ?_)))))))))
 exact ⟨(),trivial,by simp_all [resVal,endsF],Lh⟩
 refine Zq J J (Zo J (Zq J J ?_))
 (refine ZC0 rfl ZK (fun w hS=>frame hS ZQ (fun B' hB hS'=>ref7_Name hS' o)) ?_;rintro ⟨⟩ -)
 refine Zq J J (oSEq J J (Zu J J (Zo J (ZS (ZT 11) (fun h11=>?_) (fun h11=>?_)))))
 refine Zr J J J J (Zr J J J J (Zr J J J J (Zt J J (Zza ?_))))
 exact ⟨(),trivial,by simp_all [resVal,endsF],Lh⟩
 refine Zq J J (Zo J (Zq J J ?_))
 (refine ZC0 rfl ZK (fun w hS=>frame hS ZQ (fun B' hB hS'=>ref7_Name hS' o)) ?_;rintro ⟨⟩ -)
 refine Zq J J (oSEq J J (Zu J J (Zza ?_)))
 exact ⟨(),trivial,by simp_all [resVal,endsF],Lh⟩
theorem nextL_any (x:ApiInstr) (i:Int) (p:Int→Bool):(nextL x i).any p=(nextR x i).any p:=by
 rw [Bool.eq_iff_iff,List.any_eq_true,List.any_eq_true]
 constructor
 · rintro ⟨y,hy,h⟩;exact ⟨y,((sorted_spec _).2 y).1 hy,h⟩
 · rintro ⟨y,hy,h⟩;exact ⟨y,((sorted_spec _).2 y).2 hy,h⟩
theorem flowF_eq (code:List ApiInstr):flowF code=if code.length=0 then 3 else if 64<code.length then 6 else if (List.range code.length).any (fun i=>(nextR (code.getD i default) (i:Int)).any (outF code.length)) then 10 else 0:=by
 have h:(graphF code).any (fun l=>l.any (outF code.length))=(List.range code.length).any (fun i=>(nextR (code.getD i default) (i:Int)).any (outF code.length)):=by
  unfold graphF
  rw [List.any_map]
  rw [Bool.eq_iff_iff,List.any_eq_true,List.any_eq_true]
  have key:∀ i ∈ List.range code.length,((fun l:List Int=>l.any (outF code.length)) ∘ fun i:Nat=>nextF code (i:Int)) i=(nextR (code.getD i default) (i:Int)).any (outF code.length):=by
   intro i hi
   have:=List.mem_range.1 hi
   show (nextF code (i:Int)).any _=_
   unfold nextF
   rw [if_neg ZO,Int.toNat_natCast,nextL_any]
  constructor
  · rintro ⟨i,hi,hp⟩;exact ⟨i,hi,by rw [← key i hi];exact hp⟩
  · rintro ⟨i,hi,hp⟩;exact ⟨i,hi,by rw [key i hi];exact hp⟩
 unfold flowF
 rw [h]
theorem shapeF_rr {o:Int}(h:4≤o∧o≤10):shapeF o=⟨#[119,114,114,45]⟩:=by
 have h1:∀ n,n<7→shapesL.getD (n+3) ByteArray.empty=⟨#[119,114,114,45]⟩:=by decide
 unfold shapeF
 rw [if_pos (ownF_iff.2 ZO)]
 have:=h1 (o-4).toNat ZO
 rwa [show (o-4).toNat+3=(o-1).toNat by omega] at this
theorem shapeF_out {o:Int}(h:¬ (1≤o∧o≤24)):shapeF o=ByteArray.empty:=by
 unfold shapeF
 rw [if_neg (fun k=>h (ownF_iff.1 k))]
theorem ref7_Shape {B:Base}{w:World}(hS:St B [] w) (o:Int) :
 CW 150 #[.int .i64 o] w (Ret B (fun _:Unit=>True) (fun _=>.string (shapeF o)) (fun _=>[])):=by
 refine ZX Tryz.func150 hS ?_
 refine Zh (Zi (Zp J (Zn (Za (Zh (Zh (Zi (Zo J (Z2 J J (Zo J (ZS (ZT 5) (fun h5=>?_) (fun h5=>?_))))))))))))
 refine Zq J J (Zo J (Zq J J (oLeq J J (Zt J J (Zn (Za (wC (fun h8=>?_) (fun h8=>?_))))))))
 refine Zh (Zi (Zzc ?_))
 exact ⟨(),trivial,by rw [shapeF_rr ZO];rfl,Lh⟩
 refine Zj (Zzm ?_)
 (refine ZC0 rfl ZK (fun w hS=>frame hS ZQ (fun B' hB hS'=>ref7_Name hS' o)) ?_;rintro ⟨⟩ -)
 refine Zn (Za (Zk (Zh (Zi (oSEq J J (Zp J (Zn (Za (wC (fun h11=>?_) (fun h11=>?_))))))))))
 refine Zh (Zzn ?_)
 have ho:=name_case 0 (by decide) (by decide) h11
 exact ⟨(),trivial,by subst ho;rfl,Lh⟩
 refine Zh (Zi (oSEq J J (Zp J (Zn (Za (wC (fun h13=>?_) (fun h13=>?_)))))))
 refine Zh (Zzn ?_)
 have ho:=name_case 1 (by decide) (by decide) h13
 exact ⟨(),trivial,by subst ho;rfl,Lh⟩
 refine Zh (Zh (Zi (oSEq J J (Zp J (Zn (Za (wC (fun h15=>?_) (fun h15=>?_))))))))
 refine Zj (Za (ZY h15 ?_))
 refine Zh (Zzn ?_)
 have ho:o=3∨o=15:=by first | exact .inl (name_case 2 (by decide) (by decide) h15) | exact .inr (name_case 14 (by decide) (by decide) h15)
 exact ⟨(),trivial,by rcases ho with rfl | rfl <;> rfl,Lh⟩
 refine Zi (oSEq J J ?_)
 have n15:=name_not 2 (by decide) rfl h15
 refine Zp J (Zn (Za (wC (fun h15=>?_) (fun h15=>?_))))
 refine Zh (Zzn ?_)
 have ho:o=3∨o=15:=by first | exact .inl (name_case 2 (by decide) (by decide) h15) | exact .inr (name_case 14 (by decide) (by decide) h15)
 exact ⟨(),trivial,by rcases ho with rfl | rfl <;> rfl,Lh⟩
 refine Zh (Zi (oSEq J J (Zp J (Zn (Za (wC (fun h18=>?_) (fun h18=>?_)))))))
 refine Zh (Zzn ?_)
 have ho:=name_case 10 (by decide) (by decide) h18
 exact ⟨(),trivial,by subst ho;rfl,Lh⟩
 refine Zh (Zi (oSEq J J (Zp J (Zn (Za (wC (fun h20=>?_) (fun h20=>?_)))))))
 refine Zh (Zzn ?_)
 have ho:=name_case 11 (by decide) (by decide) h20
 exact ⟨(),trivial,by subst ho;rfl,Lh⟩
 refine Zh (Zi (oSEq J J (Zp J (Zn (Za (wC (fun h22=>?_) (fun h22=>?_)))))))
 refine Zh (Zzn ?_)
 have ho:=name_case 12 (by decide) (by decide) h22
 exact ⟨(),trivial,by subst ho;rfl,Lh⟩
 refine Zh (Zh (Zi (oSEq J J (Zp J (Zn (Za (wC (fun h24=>?_) (fun h24=>?_))))))))
 refine Zj (Za (ZY h24 ?_))
 refine Zh (Zzn ?_)
 have ho:o=14∨o=22:=by first | exact .inl (name_case 13 (by decide) (by decide) h24) | exact .inr (name_case 21 (by decide) (by decide) h24)
 exact ⟨(),trivial,by rcases ho with rfl | rfl <;> rfl,Lh⟩
 refine Zi (oSEq J J ?_)
 have n24:=name_not 13 (by decide) rfl h24
 refine Zp J (Zn (Za (wC (fun h24=>?_) (fun h24=>?_))))
 refine Zh (Zzn ?_)
 have ho:o=14∨o=22:=by first | exact .inl (name_case 13 (by decide) (by decide) h24) | exact .inr (name_case 21 (by decide) (by decide) h24)
 exact ⟨(),trivial,by rcases ho with rfl | rfl <;> rfl,Lh⟩
 refine Zh (Zi (oSEq J J (Zp J (Zn (Za (wC (fun h27=>?_) (fun h27=>?_)))))))
 refine Zh (Zzn ?_)
 have ho:=name_case 15 (by decide) (by decide) h27
 exact ⟨(),trivial,by subst ho;rfl,Lh⟩
 refine Zh (Zi (oSEq J J (Zp J (Zn (Za (wC (fun h29=>?_) (fun h29=>?_)))))))
 refine Zh (Zzn ?_)
 have ho:=name_case 16 (by decide) (by decide) h29
 exact ⟨(),trivial,by subst ho;rfl,Lh⟩
 refine Zh (Zi (oSEq J J (Zp J (Zn (Za (wC (fun h31=>?_) (fun h31=>?_)))))))
 refine Zh (Zzn ?_)
 have ho:=name_case 17 (by decide) (by decide) h31
 exact ⟨(),trivial,by subst ho;rfl,Lh⟩
 refine Zh (Zi (oSEq J J (Zp J (Zn (Za (wC (fun h33=>?_) (fun h33=>?_)))))))
 refine Zh (Zzn ?_)
 have ho:=name_case 18 (by decide) (by decide) h33
 exact ⟨(),trivial,by subst ho;rfl,Lh⟩
 refine Zh (Zi (oSEq J J (Zp J (Zn (Za (wC (fun h35=>?_) (fun h35=>?_)))))))
 refine Zh (Zzn ?_)
 have ho:=name_case 19 (by decide) (by decide) h35
 exact ⟨(),trivial,by subst ho;rfl,Lh⟩
 refine Zh (Zi (oSEq J J (Zp J (Zn (Za (wC (fun h37=>?_) (fun h37=>?_)))))))
 refine Zh (Zzn ?_)
 have ho:=name_case 20 (by decide) (by decide) h37
 exact ⟨(),trivial,by subst ho;rfl,Lh⟩
 refine Zh (Zi (oSEq J J (Zp J (Zn (Za (wC (fun h39=>?_) (fun h39=>?_)))))))
 refine Zh (Zzn ?_)
 have ho:=name_case 22 (by decide) (by decide) h39
 exact ⟨(),trivial,by subst ho;rfl,Lh⟩
 refine Zh (Zi (oSEq J J (Zp J (Zn (Za (wC (fun h41=>?_) (fun h41=>?_)))))))
 refine Zh (Zzn ?_)
 have ho:=name_case 23 (by decide) (by decide) h41
 exact ⟨(),trivial,by subst ho;rfl,Lh⟩
 refine Zh (Zzn ?_)
 have n1:=name_not 0 (by decide) rfl h11
 have n2:=name_not 1 (by decide) rfl h13
 have n3:=name_not 14 (by decide) rfl h15
 have n4:=name_not 10 (by decide) rfl h18
 have n5:=name_not 11 (by decide) rfl h20
 have n6:=name_not 12 (by decide) rfl h22
 have n7:=name_not 21 (by decide) rfl h24
 have n8:=name_not 15 (by decide) rfl h27
 have n9:=name_not 16 (by decide) rfl h29
 have n10:=name_not 17 (by decide) rfl h31
 have n11:=name_not 18 (by decide) rfl h33
 have n12:=name_not 19 (by decide) rfl h35
 have n13:=name_not 20 (by decide) rfl h37
 have n14:=name_not 22 (by decide) rfl h39
 have n16:=name_not 23 (by decide) rfl h41
 exact ⟨(),trivial,by rw [shapeF_out ZO];rfl,Lh⟩
 refine Zr J J J J (Zr J J J J (Zu J J (Zn (Za (wCondF J (Zj (Zzm ?_)))))))
 (refine ZC0 rfl ZK (fun w hS=>frame hS ZQ (fun B' hB hS'=>ref7_Name hS' o)) ?_;rintro ⟨⟩ -)
 refine Zn (Za (Zk (Zh (Zi (oSEq J J (Zp J (Zn (Za (wC (fun h11=>?_) (fun h11=>?_))))))))))
 refine Zh (Zzn ?_)
 have ho:=name_case 0 (by decide) (by decide) h11
 exact ⟨(),trivial,by subst ho;rfl,Lh⟩
 refine Zh (Zi (oSEq J J (Zp J (Zn (Za (wC (fun h13=>?_) (fun h13=>?_)))))))
 refine Zh (Zzn ?_)
 have ho:=name_case 1 (by decide) (by decide) h13
 exact ⟨(),trivial,by subst ho;rfl,Lh⟩
 refine Zh (Zh (Zi (oSEq J J (Zp J (Zn (Za (wC (fun h15=>?_) (fun h15=>?_))))))))
 refine Zj (Za (ZY h15 ?_))
 refine Zh (Zzn ?_)
 have ho:o=3∨o=15:=by first | exact .inl (name_case 2 (by decide) (by decide) h15) | exact .inr (name_case 14 (by decide) (by decide) h15)
 exact ⟨(),trivial,by rcases ho with rfl | rfl <;> rfl,Lh⟩
 refine Zi (oSEq J J ?_)
 have n15:=name_not 2 (by decide) rfl h15
 refine Zp J (Zn (Za (wC (fun h15=>?_) (fun h15=>?_))))
 refine Zh (Zzn ?_)
 have ho:o=3∨o=15:=by first | exact .inl (name_case 2 (by decide) (by decide) h15) | exact .inr (name_case 14 (by decide) (by decide) h15)
 exact ⟨(),trivial,by rcases ho with rfl | rfl <;> rfl,Lh⟩
 refine Zh (Zi (oSEq J J (Zp J (Zn (Za (wC (fun h18=>?_) (fun h18=>?_)))))))
 refine Zh (Zzn ?_)
 have ho:=name_case 10 (by decide) (by decide) h18
 exact ⟨(),trivial,by subst ho;rfl,Lh⟩
 refine Zh (Zi (oSEq J J (Zp J (Zn (Za (wC (fun h20=>?_) (fun h20=>?_)))))))
 refine Zh (Zzn ?_)
 have ho:=name_case 11 (by decide) (by decide) h20
 exact ⟨(),trivial,by subst ho;rfl,Lh⟩
 refine Zh (Zi (oSEq J J (Zp J (Zn (Za (wC (fun h22=>?_) (fun h22=>?_)))))))
 refine Zh (Zzn ?_)
 have ho:=name_case 12 (by decide) (by decide) h22
 exact ⟨(),trivial,by subst ho;rfl,Lh⟩
 refine Zh (Zh (Zi (oSEq J J (Zp J (Zn (Za (wC (fun h24=>?_) (fun h24=>?_))))))))
 refine Zj (Za (ZY h24 ?_))
 refine Zh (Zzn ?_)
 have ho:o=14∨o=22:=by first | exact .inl (name_case 13 (by decide) (by decide) h24) | exact .inr (name_case 21 (by decide) (by decide) h24)
 exact ⟨(),trivial,by rcases ho with rfl | rfl <;> rfl,Lh⟩
 refine Zi (oSEq J J ?_)
 have n24:=name_not 13 (by decide) rfl h24
 refine Zp J (Zn (Za (wC (fun h24=>?_) (fun h24=>?_))))
 refine Zh (Zzn ?_)
 have ho:o=14∨o=22:=by first | exact .inl (name_case 13 (by decide) (by decide) h24) | exact .inr (name_case 21 (by decide) (by decide) h24)
 exact ⟨(),trivial,by rcases ho with rfl | rfl <;> rfl,Lh⟩
 refine Zh (Zi (oSEq J J (Zp J (Zn (Za (wC (fun h27=>?_) (fun h27=>?_)))))))
 refine Zh (Zzn ?_)
 have ho:=name_case 15 (by decide) (by decide) h27
 exact ⟨(),trivial,by subst ho;rfl,Lh⟩
 refine Zh (Zi (oSEq J J (Zp J (Zn (Za (wC (fun h29=>?_) (fun h29=>?_)))))))
 refine Zh (Zzn ?_)
 have ho:=name_case 16 (by decide) (by decide) h29
 exact ⟨(),trivial,by subst ho;rfl,Lh⟩
 refine Zh (Zi (oSEq J J (Zp J (Zn (Za (wC (fun h31=>?_) (fun h31=>?_)))))))
 refine Zh (Zzn ?_)
 have ho:=name_case 17 (by decide) (by decide) h31
 exact ⟨(),trivial,by subst ho;rfl,Lh⟩
 refine Zh (Zi (oSEq J J (Zp J (Zn (Za (wC (fun h33=>?_) (fun h33=>?_)))))))
 refine Zh (Zzn ?_)
 have ho:=name_case 18 (by decide) (by decide) h33
 exact ⟨(),trivial,by subst ho;rfl,Lh⟩
 refine Zh (Zi (oSEq J J (Zp J (Zn (Za (wC (fun h35=>?_) (fun h35=>?_)))))))
 refine Zh (Zzn ?_)
 have ho:=name_case 19 (by decide) (by decide) h35
 exact ⟨(),trivial,by subst ho;rfl,Lh⟩
 refine Zh (Zi (oSEq J J (Zp J (Zn (Za (wC (fun h37=>?_) (fun h37=>?_)))))))
 refine Zh (Zzn ?_)
 have ho:=name_case 20 (by decide) (by decide) h37
 exact ⟨(),trivial,by subst ho;rfl,Lh⟩
 refine Zh (Zi (oSEq J J (Zp J (Zn (Za (wC (fun h39=>?_) (fun h39=>?_)))))))
 refine Zh (Zzn ?_)
 have ho:=name_case 22 (by decide) (by decide) h39
 exact ⟨(),trivial,by subst ho;rfl,Lh⟩
 refine Zh (Zi (oSEq J J (Zp J (Zn (Za (wC (fun h41=>?_) (fun h41=>?_)))))))
 refine Zh (Zzn ?_)
 have ho:=name_case 23 (by decide) (by decide) h41
 exact ⟨(),trivial,by subst ho;rfl,Lh⟩
 refine Zh (Zzn ?_)
 have n1:=name_not 0 (by decide) rfl h11
 have n2:=name_not 1 (by decide) rfl h13
 have n3:=name_not 14 (by decide) rfl h15
 have n4:=name_not 10 (by decide) rfl h18
 have n5:=name_not 11 (by decide) rfl h20
 have n6:=name_not 12 (by decide) rfl h22
 have n7:=name_not 21 (by decide) rfl h24
 have n8:=name_not 15 (by decide) rfl h27
 have n9:=name_not 16 (by decide) rfl h29
 have n10:=name_not 17 (by decide) rfl h31
 have n11:=name_not 18 (by decide) rfl h33
 have n12:=name_not 19 (by decide) rfl h35
 have n13:=name_not 20 (by decide) rfl h37
 have n14:=name_not 22 (by decide) rfl h39
 have n16:=name_not 23 (by decide) rfl h41
 exact ⟨(),trivial,by rw [shapeF_out ZO];rfl,Lh⟩
theorem opd_at (x:ApiInstr) {i:Nat}(h:i<4):opdF x (i:Int)=(numsL x).getD (1+i) 0:=by
 unfold opdF
 rw [if_neg ZO,Int.toNat_natCast]
theorem ref8_Operand {B:Base}{w:World}(hS:St B [] w) (x:ApiInstr) (xc:List Value) (hx:kApiInstr.K B.e x xc) (i:Int) :
 CW 152 #[.agg xc.toArray,.int .i64 i] w (Ret B (fun _:Unit=>True) (fun _=>.int .i64 (opdF x i)) (fun _=>[])):=by
 obtain rfl:=kApiInstr_open hx
 refine ZX Tryz.func152 hS ?_
 refine Zh (Zi (oBox J ZP (fun b2=>?_)))
 refine Zp J (Zn (Za (Zh (Zi (Zo J (Zn (Za (Zk (Zh (Zi (Zy J J (Zp J (Zn (Za (wC (fun h6=>?_) (fun h6=>?_))))))))))))))))
 refine Zh (Zi (Zz (n:=1) (m:=1) J J J (Zld ?_)))
 refine Zp J (Zzd ?_)
 exact ⟨(),trivial,by subst h6;rfl,Lh⟩
 refine Zh (Zi (Zy J J (Zp J (Zn (Za (wC (fun h10=>?_) (fun h10=>?_)))))))
 refine Zh (Zi (Zz (n:=2) (m:=2) J J J (Zld ?_)))
 refine Zp J (Zzd ?_)
 exact ⟨(),trivial,by subst h10;rfl,Lh⟩
 refine Zh (Zi (Zy J J (Zp J (Zn (Za (wC (fun h14=>?_) (fun h14=>?_)))))))
 refine Zh (Zi (Zz (n:=3) (m:=3) J J J (Zld ?_)))
 refine Zp J (Zzd ?_)
 exact ⟨(),trivial,by subst h14;rfl,Lh⟩
 refine Zh (Zi (Zy J J (Zp J (Zn (Za (wC (fun h18=>?_) (fun h18=>?_)))))))
 refine Zh (Zi (Zz (n:=4) (m:=4) J J J (Zld ?_)))
 refine Zp J (Zzd ?_)
 exact ⟨(),trivial,by subst h18;rfl,Lh⟩
 refine Zh (Zzn ?_)
 exact ⟨(),trivial,by unfold opdF;rw [if_pos ZO];rfl,Lh⟩
theorem ref8_Check {B:Base}{w:World}(hS:St B [] w) (x:ApiInstr) (xc:List Value) (hx:kApiInstr.K B.e x xc) :
 CW 174 #[.agg xc.toArray] w (Ret B (fun _:Unit=>True) (fun _=>.int .i64 (icF x)) (fun _=>[])):=by
 obtain rfl:=kApiInstr_open hx
 have hsz:=shapeF_size x.fOp
 refine ZX Tryz.func174 hS ?_
 refine Zh (Zi (oBox J ZP (fun b1=>?_)))
 refine Zp J (Zn (Za (Zh (Zh (Zi (Zz (n:=0) (m:=0) J J J (Zld ?_)))))))
 (refine ZC0 rfl ZK (fun w hS=>frame hS ZQ (fun B' hB hS'=>ref7_Name hS' x.fOp)) ?_;rintro ⟨⟩ -)
 refine oSEq J J (Zn (Za (wC (fun h9=>?_) (fun h9=>?_))))
 refine Zh (Zi (Zzc ?_))
 exact ⟨(),trivial,by unfold icF;rw [if_pos (show nameF x.fOp=ByteArray.empty from h9)];rfl,Lh⟩
 have hnm:¬ nameF x.fOp=ByteArray.empty:=h9
 refine Zj (Za (Zh (Zh (Zi (Zp J (Zn (Za (Zk (wLoop (ι:=Nat) (fun i=>[(1,.pointer (some ⟨b1,0,none⟩)),(3,.int .i64 (i:Int))]) (fun i=>[blk b1 67 [.int .i64 x.fOp,.int .i64 x.fA,.int .i64 x.fB,.int .i64 x.fC,.int .i64 x.fN]]) (fun i=>i≤3∧∀ j,j<i→badA x j=false) (fun i=>3-i) 0 ?_ cv (Leads.has ZQ) ?_)))))))))
 exact ⟨Nat.zero_le _,fun j hj=>by omega⟩
 rintro i ⟨hi,hs⟩
 try dsimp only
 refine Zh (Zh (Zi (Zo J (Zx J J (Zn (Za (wC (fun h11=>?_) (fun h11=>?_))))))))
 have hi3:i<3:=by omega
 have hoa:=opd_at x (show i<4 by omega)
 refine Zj (Za (Zh (Zk (Zzs ?_))))
 refine Zo J ?_
 (refine ZC0 rfl ZK (fun w hS=>frame hS ZQ (fun B' hB hS'=>ref8_Operand hS' x _ (kApiInstr_mk _ x) (i:Int))) ?_;rintro ⟨⟩ -)
 rw [hoa]
 refine Zx J J (Zo J (ZS (ZT 18) (fun h18=>?_) (fun h18=>?_)))
 refine Zr J J J J (Zr J J J J (Zr J J J J (Zr J J J J (Zt J J (Zn (Za (wCondT J (Zh (Zi (Zzb ?_))))))))))
 exact ⟨(),trivial,by unfold icF;rw [if_neg hnm,if_pos (any_T hi3 (by unfold badA;exact decide_eq_true (.inl h18)))];rfl,Lh⟩
 refine Zq J J (Zla ?_)
 refine Zq J J (Zo J (Zq J J ?_))
 (refine ZC0 rfl ZK (fun w hS=>frame hS ZQ (fun B' hB hS'=>ref8_Operand hS' x _ (kApiInstr_mk _ x) (i:Int))) ?_;rintro ⟨⟩ -)
 rw [hoa]
 refine Zq J J (Z1 J J (Zu J J (Zn (Za (wC (fun h23=>?_) (fun h23=>?_))))))
 refine Zh (Zi (Zzb ?_))
 exact ⟨(),trivial,by unfold icF;rw [if_neg hnm,if_pos (any_T hi3 (by unfold badA;exact decide_eq_true (.inr h23)))];rfl,Lh⟩
 refine Zj (Zze ?_)
 refine Zp J (Zn (Za ?_))
 exact ⟨rfl,i+1,⟨by omega,fun j hj=>by
 by_cases e:j=i
 · subst e;unfold badA;exact decide_eq_false ZO
 · exact hs j ZO⟩,by omega,cv,Lh⟩
 obtain rfl:i=3:=by omega
 have hA:=any_F hs
 refine Zm (Zb (Zb (Ze (Za (Zh (Zh (Zi (Zz (n:=4) (m:=4) J J J (Zld ?_)))))))))
 refine Zx J J (Zo J (ZS (ZT 27) (fun h27=>?_) (fun h27=>?_)))
 refine Zr J J J J (Zr J J J J (Zr J J J J (Zt J J (Zn (Za (wCondT J (Zh (Zi (Zzc ?_)))))))))
 exact ⟨(),trivial,by unfold icF;rw [if_neg hnm,if_neg (by rw [hA];simp),if_pos (.inl h27)];rfl,Lh⟩
 refine Zq J J (Zz (n:=4) (m:=4) J J J (Zzf ?_))
 refine Zq J J (Z1 J J (Zu J J (Zn (Za (wC (fun h31=>?_) (fun h31=>?_))))))
 refine Zh (Zi (Zzc ?_))
 exact ⟨(),trivial,by unfold icF;rw [if_neg hnm,if_neg (by rw [hA];simp),if_pos (.inr h31)];rfl,Lh⟩
 refine Zj (Za (Zh (Zi (Zz (n:=0) (m:=0) J J J (Zld ?_)))))
 (refine ZC0 rfl ZK (fun w hS=>frame hS ZQ (fun B' hB hS'=>ref7_Shape hS' x.fOp)) ?_;rintro ⟨⟩ -)
 refine Zp J (Zn (Za (Zh (Zh (Zi (Zp J (Zn (Za (Zk (wLoop (ι:=Nat) (fun i=>[(1,.pointer (some ⟨b1,0,none⟩)),(4,.string (shapeF x.fOp)),(5,.int .i64 (i:Int))]) (fun i=>[blk b1 67 [.int .i64 x.fOp,.int .i64 x.fA,.int .i64 x.fB,.int .i64 x.fC,.int .i64 x.fN]]) (fun i=>i≤(shapeF x.fOp).size∧∀ j,j<i→badS x j=false) (fun i=>(shapeF x.fOp).size-i) 0 ?_ cv (Leads.has ZQ) ?_))))))))))
 exact ⟨Nat.zero_le _,fun j hj=>by omega⟩
 rintro i ⟨hi,hs⟩
 try dsimp only
 refine Zh (Zh (Zi (Zo J (Zo J (oLenStr J J (Zx J J (Zn (Za (wC (fun h38=>?_) (fun h38=>?_))))))))))
 have hi4:i<(shapeF x.fOp).size:=by omega
 have hi5:i<4:=by rw [hsz] at hi4;split at hi4 <;> omega
 have hoa:=opd_at x hi5
 refine Zj (Za (Zh (Zk (Zh (Zi (Zo J (Zo J (oIndexStr J J J hi4 (Zy J J (Zo J (ZS (ZT 45) (fun h45=>?_) (fun h45=>?_))))))))))))
 refine Zq J J (Zla ?_)
 refine Zq J J (Zo J (Zq J J ?_))
 (refine ZC0 rfl ZK (fun w hS=>frame hS ZQ (fun B' hB hS'=>ref8_Operand hS' x _ (kApiInstr_mk _ x) (i:Int))) ?_;rintro ⟨⟩ -)
 rw [hoa]
 refine Zq J J (Z0 J J (Zt J J (Zn (Za (wC (fun h50=>?_) (fun h50=>?_))))))
 refine Zh (Zi (Zzb ?_))
 exact ⟨(),trivial,by unfold icF;rw [if_neg hnm,if_neg (by rw [hA];simp),if_neg ZO,if_pos (any_T hi4 (by unfold badS;simp_all))];rfl,Lh⟩
 refine Zj (Zze ?_)
 refine Zp J (Zn (Za ?_))
 exact ⟨rfl,i+1,⟨by omega,fun j hj=>by
 by_cases e:j=i
 · subst e;unfold badS;simp_all
 · exact hs j ZO⟩,by omega,cv,Lh⟩
 refine Zr J J J J (Zr J J J J (Zr J J J J (Zr J J J J (Zu J J (Zn (Za (wCondF J (Zj (Zze ?_)))))))))
 refine Zp J (Zn (Za ?_))
 exact ⟨rfl,i+1,⟨by omega,fun j hj=>by
 by_cases e:j=i
 · subst e;unfold badS;simp_all
 · exact hs j ZO⟩,by omega,cv,Lh⟩
 refine Zm (Zzg ?_)
 obtain rfl:i=(shapeF x.fOp).size:=by omega
 exact ⟨(),trivial,by unfold icF;rw [if_neg hnm,if_neg (by rw [hA];simp),if_neg ZO,if_neg (by rw [any_F hs];simp)];rfl,Lh⟩
def rnext (x:ApiInstr) (i:Int):List Int:=if x.fOp=11 then [x.fN] else if endsF x.fOp then [] else if x.fOp≠12∨x.fN=i+1 then [i+1] else if x.fN<i+1 then [x.fN,i+1] else [i+1,x.fN]
theorem rnext_any (x:ApiInstr) (i:Int) (p:Int→Bool):(rnext x i).any p=(nextR x i).any p:=by
  unfold rnext nextR
  by_cases h11:x.fOp=11
  · rw [if_pos h11,if_neg ZO,if_pos h11]
  · rw [if_neg h11]
    by_cases h12:x.fOp=12
    · rw [if_pos h12,if_neg (by unfold endsF;rw [h12];decide)]
      split
      · next h => rcases h with h | h
                  · exact absurd h12 h
                  · rw [h];simp
      · split
        · simp [Bool.or_comm]
        · simp
    · rw [if_neg h12,if_neg h11]
      by_cases he:endsF x.fOp=true
      · rw [if_pos he,if_pos he]
      · rw [if_neg he,if_neg he,if_pos (.inl h12)]
theorem rnext_len (x:ApiInstr) (i:Int):(rnext x i).length≤2:=by
 unfold rnext
 repeat' split
 all_goals simp
theorem ref14_Next {B:Base}{w:World}(hS:St B [] w) (A:Option Addr) (cp:Nat) (code:List ApiInstr) (hC:kApiInstr.C B.e A code) (k:Nat) (x:ApiInstr) (hx:code[k]?=some x) (W0:World) :
 CW 153 #[.slice A code.length cp,.int .i64 (k:Int)] w (Ret B (fun _:Option Addr×Nat=>True) (fun z=>.slice z.1 (rnext x k).length z.2) (fun z=>[row (Kd.int .i64) W0 3 (.slice z.1 (rnext x k).length z.2) (rnext x k)])):=by
 have hl:=hC.1
 have hkl:=(List.getElem?_eq_some_iff.1 hx).1
 obtain ⟨e1,cs1,hE⟩:=hC.elm hx
 obtain rfl:=kApiInstr_open hE.K
 refine ZX Tryz.func153 hS ?_
 refine Zh (Zi (Zp J (Zn (Za (Zh (Zh (Zi (Zo J (Zx J J (Zo J (ZS (ZT 9) (fun h9=>?_) (fun h9=>?_))))))))))))
 omega
 refine Zq J J (Zo J (Zq J J (Zo J (Zq J J (Zv J J (Zq J J (Z2 J J (Zu J J (Zn (Za (wC (fun h14=>?_) (fun h14=>?_))))))))))))
 omega
 refine Zj (Za (Zh (Zi (Zo J (Zo J (oIdxE J J (hE) ZO J J ?_))))))
 have hc17:=(hE).cell
 refine Zlx hc17 ?_
 refine oAlloc J ZP (fun b5=>?_)
 refine Zsa ?_
 refine Zn (Za (Zh (Zi (Zz (n:=4) (m:=4) J J J (Zld ?_)))))
 refine Zp J (Zn (Za (Zh (Zh (Zi (Zz (n:=0) (m:=0) J J J (Zld ?_)))))))
 refine Zy J J (Zn (Za (wC (fun h23=>?_) (fun h23=>?_))))
 refine Zh (Zi (Zo J (oBuildSlice1 J J J J J ZP J (fun b25=>?_))))
 refine Zp J (Zzt ?_)
 rw [show rnext x (k:Int)=[x.fN] from if_pos h23]
 exact ⟨(some ⟨b25,0,none⟩,1),trivial,rfl,Leads.trans (blk_row (enc:=Value.int .i64) (h1:=fun _=>rfl) (W:=W0) (xs:=[x.fN]) (n:=1) ZP rfl rfl (by decide)) Lh⟩
 refine Zj (Za (Zh (Zh (Zi (Zz (n:=0) (m:=0) J J J (Zld ?_))))))
 (refine ZC0 rfl ZK (fun w hS=>frame hS ZQ (fun B' hB hS'=>ref7_Ends hS' x.fOp)) ?_;rintro ⟨⟩ -)
 refine Zn (Za (wC (fun h28=>?_) (fun h28=>?_)))
 have he:endsF x.fOp=true:=by first | exact h28 | exact decide_eq_true h28
 refine Zh (Zi (Zzc ?_))
 rw [show rnext x (k:Int)=[] by unfold rnext;rw [if_neg h23,if_pos he]]
 exact ⟨(none,0),trivial,rfl,Leads.nilrow.trans Lh⟩
 have he:¬ endsF x.fOp=true:=by first | (rw [h28];simp;done) | (unfold endsF;rw [decide_eq_true_eq];exact h28)
 refine Zj (Za (Zh (Zh (Zi (Zz (n:=0) (m:=0) J J J (Zld ?_))))))
 refine Z0 J J (Zo J (ZS (ZT 32) (fun h32=>?_) (fun h32=>?_)))
 refine Zr J J J J (Zr J J J J (Zr J J J J (Zr J J J J (Zt J J (Zn (Za (wCondT J (Zh (Zi (Zo J (oAdd J J ZO ?_)))))))))))
 refine oBuildSlice1 J J J J J ZP J (fun b40=>?_)
 refine Zp J (Zzt ?_)
 rw [show rnext x (k:Int)=[(k:Int)+1] by unfold rnext;rw [if_neg h23,if_neg he,if_pos ZO]]
 exact ⟨(some ⟨b40,0,none⟩,1),trivial,rfl,Leads.trans (blk_row (enc:=Value.int .i64) (h1:=fun _=>rfl) (W:=W0) (xs:=[(k:Int)+1]) (n:=1) ZP rfl rfl (by decide)) Lh⟩
 refine Zq J J (Zo J (Zq J J (Zo J (Zq J J (oAdd J J ZO ?_)))))
 refine Zq J J (Zy J J (Zu J J (Zn (Za (wC (fun h37=>?_) (fun h37=>?_))))))
 refine Zh (Zi (Zo J (oAdd J J ZO ?_)))
 refine oBuildSlice1 J J J J J ZP J (fun b40=>?_)
 refine Zp J (Zzt ?_)
 rw [show rnext x (k:Int)=[(k:Int)+1] by unfold rnext;rw [if_neg h23,if_neg he,if_pos ZO]]
 exact ⟨(some ⟨b40,0,none⟩,1),trivial,rfl,Leads.trans (blk_row (enc:=Value.int .i64) (h1:=fun _=>rfl) (W:=W0) (xs:=[(k:Int)+1]) (n:=1) ZP rfl rfl (by decide)) Lh⟩
 refine Zj (Za (Zh (Zh (Zi (Zo J (Zo J (oAdd J J ZO ?_)))))))
 refine Zx J J (Zn (Za (wC (fun h44=>?_) (fun h44=>?_))))
 refine Zh (Zi (Zo J (Zo J (oAdd J J ZO ?_))))
 refine oBuildSliceF (Parts.cons J (Parts.cons J Parts.nil)) J J J J J (Fulls.cons ZP J (Fulls.cons ZP J Fulls.nil ap) ap) (fun b48=>?_)
 refine Zp J (Zzt ?_)
 rw [show rnext x (k:Int)=[x.fN,(k:Int)+1] by unfold rnext;rw [if_neg h23,if_neg he,if_neg ZO,if_pos h44]]
 exact ⟨(some ⟨b48,0,none⟩,2),trivial,rfl,Leads.trans (blk_row (enc:=Value.int .i64) (h1:=fun _=>rfl) (W:=W0) (xs:=[x.fN,(k:Int)+1]) (n:=2) ZP rfl rfl (by decide)) Lh⟩
 refine Zj (Za (Zh (Zi (Zo J (oAdd J J ZO ?_)))))
 refine Zo J ?_
 refine oBuildSliceF (Parts.cons J (Parts.cons J Parts.nil)) J J J J J (Fulls.cons ZP J (Fulls.cons ZP J Fulls.nil ap) ap) (fun b52=>?_)
 refine Zp J (Zzk ?_)
 rw [show rnext x (k:Int)=[(k:Int)+1,x.fN] by unfold rnext;rw [if_neg h23,if_neg he,if_neg ZO,if_neg h44]]
 exact ⟨(some ⟨b52,0,none⟩,2),trivial,rfl,Leads.trans (blk_row (enc:=Value.int .i64) (h1:=fun _=>rfl) (W:=W0) (xs:=[(k:Int)+1,x.fN]) (n:=2) ZP rfl rfl (by decide)) Lh⟩
theorem ref14_Check {B:Base}{w:World}(hS:St B [] w) (A:Option Addr) (cp:Nat) (code:List ApiInstr) (hC:kApiInstr.C B.e A code) :
 CW 173 #[.slice A code.length cp] w (Ret B (fun _:Unit=>True) (fun _=>.int .i64 (flowF code)) (fun _=>[])):=by
 refine ZX Tryz.func173 hS ?_
 refine Zh (Zi (Zp J (Zn (Za (Zh (Zh (Zi (Zo J (Zv J J (Zy J J (Zn (Za (wC (fun h8=>?_) (fun h8=>?_))))))))))))))
 refine Zh (Zi (Zzc ?_))
 exact ⟨(),trivial,by rw [flowF_eq,if_pos ZO];rfl,Lh⟩
 refine Zj (Za (Zh (Zh (Zi (Zo J (Zv J J (Z1 J J (Zn (Za (wC (fun h11=>?_) (fun h11=>?_)))))))))))
 refine Zh (Zi (Zzc ?_))
 exact ⟨(),trivial,by rw [flowF_eq,if_neg ZO,if_pos ZO];rfl,Lh⟩
 have hc0:¬ code.length=0:=by omega
 have hc1:¬ 64<code.length:=by omega
 refine Zj (Za (Zh (Zh (Zi (Zp J (Zn (Za (Zk (wLoop (ι:=Nat) (fun i=>[(0,.slice A code.length cp),(3,.int .i64 (i:Int))]) (fun i=>[]) (fun i=>i≤code.length∧∀ j,j<i→(nextR (code.getD j default) (j:Int)).any (outF code.length)=false) (fun i=>code.length-i) 0 ?_ cv (Leads.has ZQ) ?_)))))))))
 exact ⟨Nat.zero_le _,fun j hj=>by omega⟩
 rintro i ⟨hi,hs⟩
 try dsimp only
 refine Zh (Zh (Zi (Zo J (Zo J (Zv J J (Zx J J (Zn (Za (wC (fun h15=>?_) (fun h15=>?_))))))))))
 obtain ⟨x,hx⟩:∃ x,code[i]?=some x:=⟨_,List.getElem?_eq_getElem ZO⟩
 have hrl:=rnext_len x (i:Int)
 refine Zj (Za (Zh (Zk (Zh (Zi (Zo J (Zo J ?_)))))))
 (refine ZC0 rfl ZK (fun w hS=>frame hS ZQ (fun B' hB hS'=>ref14_Next hS' A cp code (Kd.C_grow hB hC) i x hx B.e)) ?_;rintro ⟨A20,c20⟩ -)
 refine Zp J (Zn (Za (Zh (Zi (Zp J (Zn (Za (Zk (wLoop (ι:=Nat) (fun k=>[(0,.slice A code.length cp),(3,.int .i64 (i:Int)),(4,.slice A20 (rnext x i).length c20),(5,.int .i64 (k:Int))]) (fun k=>[row (Kd.int .i64) B.e 3 (.slice A20 (rnext x i).length c20) (rnext x i)]) (fun k=>k≤(rnext x i).length∧∀ y ∈ (rnext x i).take k,outF code.length y=false) (fun k=>(rnext x i).length-k) 0 ?_ cv (Leads.has ZQ) ?_)))))))))
 exact ⟨Nat.zero_le _,by simp⟩
 rintro k ⟨hk,hs2⟩
 try dsimp only
 refine Zh (Zh (Zi (Zo J (Zo J (Zv J J (Zx J J (Zn (Za (wC (fun h24=>?_) (fun h24=>?_))))))))))
 refine Zj (Za (Zh (Zk (Zh (Zi (Zo J (Zo J (ZR J J ZP ZO J J (fun g29 hg29=>?_)))))))))
 first | subst hg29 | (injection hg29 with hg29;injection hg29 with hg29;subst hg29)
 refine ZR1 J ZP ZO J (fun u30 hu30=>?_)
 refine Zx J J (Zo J (ZS (ZT 32) (fun h32=>?_) (fun h32=>?_)))
 refine Zr J J J J (Zr J J J J (Zr J J J J (Zr J J J J (Zr J J J J (Zr J J J J (Zr J J J J (Zt J J (Zn (Za (wCondT J (Zh (Zi (Zp J (Zn (Za (Zl (Zf (Zc (Zc (Zf (Zf (Zc (Zc (Zf (Zc (Zw (fi1 J ?_)))))))))))))))))))))))))))
 have hT:(nextR (code.getD i default) (i:Int)).any (outF code.length)=true:=by
  rw [getDat hx,← rnext_any]
  exact List.any_eq_true.2 ⟨u30,List.mem_of_getElem? hu30,decide_eq_true ZO⟩
 exact ⟨(),trivial,by rw [flowF_eq,if_neg hc0,if_neg hc1,if_pos (any_T (show i<code.length by omega) hT)];rfl,Lh⟩
 refine Zq J J (Zo J (Zq J J (Zo J (Zq J J (ZR J J ZP ZO J J (fun g35 hg35=>?_))))))
 first | subst hg35 | (injection hg35 with hg35;injection hg35 with hg35;subst hg35)
 refine Zq J J (ZR1 J ZP ZO J (fun u36 hu36=>?_))
 obtain rfl:=Option.some.inj (hu30.symm.trans hu36)
 refine Zq J J (Zo J (Zq J J (Zv J J (Zq J J (Z2 J J (Zu J J (Zn (Za (wC (fun h40=>?_) (fun h40=>?_))))))))))
 refine Zh (Zi (Zp J (Zn (Za (Zl (Zf (Zc (Zc (Zf (Zf (Zc (Zc (Zf (Zc (Zw (fi1 J ?_))))))))))))))))
 have hT:(nextR (code.getD i default) (i:Int)).any (outF code.length)=true:=by
  rw [getDat hx,← rnext_any]
  exact List.any_eq_true.2 ⟨u30,List.mem_of_getElem? hu30,decide_eq_true ZO⟩
 exact ⟨(),trivial,by rw [flowF_eq,if_neg hc0,if_neg hc1,if_pos (any_T (show i<code.length by omega) hT)];rfl,Lh⟩
 refine Zj (Zze ?_)
 refine Zp J (Zn (Za ?_))
 exact ⟨rfl,k+1,⟨by omega,take_not hs2 hu30 (decide_eq_false ZO)⟩,by omega,cv,Lh⟩
 obtain rfl:k=(rnext x i).length:=by omega
 rw [List.take_length] at hs2
 have hany:(rnext x (i:Int)).any (outF code.length)=false:=by
  rw [Bool.eq_false_iff]
  intro h
  obtain ⟨y,hy,hp⟩:=List.any_eq_true.1 h
  rw [hs2 y hy] at hp;cases hp
 refine Zm (Zb (Zb (Ze (Zze ?_))))
 refine Zp J (Zn (Za ?_))
 exact ⟨rfl,i+1,⟨by omega,fun j hj=>by
 by_cases e:j=i
 · subst e;rw [getDat hx,← rnext_any];exact hany
 · exact hs j ZO⟩,by omega,cv,Lh⟩
 refine Zm (Zzg ?_)
 obtain rfl:i=code.length:=by omega
 exact ⟨(),trivial,by rw [flowF_eq,if_neg hc0,if_neg hc1,if_neg (by rw [any_F hs];simp)];rfl,Lh⟩
theorem ref16_slots {B:Base}{w:World}(hS:St B [] w) (f:ApiFunc) (fc:List Value) (hf:kApiFunc.K B.e f fc) (hv:∀ y ∈ f.fKinds,in64 y) :
 CW 145 #[.agg fc.toArray] w (Ret B (fun _:Unit=>True) (fun _=>.int .i64 (slotsF f)) (fun _=>[])):=by
 obtain ⟨A0,c0,A1,c1,A2,c2,A3,c3,rfl,l0,g0,l1,g1,l2,g2,l3,g3⟩:=kApiFunc_open hf
 have hp:=parF_in f.fClass
 refine ZX Tryz.func145 hS ?_
 refine Zh (Zi (oBox J ZP (fun b1=>?_)))
 refine Zp J (Zn (Za (Zh (Zh (Zi (Zz (n:=0) (m:=0) J J J (Zld ?_)))))))
 (refine ZC0 rfl ZK (fun w hS=>frame hS ZQ (fun B' hB hS'=>ref5_Is hS' f.fClass)) ?_;rintro ⟨⟩ -)
 refine Zno ?_
 refine Zn (Za (wC (fun h7=>?_) (fun h7=>?_)))
 refine Zh (Zi (Zzc ?_))
 exact ⟨(),trivial,by unfold slotsF;rw [if_neg (by simpa using h7)];rfl,Lh⟩
 have hc:isC f.fClass=true:=by simpa using h7
 refine Zj (Za (Zh (Zh (Zi (Zz (n:=1) (m:=1) J J J (Zld ?_))))))
 refine Zv J J (Z1 J J (Zn (Za (wC (fun h11=>?_) (fun h11=>?_)))))
 refine Zh (Zi (Zzc ?_))
 exact ⟨(),trivial,by unfold slotsF;rw [if_pos hc,if_pos ZO];rfl,Lh⟩
 refine Zj (Za (Zh (Zh (wDrawG J [0,1,2,3,4] [(5,[0,1,2],[])] [6] 24 ZK J J (fun w0=>?_)))))
 refine Zz (n:=1) (m:=1) J J J (Zld ?_)
 refine Zv J J (Zz (n:=0) (m:=0) J J J (Zld ?_))
 refine Z4 (Z5 J ?_)
 (refine ZC0 rfl ZK (fun w hS=>frame hS ZQ (fun B' hB hS'=>ref5_Params hS' f.fClass)) ?_;rintro ⟨⟩ -)
 refine ZG ?_ J (fun w0=>?_)
 refine Z8 J J J J (fun w0=>?_) ?_
 refine Zz (n:=1) (m:=1) J J J ?_
 exact Z9 rfl
 refine Z8 J J J J (fun w0=>?_) ?_
 refine Zld ?_
 exact Z9 rfl
 refine Z8 J J J J (fun w0=>?_) ?_
 refine Zv J J ?_
 exact Z9 rfl
 exact AgainG.nil
 refine Z6 (Zx J J (Zn (Za (wC (fun h18=>?_) (fun h18=>?_)))))
 refine Zh (Zi (Zzc ?_))
 exact ⟨(),trivial,by unfold slotsF;rw [if_pos hc,if_neg ZO,if_pos ZO];rfl,Lh⟩
 have hk1:¬ 16<f.fKinds.length:=by omega
 have hk2:¬ (f.fKinds.length:Int)<parF f.fClass:=by omega
 refine Zj (Za (Zh (Zh (Zi (Zp J (Zn (Za (Zk (wLoop (ι:=Nat) (fun i=>[(1,.pointer (some ⟨b1,0,none⟩)),(3,.int .i64 (i:Int))]) (fun i=>[blk b1 57 [.int .i64 f.fClass,.slice A0 f.fKinds.length c0,.int .i64 f.fPad,.bool f.fNosplit,.int .i64 f.fFrom,.int .i64 f.fTo,.slice A1 f.fLines.length c1,.slice A2 f.fCode.length c2,.slice A3 f.fRelocs.length c3]]) (fun i=>i≤f.fKinds.length∧∀ j,j<i→kindBad (parF f.fClass) j (f.fKinds.getD j 0)=false) (fun i=>f.fKinds.length-i) 0 ?_ cv (Leads.has ZQ) ?_)))))))))
 exact ⟨Nat.zero_le _,fun j hj=>by omega⟩
 rintro i ⟨hi,hs⟩
 try dsimp only
 refine Zh (Zh (Zi (Zo J (Zz (n:=1) (m:=1) J J J (Zld ?_)))))
 refine Zv J J (Zx J J (Zn (Za (wC (fun h23=>?_) (fun h23=>?_)))))
 obtain ⟨x,hx⟩:∃ x,f.fKinds[i]?=some x:=⟨_,List.getElem?_eq_getElem ZO⟩
 obtain ⟨e1,cs1,hE⟩:=g0.elm hx
 obtain rfl:=hE.K
 refine Zj (Za (Zh (Zk (Zh (Zi (Zz (n:=1) (m:=1) J J J (Zld ?_)))))))
 refine Zo J (oIdxE J J (hE) ZO J J ?_)
 have hc29:=(hE).cell
 refine Zlx hc29 ?_
 (refine ZC0 rfl ZK (fun w hS=>frame hS ZQ (fun B' hB hS'=>ref5_Text hS' x (hv x (List.mem_of_getElem? hx)))) ?_;rintro ⟨⟩ -)
 refine oSEq J J (Zo J (ZS (ZT 33) (fun h33=>?_) (fun h33=>?_)))
 have h33:textF x=ByteArray.empty:=h33
 refine Zr J J J J (Zr J J J J (Zr J J J J (Zr J J J J (Zr J J J J (Zr J J J J (Zs J J J (Zs J J J (Zs J J J (Zs J J J (Zs J J J (Zs J J J (Zr J J J J (Zt J J (Zn (Za (wCondT J (Zh (Zi (Zzb ?_)))))))))))))))))))
 exact ⟨(),trivial,by unfold slotsF;rw [if_pos hc,if_neg hk1,if_neg hk2,if_pos (any_T (show i<f.fKinds.length by omega) (by rw [getDat hx];simp_all [kindBad]))];rfl,Lh⟩
 have h33:¬ textF x=ByteArray.empty:=h33
 refine Zq J J (Zo J (Zq J J (Zz (n:=0) (m:=0) J J J (Zzf ?_))))
 refine Zq J J ?_
 (refine ZC0 rfl ZK (fun w hS=>frame hS ZQ (fun B' hB hS'=>ref5_Params hS' f.fClass)) ?_;rintro ⟨⟩ -)
 refine Zq J J (Zx J J (Zq J J (Zo J (ZS (ZT 39) (fun h39=>?_) (fun h39=>?_)))))
 refine Zq J J (Zz (n:=1) (m:=1) J J J (Zzf ?_))
 refine Zq J J (Zo J (Zq J J (oIdxE J J (hE) ZO J J ?_)))
 have hc43:=(hE).cell
 refine Zq J J (Zlx hc43 ?_)
 refine Zq J J (Z0 J J (Zq J J (Zt J J (Zu J J (Zn (Za (wC (fun h47=>?_) (fun h47=>?_))))))))
 refine Zh (Zi (Zzb ?_))
 exact ⟨(),trivial,by unfold slotsF;rw [if_pos hc,if_neg hk1,if_neg hk2,if_pos (any_T (show i<f.fKinds.length by omega) (by rw [getDat hx];simp_all [kindBad]))];rfl,Lh⟩
 refine Zj (Zze ?_)
 refine Zp J (Zn (Za ?_))
 exact ⟨rfl,i+1,⟨by omega,fun j hj=>by
 by_cases e:j=i
 · subst e;rw [getDat hx];simp_all [kindBad] <;> omega
 · exact hs j ZO⟩,by omega,cv,Lh⟩
 refine Zr J J J J (Zr J J J J (Zr J J J J (Zr J J J J (Zr J J J J (Zr J J J J (Zq J J (Zu J J (Zu J J (Zn (Za (wCondF J (Zj (Zze ?_)))))))))))))
 refine Zp J (Zn (Za ?_))
 exact ⟨rfl,i+1,⟨by omega,fun j hj=>by
 by_cases e:j=i
 · subst e;rw [getDat hx];simp_all [kindBad] <;> omega
 · exact hs j ZO⟩,by omega,cv,Lh⟩
 refine Zm (Zzg ?_)
 obtain rfl:i=f.fKinds.length:=by omega
 exact ⟨(),trivial,by unfold slotsF;rw [if_pos hc,if_neg hk1,if_neg hk2,if_neg (by rw [any_F hs];simp)];rfl,Lh⟩
theorem ref16_code {B:Base}{w:World}(hS:St B [] w) (f:ApiFunc) (fc:List Value) (hf:kApiFunc.K B.e f fc) :
 CW 146 #[.agg fc.toArray] w (Ret B (fun _:Unit=>True) (fun _=>.int .i64 (codeF f)) (fun _=>[])):=by
 obtain ⟨A0,c0,A1,c1,A2,c2,A3,c3,rfl,l0,g0,l1,g1,l2,g2,l3,g3⟩:=kApiFunc_open hf
 have hcl:=g2.1
 refine ZX Tryz.func146 hS ?_
 refine Zh (Zi (oBox J ZP (fun b1=>?_)))
 refine Zp J (Zn (Za (Zh (Zh (Zi (Zz (n:=7) (m:=7) J J J (Zld ?_)))))))
 (refine ZC0 rfl ZK (fun w hS=>frame hS ZQ (fun B' hB hS'=>ref14_Check hS' A2 c2 f.fCode (Kd.C_grow hB g2))) ?_;rintro ⟨⟩ -)
 refine Zp J (Zn (Za (Zh (Zi (Zo J (Z0 J J (Zn (Za (wC (fun h10=>?_) (fun h10=>?_))))))))))
 refine Zh (Zi (Zo J (Zzc ?_)))
 exact ⟨(),trivial,by unfold codeF;rw [if_pos h10];rfl,Lh⟩
 refine Zj (Za (Zh (Zh (Zi (Zp J (Zn (Za (Zk (wLoop (ι:=Nat) (fun i=>[(1,.pointer (some ⟨b1,0,none⟩)),(4,.int .i64 (i:Int))]) (fun i=>[blk b1 57 [.int .i64 f.fClass,.slice A0 f.fKinds.length c0,.int .i64 f.fPad,.bool f.fNosplit,.int .i64 f.fFrom,.int .i64 f.fTo,.slice A1 f.fLines.length c1,.slice A2 f.fCode.length c2,.slice A3 f.fRelocs.length c3]]) (fun i=>i≤f.fCode.length∧fstE ((f.fCode.map ceF).take i)=0) (fun i=>f.fCode.length-i) 0 ?_ cv (Leads.has ZQ) ?_)))))))))
 exact ⟨Nat.zero_le _,rfl⟩
 rintro i ⟨hi,hs⟩
 try dsimp only
 refine Zh (Zh (Zi (Zo J (Zz (n:=7) (m:=7) J J J (Zld ?_)))))
 refine Zv J J (Zx J J (Zn (Za (wC (fun h16=>?_) (fun h16=>?_)))))
 obtain ⟨x,hx⟩:∃ x,f.fCode[i]?=some x:=⟨_,List.getElem?_eq_getElem ZO⟩
 have hxe:(f.fCode.map ceF)[i]?=some (ceF x):=by rw [List.getElem?_map,hx];rfl
 obtain ⟨e1,cs1,hE⟩:=g2.elm hx
 obtain rfl:=kApiInstr_open hE.K
 refine Zj (Za (Zh (Zk (Zh (Zh (Zi (Zz (n:=7) (m:=7) J J J (Zld ?_))))))))
 refine Zo J (oIdxE J J (hE) ZO J J ?_)
 have hc22:=(hE).cell
 refine Zlx hc22 ?_
 (refine ZC0 rfl ZK (fun w hS=>frame hS ZQ (fun B' hB hS'=>ref8_Check hS' x _ (kApiInstr_mk _ x))) ?_;rintro ⟨⟩ -)
 refine Zp J (Zn (Za (Zh (Zi (Zo J (Z0 J J (Zn (Za (wC (fun h26=>?_) (fun h26=>?_))))))))))
 refine Zh (Zi (Zo J (Zzj ?_)))
 exact ⟨(),trivial,by unfold codeF;rw [if_neg h10,fstE_stop hs hxe (by unfold ceF;rw [if_pos h26];exact h26)];unfold ceF;rw [if_pos h26];rfl,Lh⟩
 refine Zj (Za (Zh (Zi (Zz (n:=7) (m:=7) J J J (Zld ?_)))))
 refine Zo J (oIdxE J J (hE) ZO J J ?_)
 have hc31:=(hE).cell
 refine ZF (ZT 0) (ZT 0) ?_
 refine Zlx hc31 ?_
 (refine ZC0 rfl ZK (fun w hS=>frame hS ZQ (fun B' hB hS'=>ref7_Own hS' x.fOp)) ?_;rintro ⟨⟩ -)
 refine Zno ?_
 refine Zn (Za (wC (fun h35=>?_) (fun h35=>?_)))
 refine Zh (Zi (Zzb ?_))
 have hce:ceF x=8:=by unfold ceF;rw [if_neg h26,if_neg (by simpa using h35)]
 exact ⟨(),trivial,by unfold codeF;rw [if_neg h10,fstE_stop hs hxe (by rw [hce];decide),hce];rfl,Lh⟩
 refine Zj (Zze ?_)
 refine Zp J (Zn (Za ?_))
 exact ⟨rfl,i+1,⟨by omega,fstE_next hs hxe (by unfold ceF;rw [if_neg h26,if_pos (by simpa using h35)])⟩,by omega,cv,Lh⟩
 refine Zm (Zzg ?_)
 obtain rfl:i=f.fCode.length:=by omega
 rw [← List.length_map (f:=ceF),List.take_length] at hs
 exact ⟨(),trivial,by unfold codeF;rw [if_neg h10,hs];rfl,Lh⟩
theorem risF_iff {n:Int} : ∀ {last:Int}{l:List Int},risF n last l=true↔∀ j,j<l.length→(if j=0 then last else l.getD (j-1) 0)<l.getD j 0∧l.getD j 0<n
 | last,[]=>by simp [risF]
 | last,a :: l=>by
  unfold risF
  have ih:=risF_iff (n:=n) (last:=a) (l:=l)
  constructor
  · intro h
    split at h
    · cases h
    · next k=>
      have h2:=ih.1 h
      intro j hj
      cases j with
      | zero=>rw [if_pos rfl];show last<a∧a<n;omega
      | succ j=>
       have h3:=h2 j (by simpa using hj)
       rw [if_neg ZO]
       cases j with
       | zero=>rw [if_pos rfl] at h3;exact h3
       | succ j=>rw [if_neg ZO] at h3;exact h3
  · intro h
    have h0:=h 0 (by simp)
    rw [if_pos rfl] at h0
    have h0:last<a∧a<n:=h0
    rw [if_neg ZO]
    refine ih.2 (fun j hj=>?_)
    have h3:=h (j+1) (by simpa using hj)
    rw [if_neg ZO] at h3
    cases j with
    | zero=>rw [if_pos rfl];exact h3
    | succ j=>rw [if_neg ZO];exact h3
theorem ris_ge {n:Int}{l:List Int}(h:risF n (-1) l=true):∀ j,j<l.length→0≤l.getD j 0
 | 0,hj=>by have:=(risF_iff.1 h 0 hj).1;rw [if_pos rfl] at this;omega
 | j+1,hj=>by
  have h1:=ris_ge h j ZO
  have:=(risF_iff.1 h (j+1) hj).1
  rw [if_neg ZO] at this
  simp only [Nat.add_sub_cancel] at this
  omega
def atBad (n:Int) (l:List Int) (j:Nat):Prop:=l.getD j 0<0∨n≤l.getD j 0∨(0<j∧l.getD j 0≤l.getD (j-1) 0)
theorem ris_bad {n:Int}{l:List Int}{j:Nat}(hj:j<l.length) (h:atBad n l j):risF n (-1) l=false:=by
 rw [Bool.eq_false_iff]
 intro hr
 have h1:=risF_iff.1 hr j hj
 have h2:=ris_ge hr j hj
 rcases h with h | h | ⟨h,k⟩
 · omega
 · omega
 · rw [if_neg ZO] at h1;omega
theorem ris_good {n:Int}{l:List Int}(h:∀ j,j<l.length→¬ atBad n l j):risF n (-1) l=true:=by
 refine risF_iff.2 (fun j hj=>?_)
 have h1:=h j hj
 unfold atBad at h1
 by_cases k:j=0
 · rw [if_pos k];omega
 · rw [if_neg k];omega
abbrev atsL (f:ApiFunc):List Int:=f.fLines.map (·.fAt)
theorem map_getD {α:Type}{l:List α}{g:α→Int}{j:Nat}{x:α}(h:l[j]?=some x):(l.map g).getD j 0=g x:=by rw [List.getD_eq_getElem?_getD,List.getElem?_map,h];rfl
def lnBad (f:ApiFunc) (j:Nat):Prop:=(j=0∧(atsL f).getD 0 0≠0)∨atBad f.fCode.length (atsL f) j∨(f.fLines.map (·.fLine)).getD j 0<0∨65535<(f.fLines.map (·.fLine)).getD j 0
theorem lines_bad {f:ApiFunc}{j:Nat}(h16:¬ 16<f.fLines.length) (hj:j<f.fLines.length) (h:lnBad f j):linesF f=9:=by
 unfold linesF
 rw [if_neg h16]
 by_cases ha:f.fLines.any lineBad=true
 · rw [if_pos ha]
 · rw [if_neg ha]
   obtain ⟨x,hx⟩:∃ x,f.fLines[j]?=some x:=⟨_,List.getElem?_eq_getElem hj⟩
   rcases h with h | h | h
   · rw [if_pos (.inl h.2)]
   · rw [if_pos (.inr (ris_bad (by rw [List.length_map];exact hj) h))]
   · rw [map_getD hx] at h
     exact absurd (List.any_eq_true.2 ⟨x,List.mem_of_getElem? hx,decide_eq_true h⟩) ha
theorem lines_good {f:ApiFunc}(h16:¬ 16<f.fLines.length) (h:∀ j,j<f.fLines.length→¬ lnBad f j):linesF f=0:=by
 unfold linesF
 rw [if_neg h16,if_neg,if_neg]
 · rintro (k | k)
   · by_cases h0:0<f.fLines.length
     · exact h 0 h0 (.inl ⟨rfl,k⟩)
     · have:f.fLines=[]:=List.eq_nil_of_length_eq_zero ZO
       rw [this] at k;exact k rfl
   · rw [ris_good (fun j hj hb=>h j (by rw [List.length_map] at hj;exact hj) (.inr (.inl hb)))] at k;cases k
 · intro k
   obtain ⟨x,hx,hb⟩:=List.any_eq_true.1 k
   obtain ⟨j,hj⟩:=List.getElem?_of_mem hx
   have:=h j (List.getElem?_eq_some_iff.1 hj).1
   apply this
   refine .inr (.inr ?_)
   rw [map_getD hj]
   exact of_decide_eq_true hb
theorem ln_iff {f:ApiFunc}{i:Nat}{x pv:ApiLine}(hx:f.fLines[i]?=some x) (hp:0<i→f.fLines[i-1]?=some pv):lnBad f i↔(i=0∧x.fAt≠0)∨(x.fAt<0∨(f.fCode.length:Int)≤x.fAt∨(0<i∧x.fAt≤pv.fAt))∨x.fLine<0∨65535<x.fLine:=by
 unfold lnBad atBad
 have h1:(atsL f).getD i 0=x.fAt:=map_getD hx
 have h2:(f.fLines.map (·.fLine)).getD i 0=x.fLine:=map_getD hx
 rw [h1,h2]
 by_cases h0:0<i
 · have h3:(atsL f).getD (i-1) 0=pv.fAt:=map_getD (hp h0)
   have:¬ i=0:=by omega
   rw [h3]
   simp only [this,false_and]
 · obtain rfl:i=0:=by omega
   rw [h1]
   simp
theorem ref16_lines {B:Base}{w:World}(hS:St B [] w) (f:ApiFunc) (fc:List Value) (hf:kApiFunc.K B.e f fc) :
 CW 147 #[.agg fc.toArray] w (Ret B (fun _:Unit=>True) (fun _=>.int .i64 (linesF f)) (fun _=>[])):=by
 obtain ⟨A0,c0,A1,c1,A2,c2,A3,c3,rfl,l0,g0,l1,g1,l2,g2,l3,g3⟩:=kApiFunc_open hf
 have hcl:=g2.1
 refine ZX Tryz.func147 hS ?_
 refine Zh (Zi (oBox J ZP (fun b1=>?_)))
 refine Zp J (Zn (Za (Zh (Zh (Zi (Zz (n:=6) (m:=6) J J J (Zld ?_)))))))
 refine Zv J J (Z1 J J (Zn (Za (wC (fun h8=>?_) (fun h8=>?_)))))
 refine Zh (Zi (Zzc ?_))
 exact ⟨(),trivial,by unfold linesF;rw [if_pos ZO];rfl,Lh⟩
 have hk0:¬ 16<f.fLines.length:=by omega
 refine Zj (Za (Zh (Zh (Zi (Zp J (Zn (Za (Zk (wLoop (ι:=Nat) (fun i=>[(1,.pointer (some ⟨b1,0,none⟩)),(3,.int .i64 (i:Int))]) (fun i=>[blk b1 57 [.int .i64 f.fClass,.slice A0 f.fKinds.length c0,.int .i64 f.fPad,.bool f.fNosplit,.int .i64 f.fFrom,.int .i64 f.fTo,.slice A1 f.fLines.length c1,.slice A2 f.fCode.length c2,.slice A3 f.fRelocs.length c3]]) (fun i=>i≤f.fLines.length∧∀ j,j<i→¬ lnBad f j) (fun i=>f.fLines.length-i) 0 ?_ cv (Leads.has ZQ) ?_)))))))))
 exact ⟨Nat.zero_le _,fun j hj=>by omega⟩
 rintro i ⟨hi,hs⟩
 try dsimp only
 refine Zh (Zh (Zi (Zo J (Zz (n:=6) (m:=6) J J J (Zld ?_)))))
 refine Zv J J (Zx J J (Zn (Za (wC (fun h13=>?_) (fun h13=>?_)))))
 obtain ⟨x,hx⟩:∃ x,f.fLines[i]?=some x:=⟨_,List.getElem?_eq_getElem ZO⟩
 have hil:i<f.fLines.length:=by omega
 obtain ⟨e1,cs1,hE⟩:=g1.elm hx
 obtain rfl:=kApiLine_open hE.K
 obtain ⟨pv,hpv⟩:∃ y:ApiLine,0<i→f.fLines[i-1]?=some y:=by
  by_cases h0:0<i
  · exact ⟨_,fun _=>List.getElem?_eq_getElem (show i-1<f.fLines.length by omega)⟩
  · exact ⟨default,fun h=>absurd h h0⟩
 have hlb:lnBad f i↔(i=0∧x.fAt≠0)∨(x.fAt<0∨(f.fCode.length:Int)≤x.fAt∨(0<i∧x.fAt≤pv.fAt))∨x.fLine<0∨65535<x.fLine:=ln_iff hx hpv
 refine Zj (Za (Zh (Zk (Zh (Zi (Zz (n:=6) (m:=6) J J J (Zld ?_)))))))
 refine Zo J (oIdxE J J (hE) ZO J J ?_)
 have hc19:=(hE).cell
 refine Zlx hc19 ?_
 refine oAlloc J ZP (fun b4=>?_)
 refine Zsa ?_
 refine Zn (Za (Zh (wDraw2 J J [0] [1,2,3,4,5,6,7,8,9,10,11,12,13,14,15,16,17,18,19,20,21,22,23,24,25,26,27,28,29,30,31,32,33,34,35,36,37,38,39,40,41,42,43,44] 45 ZK J J J (fun w0=>?_))))
 refine Zy J J (Zo J (ZS (ZT 23) (fun h23=>?_) (fun h23=>?_)))
 refine Zq J J (Zz (n:=0) (m:=0) J J J (Zzf ?_))
 refine Zq J J (Z0 J J (Zt J J (Zo J (ZS (ZT 28) (fun h28=>?_) (fun h28=>?_)))))
 refine Zr J J J J (Zzw ?_)
 refine Zr J J J J (Zr J J J J (Zt J J (Zo J (Zr J J J J (Zr J J J J (Zr J J J J (oHead (Zt J J (oNilT (Za (wCondT J (Zh (Zi (Zzb ?_))))))))))))))
 exact ⟨(),trivial,by rw [lines_bad hk0 hil (hlb.2 (by simp_all <;> omega))];rfl,Lh⟩
 refine Zq J J (Zz (n:=0) (m:=0) J J J (Zzf ?_))
 refine Zq J J (Zx J J (Zu J J (Zo J (ZS (ZT 33) (fun h33=>?_) (fun h33=>?_)))))
 refine Zr J J J J (Zzl ?_)
 refine Zr J J J J (Zr J J J J (oHead (Zt J J (oNilT (Za (wCondT J (Zh (Zi (Zzb ?_)))))))))
 exact ⟨(),trivial,by rw [lines_bad hk0 hil (hlb.2 (by simp_all <;> omega))];rfl,Lh⟩
 refine Zq J J (Zz (n:=0) (m:=0) J J J (Zzf ?_))
 refine Zq J J (Zz (n:=7) (m:=7) J J J (Zzf ?_))
 refine Zq J J (Zv J J (Zq J J (Z2 J J (Zu J J (Zo J (ZS (ZT 41) (fun h41=>?_) (fun h41=>?_)))))))
 refine Zr J J J J (Zr J J J J (Zr J J J J (Zs J J J (Zs J J J (Zs J J J (Zs J J J (Zs J J J (Zs J J J (Zs J J J (Zs J J J (Zs J J J (Zs J J J (Zr J J J J (Zt J J (Zo J (Zr J J J J (Zr J J J J (Zr J J J J (Zt J J (Zo J (Zr J J J J (Zr J J J J (Zr J J J J (oHead (Zt J J (oNilT (Za (wCondT J (Zh ?_)))))))))))))))))))))))))))))
 refine Zi (Zzb ?_)
 exact ⟨(),trivial,by rw [lines_bad hk0 hil (hlb.2 (by simp_all <;> omega))];rfl,Lh⟩
 refine Zq J J (Zo J (Zq J J (Z1 J J (Zq J J (Zo J (ZS (ZT 44) (fun h44=>?_) (fun h44=>?_)))))))
 have hi0:0<i:=by omega
 obtain ⟨e2,cs2,hE2⟩:=g1.elm (hpv hi0)
 obtain rfl:=kApiLine_open hE2.K
 refine Zq J J (Zz (n:=0) (m:=0) J J J (Zzf ?_))
 refine Zq J J (Zz (n:=6) (m:=6) J J J (Zzf ?_))
 refine Zq J J (Zo J (Zq J J (oSub J J ZO ?_)))
 refine ZS0 (t:=50) (v':=.int .i64 ((i-1:Nat):Int)) J (by congr 1;omega) ?_
 refine Zq J J (oIdxE J J (hE2) ZO J J ?_)
 have hc51:=(hE2).cell
 refine Zq J J (ZF (ZT 0) (ZT 0) ?_)
 refine Zq J J (Zlx hc51 ?_)
 refine Zq J J (oLeq J J (Zq J J (Zt J J (Zu J J (Zo J (ZS (ZT 57) (fun h57=>?_) (fun h57=>?_)))))))
 refine Zr J J J J (Zr J J J J (Zr J J J J (Zt J J (Zo J (Zr J J J J (Zr J J J J (Zr J J J J (oHead (Zt J J (oNilT (Za (wCondT J (Zh (Zi (Zzb ?_)))))))))))))))
 exact ⟨(),trivial,by rw [lines_bad hk0 hil (hlb.2 (by simp_all <;> omega))];rfl,Lh⟩
 refine Zq J J (Zz (n:=1) (m:=1) J J J (Zzf ?_))
 refine Zq J J (Zx J J (Zu J J (Zo J (ZS (ZT 62) (fun h62=>?_) (fun h62=>?_)))))
 refine Zr J J J J (Zr J J J J (Zr J J J J (oHead (Zt J J (oNilT (Za (wCondT J (Zh (Zi (Zzb ?_))))))))))
 exact ⟨(),trivial,by rw [lines_bad hk0 hil (hlb.2 (by simp_all <;> omega))];rfl,Lh⟩
 refine Zq J J (Zz (n:=1) (m:=1) J J J (Zzf ?_))
 refine Zq J J (Z1 J J (oHead (Zu J J (oNilT (Za (wC (fun h66=>?_) (fun h66=>?_)))))))
 refine Zh (Zi (Zzb ?_))
 exact ⟨(),trivial,by rw [lines_bad hk0 hil (hlb.2 (by simp_all <;> omega))];rfl,Lh⟩
 refine Zj (Zze ?_)
 refine Zp J (Zn (Za ?_))
 exact ⟨rfl,i+1,⟨by omega,fun j hj=>by
 by_cases e:j=i
 · subst e;rw [hlb];simp_all <;> omega
 · exact hs j ZO⟩,by omega,cv,Lh⟩
 refine Zr J J J J (Zr J J J J (Zr J J J J (Zr J J J J (Zr J J J J (Zr J J J J (Zr J J J J (Zr J J J J (Zr J J J J (Zr J J J J (Zq J J (Zu J J (Zu J J (Zo J (Zq J J (Zz (n:=1) (m:=1) J J J (Zzf ?_))))))))))))))))
 refine Zq J J (Zx J J (Zu J J (Zo J (ZS (ZT 62) (fun h62=>?_) (fun h62=>?_)))))
 refine Zr J J J J (Zr J J J J (Zr J J J J (oHead (Zt J J (oNilT (Za (wCondT J (Zh (Zi (Zzb ?_))))))))))
 exact ⟨(),trivial,by rw [lines_bad hk0 hil (hlb.2 (by simp_all <;> omega))];rfl,Lh⟩
 refine Zq J J (Zz (n:=1) (m:=1) J J J (Zzf ?_))
 refine Zq J J (Z1 J J (oHead (Zu J J (oNilT (Za (wC (fun h66=>?_) (fun h66=>?_)))))))
 refine Zh (Zi (Zzb ?_))
 exact ⟨(),trivial,by rw [lines_bad hk0 hil (hlb.2 (by simp_all <;> omega))];rfl,Lh⟩
 refine Zj (Zze ?_)
 refine Zp J (Zn (Za ?_))
 exact ⟨rfl,i+1,⟨by omega,fun j hj=>by
 by_cases e:j=i
 · subst e;rw [hlb];simp_all <;> omega
 · exact hs j ZO⟩,by omega,cv,Lh⟩
 refine Zr J J J J (Zr J J J J (Zr J J J J (Zu J J (Zo J (Zq J J (Zz (n:=0) (m:=0) J J J (Zzf ?_)))))))
 refine Zq J J (Zx J J (Zu J J (Zo J (ZS (ZT 33) (fun h33=>?_) (fun h33=>?_)))))
 refine Zr J J J J (Zzl ?_)
 refine Zr J J J J (Zr J J J J (oHead (Zt J J (oNilT (Za (wCondT J (Zh (Zi (Zzb ?_)))))))))
 exact ⟨(),trivial,by rw [lines_bad hk0 hil (hlb.2 (by simp_all <;> omega))];rfl,Lh⟩
 refine Zq J J (Zz (n:=0) (m:=0) J J J (Zzf ?_))
 refine Zq J J (Zz (n:=7) (m:=7) J J J (Zzf ?_))
 refine Zq J J (Zv J J (Zq J J (Z2 J J (Zu J J (Zo J (ZS (ZT 41) (fun h41=>?_) (fun h41=>?_)))))))
 refine Zr J J J J (Zr J J J J (Zr J J J J (Zs J J J (Zs J J J (Zs J J J (Zs J J J (Zs J J J (Zs J J J (Zs J J J (Zs J J J (Zs J J J (Zs J J J (Zr J J J J (Zt J J (Zo J (Zr J J J J (Zr J J J J (Zr J J J J (Zt J J (Zo J (Zr J J J J (Zr J J J J (Zr J J J J (oHead (Zt J J (oNilT (Za (wCondT J (Zh ?_)))))))))))))))))))))))))))))
 refine Zi (Zzb ?_)
 exact ⟨(),trivial,by rw [lines_bad hk0 hil (hlb.2 (by simp_all <;> omega))];rfl,Lh⟩
 refine Zq J J (Zo J (Zq J J (Z1 J J (Zq J J (Zo J (ZS (ZT 44) (fun h44=>?_) (fun h44=>?_)))))))
 have hi0:0<i:=by omega
 obtain ⟨e2,cs2,hE2⟩:=g1.elm (hpv hi0)
 obtain rfl:=kApiLine_open hE2.K
 refine Zq J J (Zz (n:=0) (m:=0) J J J (Zzf ?_))
 refine Zq J J (Zz (n:=6) (m:=6) J J J (Zzf ?_))
 refine Zq J J (Zo J (Zq J J (oSub J J ZO ?_)))
 refine ZS0 (t:=50) (v':=.int .i64 ((i-1:Nat):Int)) J (by congr 1;omega) ?_
 refine Zq J J (oIdxE J J (hE2) ZO J J ?_)
 have hc51:=(hE2).cell
 refine Zq J J (ZF (ZT 0) (ZT 0) ?_)
 refine Zq J J (Zlx hc51 ?_)
 refine Zq J J (oLeq J J (Zq J J (Zt J J (Zu J J (Zo J (ZS (ZT 57) (fun h57=>?_) (fun h57=>?_)))))))
 refine Zr J J J J (Zr J J J J (Zr J J J J (Zt J J (Zo J (Zr J J J J (Zr J J J J (Zr J J J J (oHead (Zt J J (oNilT (Za (wCondT J (Zh (Zi (Zzb ?_)))))))))))))))
 exact ⟨(),trivial,by rw [lines_bad hk0 hil (hlb.2 (by simp_all <;> omega))];rfl,Lh⟩
 refine Zq J J (Zz (n:=1) (m:=1) J J J (Zzf ?_))
 refine Zq J J (Zx J J (Zu J J (Zo J (ZS (ZT 62) (fun h62=>?_) (fun h62=>?_)))))
 refine Zr J J J J (Zr J J J J (Zr J J J J (oHead (Zt J J (oNilT (Za (wCondT J (Zh (Zi (Zzb ?_))))))))))
 exact ⟨(),trivial,by rw [lines_bad hk0 hil (hlb.2 (by simp_all <;> omega))];rfl,Lh⟩
 refine Zq J J (Zz (n:=1) (m:=1) J J J (Zzf ?_))
 refine Zq J J (Z1 J J (oHead (Zu J J (oNilT (Za (wC (fun h66=>?_) (fun h66=>?_)))))))
 refine Zh (Zi (Zzb ?_))
 exact ⟨(),trivial,by rw [lines_bad hk0 hil (hlb.2 (by simp_all <;> omega))];rfl,Lh⟩
 refine Zj (Zze ?_)
 refine Zp J (Zn (Za ?_))
 exact ⟨rfl,i+1,⟨by omega,fun j hj=>by
 by_cases e:j=i
 · subst e;rw [hlb];simp_all <;> omega
 · exact hs j ZO⟩,by omega,cv,Lh⟩
 refine Zr J J J J (Zr J J J J (Zr J J J J (Zr J J J J (Zr J J J J (Zr J J J J (Zr J J J J (Zr J J J J (Zr J J J J (Zr J J J J (Zq J J (Zu J J (Zu J J (Zo J (Zq J J (Zz (n:=1) (m:=1) J J J (Zzf ?_))))))))))))))))
 refine Zq J J (Zx J J (Zu J J (Zo J (ZS (ZT 62) (fun h62=>?_) (fun h62=>?_)))))
 refine Zr J J J J (Zr J J J J (Zr J J J J (oHead (Zt J J (oNilT (Za (wCondT J (Zh (Zi (Zzb ?_))))))))))
 exact ⟨(),trivial,by rw [lines_bad hk0 hil (hlb.2 (by simp_all <;> omega))];rfl,Lh⟩
 refine Zq J J (Zz (n:=1) (m:=1) J J J (Zzf ?_))
 refine Zq J J (Z1 J J (oHead (Zu J J (oNilT (Za (wC (fun h66=>?_) (fun h66=>?_)))))))
 refine Zh (Zi (Zzb ?_))
 exact ⟨(),trivial,by rw [lines_bad hk0 hil (hlb.2 (by simp_all <;> omega))];rfl,Lh⟩
 refine Zj (Zze ?_)
 refine Zp J (Zn (Za ?_))
 exact ⟨rfl,i+1,⟨by omega,fun j hj=>by
 by_cases e:j=i
 · subst e;rw [hlb];simp_all <;> omega
 · exact hs j ZO⟩,by omega,cv,Lh⟩
 refine Zm (Zzg ?_)
 obtain rfl:i=f.fLines.length:=by omega
 exact ⟨(),trivial,by rw [lines_good hk0 hs];rfl,Lh⟩
def rlBad (f:ApiFunc) (j:Nat):Prop:=atBad f.fCode.length (f.fRelocs.map (·.fAt)) j∨(f.fRelocs.map (·.fSym)).getD j 0<0∨32≤(f.fRelocs.map (·.fSym)).getD j 0
theorem relocs_bad {f:ApiFunc}{j:Nat}(hj:j<f.fRelocs.length) (h:rlBad f j):relocsF f=11:=by
 unfold relocsF
 by_cases ha:f.fRelocs.any relBad=true
 · rw [if_pos ha]
 · rw [if_neg ha]
   obtain ⟨x,hx⟩:∃ x,f.fRelocs[j]?=some x:=⟨_,List.getElem?_eq_getElem hj⟩
   rcases h with h | h
   · rw [ris_bad (by rw [List.length_map];exact hj) h];rfl
   · rw [map_getD hx] at h
     exact absurd (List.any_eq_true.2 ⟨x,List.mem_of_getElem? hx,decide_eq_true h⟩) ha
theorem relocs_good {f:ApiFunc}(h:∀ j,j<f.fRelocs.length→¬ rlBad f j):relocsF f=0:=by
 unfold relocsF
 rw [if_neg,ris_good (fun j hj hb=>h j (by rw [List.length_map] at hj;exact hj) (.inl hb)),if_pos rfl]
 intro k
 obtain ⟨x,hx,hb⟩:=List.any_eq_true.1 k
 obtain ⟨j,hj⟩:=List.getElem?_of_mem hx
 refine h j (List.getElem?_eq_some_iff.1 hj).1 (.inr ?_)
 rw [map_getD hj]
 exact of_decide_eq_true hb
theorem rl_iff {f:ApiFunc}{i:Nat}{x pv:ApiReloc}(hx:f.fRelocs[i]?=some x) (hp:0<i→f.fRelocs[i-1]?=some pv):rlBad f i↔(x.fAt<0∨(f.fCode.length:Int)≤x.fAt∨(0<i∧x.fAt≤pv.fAt))∨x.fSym<0∨32≤x.fSym:=by
 unfold rlBad atBad
 have h1:(f.fRelocs.map (·.fAt)).getD i 0=x.fAt:=map_getD hx
 have h2:(f.fRelocs.map (·.fSym)).getD i 0=x.fSym:=map_getD hx
 rw [h1,h2]
 by_cases h0:0<i
 · have h3:(f.fRelocs.map (·.fAt)).getD (i-1) 0=pv.fAt:=map_getD (hp h0)
   rw [h3]
 · obtain rfl:i=0:=by omega
   simp
theorem ref16_Check {B:Base}{w:World}(hS:St B [] w) (f:ApiFunc) (fc:List Value) (hf:kApiFunc.K B.e f fc) (hv:∀ y ∈ f.fKinds,in64 y) :
 CW 107 #[.agg fc.toArray] w (Ret B (fun _:Unit=>True) (fun _=>.int .i64 (funF f)) (fun _=>[])):=by
 obtain ⟨A0,c0,A1,c1,A2,c2,A3,c3,rfl,l0,g0,l1,g1,l2,g2,l3,g3⟩:=kApiFunc_open hf
 have hrl:=g3.1
 refine ZX Tryz.func107 hS ?_
 refine Zh (Zi (oBox J ZP (fun b1=>?_)))
 refine Zp J (Zn (Za (Zh (Zzs ?_))))
 (refine ZC0 rfl ZK (fun w hS=>frame hS ZQ (fun B' hB hS'=>ref16_slots hS' f _ (kApiFunc.K_grow hB hf) hv)) ?_;rintro ⟨⟩ -)
 refine Zp J (Zn (Za (Zh (Zi (Zo J (Z0 J J (Zn (Za (wC (fun h11=>?_) (fun h11=>?_))))))))))
 refine Zh (Zi (Zo J (Zzc ?_)))
 exact ⟨(),trivial,by unfold funF;rw [if_pos h11];rfl,Lh⟩
 refine Zj (Za (Zh (Zh (Zi (Zz (n:=2) (m:=2) J J J (Zld ?_))))))
 refine Zx J J (Zo J (ZS (ZT 16) (fun h16=>?_) (fun h16=>?_)))
 refine Zr J J J J (Zr J J J J (Zr J J J J (Zt J J (Zn (Za (wCondT J (Zh (Zi (Zzc ?_)))))))))
 exact ⟨(),trivial,by unfold funF;rw [if_neg h11,if_pos ZO];rfl,Lh⟩
 refine Zq J J (Zz (n:=2) (m:=2) J J J (Zzf ?_))
 refine Zq J J (Z1 J J (Zu J J (Zn (Za (wC (fun h20=>?_) (fun h20=>?_))))))
 refine Zh (Zi (Zzc ?_))
 exact ⟨(),trivial,by unfold funF;rw [if_neg h11,if_pos ZO];rfl,Lh⟩
 refine Zj (Za (Zh (Zzs ?_)))
 (refine ZC0 rfl ZK (fun w hS=>frame hS ZQ (fun B' hB hS'=>ref16_code hS' f _ (kApiFunc.K_grow hB hf))) ?_;rintro ⟨⟩ -)
 refine Zp J (Zn (Za (Zh (Zi (Zo J (Z0 J J (Zn (Za (wC (fun h24=>?_) (fun h24=>?_))))))))))
 refine Zh (Zi (Zo J (Zzc ?_)))
 exact ⟨(),trivial,by unfold funF;rw [if_neg h11,if_neg ZO,if_pos h24];rfl,Lh⟩
 refine Zj (Za (Zh (Zh (Zi (Zz (n:=4) (m:=4) J J J (Zld ?_))))))
 refine Zx J J (Zo J (ZS (ZT 29) (fun h29=>?_) (fun h29=>?_)))
 refine Zr J J J J (Zr J J J J (Zr J J J J (Zr J J J J (Zr J J J J (Zt J J (Zo J (Zr J J J J (Zr J J J J (Zr J J J J (Zr J J J J (Zr J J J J (Zr J J J J (Zt J J (Zn (Za (wCondT J (Zh (Zi (Zzc ?_)))))))))))))))))))
 exact ⟨(),trivial,by unfold funF;rw [if_neg h11,if_neg ZO,if_neg h24,if_pos ZO];rfl,Lh⟩
 refine Zq J J (Zz (n:=5) (m:=5) J J J (Zzf ?_))
 refine Zq J J (Zz (n:=4) (m:=4) J J J (Zzf ?_))
 refine Zq J J (Zx J J (Zu J J (Zo J (ZS (ZT 36) (fun h36=>?_) (fun h36=>?_)))))
 refine Zr J J J J (Zr J J J J (Zr J J J J (Zr J J J J (Zr J J J J (Zr J J J J (Zt J J (Zn (Za (wCondT J (Zh (Zi (Zzc ?_))))))))))))
 exact ⟨(),trivial,by unfold funF;rw [if_neg h11,if_neg ZO,if_neg h24,if_pos ZO];rfl,Lh⟩
 refine Zq J J (Zz (n:=5) (m:=5) J J J (Zzf ?_))
 refine Zq J J (Zz (n:=7) (m:=7) J J J (Zzf ?_))
 refine Zq J J (Zv J J (Zq J J (Z1 J J (Zu J J (Zn (Za (wC (fun h43=>?_) (fun h43=>?_))))))))
 refine Zh (Zi (Zzc ?_))
 exact ⟨(),trivial,by unfold funF;rw [if_neg h11,if_neg ZO,if_neg h24,if_pos ZO];rfl,Lh⟩
 refine Zj (Za (Zh (Zzs ?_)))
 (refine ZC0 rfl ZK (fun w hS=>frame hS ZQ (fun B' hB hS'=>ref16_lines hS' f _ (kApiFunc.K_grow hB hf))) ?_;rintro ⟨⟩ -)
 refine Zp J (Zn (Za (Zh (Zi (Zo J (Z0 J J (Zn (Za (wC (fun h47=>?_) (fun h47=>?_))))))))))
 refine Zh (Zi (Zo J (Zzc ?_)))
 exact ⟨(),trivial,by unfold funF;rw [if_neg h11,if_neg ZO,if_neg h24,if_neg ZO,if_pos h47];rfl,Lh⟩
 have hfr:funF f=relocsF f:=by unfold funF;rw [if_neg h11,if_neg ZO,if_neg h24,if_neg ZO,if_neg h47]
 refine Zj (Za (Zh (Zh (Zi (Zp J (Zn (Za (Zk (wLoop (ι:=Nat) (fun i=>[(1,.pointer (some ⟨b1,0,none⟩)),(6,.int .i64 (i:Int))]) (fun i=>[blk b1 57 [.int .i64 f.fClass,.slice A0 f.fKinds.length c0,.int .i64 f.fPad,.bool f.fNosplit,.int .i64 f.fFrom,.int .i64 f.fTo,.slice A1 f.fLines.length c1,.slice A2 f.fCode.length c2,.slice A3 f.fRelocs.length c3]]) (fun i=>i≤f.fRelocs.length∧∀ j,j<i→¬ rlBad f j) (fun i=>f.fRelocs.length-i) 0 ?_ cv (Leads.has ZQ) ?_)))))))))
 exact ⟨Nat.zero_le _,fun j hj=>by omega⟩
 rintro i ⟨hi,hs⟩
 try dsimp only
 refine Zh (Zh (Zi (Zo J (Zz (n:=8) (m:=8) J J J (Zld ?_)))))
 refine Zv J J (Zx J J (Zn (Za (wC (fun h53=>?_) (fun h53=>?_)))))
 obtain ⟨x,hx⟩:∃ x,f.fRelocs[i]?=some x:=⟨_,List.getElem?_eq_getElem ZO⟩
 have hil:i<f.fRelocs.length:=by omega
 obtain ⟨e1,cs1,hE⟩:=g3.elm hx
 obtain rfl:=kApiReloc_open hE.K
 obtain ⟨pv,hpv⟩:∃ y:ApiReloc,0<i→f.fRelocs[i-1]?=some y:=by
  by_cases h0:0<i
  · exact ⟨_,fun _=>List.getElem?_eq_getElem (show i-1<f.fRelocs.length by omega)⟩
  · exact ⟨default,fun h=>absurd h h0⟩
 have hlb:rlBad f i↔(x.fAt<0∨(f.fCode.length:Int)≤x.fAt∨(0<i∧x.fAt≤pv.fAt))∨x.fSym<0∨32≤x.fSym:=rl_iff hx hpv
 refine Zj (Za (Zh (Zk (Zh (Zi (Zz (n:=8) (m:=8) J J J (Zld ?_)))))))
 refine Zo J (oIdxE J J (hE) ZO J J ?_)
 have hc59:=(hE).cell
 refine ZF (ZT 0) (ZT 0) ?_
 refine Zlx hc59 ?_
 refine Zp J (Zn (Za (Zh (Zi (Zo J (Zx J J (Zo J (ZS (ZT 64) (fun h64=>?_) (fun h64=>?_)))))))))
 refine Zr J J J J (Zr J J J J (Zr J J J J (Zr J J J J (Zr J J J J (Zt J J (Zo J (Zr J J J J (Zr J J J J (Zr J J J J (Zs J J J (Zs J J J (Zs J J J (Zs J J J (Zs J J J (Zs J J J (Zs J J J (Zs J J J (Zs J J J (Zr J J J J (Zt J J (Zo J (Zr J J J J (Zr J J J J (Zr J J J J (Zr J J J J (Zr J J J J (Zr J J J J (Zr J J J J (Zt J J ?_)))))))))))))))))))))))))))))
 refine Zo J (Zr J J J J (Zr J J J J (Zr J J J J (Zr J J J J (Zr J J J J (Zr J J J J (Zr J J J J (Zt J J (Zn (Za (wCondT J (Zh (Zi (Zzb ?_))))))))))))))
 exact ⟨(),trivial,by rw [hfr,relocs_bad hil (hlb.2 (by simp_all <;> omega))];rfl,Lh⟩
 refine Zq J J (Zo J (Zq J J (Zz (n:=7) (m:=7) J J J (Zzf ?_))))
 refine Zq J J (Zv J J (Zq J J (Z2 J J (Zu J J (Zo J (ZS (ZT 71) (fun h71=>?_) (fun h71=>?_)))))))
 refine Zr J J J J (Zr J J J J (Zr J J J J (Zs J J J (Zs J J J (Zs J J J (Zs J J J (Zs J J J (Zs J J J (Zs J J J (Zs J J J (Zs J J J (Zr J J J J (Zt J J (Zo J (Zr J J J J (Zr J J J J (Zr J J J J (Zr J J J J (Zr J J J J (Zr J J J J (Zr J J J J (Zt J J (Zo J (Zr J J J J (Zr J J J J (Zr J J J J (Zr J J J J (Zr J J J J (Zr J J J J ?_)))))))))))))))))))))))))))))
 refine Zr J J J J (Zt J J (Zn (Za (wCondT J (Zh (Zi (Zzb ?_)))))))
 exact ⟨(),trivial,by rw [hfr,relocs_bad hil (hlb.2 (by simp_all <;> omega))];rfl,Lh⟩
 refine Zq J J (Zo J (Zq J J (Z1 J J (Zq J J (Zo J (ZS (ZT 74) (fun h74=>?_) (fun h74=>?_)))))))
 have hi0:0<i:=by omega
 obtain ⟨e2,cs2,hE2⟩:=g3.elm (hpv hi0)
 obtain rfl:=kApiReloc_open hE2.K
 refine Zq J J (Zo J (Zq J J (Zz (n:=8) (m:=8) J J J (Zzf ?_))))
 refine Zq J J (Zo J (Zq J J (oSub J J ZO ?_)))
 refine ZS0 (t:=79) (v':=.int .i64 ((i-1:Nat):Int)) J (by congr 1;omega) ?_
 refine Zq J J (oIdxE J J (hE2) ZO J J ?_)
 have hc80:=(hE2).cell
 refine Zq J J (ZF (ZT 0) (ZT 0) ?_)
 refine Zq J J (Zlx hc80 ?_)
 refine Zq J J (oLeq J J (Zq J J (Zt J J (Zu J J (Zo J (ZS (ZT 86) (fun h86=>?_) (fun h86=>?_)))))))
 refine Zr J J J J (Zr J J J J (Zr J J J J (Zr J J J J (Zr J J J J (Zr J J J J (Zr J J J J (Zt J J (Zo J (Zr J J J J (Zr J J J J (Zr J J J J (Zr J J J J (Zr J J J J (Zr J J J J (Zr J J J J (Zt J J (Zn (Za (wCondT J (Zh (Zi (Zp J (Zn (Za (Zl (Zf (Zc (Zc (Zf ?_)))))))))))))))))))))))))))))
 refine Zc (Zw (fi1 J ?_))
 exact ⟨(),trivial,by rw [hfr,relocs_bad hil (hlb.2 (by simp_all <;> omega))];rfl,Lh⟩
 refine Zq J J (Zz (n:=8) (m:=8) J J J (Zzf ?_))
 refine Zq J J (Zo J (Zq J J (oIdxE J J (hE) ZO J J ?_)))
 have hc90:=(hE).cell
 refine Zq J J (ZF (ZT 1) (ZT 1) ?_)
 refine Zq J J (Zlx hc90 ?_)
 refine Zq J J (Zx J J (Zu J J (Zo J (ZS (ZT 95) (fun h95=>?_) (fun h95=>?_)))))
 refine Zr J J J J (Zr J J J J (Zr J J J J (Zr J J J J (Zr J J J J (Zr J J J J (Zr J J J J (Zt J J (Zn (Za (wCondT J (Zh (Zi (Zzb ?_)))))))))))))
 exact ⟨(),trivial,by rw [hfr,relocs_bad hil (hlb.2 (by simp_all <;> omega))];rfl,Lh⟩
 refine Zq J J (Zz (n:=8) (m:=8) J J J (Zzf ?_))
 refine Zq J J (Zo J (Zq J J (oIdxE J J (hE) ZO J J ?_)))
 have hc99:=(hE).cell
 refine Zq J J (ZF (ZT 1) (ZT 1) ?_)
 refine Zq J J (Zlx hc99 ?_)
 refine Zq J J (Z2 J J (Zu J J (Zn (Za (wC (fun h103=>?_) (fun h103=>?_))))))
 refine Zh (Zi (Zzb ?_))
 exact ⟨(),trivial,by rw [hfr,relocs_bad hil (hlb.2 (by simp_all <;> omega))];rfl,Lh⟩
 refine Zj (Zze ?_)
 refine Zp J (Zn (Za ?_))
 exact ⟨rfl,i+1,⟨by omega,fun j hj=>by
 by_cases e:j=i
 · subst e;rw [hlb];simp_all <;> omega
 · exact hs j ZO⟩,by omega,cv,Lh⟩
 refine Zr J J J J (Zr J J J J (Zr J J J J (Zr J J J J (Zr J J J J (Zr J J J J (Zr J J J J (Zr J J J J (Zr J J J J (Zq J J (Zu J J (Zu J J (Zo J (Zq J J (Zz (n:=8) (m:=8) J J J (Zzf ?_)))))))))))))))
 refine Zq J J (Zo J (Zq J J (oIdxE J J (hE) ZO J J ?_)))
 have hc90:=(hE).cell
 refine Zq J J (ZF (ZT 1) (ZT 1) ?_)
 refine Zq J J (Zlx hc90 ?_)
 refine Zq J J (Zx J J (Zu J J (Zo J (ZS (ZT 95) (fun h95=>?_) (fun h95=>?_)))))
 refine Zr J J J J (Zr J J J J (Zr J J J J (Zr J J J J (Zr J J J J (Zr J J J J (Zr J J J J (Zt J J (Zn (Za (wCondT J (Zh (Zi (Zzb ?_)))))))))))))
 exact ⟨(),trivial,by rw [hfr,relocs_bad hil (hlb.2 (by simp_all <;> omega))];rfl,Lh⟩
 refine Zq J J (Zz (n:=8) (m:=8) J J J (Zzf ?_))
 refine Zq J J (Zo J (Zq J J (oIdxE J J (hE) ZO J J ?_)))
 have hc99:=(hE).cell
 refine Zq J J (ZF (ZT 1) (ZT 1) ?_)
 refine Zq J J (Zlx hc99 ?_)
 refine Zq J J (Z2 J J (Zu J J (Zn (Za (wC (fun h103=>?_) (fun h103=>?_))))))
 refine Zh (Zi (Zzb ?_))
 exact ⟨(),trivial,by rw [hfr,relocs_bad hil (hlb.2 (by simp_all <;> omega))];rfl,Lh⟩
 refine Zj (Zze ?_)
 refine Zp J (Zn (Za ?_))
 exact ⟨rfl,i+1,⟨by omega,fun j hj=>by
 by_cases e:j=i
 · subst e;rw [hlb];simp_all <;> omega
 · exact hs j ZO⟩,by omega,cv,Lh⟩
 refine Zm (Zzg ?_)
 obtain rfl:i=f.fRelocs.length:=by omega
 exact ⟨(),trivial,by rw [hfr,relocs_good hs];rfl,Lh⟩
end Go.Proofs.YtafiabekcekdbaaGreatV
