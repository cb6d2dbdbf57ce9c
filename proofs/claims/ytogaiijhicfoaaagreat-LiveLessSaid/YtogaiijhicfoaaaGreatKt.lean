/-
  The structs that are data: their kinds (written by kkinds.py).
-/
import Derived.Test.YtogaiijhicfoaaaGreatMA
import Derived.Test.YtogaiijhicfoaaaGreatProg
namespace Go.Proofs.YtogaiijhicfoaaaGreatT
set_option linter.unusedVariables false
set_option linter.unusedSimpArgs false
open Go.RowKit Go.Proofs.YtogaiijhicfoaaaGreatK Go.ChangeShapes Go.WideShapes
structure ApiLine where
  fAt : Int
  fLine : Int
instance : Inhabited ApiLine := ⟨⟨0, 0⟩⟩
def kApiLine : Kd ApiLine := Kd.iso (Kd.pair (Kd.int .i64) (Kd.int .i64)) (fun x => (x.fAt, x.fLine))
theorem kApiLine_open {w : World} {x : ApiLine} {cs : List Value} (h : kApiLine.K w x cs) : cs = [.int .i64 x.fAt, .int .i64 x.fLine] := by
  obtain ⟨_, _, rfl, rfl, rfl⟩ := h
  exact rfl
def vApiLine (x : ApiLine) : Prop := in64 x.fAt ∧ in64 x.fLine
set_option maxRecDepth 100000 in
theorem opApiLine : Opens Tryz.prog 268 kApiLine vApiLine := Opens.weak (opens_struct (fun p => (⟨p.1, p.2⟩ : ApiLine)) (fun _ => rfl) Tryz.underlying268 (opensF_cons (opens_i64 rfl) rfl (opensF_one (opens_i64 rfl) rfl rfl))) (fun _ h => h)
structure ApiInstr where
  fOp : Int
  fA : Int
  fB : Int
  fC : Int
  fN : Int
instance : Inhabited ApiInstr := ⟨⟨0, 0, 0, 0, 0⟩⟩
def kApiInstr : Kd ApiInstr := Kd.iso (Kd.pair (Kd.int .i64) (Kd.pair (Kd.int .i64) (Kd.pair (Kd.int .i64) (Kd.pair (Kd.int .i64) (Kd.int .i64))))) (fun x => (x.fOp, x.fA, x.fB, x.fC, x.fN))
theorem kApiInstr_open {w : World} {x : ApiInstr} {cs : List Value} (h : kApiInstr.K w x cs) : cs = [.int .i64 x.fOp, .int .i64 x.fA, .int .i64 x.fB, .int .i64 x.fC, .int .i64 x.fN] := by
  obtain ⟨_, _, rfl, rfl, ⟨_, _, rfl, rfl, ⟨_, _, rfl, rfl, ⟨_, _, rfl, rfl, rfl⟩⟩⟩⟩ := h
  exact rfl
theorem kApiInstr_mk (w : World) (x : ApiInstr) : kApiInstr.K w x [.int .i64 x.fOp, .int .i64 x.fA, .int .i64 x.fB, .int .i64 x.fC, .int .i64 x.fN] := ⟨_, _, rfl, rfl, ⟨_, _, rfl, rfl, ⟨_, _, rfl, rfl, ⟨_, _, rfl, rfl, rfl⟩⟩⟩⟩
def vApiInstr (x : ApiInstr) : Prop := in64 x.fOp ∧ in64 x.fA ∧ in64 x.fB ∧ in64 x.fC ∧ in64 x.fN
set_option maxRecDepth 100000 in
theorem opApiInstr : Opens Tryz.prog 51 kApiInstr vApiInstr := Opens.weak (opens_struct (fun p => (⟨p.1, p.2.1, p.2.2.1, p.2.2.2.1, p.2.2.2.2⟩ : ApiInstr)) (fun _ => rfl) Tryz.underlying51 (opensF_cons (opens_i64 rfl) rfl (opensF_cons (opens_i64 rfl) rfl (opensF_cons (opens_i64 rfl) rfl (opensF_cons (opens_i64 rfl) rfl (opensF_one (opens_i64 rfl) rfl rfl)))))) (fun _ h => h)
structure ApiReloc where
  fAt : Int
  fSym : Int
  fWide : Bool
instance : Inhabited ApiReloc := ⟨⟨0, 0, false⟩⟩
def kApiReloc : Kd ApiReloc := Kd.iso (Kd.pair (Kd.int .i64) (Kd.pair (Kd.int .i64) Kd.bool)) (fun x => (x.fAt, x.fSym, x.fWide))
theorem kApiReloc_open {w : World} {x : ApiReloc} {cs : List Value} (h : kApiReloc.K w x cs) : cs = [.int .i64 x.fAt, .int .i64 x.fSym, .bool x.fWide] := by
  obtain ⟨_, _, rfl, rfl, ⟨_, _, rfl, rfl, rfl⟩⟩ := h
  exact rfl
theorem kApiReloc_mk (w : World) (x : ApiReloc) : kApiReloc.K w x [.int .i64 x.fAt, .int .i64 x.fSym, .bool x.fWide] := ⟨_, _, rfl, rfl, ⟨_, _, rfl, rfl, rfl⟩⟩
def vApiReloc (x : ApiReloc) : Prop := in64 x.fAt ∧ in64 x.fSym ∧ True
set_option maxRecDepth 100000 in
theorem opApiReloc : Opens Tryz.prog 147 kApiReloc vApiReloc := Opens.weak (opens_struct (fun p => (⟨p.1, p.2.1, p.2.2⟩ : ApiReloc)) (fun _ => rfl) Tryz.underlying147 (opensF_cons (opens_i64 rfl) rfl (opensF_cons (opens_i64 rfl) rfl (opensF_one (opens_bool rfl) rfl rfl)))) (fun _ h => h)
structure ApiFunc where
  fClass : Int
  fKinds : List Int
  fPad : Int
  fNosplit : Bool
  fFrom : Int
  fTo : Int
  fLines : List ApiLine
  fCode : List ApiInstr
  fRelocs : List ApiReloc
instance : Inhabited ApiFunc := ⟨⟨0, [], 0, false, 0, 0, [], [], []⟩⟩
def kApiFunc : Kd ApiFunc := Kd.iso (Kd.pair (Kd.int .i64) (Kd.pair (Kd.slice (Kd.int .i64)) (Kd.pair (Kd.int .i64) (Kd.pair Kd.bool (Kd.pair (Kd.int .i64) (Kd.pair (Kd.int .i64) (Kd.pair (Kd.slice kApiLine) (Kd.pair (Kd.slice kApiInstr) (Kd.slice kApiReloc))))))))) (fun x => (x.fClass, x.fKinds, x.fPad, x.fNosplit, x.fFrom, x.fTo, x.fLines, x.fCode, x.fRelocs))
theorem kApiFunc_open {w : World} {x : ApiFunc} {cs : List Value} (h : kApiFunc.K w x cs) : ∃ A0 c0 A1 c1 A2 c2 A3 c3, cs = [.int .i64 x.fClass, .slice A0 x.fKinds.length c0, .int .i64 x.fPad, .bool x.fNosplit, .int .i64 x.fFrom, .int .i64 x.fTo, .slice A1 x.fLines.length c1, .slice A2 x.fCode.length c2, .slice A3 x.fRelocs.length c3] ∧ x.fKinds.length ≤ c0 ∧ (Kd.int .i64).C w A0 x.fKinds ∧ x.fLines.length ≤ c1 ∧ kApiLine.C w A1 x.fLines ∧ x.fCode.length ≤ c2 ∧ kApiInstr.C w A2 x.fCode ∧ x.fRelocs.length ≤ c3 ∧ kApiReloc.C w A3 x.fRelocs := by
  obtain ⟨_, _, rfl, rfl, ⟨_, _, rfl, ⟨A0, c0, rfl, l0, g0⟩, ⟨_, _, rfl, rfl, ⟨_, _, rfl, rfl, ⟨_, _, rfl, rfl, ⟨_, _, rfl, rfl, ⟨_, _, rfl, ⟨A1, c1, rfl, l1, g1⟩, ⟨_, _, rfl, ⟨A2, c2, rfl, l2, g2⟩, ⟨A3, c3, rfl, l3, g3⟩⟩⟩⟩⟩⟩⟩⟩⟩ := h
  exact ⟨A0, c0, A1, c1, A2, c2, A3, c3, rfl, l0, g0, l1, g1, l2, g2, l3, g3⟩
theorem kApiFunc_mk (w : World) (x : ApiFunc) {A0 A1 A2 A3 : Option Addr} {c0 c1 c2 c3 : Nat} (l0 : x.fKinds.length ≤ c0) (g0 : (Kd.int .i64).C w A0 x.fKinds) (l1 : x.fLines.length ≤ c1) (g1 : kApiLine.C w A1 x.fLines) (l2 : x.fCode.length ≤ c2) (g2 : kApiInstr.C w A2 x.fCode) (l3 : x.fRelocs.length ≤ c3) (g3 : kApiReloc.C w A3 x.fRelocs) : kApiFunc.K w x [.int .i64 x.fClass, .slice A0 x.fKinds.length c0, .int .i64 x.fPad, .bool x.fNosplit, .int .i64 x.fFrom, .int .i64 x.fTo, .slice A1 x.fLines.length c1, .slice A2 x.fCode.length c2, .slice A3 x.fRelocs.length c3] := ⟨_, _, rfl, rfl, ⟨_, _, rfl, ⟨A0, c0, rfl, l0, g0⟩, ⟨_, _, rfl, rfl, ⟨_, _, rfl, rfl, ⟨_, _, rfl, rfl, ⟨_, _, rfl, rfl, ⟨_, _, rfl, ⟨A1, c1, rfl, l1, g1⟩, ⟨_, _, rfl, ⟨A2, c2, rfl, l2, g2⟩, ⟨A3, c3, rfl, l3, g3⟩⟩⟩⟩⟩⟩⟩⟩⟩
def vApiFunc (x : ApiFunc) : Prop := in64 x.fClass ∧ (x.fKinds.length ≤ maxLen ∧ ∀ y ∈ x.fKinds, in64 y) ∧ in64 x.fPad ∧ True ∧ in64 x.fFrom ∧ in64 x.fTo ∧ (x.fLines.length ≤ maxLen ∧ ∀ y ∈ x.fLines, vApiLine y) ∧ (x.fCode.length ≤ maxLen ∧ ∀ y ∈ x.fCode, vApiInstr y) ∧ (x.fRelocs.length ≤ maxLen ∧ ∀ y ∈ x.fRelocs, vApiReloc y)
set_option maxRecDepth 100000 in
theorem opApiFunc : Opens Tryz.prog 47 kApiFunc vApiFunc := Opens.weak (opens_struct (fun p => (⟨p.1, p.2.1, p.2.2.1, p.2.2.2.1, p.2.2.2.2.1, p.2.2.2.2.2.1, p.2.2.2.2.2.2.1, p.2.2.2.2.2.2.2.1, p.2.2.2.2.2.2.2.2⟩ : ApiFunc)) (fun _ => rfl) Tryz.underlying47 (opensF_cons (opens_i64 rfl) rfl (opensF_cons (opens_slice rfl rfl (opens_i64 rfl)) rfl (opensF_cons (opens_i64 rfl) rfl (opensF_cons (opens_bool rfl) rfl (opensF_cons (opens_i64 rfl) rfl (opensF_cons (opens_i64 rfl) rfl (opensF_cons (opens_slice rfl rfl opApiLine) rfl (opensF_cons (opens_slice rfl rfl opApiInstr) rfl (opensF_one (opens_slice rfl rfl opApiReloc) rfl rfl)))))))))) (fun _ h => h)
structure ApiFun where
  fFile : Int
  fItem : Int
  fName : ByteArray
  fF : ApiFunc
  fRefs : List Int
instance : Inhabited ApiFun := ⟨⟨0, 0, ByteArray.empty, default, []⟩⟩
def kApiFun : Kd ApiFun := Kd.iso (Kd.pair (Kd.int .i64) (Kd.pair (Kd.int .i64) (Kd.pair Kd.string (Kd.pair kApiFunc (Kd.slice (Kd.int .i64)))))) (fun x => (x.fFile, x.fItem, x.fName, x.fF, x.fRefs))
theorem kApiFun_open {w : World} {x : ApiFun} {cs : List Value} (h : kApiFun.K w x cs) : ∃ A0 c0 A1 c1 A2 c2 A3 c3 A4 c4, cs = [.int .i64 x.fFile, .int .i64 x.fItem, .string x.fName, .int .i64 x.fF.fClass, .slice A0 x.fF.fKinds.length c0, .int .i64 x.fF.fPad, .bool x.fF.fNosplit, .int .i64 x.fF.fFrom, .int .i64 x.fF.fTo, .slice A1 x.fF.fLines.length c1, .slice A2 x.fF.fCode.length c2, .slice A3 x.fF.fRelocs.length c3, .slice A4 x.fRefs.length c4] ∧ x.fF.fKinds.length ≤ c0 ∧ (Kd.int .i64).C w A0 x.fF.fKinds ∧ x.fF.fLines.length ≤ c1 ∧ kApiLine.C w A1 x.fF.fLines ∧ x.fF.fCode.length ≤ c2 ∧ kApiInstr.C w A2 x.fF.fCode ∧ x.fF.fRelocs.length ≤ c3 ∧ kApiReloc.C w A3 x.fF.fRelocs ∧ x.fRefs.length ≤ c4 ∧ (Kd.int .i64).C w A4 x.fRefs := by
  obtain ⟨_, _, rfl, rfl, ⟨_, _, rfl, rfl, ⟨_, _, rfl, rfl, ⟨_, _, rfl, h3, ⟨A4, c4, rfl, l4, g4⟩⟩⟩⟩⟩ := h
  obtain ⟨A0, c0, A1, c1, A2, c2, A3, c3, rfl, l0, g0, l1, g1, l2, g2, l3, g3⟩ := kApiFunc_open h3
  exact ⟨A0, c0, A1, c1, A2, c2, A3, c3, A4, c4, rfl, l0, g0, l1, g1, l2, g2, l3, g3, l4, g4⟩
theorem kApiFun_mk (w : World) (x : ApiFun) {A0 A1 A2 A3 A4 : Option Addr} {c0 c1 c2 c3 c4 : Nat} (l0 : x.fF.fKinds.length ≤ c0) (g0 : (Kd.int .i64).C w A0 x.fF.fKinds) (l1 : x.fF.fLines.length ≤ c1) (g1 : kApiLine.C w A1 x.fF.fLines) (l2 : x.fF.fCode.length ≤ c2) (g2 : kApiInstr.C w A2 x.fF.fCode) (l3 : x.fF.fRelocs.length ≤ c3) (g3 : kApiReloc.C w A3 x.fF.fRelocs) (l4 : x.fRefs.length ≤ c4) (g4 : (Kd.int .i64).C w A4 x.fRefs) : kApiFun.K w x [.int .i64 x.fFile, .int .i64 x.fItem, .string x.fName, .int .i64 x.fF.fClass, .slice A0 x.fF.fKinds.length c0, .int .i64 x.fF.fPad, .bool x.fF.fNosplit, .int .i64 x.fF.fFrom, .int .i64 x.fF.fTo, .slice A1 x.fF.fLines.length c1, .slice A2 x.fF.fCode.length c2, .slice A3 x.fF.fRelocs.length c3, .slice A4 x.fRefs.length c4] := ⟨_, _, rfl, rfl, ⟨_, _, rfl, rfl, ⟨_, _, rfl, rfl, ⟨_, _, rfl, ⟨_, _, rfl, rfl, ⟨_, _, rfl, ⟨A0, c0, rfl, l0, g0⟩, ⟨_, _, rfl, rfl, ⟨_, _, rfl, rfl, ⟨_, _, rfl, rfl, ⟨_, _, rfl, rfl, ⟨_, _, rfl, ⟨A1, c1, rfl, l1, g1⟩, ⟨_, _, rfl, ⟨A2, c2, rfl, l2, g2⟩, ⟨A3, c3, rfl, l3, g3⟩⟩⟩⟩⟩⟩⟩⟩⟩, ⟨A4, c4, rfl, l4, g4⟩⟩⟩⟩⟩
structure ApiData where
  fKind : Int
  fWords : List Int
  fRelocs : List ApiReloc
instance : Inhabited ApiData := ⟨⟨0, [], []⟩⟩
def kApiData : Kd ApiData := Kd.iso (Kd.pair (Kd.int .i64) (Kd.pair (Kd.slice (Kd.int .i64)) (Kd.slice kApiReloc))) (fun x => (x.fKind, x.fWords, x.fRelocs))
theorem kApiData_open {w : World} {x : ApiData} {cs : List Value} (h : kApiData.K w x cs) : ∃ A0 c0 A1 c1, cs = [.int .i64 x.fKind, .slice A0 x.fWords.length c0, .slice A1 x.fRelocs.length c1] ∧ x.fWords.length ≤ c0 ∧ (Kd.int .i64).C w A0 x.fWords ∧ x.fRelocs.length ≤ c1 ∧ kApiReloc.C w A1 x.fRelocs := by
  obtain ⟨_, _, rfl, rfl, ⟨_, _, rfl, ⟨A0, c0, rfl, l0, g0⟩, ⟨A1, c1, rfl, l1, g1⟩⟩⟩ := h
  exact ⟨A0, c0, A1, c1, rfl, l0, g0, l1, g1⟩
theorem kApiData_mk (w : World) (x : ApiData) {A0 A1 : Option Addr} {c0 c1 : Nat} (l0 : x.fWords.length ≤ c0) (g0 : (Kd.int .i64).C w A0 x.fWords) (l1 : x.fRelocs.length ≤ c1) (g1 : kApiReloc.C w A1 x.fRelocs) : kApiData.K w x [.int .i64 x.fKind, .slice A0 x.fWords.length c0, .slice A1 x.fRelocs.length c1] := ⟨_, _, rfl, rfl, ⟨_, _, rfl, ⟨A0, c0, rfl, l0, g0⟩, ⟨A1, c1, rfl, l1, g1⟩⟩⟩
def vApiData (x : ApiData) : Prop := in64 x.fKind ∧ (x.fWords.length ≤ maxLen ∧ ∀ y ∈ x.fWords, in64 y) ∧ (x.fRelocs.length ≤ maxLen ∧ ∀ y ∈ x.fRelocs, vApiReloc y)
set_option maxRecDepth 100000 in
theorem opApiData : Opens Tryz.prog 96 kApiData vApiData := Opens.weak (opens_struct (fun p => (⟨p.1, p.2.1, p.2.2⟩ : ApiData)) (fun _ => rfl) Tryz.underlying96 (opensF_cons (opens_i64 rfl) rfl (opensF_cons (opens_slice rfl rfl (opens_i64 rfl)) rfl (opensF_one (opens_slice rfl rfl opApiReloc) rfl rfl)))) (fun _ h => h)
structure ApiDat where
  fFile : Int
  fItem : Int
  fName : ByteArray
  fD : ApiData
  fRefs : List Int
instance : Inhabited ApiDat := ⟨⟨0, 0, ByteArray.empty, default, []⟩⟩
def kApiDat : Kd ApiDat := Kd.iso (Kd.pair (Kd.int .i64) (Kd.pair (Kd.int .i64) (Kd.pair Kd.string (Kd.pair kApiData (Kd.slice (Kd.int .i64)))))) (fun x => (x.fFile, x.fItem, x.fName, x.fD, x.fRefs))
theorem kApiDat_open {w : World} {x : ApiDat} {cs : List Value} (h : kApiDat.K w x cs) : ∃ A0 c0 A1 c1 A2 c2, cs = [.int .i64 x.fFile, .int .i64 x.fItem, .string x.fName, .int .i64 x.fD.fKind, .slice A0 x.fD.fWords.length c0, .slice A1 x.fD.fRelocs.length c1, .slice A2 x.fRefs.length c2] ∧ x.fD.fWords.length ≤ c0 ∧ (Kd.int .i64).C w A0 x.fD.fWords ∧ x.fD.fRelocs.length ≤ c1 ∧ kApiReloc.C w A1 x.fD.fRelocs ∧ x.fRefs.length ≤ c2 ∧ (Kd.int .i64).C w A2 x.fRefs := by
  obtain ⟨_, _, rfl, rfl, ⟨_, _, rfl, rfl, ⟨_, _, rfl, rfl, ⟨_, _, rfl, h3, ⟨A2, c2, rfl, l2, g2⟩⟩⟩⟩⟩ := h
  obtain ⟨A0, c0, A1, c1, rfl, l0, g0, l1, g1⟩ := kApiData_open h3
  exact ⟨A0, c0, A1, c1, A2, c2, rfl, l0, g0, l1, g1, l2, g2⟩
structure ApiProgram where
  fFuns : List ApiFun
  fDats : List ApiDat
  fEntry : Int
instance : Inhabited ApiProgram := ⟨⟨[], [], 0⟩⟩
def kApiProgram : Kd ApiProgram := Kd.iso (Kd.pair (Kd.slice kApiFun) (Kd.pair (Kd.slice kApiDat) (Kd.int .i64))) (fun x => (x.fFuns, x.fDats, x.fEntry))
theorem kApiProgram_open {w : World} {x : ApiProgram} {cs : List Value} (h : kApiProgram.K w x cs) : ∃ A0 c0 A1 c1, cs = [.slice A0 x.fFuns.length c0, .slice A1 x.fDats.length c1, .int .i64 x.fEntry] ∧ x.fFuns.length ≤ c0 ∧ kApiFun.C w A0 x.fFuns ∧ x.fDats.length ≤ c1 ∧ kApiDat.C w A1 x.fDats := by
  obtain ⟨_, _, rfl, ⟨A0, c0, rfl, l0, g0⟩, ⟨_, _, rfl, ⟨A1, c1, rfl, l1, g1⟩, rfl⟩⟩ := h
  exact ⟨A0, c0, A1, c1, rfl, l0, g0, l1, g1⟩
theorem kApiProgram_mk (w : World) (x : ApiProgram) {A0 A1 : Option Addr} {c0 c1 : Nat} (l0 : x.fFuns.length ≤ c0) (g0 : kApiFun.C w A0 x.fFuns) (l1 : x.fDats.length ≤ c1) (g1 : kApiDat.C w A1 x.fDats) : kApiProgram.K w x [.slice A0 x.fFuns.length c0, .slice A1 x.fDats.length c1, .int .i64 x.fEntry] := ⟨_, _, rfl, ⟨A0, c0, rfl, l0, g0⟩, ⟨_, _, rfl, ⟨A1, c1, rfl, l1, g1⟩, rfl⟩⟩
structure ApiSymbol where
  fName : ByteArray
  fLocal : Bool
  fSort : Int
  fKind : Int
  fDef : Int
instance : Inhabited ApiSymbol := ⟨⟨ByteArray.empty, false, 0, 0, 0⟩⟩
def kApiSymbol : Kd ApiSymbol := Kd.iso (Kd.pair Kd.string (Kd.pair Kd.bool (Kd.pair (Kd.int .i64) (Kd.pair (Kd.int .i64) (Kd.int .i64))))) (fun x => (x.fName, x.fLocal, x.fSort, x.fKind, x.fDef))
theorem kApiSymbol_open {w : World} {x : ApiSymbol} {cs : List Value} (h : kApiSymbol.K w x cs) : cs = [.string x.fName, .bool x.fLocal, .int .i64 x.fSort, .int .i64 x.fKind, .int .i64 x.fDef] := by
  obtain ⟨_, _, rfl, rfl, ⟨_, _, rfl, rfl, ⟨_, _, rfl, rfl, ⟨_, _, rfl, rfl, rfl⟩⟩⟩⟩ := h
  exact rfl
theorem kApiSymbol_mk (w : World) (x : ApiSymbol) : kApiSymbol.K w x [.string x.fName, .bool x.fLocal, .int .i64 x.fSort, .int .i64 x.fKind, .int .i64 x.fDef] := ⟨_, _, rfl, rfl, ⟨_, _, rfl, rfl, ⟨_, _, rfl, rfl, ⟨_, _, rfl, rfl, rfl⟩⟩⟩⟩
def vApiSymbol (x : ApiSymbol) : Prop := x.fName.size ≤ maxLen ∧ True ∧ in64 x.fSort ∧ in64 x.fKind ∧ in64 x.fDef
set_option maxRecDepth 100000 in
theorem opApiSymbol : Opens Tryz.prog 91 kApiSymbol vApiSymbol := Opens.weak (opens_struct (fun p => (⟨p.1, p.2.1, p.2.2.1, p.2.2.2.1, p.2.2.2.2⟩ : ApiSymbol)) (fun _ => rfl) Tryz.underlying91 (opensF_cons (opens_string rfl) rfl (opensF_cons (opens_bool rfl) rfl (opensF_cons (opens_i64 rfl) rfl (opensF_cons (opens_i64 rfl) rfl (opensF_one (opens_i64 rfl) rfl rfl)))))) (fun _ h => h)
structure ApiObject where
  fSymbols : List ApiSymbol
  fFuncs : List ApiFunc
  fDatas : List ApiData
instance : Inhabited ApiObject := ⟨⟨[], [], []⟩⟩
def kApiObject : Kd ApiObject := Kd.iso (Kd.pair (Kd.slice kApiSymbol) (Kd.pair (Kd.slice kApiFunc) (Kd.slice kApiData))) (fun x => (x.fSymbols, x.fFuncs, x.fDatas))
theorem kApiObject_open {w : World} {x : ApiObject} {cs : List Value} (h : kApiObject.K w x cs) : ∃ A0 c0 A1 c1 A2 c2, cs = [.slice A0 x.fSymbols.length c0, .slice A1 x.fFuncs.length c1, .slice A2 x.fDatas.length c2] ∧ x.fSymbols.length ≤ c0 ∧ kApiSymbol.C w A0 x.fSymbols ∧ x.fFuncs.length ≤ c1 ∧ kApiFunc.C w A1 x.fFuncs ∧ x.fDatas.length ≤ c2 ∧ kApiData.C w A2 x.fDatas := by
  obtain ⟨_, _, rfl, ⟨A0, c0, rfl, l0, g0⟩, ⟨_, _, rfl, ⟨A1, c1, rfl, l1, g1⟩, ⟨A2, c2, rfl, l2, g2⟩⟩⟩ := h
  exact ⟨A0, c0, A1, c1, A2, c2, rfl, l0, g0, l1, g1, l2, g2⟩
theorem kApiObject_mk (w : World) (x : ApiObject) {A0 A1 A2 : Option Addr} {c0 c1 c2 : Nat} (l0 : x.fSymbols.length ≤ c0) (g0 : kApiSymbol.C w A0 x.fSymbols) (l1 : x.fFuncs.length ≤ c1) (g1 : kApiFunc.C w A1 x.fFuncs) (l2 : x.fDatas.length ≤ c2) (g2 : kApiData.C w A2 x.fDatas) : kApiObject.K w x [.slice A0 x.fSymbols.length c0, .slice A1 x.fFuncs.length c1, .slice A2 x.fDatas.length c2] := ⟨_, _, rfl, ⟨A0, c0, rfl, l0, g0⟩, ⟨_, _, rfl, ⟨A1, c1, rfl, l1, g1⟩, ⟨A2, c2, rfl, l2, g2⟩⟩⟩
def vApiObject (x : ApiObject) : Prop := (x.fSymbols.length ≤ maxLen ∧ ∀ y ∈ x.fSymbols, vApiSymbol y) ∧ (x.fFuncs.length ≤ maxLen ∧ ∀ y ∈ x.fFuncs, vApiFunc y) ∧ (x.fDatas.length ≤ maxLen ∧ ∀ y ∈ x.fDatas, vApiData y)
set_option maxRecDepth 100000 in
theorem opApiObject : Opens Tryz.prog 79 kApiObject vApiObject := Opens.weak (opens_struct (fun p => (⟨p.1, p.2.1, p.2.2⟩ : ApiObject)) (fun _ => rfl) Tryz.underlying79 (opensF_cons (opens_slice rfl rfl opApiSymbol) rfl (opensF_cons (opens_slice rfl rfl opApiFunc) rfl (opensF_one (opens_slice rfl rfl opApiData) rfl rfl)))) (fun _ h => h)
end Go.Proofs.YtogaiijhicfoaaaGreatT
