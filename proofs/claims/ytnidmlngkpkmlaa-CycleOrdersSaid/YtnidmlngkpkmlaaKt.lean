/-
  The structs that are data: their kinds (written by kkinds.py).
-/
import Derived.Test.YtnidmlngkpkmlaaKo
import Derived.Test.YtnidmlngkpkmlaaProg
namespace Go.Proofs.YtnidmlngkpkmlaaT
set_option linter.unusedVariables false
set_option linter.unusedSimpArgs false
open Go.RowKit Go.Proofs.YtnidmlngkpkmlaaK Go.ChangeShapes Go.WideShapes
/-! ApiReject -/
structure ApiReject where
  fWhy : Int
  fFile : Int
  fItem : Int
instance : Inhabited ApiReject := ⟨⟨0, 0, 0⟩⟩
def kApiReject : Kd ApiReject := Kd.iso (Kd.pair (Kd.int .i64) (Kd.pair (Kd.int .i64) (Kd.int .i64))) (fun x => (x.fWhy, x.fFile, x.fItem))
theorem kApiReject_open {w : World} {x : ApiReject} {cs : List Value} (h : kApiReject.K w x cs) : cs = [.int .i64 x.fWhy, .int .i64 x.fFile, .int .i64 x.fItem] := by
  obtain ⟨_, _, rfl, rfl, ⟨_, _, rfl, rfl, rfl⟩⟩ := h
  exact rfl
theorem kApiReject_mk (w : World) (x : ApiReject) : kApiReject.K w x [.int .i64 x.fWhy, .int .i64 x.fFile, .int .i64 x.fItem] := ⟨_, _, rfl, rfl, ⟨_, _, rfl, rfl, rfl⟩⟩
def vApiReject (x : ApiReject) : Prop := in64 x.fWhy ∧ in64 x.fFile ∧ in64 x.fItem
set_option maxRecDepth 100000 in
theorem opApiReject : Opens Try.prog 31 kApiReject vApiReject := Opens.weak (opens_struct (fun p => (⟨p.1, p.2.1, p.2.2⟩ : ApiReject)) (fun _ => rfl) Try.underlying31 (opensF_cons (opens_i64 rfl) rfl (opensF_cons (opens_i64 rfl) rfl (opensF_one (opens_i64 rfl) rfl rfl)))) (fun _ h => h)
/-! ApiSymbol -/
structure ApiSymbol where
  fName : ByteArray
  fLocal : Bool
  fSort : Int
  fKind : Int
  fDef : Int
instance : Inhabited ApiSymbol := ⟨⟨ByteArray.empty, false, 0, 0, 0⟩⟩
def kApiSymbol : Kd ApiSymbol := Kd.iso (Kd.pair Kd.string (Kd.pair Kd.bool (Kd.pair (Kd.int .i64) (Kd.pair (Kd.int .i64) (Kd.int .i64))))) (fun x => (x.fName, x.fLocal, x.fSort, x.fKind, x.fDef))
theorem kApiSymbol_open {w : World} {x : ApiSymbol} {cs : List Value} (h : kApiSymbol.K w x cs) : cs = [.string x.fName, .bool x.fLocal, .int .i64 x.fSort, .int .i64 x.fKind, .int .i64 x.fDef] := by
  obtain ⟨_, _, rfl, rfl, ⟨_, _, rfl, rfl, ⟨_, _, rfl, rfl, ⟨_, _, rfl, rfl, rfl⟩⟩⟩⟩ := h
  exact rfl
theorem kApiSymbol_mk (w : World) (x : ApiSymbol) : kApiSymbol.K w x [.string x.fName, .bool x.fLocal, .int .i64 x.fSort, .int .i64 x.fKind, .int .i64 x.fDef] := ⟨_, _, rfl, rfl, ⟨_, _, rfl, rfl, ⟨_, _, rfl, rfl, ⟨_, _, rfl, rfl, rfl⟩⟩⟩⟩
def vApiSymbol (x : ApiSymbol) : Prop := x.fName.size ≤ maxLen ∧ True ∧ in64 x.fSort ∧ in64 x.fKind ∧ in64 x.fDef
set_option maxRecDepth 100000 in
theorem opApiSymbol : Opens Try.prog 42 kApiSymbol vApiSymbol := Opens.weak (opens_struct (fun p => (⟨p.1, p.2.1, p.2.2.1, p.2.2.2.1, p.2.2.2.2⟩ : ApiSymbol)) (fun _ => rfl) Try.underlying42 (opensF_cons (opens_string rfl) rfl (opensF_cons (opens_bool rfl) rfl (opensF_cons (opens_i64 rfl) rfl (opensF_cons (opens_i64 rfl) rfl (opensF_one (opens_i64 rfl) rfl rfl)))))) (fun _ h => h)
/-! ApiLine -/
structure ApiLine where
  fAt : Int
  fLine : Int
instance : Inhabited ApiLine := ⟨⟨0, 0⟩⟩
def kApiLine : Kd ApiLine := Kd.iso (Kd.pair (Kd.int .i64) (Kd.int .i64)) (fun x => (x.fAt, x.fLine))
theorem kApiLine_open {w : World} {x : ApiLine} {cs : List Value} (h : kApiLine.K w x cs) : cs = [.int .i64 x.fAt, .int .i64 x.fLine] := by
  obtain ⟨_, _, rfl, rfl, rfl⟩ := h
  exact rfl
theorem kApiLine_mk (w : World) (x : ApiLine) : kApiLine.K w x [.int .i64 x.fAt, .int .i64 x.fLine] := ⟨_, _, rfl, rfl, rfl⟩
def vApiLine (x : ApiLine) : Prop := in64 x.fAt ∧ in64 x.fLine
set_option maxRecDepth 100000 in
theorem opApiLine : Opens Try.prog 174 kApiLine vApiLine := Opens.weak (opens_struct (fun p => (⟨p.1, p.2⟩ : ApiLine)) (fun _ => rfl) Try.underlying174 (opensF_cons (opens_i64 rfl) rfl (opensF_one (opens_i64 rfl) rfl rfl))) (fun _ h => h)
/-! ApiInstr -/
structure ApiInstr where
  fOp : Int
  fA : Int
  fB : Int
  fC : Int
  fN : Int
instance : Inhabited ApiInstr := ⟨⟨0, 0, 0, 0, 0⟩⟩
def kApiInstr : Kd ApiInstr := Kd.iso (Kd.pair (Kd.int .i64) (Kd.pair (Kd.int .i64) (Kd.pair (Kd.int .i64) (Kd.pair (Kd.int .i64) (Kd.int .i64))))) (fun x => (x.fOp, x.fA, x.fB, x.fC, x.fN))
theorem kApiInstr_open {w : World} {x : ApiInstr} {cs : List Value} (h : kApiInstr.K w x cs) : cs = [.int .i64 x.fOp, .int .i64 x.fA, .int .i64 x.fB, .int .i64 x.fC, .int .i64 x.fN] := by
  obtain ⟨_, _, rfl, rfl, ⟨_, _, rfl, rfl, ⟨_, _, rfl, rfl, ⟨_, _, rfl, rfl, rfl⟩⟩⟩⟩ := h
  exact rfl
theorem kApiInstr_mk (w : World) (x : ApiInstr) : kApiInstr.K w x [.int .i64 x.fOp, .int .i64 x.fA, .int .i64 x.fB, .int .i64 x.fC, .int .i64 x.fN] := ⟨_, _, rfl, rfl, ⟨_, _, rfl, rfl, ⟨_, _, rfl, rfl, ⟨_, _, rfl, rfl, rfl⟩⟩⟩⟩
def vApiInstr (x : ApiInstr) : Prop := in64 x.fOp ∧ in64 x.fA ∧ in64 x.fB ∧ in64 x.fC ∧ in64 x.fN
set_option maxRecDepth 100000 in
theorem opApiInstr : Opens Try.prog 176 kApiInstr vApiInstr := Opens.weak (opens_struct (fun p => (⟨p.1, p.2.1, p.2.2.1, p.2.2.2.1, p.2.2.2.2⟩ : ApiInstr)) (fun _ => rfl) Try.underlying176 (opensF_cons (opens_i64 rfl) rfl (opensF_cons (opens_i64 rfl) rfl (opensF_cons (opens_i64 rfl) rfl (opensF_cons (opens_i64 rfl) rfl (opensF_one (opens_i64 rfl) rfl rfl)))))) (fun _ h => h)
/-! ApiReloc -/
structure ApiReloc where
  fAt : Int
  fSym : Int
  fWide : Bool
instance : Inhabited ApiReloc := ⟨⟨0, 0, false⟩⟩
def kApiReloc : Kd ApiReloc := Kd.iso (Kd.pair (Kd.int .i64) (Kd.pair (Kd.int .i64) Kd.bool)) (fun x => (x.fAt, x.fSym, x.fWide))
theorem kApiReloc_open {w : World} {x : ApiReloc} {cs : List Value} (h : kApiReloc.K w x cs) : cs = [.int .i64 x.fAt, .int .i64 x.fSym, .bool x.fWide] := by
  obtain ⟨_, _, rfl, rfl, ⟨_, _, rfl, rfl, rfl⟩⟩ := h
  exact rfl
theorem kApiReloc_mk (w : World) (x : ApiReloc) : kApiReloc.K w x [.int .i64 x.fAt, .int .i64 x.fSym, .bool x.fWide] := ⟨_, _, rfl, rfl, ⟨_, _, rfl, rfl, rfl⟩⟩
def vApiReloc (x : ApiReloc) : Prop := in64 x.fAt ∧ in64 x.fSym ∧ True
set_option maxRecDepth 100000 in
theorem opApiReloc : Opens Try.prog 178 kApiReloc vApiReloc := Opens.weak (opens_struct (fun p => (⟨p.1, p.2.1, p.2.2⟩ : ApiReloc)) (fun _ => rfl) Try.underlying178 (opensF_cons (opens_i64 rfl) rfl (opensF_cons (opens_i64 rfl) rfl (opensF_one (opens_bool rfl) rfl rfl)))) (fun _ h => h)
/-! ApiFunc -/
structure ApiFunc where
  fClass : Int
  fKinds : List Int
  fPad : Int
  fNosplit : Bool
  fFrom : Int
  fTo : Int
  fLines : List ApiLine
  fCode : List ApiInstr
  fRelocs : List ApiReloc
instance : Inhabited ApiFunc := ⟨⟨0, [], 0, false, 0, 0, [], [], []⟩⟩
def kApiFunc : Kd ApiFunc := Kd.iso (Kd.pair (Kd.int .i64) (Kd.pair (Kd.slice (Kd.int .i64)) (Kd.pair (Kd.int .i64) (Kd.pair Kd.bool (Kd.pair (Kd.int .i64) (Kd.pair (Kd.int .i64) (Kd.pair (Kd.slice kApiLine) (Kd.pair (Kd.slice kApiInstr) (Kd.slice kApiReloc))))))))) (fun x => (x.fClass, x.fKinds, x.fPad, x.fNosplit, x.fFrom, x.fTo, x.fLines, x.fCode, x.fRelocs))
theorem kApiFunc_open {w : World} {x : ApiFunc} {cs : List Value} (h : kApiFunc.K w x cs) : ∃ A0 c0 A1 c1 A2 c2 A3 c3, cs = [.int .i64 x.fClass, .slice A0 x.fKinds.length c0, .int .i64 x.fPad, .bool x.fNosplit, .int .i64 x.fFrom, .int .i64 x.fTo, .slice A1 x.fLines.length c1, .slice A2 x.fCode.length c2, .slice A3 x.fRelocs.length c3] ∧ x.fKinds.length ≤ c0 ∧ (Kd.int .i64).C w A0 x.fKinds ∧ x.fLines.length ≤ c1 ∧ kApiLine.C w A1 x.fLines ∧ x.fCode.length ≤ c2 ∧ kApiInstr.C w A2 x.fCode ∧ x.fRelocs.length ≤ c3 ∧ kApiReloc.C w A3 x.fRelocs := by
  obtain ⟨_, _, rfl, rfl, ⟨_, _, rfl, ⟨A0, c0, rfl, l0, g0⟩, ⟨_, _, rfl, rfl, ⟨_, _, rfl, rfl, ⟨_, _, rfl, rfl, ⟨_, _, rfl, rfl, ⟨_, _, rfl, ⟨A1, c1, rfl, l1, g1⟩, ⟨_, _, rfl, ⟨A2, c2, rfl, l2, g2⟩, ⟨A3, c3, rfl, l3, g3⟩⟩⟩⟩⟩⟩⟩⟩⟩ := h
  exact ⟨A0, c0, A1, c1, A2, c2, A3, c3, rfl, l0, g0, l1, g1, l2, g2, l3, g3⟩
theorem kApiFunc_mk (w : World) (x : ApiFunc) {A0 A1 A2 A3 : Option Addr} {c0 c1 c2 c3 : Nat} (l0 : x.fKinds.length ≤ c0) (g0 : (Kd.int .i64).C w A0 x.fKinds) (l1 : x.fLines.length ≤ c1) (g1 : kApiLine.C w A1 x.fLines) (l2 : x.fCode.length ≤ c2) (g2 : kApiInstr.C w A2 x.fCode) (l3 : x.fRelocs.length ≤ c3) (g3 : kApiReloc.C w A3 x.fRelocs) : kApiFunc.K w x [.int .i64 x.fClass, .slice A0 x.fKinds.length c0, .int .i64 x.fPad, .bool x.fNosplit, .int .i64 x.fFrom, .int .i64 x.fTo, .slice A1 x.fLines.length c1, .slice A2 x.fCode.length c2, .slice A3 x.fRelocs.length c3] := ⟨_, _, rfl, rfl, ⟨_, _, rfl, ⟨A0, c0, rfl, l0, g0⟩, ⟨_, _, rfl, rfl, ⟨_, _, rfl, rfl, ⟨_, _, rfl, rfl, ⟨_, _, rfl, rfl, ⟨_, _, rfl, ⟨A1, c1, rfl, l1, g1⟩, ⟨_, _, rfl, ⟨A2, c2, rfl, l2, g2⟩, ⟨A3, c3, rfl, l3, g3⟩⟩⟩⟩⟩⟩⟩⟩⟩
def vApiFunc (x : ApiFunc) : Prop := in64 x.fClass ∧ (x.fKinds.length ≤ maxLen ∧ ∀ y ∈ x.fKinds, in64 y) ∧ in64 x.fPad ∧ True ∧ in64 x.fFrom ∧ in64 x.fTo ∧ (x.fLines.length ≤ maxLen ∧ ∀ y ∈ x.fLines, vApiLine y) ∧ (x.fCode.length ≤ maxLen ∧ ∀ y ∈ x.fCode, vApiInstr y) ∧ (x.fRelocs.length ≤ maxLen ∧ ∀ y ∈ x.fRelocs, vApiReloc y)
set_option maxRecDepth 100000 in
theorem opApiFunc : Opens Try.prog 114 kApiFunc vApiFunc := Opens.weak (opens_struct (fun p => (⟨p.1, p.2.1, p.2.2.1, p.2.2.2.1, p.2.2.2.2.1, p.2.2.2.2.2.1, p.2.2.2.2.2.2.1, p.2.2.2.2.2.2.2.1, p.2.2.2.2.2.2.2.2⟩ : ApiFunc)) (fun _ => rfl) Try.underlying114 (opensF_cons (opens_i64 rfl) rfl (opensF_cons (opens_slice rfl rfl (opens_i64 rfl)) rfl (opensF_cons (opens_i64 rfl) rfl (opensF_cons (opens_bool rfl) rfl (opensF_cons (opens_i64 rfl) rfl (opensF_cons (opens_i64 rfl) rfl (opensF_cons (opens_slice rfl rfl opApiLine) rfl (opensF_cons (opens_slice rfl rfl opApiInstr) rfl (opensF_one (opens_slice rfl rfl opApiReloc) rfl rfl)))))))))) (fun _ h => h)
/-! ApiData -/
structure ApiData where
  fKind : Int
  fWords : List Int
  fRelocs : List ApiReloc
instance : Inhabited ApiData := ⟨⟨0, [], []⟩⟩
def kApiData : Kd ApiData := Kd.iso (Kd.pair (Kd.int .i64) (Kd.pair (Kd.slice (Kd.int .i64)) (Kd.slice kApiReloc))) (fun x => (x.fKind, x.fWords, x.fRelocs))
theorem kApiData_open {w : World} {x : ApiData} {cs : List Value} (h : kApiData.K w x cs) : ∃ A0 c0 A1 c1, cs = [.int .i64 x.fKind, .slice A0 x.fWords.length c0, .slice A1 x.fRelocs.length c1] ∧ x.fWords.length ≤ c0 ∧ (Kd.int .i64).C w A0 x.fWords ∧ x.fRelocs.length ≤ c1 ∧ kApiReloc.C w A1 x.fRelocs := by
  obtain ⟨_, _, rfl, rfl, ⟨_, _, rfl, ⟨A0, c0, rfl, l0, g0⟩, ⟨A1, c1, rfl, l1, g1⟩⟩⟩ := h
  exact ⟨A0, c0, A1, c1, rfl, l0, g0, l1, g1⟩
theorem kApiData_mk (w : World) (x : ApiData) {A0 A1 : Option Addr} {c0 c1 : Nat} (l0 : x.fWords.length ≤ c0) (g0 : (Kd.int .i64).C w A0 x.fWords) (l1 : x.fRelocs.length ≤ c1) (g1 : kApiReloc.C w A1 x.fRelocs) : kApiData.K w x [.int .i64 x.fKind, .slice A0 x.fWords.length c0, .slice A1 x.fRelocs.length c1] := ⟨_, _, rfl, rfl, ⟨_, _, rfl, ⟨A0, c0, rfl, l0, g0⟩, ⟨A1, c1, rfl, l1, g1⟩⟩⟩
def vApiData (x : ApiData) : Prop := in64 x.fKind ∧ (x.fWords.length ≤ maxLen ∧ ∀ y ∈ x.fWords, in64 y) ∧ (x.fRelocs.length ≤ maxLen ∧ ∀ y ∈ x.fRelocs, vApiReloc y)
set_option maxRecDepth 100000 in
theorem opApiData : Opens Try.prog 118 kApiData vApiData := Opens.weak (opens_struct (fun p => (⟨p.1, p.2.1, p.2.2⟩ : ApiData)) (fun _ => rfl) Try.underlying118 (opensF_cons (opens_i64 rfl) rfl (opensF_cons (opens_slice rfl rfl (opens_i64 rfl)) rfl (opensF_one (opens_slice rfl rfl opApiReloc) rfl rfl)))) (fun _ h => h)
/-! ApiObject -/
structure ApiObject where
  fSymbols : List ApiSymbol
  fFuncs : List ApiFunc
  fDatas : List ApiData
instance : Inhabited ApiObject := ⟨⟨[], [], []⟩⟩
def kApiObject : Kd ApiObject := Kd.iso (Kd.pair (Kd.slice kApiSymbol) (Kd.pair (Kd.slice kApiFunc) (Kd.slice kApiData))) (fun x => (x.fSymbols, x.fFuncs, x.fDatas))
theorem kApiObject_open {w : World} {x : ApiObject} {cs : List Value} (h : kApiObject.K w x cs) : ∃ A0 c0 A1 c1 A2 c2, cs = [.slice A0 x.fSymbols.length c0, .slice A1 x.fFuncs.length c1, .slice A2 x.fDatas.length c2] ∧ x.fSymbols.length ≤ c0 ∧ kApiSymbol.C w A0 x.fSymbols ∧ x.fFuncs.length ≤ c1 ∧ kApiFunc.C w A1 x.fFuncs ∧ x.fDatas.length ≤ c2 ∧ kApiData.C w A2 x.fDatas := by
  obtain ⟨_, _, rfl, ⟨A0, c0, rfl, l0, g0⟩, ⟨_, _, rfl, ⟨A1, c1, rfl, l1, g1⟩, ⟨A2, c2, rfl, l2, g2⟩⟩⟩ := h
  exact ⟨A0, c0, A1, c1, A2, c2, rfl, l0, g0, l1, g1, l2, g2⟩
theorem kApiObject_mk (w : World) (x : ApiObject) {A0 A1 A2 : Option Addr} {c0 c1 c2 : Nat} (l0 : x.fSymbols.length ≤ c0) (g0 : kApiSymbol.C w A0 x.fSymbols) (l1 : x.fFuncs.length ≤ c1) (g1 : kApiFunc.C w A1 x.fFuncs) (l2 : x.fDatas.length ≤ c2) (g2 : kApiData.C w A2 x.fDatas) : kApiObject.K w x [.slice A0 x.fSymbols.length c0, .slice A1 x.fFuncs.length c1, .slice A2 x.fDatas.length c2] := ⟨_, _, rfl, ⟨A0, c0, rfl, l0, g0⟩, ⟨_, _, rfl, ⟨A1, c1, rfl, l1, g1⟩, ⟨A2, c2, rfl, l2, g2⟩⟩⟩
def vApiObject (x : ApiObject) : Prop := (x.fSymbols.length ≤ maxLen ∧ ∀ y ∈ x.fSymbols, vApiSymbol y) ∧ (x.fFuncs.length ≤ maxLen ∧ ∀ y ∈ x.fFuncs, vApiFunc y) ∧ (x.fDatas.length ≤ maxLen ∧ ∀ y ∈ x.fDatas, vApiData y)
set_option maxRecDepth 100000 in
theorem opApiObject : Opens Try.prog 40 kApiObject vApiObject := Opens.weak (opens_struct (fun p => (⟨p.1, p.2.1, p.2.2⟩ : ApiObject)) (fun _ => rfl) Try.underlying40 (opensF_cons (opens_slice rfl rfl opApiSymbol) rfl (opensF_cons (opens_slice rfl rfl opApiFunc) rfl (opensF_one (opens_slice rfl rfl opApiData) rfl rfl)))) (fun _ h => h)
/-! Law06Move -/
structure Law06Move where
  fKind : Int
  fID : Int
  fKey : Int
instance : Inhabited Law06Move := ⟨⟨0, 0, 0⟩⟩
def kLaw06Move : Kd Law06Move := Kd.iso (Kd.pair (Kd.int .i64) (Kd.pair (Kd.int .i64) (Kd.int .i64))) (fun x => (x.fKind, x.fID, x.fKey))
theorem kLaw06Move_open {w : World} {x : Law06Move} {cs : List Value} (h : kLaw06Move.K w x cs) : cs = [.int .i64 x.fKind, .int .i64 x.fID, .int .i64 x.fKey] := by
  obtain ⟨_, _, rfl, rfl, ⟨_, _, rfl, rfl, rfl⟩⟩ := h
  exact rfl
theorem kLaw06Move_mk (w : World) (x : Law06Move) : kLaw06Move.K w x [.int .i64 x.fKind, .int .i64 x.fID, .int .i64 x.fKey] := ⟨_, _, rfl, rfl, ⟨_, _, rfl, rfl, rfl⟩⟩
def vLaw06Move (x : Law06Move) : Prop := in64 x.fKind ∧ in64 x.fID ∧ in64 x.fKey
set_option maxRecDepth 100000 in
theorem opLaw06Move : Opens Try.prog 49 kLaw06Move vLaw06Move := Opens.weak (opens_struct (fun p => (⟨p.1, p.2.1, p.2.2⟩ : Law06Move)) (fun _ => rfl) Try.underlying49 (opensF_cons (opens_i64 rfl) rfl (opensF_cons (opens_i64 rfl) rfl (opensF_one (opens_i64 rfl) rfl rfl)))) (fun _ h => h)
/-! Ref06Item -/
structure Ref06Item where
  fID : Int
  fKey : Int
instance : Inhabited Ref06Item := ⟨⟨0, 0⟩⟩
def kRef06Item : Kd Ref06Item := Kd.iso (Kd.pair (Kd.int .i64) (Kd.int .i64)) (fun x => (x.fID, x.fKey))
theorem kRef06Item_open {w : World} {x : Ref06Item} {cs : List Value} (h : kRef06Item.K w x cs) : cs = [.int .i64 x.fID, .int .i64 x.fKey] := by
  obtain ⟨_, _, rfl, rfl, rfl⟩ := h
  exact rfl
theorem kRef06Item_mk (w : World) (x : Ref06Item) : kRef06Item.K w x [.int .i64 x.fID, .int .i64 x.fKey] := ⟨_, _, rfl, rfl, rfl⟩
def vRef06Item (x : Ref06Item) : Prop := in64 x.fID ∧ in64 x.fKey
set_option maxRecDepth 100000 in
theorem opRef06Item : Opens Try.prog 59 kRef06Item vRef06Item := Opens.weak (opens_struct (fun p => (⟨p.1, p.2⟩ : Ref06Item)) (fun _ => rfl) Try.underlying59 (opensF_cons (opens_i64 rfl) rfl (opensF_one (opens_i64 rfl) rfl rfl))) (fun _ h => h)
/-! ScopePlace -/
structure ScopePlace where
  ffile : Int
  fsym : Int
instance : Inhabited ScopePlace := ⟨⟨0, 0⟩⟩
def kScopePlace : Kd ScopePlace := Kd.iso (Kd.pair (Kd.int .i64) (Kd.int .i64)) (fun x => (x.ffile, x.fsym))
theorem kScopePlace_open {w : World} {x : ScopePlace} {cs : List Value} (h : kScopePlace.K w x cs) : cs = [.int .i64 x.ffile, .int .i64 x.fsym] := by
  obtain ⟨_, _, rfl, rfl, rfl⟩ := h
  exact rfl
theorem kScopePlace_mk (w : World) (x : ScopePlace) : kScopePlace.K w x [.int .i64 x.ffile, .int .i64 x.fsym] := ⟨_, _, rfl, rfl, rfl⟩
def vScopePlace (x : ScopePlace) : Prop := in64 x.ffile ∧ in64 x.fsym
set_option maxRecDepth 100000 in
theorem opScopePlace : Opens Try.prog 81 kScopePlace vScopePlace := Opens.weak (opens_struct (fun p => (⟨p.1, p.2⟩ : ScopePlace)) (fun _ => rfl) Try.underlying81 (opensF_cons (opens_i64 rfl) rfl (opensF_one (opens_i64 rfl) rfl rfl))) (fun _ h => h)
/-! QueueItem -/
structure QueueItem where
  fid : Int
  fkey : Int
  fat : Int
instance : Inhabited QueueItem := ⟨⟨0, 0, 0⟩⟩
def kQueueItem : Kd QueueItem := Kd.iso (Kd.pair (Kd.int .i64) (Kd.pair (Kd.int .i64) (Kd.int .i64))) (fun x => (x.fid, x.fkey, x.fat))
theorem kQueueItem_open {w : World} {x : QueueItem} {cs : List Value} (h : kQueueItem.K w x cs) : cs = [.int .i64 x.fid, .int .i64 x.fkey, .int .i64 x.fat] := by
  obtain ⟨_, _, rfl, rfl, ⟨_, _, rfl, rfl, rfl⟩⟩ := h
  exact rfl
theorem kQueueItem_mk (w : World) (x : QueueItem) : kQueueItem.K w x [.int .i64 x.fid, .int .i64 x.fkey, .int .i64 x.fat] := ⟨_, _, rfl, rfl, ⟨_, _, rfl, rfl, rfl⟩⟩
def vQueueItem (x : QueueItem) : Prop := in64 x.fid ∧ in64 x.fkey ∧ in64 x.fat
set_option maxRecDepth 100000 in
theorem opQueueItem : Opens Try.prog 98 kQueueItem vQueueItem := Opens.weak (opens_struct (fun p => (⟨p.1, p.2.1, p.2.2⟩ : QueueItem)) (fun _ => rfl) Try.underlying98 (opensF_cons (opens_i64 rfl) rfl (opensF_cons (opens_i64 rfl) rfl (opensF_one (opens_i64 rfl) rfl rfl)))) (fun _ h => h)
end Go.Proofs.YtnidmlngkpkmlaaT
