/-
  The structs that are data: their kinds (written by kkinds.py).
-/
import Derived.Test.YtcacohoanlljhaaMA
import Derived.Test.YtcacohoanlljhaaProg
namespace Go.Proofs.YtcacohoanlljhaaT
set_option linter.unusedVariables false
set_option linter.unusedSimpArgs false
open Go.RowKit Go.Proofs.YtcacohoanlljhaaK Go.ChangeShapes Go.WideShapes
/-! ApiLine -/
structure ApiLine where
  fAt : Int
  fLine : Int
instance : Inhabited ApiLine := ⟨⟨0, 0⟩⟩
def kApiLine : Kd ApiLine := Kd.iso (Kd.pair (Kd.int .i64) (Kd.int .i64)) (fun x => (x.fAt, x.fLine))
theorem kApiLine_open {w : World} {x : ApiLine} {cs : List Value} (h : kApiLine.K w x cs) : cs = [.int .i64 x.fAt, .int .i64 x.fLine] := by
  obtain ⟨_, _, rfl, rfl, rfl⟩ := h
  exact rfl
theorem kApiLine_mk (w : World) (x : ApiLine) : kApiLine.K w x [.int .i64 x.fAt, .int .i64 x.fLine] := ⟨_, _, rfl, rfl, rfl⟩
def vApiLine (x : ApiLine) : Prop := in64 x.fAt ∧ in64 x.fLine
set_option maxRecDepth 100000 in
theorem opApiLine : Opens Try.prog 110 kApiLine vApiLine := Opens.weak (opens_struct (fun p => (⟨p.1, p.2⟩ : ApiLine)) (fun _ => rfl) Try.underlying110 (opensF_cons (opens_i64 rfl) rfl (opensF_one (opens_i64 rfl) rfl rfl))) (fun _ h => h)
/-! ApiInstr -/
structure ApiInstr where
  fOp : Int
  fA : Int
  fB : Int
  fC : Int
  fN : Int
instance : Inhabited ApiInstr := ⟨⟨0, 0, 0, 0, 0⟩⟩
def kApiInstr : Kd ApiInstr := Kd.iso (Kd.pair (Kd.int .i64) (Kd.pair (Kd.int .i64) (Kd.pair (Kd.int .i64) (Kd.pair (Kd.int .i64) (Kd.int .i64))))) (fun x => (x.fOp, x.fA, x.fB, x.fC, x.fN))
theorem kApiInstr_open {w : World} {x : ApiInstr} {cs : List Value} (h : kApiInstr.K w x cs) : cs = [.int .i64 x.fOp, .int .i64 x.fA, .int .i64 x.fB, .int .i64 x.fC, .int .i64 x.fN] := by
  obtain ⟨_, _, rfl, rfl, ⟨_, _, rfl, rfl, ⟨_, _, rfl, rfl, ⟨_, _, rfl, rfl, rfl⟩⟩⟩⟩ := h
  exact rfl
theorem kApiInstr_mk (w : World) (x : ApiInstr) : kApiInstr.K w x [.int .i64 x.fOp, .int .i64 x.fA, .int .i64 x.fB, .int .i64 x.fC, .int .i64 x.fN] := ⟨_, _, rfl, rfl, ⟨_, _, rfl, rfl, ⟨_, _, rfl, rfl, ⟨_, _, rfl, rfl, rfl⟩⟩⟩⟩
def vApiInstr (x : ApiInstr) : Prop := in64 x.fOp ∧ in64 x.fA ∧ in64 x.fB ∧ in64 x.fC ∧ in64 x.fN
set_option maxRecDepth 100000 in
theorem opApiInstr : Opens Try.prog 66 kApiInstr vApiInstr := Opens.weak (opens_struct (fun p => (⟨p.1, p.2.1, p.2.2.1, p.2.2.2.1, p.2.2.2.2⟩ : ApiInstr)) (fun _ => rfl) Try.underlying66 (opensF_cons (opens_i64 rfl) rfl (opensF_cons (opens_i64 rfl) rfl (opensF_cons (opens_i64 rfl) rfl (opensF_cons (opens_i64 rfl) rfl (opensF_one (opens_i64 rfl) rfl rfl)))))) (fun _ h => h)
/-! ApiReloc -/
structure ApiReloc where
  fAt : Int
  fSym : Int
  fWide : Bool
instance : Inhabited ApiReloc := ⟨⟨0, 0, false⟩⟩
def kApiReloc : Kd ApiReloc := Kd.iso (Kd.pair (Kd.int .i64) (Kd.pair (Kd.int .i64) Kd.bool)) (fun x => (x.fAt, x.fSym, x.fWide))
theorem kApiReloc_open {w : World} {x : ApiReloc} {cs : List Value} (h : kApiReloc.K w x cs) : cs = [.int .i64 x.fAt, .int .i64 x.fSym, .bool x.fWide] := by
  obtain ⟨_, _, rfl, rfl, ⟨_, _, rfl, rfl, rfl⟩⟩ := h
  exact rfl
theorem kApiReloc_mk (w : World) (x : ApiReloc) : kApiReloc.K w x [.int .i64 x.fAt, .int .i64 x.fSym, .bool x.fWide] := ⟨_, _, rfl, rfl, ⟨_, _, rfl, rfl, rfl⟩⟩
def vApiReloc (x : ApiReloc) : Prop := in64 x.fAt ∧ in64 x.fSym ∧ True
set_option maxRecDepth 100000 in
theorem opApiReloc : Opens Try.prog 69 kApiReloc vApiReloc := Opens.weak (opens_struct (fun p => (⟨p.1, p.2.1, p.2.2⟩ : ApiReloc)) (fun _ => rfl) Try.underlying69 (opensF_cons (opens_i64 rfl) rfl (opensF_cons (opens_i64 rfl) rfl (opensF_one (opens_bool rfl) rfl rfl)))) (fun _ h => h)
/-! ApiFunc -/
structure ApiFunc where
  fClass : Int
  fKinds : List Int
  fPad : Int
  fNosplit : Bool
  fFrom : Int
  fTo : Int
  fLines : List ApiLine
  fCode : List ApiInstr
  fRelocs : List ApiReloc
instance : Inhabited ApiFunc := ⟨⟨0, [], 0, false, 0, 0, [], [], []⟩⟩
def kApiFunc : Kd ApiFunc := Kd.iso (Kd.pair (Kd.int .i64) (Kd.pair (Kd.slice (Kd.int .i64)) (Kd.pair (Kd.int .i64) (Kd.pair Kd.bool (Kd.pair (Kd.int .i64) (Kd.pair (Kd.int .i64) (Kd.pair (Kd.slice kApiLine) (Kd.pair (Kd.slice kApiInstr) (Kd.slice kApiReloc))))))))) (fun x => (x.fClass, x.fKinds, x.fPad, x.fNosplit, x.fFrom, x.fTo, x.fLines, x.fCode, x.fRelocs))
theorem kApiFunc_open {w : World} {x : ApiFunc} {cs : List Value} (h : kApiFunc.K w x cs) : ∃ A0 c0 A1 c1 A2 c2 A3 c3, cs = [.int .i64 x.fClass, .slice A0 x.fKinds.length c0, .int .i64 x.fPad, .bool x.fNosplit, .int .i64 x.fFrom, .int .i64 x.fTo, .slice A1 x.fLines.length c1, .slice A2 x.fCode.length c2, .slice A3 x.fRelocs.length c3] ∧ x.fKinds.length ≤ c0 ∧ (Kd.int .i64).C w A0 x.fKinds ∧ x.fLines.length ≤ c1 ∧ kApiLine.C w A1 x.fLines ∧ x.fCode.length ≤ c2 ∧ kApiInstr.C w A2 x.fCode ∧ x.fRelocs.length ≤ c3 ∧ kApiReloc.C w A3 x.fRelocs := by
  obtain ⟨_, _, rfl, rfl, ⟨_, _, rfl, ⟨A0, c0, rfl, l0, g0⟩, ⟨_, _, rfl, rfl, ⟨_, _, rfl, rfl, ⟨_, _, rfl, rfl, ⟨_, _, rfl, rfl, ⟨_, _, rfl, ⟨A1, c1, rfl, l1, g1⟩, ⟨_, _, rfl, ⟨A2, c2, rfl, l2, g2⟩, ⟨A3, c3, rfl, l3, g3⟩⟩⟩⟩⟩⟩⟩⟩⟩ := h
  exact ⟨A0, c0, A1, c1, A2, c2, A3, c3, rfl, l0, g0, l1, g1, l2, g2, l3, g3⟩
theorem kApiFunc_mk (w : World) (x : ApiFunc) {A0 A1 A2 A3 : Option Addr} {c0 c1 c2 c3 : Nat} (l0 : x.fKinds.length ≤ c0) (g0 : (Kd.int .i64).C w A0 x.fKinds) (l1 : x.fLines.length ≤ c1) (g1 : kApiLine.C w A1 x.fLines) (l2 : x.fCode.length ≤ c2) (g2 : kApiInstr.C w A2 x.fCode) (l3 : x.fRelocs.length ≤ c3) (g3 : kApiReloc.C w A3 x.fRelocs) : kApiFunc.K w x [.int .i64 x.fClass, .slice A0 x.fKinds.length c0, .int .i64 x.fPad, .bool x.fNosplit, .int .i64 x.fFrom, .int .i64 x.fTo, .slice A1 x.fLines.length c1, .slice A2 x.fCode.length c2, .slice A3 x.fRelocs.length c3] := ⟨_, _, rfl, rfl, ⟨_, _, rfl, ⟨A0, c0, rfl, l0, g0⟩, ⟨_, _, rfl, rfl, ⟨_, _, rfl, rfl, ⟨_, _, rfl, rfl, ⟨_, _, rfl, rfl, ⟨_, _, rfl, ⟨A1, c1, rfl, l1, g1⟩, ⟨_, _, rfl, ⟨A2, c2, rfl, l2, g2⟩, ⟨A3, c3, rfl, l3, g3⟩⟩⟩⟩⟩⟩⟩⟩⟩
def vApiFunc (x : ApiFunc) : Prop := in64 x.fClass ∧ (x.fKinds.length ≤ maxLen ∧ ∀ y ∈ x.fKinds, in64 y) ∧ in64 x.fPad ∧ True ∧ in64 x.fFrom ∧ in64 x.fTo ∧ (x.fLines.length ≤ maxLen ∧ ∀ y ∈ x.fLines, vApiLine y) ∧ (x.fCode.length ≤ maxLen ∧ ∀ y ∈ x.fCode, vApiInstr y) ∧ (x.fRelocs.length ≤ maxLen ∧ ∀ y ∈ x.fRelocs, vApiReloc y)
set_option maxRecDepth 100000 in
theorem opApiFunc : Opens Try.prog 39 kApiFunc vApiFunc := Opens.weak (opens_struct (fun p => (⟨p.1, p.2.1, p.2.2.1, p.2.2.2.1, p.2.2.2.2.1, p.2.2.2.2.2.1, p.2.2.2.2.2.2.1, p.2.2.2.2.2.2.2.1, p.2.2.2.2.2.2.2.2⟩ : ApiFunc)) (fun _ => rfl) Try.underlying39 (opensF_cons (opens_i64 rfl) rfl (opensF_cons (opens_slice rfl rfl (opens_i64 rfl)) rfl (opensF_cons (opens_i64 rfl) rfl (opensF_cons (opens_bool rfl) rfl (opensF_cons (opens_i64 rfl) rfl (opensF_cons (opens_i64 rfl) rfl (opensF_cons (opens_slice rfl rfl opApiLine) rfl (opensF_cons (opens_slice rfl rfl opApiInstr) rfl (opensF_one (opens_slice rfl rfl opApiReloc) rfl rfl)))))))))) (fun _ h => h)
/-! ApiSymbol -/
structure ApiSymbol where
  fName : ByteArray
  fLocal : Bool
  fSort : Int
  fKind : Int
  fDef : Int
instance : Inhabited ApiSymbol := ⟨⟨ByteArray.empty, false, 0, 0, 0⟩⟩
def kApiSymbol : Kd ApiSymbol := Kd.iso (Kd.pair Kd.string (Kd.pair Kd.bool (Kd.pair (Kd.int .i64) (Kd.pair (Kd.int .i64) (Kd.int .i64))))) (fun x => (x.fName, x.fLocal, x.fSort, x.fKind, x.fDef))
theorem kApiSymbol_open {w : World} {x : ApiSymbol} {cs : List Value} (h : kApiSymbol.K w x cs) : cs = [.string x.fName, .bool x.fLocal, .int .i64 x.fSort, .int .i64 x.fKind, .int .i64 x.fDef] := by
  obtain ⟨_, _, rfl, rfl, ⟨_, _, rfl, rfl, ⟨_, _, rfl, rfl, ⟨_, _, rfl, rfl, rfl⟩⟩⟩⟩ := h
  exact rfl
theorem kApiSymbol_mk (w : World) (x : ApiSymbol) : kApiSymbol.K w x [.string x.fName, .bool x.fLocal, .int .i64 x.fSort, .int .i64 x.fKind, .int .i64 x.fDef] := ⟨_, _, rfl, rfl, ⟨_, _, rfl, rfl, ⟨_, _, rfl, rfl, ⟨_, _, rfl, rfl, rfl⟩⟩⟩⟩
def vApiSymbol (x : ApiSymbol) : Prop := x.fName.size ≤ maxLen ∧ True ∧ in64 x.fSort ∧ in64 x.fKind ∧ in64 x.fDef
set_option maxRecDepth 100000 in
theorem opApiSymbol : Opens Try.prog 62 kApiSymbol vApiSymbol := Opens.weak (opens_struct (fun p => (⟨p.1, p.2.1, p.2.2.1, p.2.2.2.1, p.2.2.2.2⟩ : ApiSymbol)) (fun _ => rfl) Try.underlying62 (opensF_cons (opens_string rfl) rfl (opensF_cons (opens_bool rfl) rfl (opensF_cons (opens_i64 rfl) rfl (opensF_cons (opens_i64 rfl) rfl (opensF_one (opens_i64 rfl) rfl rfl)))))) (fun _ h => h)
/-! VerifyChecker -/
structure VerifyChecker where
  ff : ApiFunc
  fx : ApiInstr
  fsym : ApiSymbol
  fclass : Int
instance : Inhabited VerifyChecker := ⟨⟨default, default, default, 0⟩⟩
def kVerifyChecker : Kd VerifyChecker := Kd.iso (Kd.pair kApiFunc (Kd.pair kApiInstr (Kd.pair kApiSymbol (Kd.int .i64)))) (fun x => (x.ff, x.fx, x.fsym, x.fclass))
theorem kVerifyChecker_open {w : World} {x : VerifyChecker} {cs : List Value} (h : kVerifyChecker.K w x cs) : ∃ A0 c0 A1 c1 A2 c2 A3 c3, cs = [.int .i64 x.ff.fClass, .slice A0 x.ff.fKinds.length c0, .int .i64 x.ff.fPad, .bool x.ff.fNosplit, .int .i64 x.ff.fFrom, .int .i64 x.ff.fTo, .slice A1 x.ff.fLines.length c1, .slice A2 x.ff.fCode.length c2, .slice A3 x.ff.fRelocs.length c3, .int .i64 x.fx.fOp, .int .i64 x.fx.fA, .int .i64 x.fx.fB, .int .i64 x.fx.fC, .int .i64 x.fx.fN, .string x.fsym.fName, .bool x.fsym.fLocal, .int .i64 x.fsym.fSort, .int .i64 x.fsym.fKind, .int .i64 x.fsym.fDef, .int .i64 x.fclass] ∧ x.ff.fKinds.length ≤ c0 ∧ (Kd.int .i64).C w A0 x.ff.fKinds ∧ x.ff.fLines.length ≤ c1 ∧ kApiLine.C w A1 x.ff.fLines ∧ x.ff.fCode.length ≤ c2 ∧ kApiInstr.C w A2 x.ff.fCode ∧ x.ff.fRelocs.length ≤ c3 ∧ kApiReloc.C w A3 x.ff.fRelocs := by
  obtain ⟨_, _, rfl, h0, ⟨_, _, rfl, h1, ⟨_, _, rfl, h2, rfl⟩⟩⟩ := h
  obtain ⟨A0, c0, A1, c1, A2, c2, A3, c3, rfl, l0, g0, l1, g1, l2, g2, l3, g3⟩ := kApiFunc_open h0
  obtain rfl := kApiInstr_open h1
  obtain rfl := kApiSymbol_open h2
  exact ⟨A0, c0, A1, c1, A2, c2, A3, c3, rfl, l0, g0, l1, g1, l2, g2, l3, g3⟩
theorem kVerifyChecker_mk (w : World) (x : VerifyChecker) {A0 A1 A2 A3 : Option Addr} {c0 c1 c2 c3 : Nat} (l0 : x.ff.fKinds.length ≤ c0) (g0 : (Kd.int .i64).C w A0 x.ff.fKinds) (l1 : x.ff.fLines.length ≤ c1) (g1 : kApiLine.C w A1 x.ff.fLines) (l2 : x.ff.fCode.length ≤ c2) (g2 : kApiInstr.C w A2 x.ff.fCode) (l3 : x.ff.fRelocs.length ≤ c3) (g3 : kApiReloc.C w A3 x.ff.fRelocs) : kVerifyChecker.K w x [.int .i64 x.ff.fClass, .slice A0 x.ff.fKinds.length c0, .int .i64 x.ff.fPad, .bool x.ff.fNosplit, .int .i64 x.ff.fFrom, .int .i64 x.ff.fTo, .slice A1 x.ff.fLines.length c1, .slice A2 x.ff.fCode.length c2, .slice A3 x.ff.fRelocs.length c3, .int .i64 x.fx.fOp, .int .i64 x.fx.fA, .int .i64 x.fx.fB, .int .i64 x.fx.fC, .int .i64 x.fx.fN, .string x.fsym.fName, .bool x.fsym.fLocal, .int .i64 x.fsym.fSort, .int .i64 x.fsym.fKind, .int .i64 x.fsym.fDef, .int .i64 x.fclass] := ⟨_, _, rfl, ⟨_, _, rfl, rfl, ⟨_, _, rfl, ⟨A0, c0, rfl, l0, g0⟩, ⟨_, _, rfl, rfl, ⟨_, _, rfl, rfl, ⟨_, _, rfl, rfl, ⟨_, _, rfl, rfl, ⟨_, _, rfl, ⟨A1, c1, rfl, l1, g1⟩, ⟨_, _, rfl, ⟨A2, c2, rfl, l2, g2⟩, ⟨A3, c3, rfl, l3, g3⟩⟩⟩⟩⟩⟩⟩⟩⟩, ⟨_, _, rfl, ⟨_, _, rfl, rfl, ⟨_, _, rfl, rfl, ⟨_, _, rfl, rfl, ⟨_, _, rfl, rfl, rfl⟩⟩⟩⟩, ⟨_, _, rfl, ⟨_, _, rfl, rfl, ⟨_, _, rfl, rfl, ⟨_, _, rfl, rfl, ⟨_, _, rfl, rfl, rfl⟩⟩⟩⟩, rfl⟩⟩⟩
def vVerifyChecker (x : VerifyChecker) : Prop := vApiFunc x.ff ∧ vApiInstr x.fx ∧ vApiSymbol x.fsym ∧ in64 x.fclass
set_option maxRecDepth 100000 in
theorem opVerifyChecker : Opens Try.prog 86 kVerifyChecker vVerifyChecker := Opens.weak (opens_struct (fun p => (⟨p.1, p.2.1, p.2.2.1, p.2.2.2⟩ : VerifyChecker)) (fun _ => rfl) Try.underlying86 (opensF_cons opApiFunc rfl (opensF_cons opApiInstr rfl (opensF_cons opApiSymbol rfl (opensF_one (opens_i64 rfl) rfl rfl))))) (fun _ h => h)
/-! QueueItem -/
structure QueueItem where
  fid : Int
  fkey : Int
  fat : Int
instance : Inhabited QueueItem := ⟨⟨0, 0, 0⟩⟩
def kQueueItem : Kd QueueItem := Kd.iso (Kd.pair (Kd.int .i64) (Kd.pair (Kd.int .i64) (Kd.int .i64))) (fun x => (x.fid, x.fkey, x.fat))
theorem kQueueItem_open {w : World} {x : QueueItem} {cs : List Value} (h : kQueueItem.K w x cs) : cs = [.int .i64 x.fid, .int .i64 x.fkey, .int .i64 x.fat] := by
  obtain ⟨_, _, rfl, rfl, ⟨_, _, rfl, rfl, rfl⟩⟩ := h
  exact rfl
theorem kQueueItem_mk (w : World) (x : QueueItem) : kQueueItem.K w x [.int .i64 x.fid, .int .i64 x.fkey, .int .i64 x.fat] := ⟨_, _, rfl, rfl, ⟨_, _, rfl, rfl, rfl⟩⟩
def vQueueItem (x : QueueItem) : Prop := in64 x.fid ∧ in64 x.fkey ∧ in64 x.fat
set_option maxRecDepth 100000 in
theorem opQueueItem : Opens Try.prog 122 kQueueItem vQueueItem := Opens.weak (opens_struct (fun p => (⟨p.1, p.2.1, p.2.2⟩ : QueueItem)) (fun _ => rfl) Try.underlying122 (opensF_cons (opens_i64 rfl) rfl (opensF_cons (opens_i64 rfl) rfl (opensF_one (opens_i64 rfl) rfl rfl)))) (fun _ h => h)
end Go.Proofs.YtcacohoanlljhaaT
