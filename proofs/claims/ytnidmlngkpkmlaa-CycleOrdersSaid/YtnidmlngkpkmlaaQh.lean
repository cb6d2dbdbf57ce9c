/-
  Package queue: New and the methods, over sorted lists.
-/
import Derived.Test.YtnidmlngkpkmlaaQg
namespace Go.Proofs.YtnidmlngkpkmlaaQ
set_option linter.unusedVariables false
set_option linter.unusedSimpArgs false
open Go.RowKit Go.Proofs.YtnidmlngkpkmlaaK

/-- A queue that nobody made. -/
inductive Dead : Option Addr → List Res → Prop
  | nil : Dead none []
  | odd {q : Nat} : Dead (some ⟨q, 0, none⟩) [blk q 66 [.pointer none]]

set_option maxRecDepth 100000 in
theorem live_yes {B : Base} {w : World} {q p : Nat} {s : Pile} (hS : St B (queueR q p s) w) :
    CallsIn Fence.wide 0 Try.prog 51 #[ptrV q] w (Ret B (fun _ : Unit => True) (fun _ => .bool true) (fun _ => queueR q p s)) := by
  unfold queueR at hS ⊢
  (refine enter Try.func51 rfl rfl hS ?_; simp only [List.zipIdx_cons, List.zipIdx_nil, List.map_cons, List.map_nil, Nat.reduceAdd, Nat.zero_add])
  refine wSeq ?_
  refine wRegion' ?_
  refine oAssign rfl ?_
  refine oNil ?_
  refine thn_n ?_
  refine wSeq ?_
  refine wRegion' ?_
  refine oMove rfl ?_
  refine oNeqP rfl rfl rfl ?_
  refine oMove rfl ?_
  first | refine oSplit (t := 5) rfl (fun h5 => ?_) (fun h5 => ?_) | refine oSplitB (t := 5) rfl (fun h5 => ?_) (fun h5 => ?_)
  ·
    refine oWant rfl rfl ?_
    refine oMove rfl ?_
    refine oWant rfl rfl ?_
    refine oPtr rfl ?_
    refine oWant rfl rfl ?_
    refine oFld (n := 0) (m := 0) rfl rfl rfl ?_
    refine oWant rfl rfl ?_
    refine oLd rfl (by repeat (first | exact Pick.here | apply Pick.there)) rfl rfl ?_
    refine oWant rfl rfl ?_
    refine oNeqP rfl rfl rfl ?_
    refine oPickT rfl rfl ?_
    refine oAssign rfl ?_
    refine oNil ?_
    refine thn_n ?_
    refine wRet ?_
    refine fin_r ?_
    refine ⟨rfl, _, (ResL.cons (ResR.tmp rfl) ResL.nil), ?_⟩
    exact ⟨(), trivial, by simp [resVal], (Leads.has (by repeat' (first | exact Has.nil | exact Pick.here | apply Has.cons | apply Pick.there)))⟩
  ·
    exact absurd h5 (by simp)
set_option maxRecDepth 100000 in
theorem live_no {B : Base} {w : World} {A : Option Addr} {H : List Res} (hA : Dead A H) (hS : St B H w) :
    CallsIn Fence.wide 0 Try.prog 51 #[.pointer A] w (Ret B (fun _ : Unit => True) (fun _ => .bool false) (fun _ => H)) := by
  cases hA with
  | nil =>
    (refine enter Try.func51 rfl rfl hS ?_; simp only [List.zipIdx_cons, List.zipIdx_nil, List.map_cons, List.map_nil, Nat.reduceAdd, Nat.zero_add])
    refine wSeq ?_
    refine wRegion' ?_
    refine oAssign rfl ?_
    refine oNil ?_
    refine thn_n ?_
    refine wSeq ?_
    refine wRegion' ?_
    refine oMove rfl ?_
    refine oNeqP rfl rfl rfl ?_
    refine oMove rfl ?_
    first | refine oSplit (t := 5) rfl (fun h5 => ?_) (fun h5 => ?_) | refine oSplitB (t := 5) rfl (fun h5 => ?_) (fun h5 => ?_)
    ·
      exact absurd rfl h5
    ·
      refine oSkip rfl rfl rfl rfl ?_
      refine oSkip rfl rfl rfl rfl ?_
      refine oSkip rfl rfl rfl rfl ?_
      refine oSkip rfl rfl rfl rfl ?_
      refine oSkip rfl rfl rfl rfl ?_
      refine oPickF rfl rfl ?_
      refine oAssign rfl ?_
      refine oNil ?_
      refine thn_n ?_
      refine wRet ?_
      refine fin_r ?_
      refine ⟨rfl, _, (ResL.cons (ResR.tmp rfl) ResL.nil), ?_⟩
      exact ⟨(), trivial, by simp [resVal], (Leads.has (by repeat' (first | exact Has.nil | exact Pick.here | apply Has.cons | apply Pick.there)))⟩
  | odd =>
    (refine enter Try.func51 rfl rfl hS ?_; simp only [List.zipIdx_cons, List.zipIdx_nil, List.map_cons, List.map_nil, Nat.reduceAdd, Nat.zero_add])
    refine wSeq ?_
    refine wRegion' ?_
    refine oAssign rfl ?_
    refine oNil ?_
    refine thn_n ?_
    refine wSeq ?_
    refine wRegion' ?_
    refine oMove rfl ?_
    refine oNeqP rfl rfl rfl ?_
    refine oMove rfl ?_
    first | refine oSplit (t := 5) rfl (fun h5 => ?_) (fun h5 => ?_) | refine oSplitB (t := 5) rfl (fun h5 => ?_) (fun h5 => ?_)
    ·
      refine oWant rfl rfl ?_
      refine oMove rfl ?_
      refine oWant rfl rfl ?_
      refine oPtr rfl ?_
      refine oWant rfl rfl ?_
      refine oFld (n := 0) (m := 0) rfl rfl rfl ?_
      refine oWant rfl rfl ?_
      refine oLd rfl (by repeat (first | exact Pick.here | apply Pick.there)) rfl rfl ?_
      refine oWant rfl rfl ?_
      refine oNeqP rfl rfl rfl ?_
      refine oPickT rfl rfl ?_
      refine oAssign rfl ?_
      refine oNil ?_
      refine thn_n ?_
      refine wRet ?_
      refine fin_r ?_
      refine ⟨rfl, _, (ResL.cons (ResR.tmp rfl) ResL.nil), ?_⟩
      exact ⟨(), trivial, by simp [resVal], (Leads.has (by repeat' (first | exact Has.nil | exact Pick.here | apply Has.cons | apply Pick.there)))⟩
    ·
      exact absurd h5 (by simp)

set_option maxRecDepth 100000 in
theorem queue_New {B : Base} {w : World} (hS : St B [] w) :
    CallsIn Fence.wide 0 Try.prog 24 #[] w (Ret B (fun i : Nat × Nat × Pile => QOk i.2.2 []) (fun i => ptrV i.1) (fun i => queueR i.1 i.2.1 i.2.2)) := by
  (refine enter Try.func24 rfl rfl hS ?_; simp only [List.zipIdx_cons, List.zipIdx_nil, List.map_cons, List.map_nil, Nat.reduceAdd, Nat.zero_add])
  refine wSeq ?_
  refine wRegion' ?_
  refine oAssign rfl ?_
  refine oNil ?_
  refine thn_n ?_
  refine wSeq ?_
  refine wRegion' ?_
  refine oMakeMap (Value.int .i64) ptrV (fun b1 => ?_)
  refine oBuild (Parts.cons rfl Parts.nil) rfl rfl (Built.cons (off := 1) (s := 1) rfl (by first | exact CellsOf.agg | exact CellsOf.one rfl) rfl (by repeat (first | exact PutL.done | apply PutL.put | apply PutL.skip)) Built.nil) ?_
  refine oBox rfl (by first | exact CellsOf.agg | exact CellsOf.one rfl) (fun b3 => ?_)
  refine oBuild (Parts.cons rfl Parts.nil) rfl rfl (Built.cons (off := 0) (s := 1) rfl (by first | exact CellsOf.agg | exact CellsOf.one rfl) rfl (by repeat (first | exact PutL.done | apply PutL.put | apply PutL.skip)) Built.nil) ?_
  refine oBox rfl (by first | exact CellsOf.agg | exact CellsOf.one rfl) (fun b5 => ?_)
  refine oAssign rfl ?_
  refine oNil ?_
  refine thn_n ?_
  refine wRet ?_
  refine fin_r ?_
  refine ⟨rfl, _, (ResL.cons (ResR.tmp rfl) ResL.nil), ?_⟩
  refine ⟨(b5, b3, ⟨none, 0, b1, [], fun _ => ⟨0, 0, 0⟩, fun _ => none⟩), ⟨⟨List.nodup_nil, by simp, by simp, by simp⟩, fun k _ h => by simp at h, .refl _, List.Pairwise.nil⟩, rfl, ?_⟩
  intro w1 h1
  have h2 := h1.nilrow ptrK default 95
  have h3 : St B (its (· ∈ ([] : List Nat)) (fun _ => ⟨0, 0, 0⟩) :: _) w1 := h2.add (Chg.refl _ _) (fun b hb => by simp at hb) (fun k hk => by have : k ∈ ([] : List Nat) := hk; simp at this)
  exact (Leads.has (by repeat' (first | exact Has.nil | exact Pick.here | apply Has.cons | apply Pick.there))) w1 h3

set_option maxRecDepth 100000 in
theorem queue_Len {B : Base} {w : World} {q p : Nat} {s : Pile} {W : List (Int × Int)} (hS : St B (queueR q p s) w) (hq : QOk s W) :
    CallsIn Fence.wide 0 Try.prog 27 #[ptrV q] w (Ret B (fun _ : Unit => True) (fun _ => .int .i64 (W.length : Int)) (fun _ => queueR q p s)) := by
  have hl := len_eq hq
  (refine enter Try.func27 rfl rfl hS ?_; simp only [List.zipIdx_cons, List.zipIdx_nil, List.map_cons, List.map_nil, Nat.reduceAdd, Nat.zero_add])
  refine wSeq ?_
  refine wRegion' ?_
  refine oAssign rfl ?_
  refine oNil ?_
  refine thn_n ?_
  refine wSeq ?_
  refine wSeq ?_
  refine wRegion' ?_
  refine oMove rfl ?_
  (refine oCall rfl (by kernel_rfl) (fun w hS => frame hS (by repeat' (first | exact Split.nil | exact Pick.here | apply Split.cons | apply Pick.there)) (fun B' hB hS' => live_yes (p := p) (s := s) hS')) ?_; rintro ⟨⟩ -)
  refine oNotT rfl ?_
  refine oNil ?_
  refine thn_n ?_
  refine wCondF rfl ?_
  refine wSkip ?_
  refine thn_n ?_
  refine wSeq ?_
  refine wRegion' ?_
  refine oMove rfl ?_
  refine oPtr rfl ?_
  refine oFld (n := 0) (m := 0) rfl rfl rfl ?_
  refine oLd rfl (by repeat (first | exact Pick.here | apply Pick.there)) rfl rfl ?_
  (refine oCall rfl (by kernel_rfl) (fun w hS => frame hS (by repeat' (first | exact Split.nil | exact Pick.here | apply Split.cons | apply Pick.there)) (fun B' hB hS' => pile_Len (s := s) hS')) ?_; rintro ⟨⟩ -)
  refine oAssign rfl ?_
  refine oNil ?_
  refine thn_n ?_
  refine wRet ?_
  refine fin_r ?_
  refine ⟨rfl, _, (ResL.cons (ResR.tmp rfl) ResL.nil), ?_⟩
  exact ⟨(), trivial, by rw [← hl]; rfl, (Leads.has (by repeat' (first | exact Has.nil | exact Pick.here | apply Has.cons | apply Pick.there)))⟩
set_option maxRecDepth 100000 in
theorem queue_Len0 {B : Base} {w : World} {A : Option Addr} {H : List Res} (hA : Dead A H) (hS : St B H w) :
    CallsIn Fence.wide 0 Try.prog 27 #[.pointer A] w (Ret B (fun _ : Unit => True) (fun _ => .int .i64 0) (fun _ => H)) := by
  (refine enter Try.func27 rfl rfl hS ?_; simp only [List.zipIdx_cons, List.zipIdx_nil, List.map_cons, List.map_nil, Nat.reduceAdd, Nat.zero_add])
  refine wSeq ?_
  refine wRegion' ?_
  refine oAssign rfl ?_
  refine oNil ?_
  refine thn_n ?_
  refine wSeq ?_
  refine wSeq ?_
  refine wRegion' ?_
  refine oMove rfl ?_
  (refine oCall rfl (by kernel_rfl) (fun w hS => live_no hA hS) ?_; rintro ⟨⟩ -)
  refine oNotF rfl ?_
  refine oNil ?_
  refine thn_n ?_
  refine wCondT rfl ?_
  refine wSeq ?_
  refine wRegion' ?_
  refine oAssign rfl ?_
  refine oNil ?_
  refine thn_n ?_
  refine wRet ?_
  refine thn_r ?_
  refine fin_r ?_
  refine ⟨rfl, _, (ResL.cons (ResR.tmp rfl) ResL.nil), ?_⟩
  exact ⟨(), trivial, rfl, fun _ h => h⟩

theorem look_eq {m : Int → Option Nat} (id : Int) : ((m id).map ptrV).getD (.pointer none) = .pointer ((m id).map fun b => (⟨b, 0, none⟩ : Addr)) := by cases m id <;> rfl
set_option maxRecDepth 100000 in
theorem queue_Put {B : Base} {w : World} {q p : Nat} {s : Pile} {W : List (Int × Int)} (hS : St B (queueR q p s) w) (hq : QOk s W) (id key : Int) (hl : W.length < 1000000) :
    CallsIn Fence.wide 0 Try.prog 25 #[ptrV q, .int .i64 id, .int .i64 key] w
      (Ret B (fun s' => QOk s' (if qhas W id then W else qins (id, key) W)) (fun _ => .bool (!qhas W id)) (fun s' => queueR q p s')) := by
  have hh := has_iff hq id
  have hlen := len_eq hq
  (refine enter Try.func25 rfl rfl hS ?_; simp only [List.zipIdx_cons, List.zipIdx_nil, List.map_cons, List.map_nil, Nat.reduceAdd, Nat.zero_add])
  refine wSeq ?_
  refine wRegion' ?_
  refine oAssign rfl ?_
  refine oNil ?_
  refine thn_n ?_
  refine wSeq ?_
  refine wSeq ?_
  refine wRegion' ?_
  refine oMove rfl ?_
  (refine oCall rfl (by kernel_rfl) (fun w hS => frame hS (by repeat' (first | exact Split.nil | exact Pick.here | apply Split.cons | apply Pick.there)) (fun B' hB hS' => live_yes (p := p) (s := s) hS')) ?_; rintro ⟨⟩ -)
  refine oNotT rfl ?_
  refine oMove rfl ?_
  refine oWant rfl rfl ?_
  refine oMove rfl ?_
  refine oWant rfl rfl ?_
  refine oPtr rfl ?_
  refine oWant rfl rfl ?_
  refine oFld (n := 0) (m := 0) rfl rfl rfl ?_
  refine oWant rfl rfl ?_
  refine oLd rfl (by repeat (first | exact Pick.here | apply Pick.there)) rfl rfl ?_
  refine oWant rfl rfl ?_
  refine oPtr rfl ?_
  refine oWant rfl rfl ?_
  refine oFld (n := 1) (m := 1) rfl rfl rfl ?_
  refine oWant rfl rfl ?_
  refine oLd rfl (by repeat (first | exact Pick.here | apply Pick.there)) rfl rfl ?_
  refine oWant rfl rfl ?_
  refine oMove rfl ?_
  refine oWant rfl rfl ?_
  refine oLook (ev := ptrV) (m := s.m) (keyE_int .i64) rfl rfl rfl (by repeat (first | exact Pick.here | apply Pick.there)) (look_eq id) ?_
  refine oWant rfl rfl ?_
  refine oNeqP rfl rfl rfl ?_
  refine oPickF rfl rfl ?_
  refine oNil ?_
  refine thn_n ?_
  first | refine wCond rfl (fun h21 => ?_) (fun h21 => ?_) | refine wCondB rfl (fun h21 => ?_) (fun h21 => ?_)
  ·
    have hm : (s.m id).isSome = true := by cases hm : s.m id <;> simp [hm] at h21 ⊢
    refine wSeq ?_
    refine wRegion' ?_
    refine oAssign rfl ?_
    refine oNil ?_
    refine thn_n ?_
    refine wRet ?_
    refine thn_r ?_
    refine fin_r ?_
    refine ⟨rfl, _, (ResL.cons (ResR.tmp rfl) ResL.nil), ?_⟩
    exact ⟨s, by rw [hh, hm]; exact hq, by rw [hh, hm]; rfl, (Leads.has (by repeat' (first | exact Has.nil | exact Pick.here | apply Has.cons | apply Pick.there)))⟩
  ·
    have hm : s.m id = none := by cases hm : s.m id <;> simp [hm] at h21 ⊢
    refine wSkip ?_
    refine thn_n ?_
    refine wSeq ?_
    refine wRegion' ?_
    refine oMove rfl ?_
    refine oPtr rfl ?_
    refine oFld (n := 0) (m := 0) rfl rfl rfl ?_
    refine oLd rfl (by repeat (first | exact Pick.here | apply Pick.there)) rfl rfl ?_
    refine oIface rfl rfl ?_
    refine oMove rfl ?_
    refine oMove rfl ?_
    refine oBuild (Parts.cons rfl (Parts.cons rfl Parts.nil)) rfl rfl (Built.cons (off := 0) (s := 1) rfl (by first | exact CellsOf.agg | exact CellsOf.one rfl) rfl (by repeat (first | exact PutL.done | apply PutL.put | apply PutL.skip)) (Built.cons (off := 1) (s := 1) rfl (by first | exact CellsOf.agg | exact CellsOf.one rfl) rfl (by repeat (first | exact PutL.done | apply PutL.put | apply PutL.skip)) Built.nil)) ?_
    refine oBox rfl (by first | exact CellsOf.agg | exact CellsOf.one rfl) (fun b30 => ?_)
    refine oIface rfl rfl ?_
    (refine oCall rfl (by kernel_rfl) (fun w hS => frame hS (by repeat' (first | exact Split.nil | exact Pick.here | apply Split.cons | apply Pick.there)) (fun B' hB hS' => heap_Push (s := s) (x := ⟨id, key, 0⟩) hS' hq.ok hq.heap hm (by omega))) ?_; rintro s1 ⟨hok1, hv1, hh1⟩)
    refine oNil ?_
    refine thn_n ?_
    refine wSeq ?_
    refine wRegion' ?_
    refine oAssign rfl ?_
    refine oNil ?_
    refine thn_n ?_
    refine wRet ?_
    refine fin_r ?_
    refine ⟨rfl, _, (ResL.cons (ResR.tmp rfl) ResL.nil), ?_⟩
    exact ⟨s1, by rw [hh, hm]; exact put_ok hq hm hok1 hv1 hh1, by rw [hh, hm]; rfl, (Leads.has (by repeat' (first | exact Has.nil | exact Pick.here | apply Has.cons | apply Pick.there)))⟩
set_option maxRecDepth 100000 in
theorem queue_Put0 {B : Base} {w : World} {A : Option Addr} {H : List Res} (hA : Dead A H) (hS : St B H w) (id key : Int) :
    CallsIn Fence.wide 0 Try.prog 25 #[.pointer A, .int .i64 id, .int .i64 key] w (Ret B (fun _ : Unit => True) (fun _ => .bool false) (fun _ => H)) := by
  (refine enter Try.func25 rfl rfl hS ?_; simp only [List.zipIdx_cons, List.zipIdx_nil, List.map_cons, List.map_nil, Nat.reduceAdd, Nat.zero_add])
  refine wSeq ?_
  refine wRegion' ?_
  refine oAssign rfl ?_
  refine oNil ?_
  refine thn_n ?_
  refine wSeq ?_
  refine wSeq ?_
  refine wRegion' ?_
  refine oMove rfl ?_
  (refine oCall rfl (by kernel_rfl) (fun w hS => live_no hA hS) ?_; rintro ⟨⟩ -)
  refine oNotF rfl ?_
  refine oMove rfl ?_
  refine oSkip rfl rfl rfl rfl ?_
  refine oSkip rfl rfl rfl rfl ?_
  refine oSkip rfl rfl rfl rfl ?_
  refine oSkip rfl rfl rfl rfl ?_
  refine oSkip rfl rfl rfl rfl ?_
  refine oSkip rfl rfl rfl rfl ?_
  refine oSkip rfl rfl rfl rfl ?_
  refine oSkip rfl rfl rfl rfl ?_
  refine oSkip rfl rfl rfl rfl ?_
  refine oSkip rfl rfl rfl rfl ?_
  refine oPickT rfl rfl ?_
  refine oNil ?_
  refine thn_n ?_
  refine wCondT rfl ?_
  refine wSeq ?_
  refine wRegion' ?_
  refine oAssign rfl ?_
  refine oNil ?_
  refine thn_n ?_
  refine wRet ?_
  refine thn_r ?_
  refine fin_r ?_
  refine ⟨rfl, _, (ResL.cons (ResR.tmp rfl) ResL.nil), ?_⟩
  exact ⟨(), trivial, rfl, fun _ h => h⟩

set_option maxRecDepth 100000 in
theorem queue_Key {B : Base} {w : World} {q p : Nat} {s : Pile} {W : List (Int × Int)} (hS : St B (queueR q p s) w) (hq : QOk s W) (id : Int) :
    CallsIn Fence.wide 0 Try.prog 29 #[ptrV q, .int .i64 id] w
      (Ret B (fun _ : Unit => True) (fun _ => .tuple #[.int .i64 (if qhas W id then qkey W id else 0), .bool (qhas W id)]) (fun _ => queueR q p s)) := by
  have hh := has_iff hq id
  (refine enter Try.func29 rfl rfl hS ?_; simp only [List.zipIdx_cons, List.zipIdx_nil, List.map_cons, List.map_nil, Nat.reduceAdd, Nat.zero_add])
  refine wSeq ?_
  refine wRegion' ?_
  refine oAssign rfl ?_
  refine oAssign rfl ?_
  refine oNil ?_
  refine thn_n ?_
  refine wSeq ?_
  refine wSeq ?_
  refine wRegion' ?_
  refine oMove rfl ?_
  (refine oCall rfl (by kernel_rfl) (fun w hS => frame hS (by repeat' (first | exact Split.nil | exact Pick.here | apply Split.cons | apply Pick.there)) (fun B' hB hS' => live_yes (p := p) (s := s) hS')) ?_; rintro ⟨⟩ -)
  refine oNotT rfl ?_
  refine oMove rfl ?_
  refine oWant rfl rfl ?_
  refine oMove rfl ?_
  refine oWant rfl rfl ?_
  refine oPtr rfl ?_
  refine oWant rfl rfl ?_
  refine oFld (n := 0) (m := 0) rfl rfl rfl ?_
  refine oWant rfl rfl ?_
  first | refine oLd rfl (by repeat (first | exact Pick.here | apply Pick.there)) rfl rfl ?_ | refine oLdI (S := (· ∈ s.l)) (f := s.f) rfl (by repeat (first | exact Pick.here | apply Pick.there)) ((hq.ok.mp id b).1 hb).1 rfl rfl ?_
  refine oWant rfl rfl ?_
  refine oPtr rfl ?_
  refine oWant rfl rfl ?_
  refine oFld (n := 1) (m := 1) rfl rfl rfl ?_
  refine oWant rfl rfl ?_
  first | refine oLd rfl (by repeat (first | exact Pick.here | apply Pick.there)) rfl rfl ?_ | refine oLdI (S := (· ∈ s.l)) (f := s.f) rfl (by repeat (first | exact Pick.here | apply Pick.there)) ((hq.ok.mp id b).1 hb).1 rfl rfl ?_
  refine oWant rfl rfl ?_
  refine oMove rfl ?_
  refine oWant rfl rfl ?_
  refine oLook (ev := ptrV) (m := s.m) (keyE_int .i64) rfl rfl rfl (by repeat (first | exact Pick.here | apply Pick.there)) (look_eq id) ?_
  refine oWant rfl rfl ?_
  refine oEqlP rfl rfl rfl ?_
  refine oPickF rfl rfl ?_
  refine oNil ?_
  refine thn_n ?_
  first | refine wCond rfl (fun h20 => ?_) (fun h20 => ?_) | refine wCondB rfl (fun h20 => ?_) (fun h20 => ?_)
  ·
    have hm : s.m id = none := by cases hm : s.m id <;> simp [hm] at h20 ⊢
    refine wSeq ?_
    refine wRegion' ?_
    refine oAssign rfl ?_
    refine oAssign rfl ?_
    refine oNil ?_
    refine thn_n ?_
    refine wRet ?_
    refine thn_r ?_
    refine fin_r ?_
    refine ⟨rfl, _, (ResL.cons (ResR.tmp rfl) (ResL.cons (ResR.tmp rfl) ResL.nil)), ?_⟩
    exact ⟨(), trivial, by rw [hh, hm]; rfl, (Leads.has (by repeat' (first | exact Has.nil | exact Pick.here | apply Has.cons | apply Pick.there)))⟩
  ·
    obtain ⟨b, hb⟩ : ∃ b, s.m id = some b := by cases hm : s.m id <;> simp [hm] at h20 ⊢
    refine wSkip ?_
    refine thn_n ?_
    refine wSeq ?_
    refine wRegion' ?_
    refine oMove rfl ?_
    refine oPtr rfl ?_
    refine oFld (n := 0) (m := 0) rfl rfl rfl ?_
    first | refine oLd rfl (by repeat (first | exact Pick.here | apply Pick.there)) rfl rfl ?_ | refine oLdI (S := (· ∈ s.l)) (f := s.f) rfl (by repeat (first | exact Pick.here | apply Pick.there)) ((hq.ok.mp id b).1 hb).1 rfl rfl ?_
    refine oPtr rfl ?_
    refine oFld (n := 1) (m := 1) rfl rfl rfl ?_
    first | refine oLd rfl (by repeat (first | exact Pick.here | apply Pick.there)) rfl rfl ?_ | refine oLdI (S := (· ∈ s.l)) (f := s.f) rfl (by repeat (first | exact Pick.here | apply Pick.there)) ((hq.ok.mp id b).1 hb).1 rfl rfl ?_
    refine oMove rfl ?_
    refine oLook (ev := ptrV) (m := s.m) (keyE_int .i64) rfl rfl rfl (by repeat (first | exact Pick.here | apply Pick.there)) (r := ptrV b) (by rw [hb]; rfl) ?_
    refine oPtr rfl ?_
    refine oFld (n := 1) (m := 1) rfl rfl rfl ?_
    first | refine oLd rfl (by repeat (first | exact Pick.here | apply Pick.there)) rfl rfl ?_ | refine oLdI (S := (· ∈ s.l)) (f := s.f) rfl (by repeat (first | exact Pick.here | apply Pick.there)) ((hq.ok.mp id b).1 hb).1 rfl rfl ?_
    refine oAssign rfl ?_
    refine oAssign rfl ?_
    refine oNil ?_
    refine thn_n ?_
    refine wRet ?_
    refine fin_r ?_
    refine ⟨rfl, _, (ResL.cons (ResR.tmp rfl) (ResL.cons (ResR.tmp rfl) ResL.nil)), ?_⟩
    exact ⟨(), trivial, by rw [hh, hb, key_of hq hb]; rfl, (Leads.has (by repeat' (first | exact Has.nil | exact Pick.here | apply Has.cons | apply Pick.there)))⟩
set_option maxRecDepth 100000 in
theorem queue_Key0 {B : Base} {w : World} {A : Option Addr} {H : List Res} (hA : Dead A H) (hS : St B H w) (id : Int) :
    CallsIn Fence.wide 0 Try.prog 29 #[.pointer A, .int .i64 id] w (Ret B (fun _ : Unit => True) (fun _ => .tuple #[.int .i64 0, .bool false]) (fun _ => H)) := by
  (refine enter Try.func29 rfl rfl hS ?_; simp only [List.zipIdx_cons, List.zipIdx_nil, List.map_cons, List.map_nil, Nat.reduceAdd, Nat.zero_add])
  refine wSeq ?_
  refine wRegion' ?_
  refine oAssign rfl ?_
  refine oAssign rfl ?_
  refine oNil ?_
  refine thn_n ?_
  refine wSeq ?_
  refine wSeq ?_
  refine wRegion' ?_
  refine oMove rfl ?_
  (refine oCall rfl (by kernel_rfl) (fun w hS => live_no hA hS) ?_; rintro ⟨⟩ -)
  refine oNotF rfl ?_
  refine oMove rfl ?_
  refine oSkip rfl rfl rfl rfl ?_
  refine oSkip rfl rfl rfl rfl ?_
  refine oSkip rfl rfl rfl rfl ?_
  refine oSkip rfl rfl rfl rfl ?_
  refine oSkip rfl rfl rfl rfl ?_
  refine oSkip rfl rfl rfl rfl ?_
  refine oSkip rfl rfl rfl rfl ?_
  refine oSkip rfl rfl rfl rfl ?_
  refine oSkip rfl rfl rfl rfl ?_
  refine oSkip rfl rfl rfl rfl ?_
  refine oPickT rfl rfl ?_
  refine oNil ?_
  refine thn_n ?_
  refine wCondT rfl ?_
  refine wSeq ?_
  refine wRegion' ?_
  refine oAssign rfl ?_
  refine oAssign rfl ?_
  refine oNil ?_
  refine thn_n ?_
  refine wRet ?_
  refine thn_r ?_
  refine fin_r ?_
  refine ⟨rfl, _, (ResL.cons (ResR.tmp rfl) (ResL.cons (ResR.tmp rfl) ResL.nil)), ?_⟩
  exact ⟨(), trivial, rfl, fun _ h => h⟩

set_option maxRecDepth 100000 in
theorem queue_Drop {B : Base} {w : World} {q p : Nat} {s : Pile} {W : List (Int × Int)} (hS : St B (queueR q p s) w) (hq : QOk s W) (id : Int) :
    CallsIn Fence.wide 0 Try.prog 31 #[ptrV q, .int .i64 id] w
      (Ret B (fun s' => QOk s' (qdel W id)) (fun _ => .bool (qhas W id)) (fun s' => queueR q p s')) := by
  have hh := has_iff hq id
  (refine enter Try.func31 rfl rfl hS ?_; simp only [List.zipIdx_cons, List.zipIdx_nil, List.map_cons, List.map_nil, Nat.reduceAdd, Nat.zero_add])
  refine wSeq ?_
  refine wRegion' ?_
  refine oAssign rfl ?_
  refine oNil ?_
  refine thn_n ?_
  refine wSeq ?_
  refine wSeq ?_
  refine wRegion' ?_
  refine oMove rfl ?_
  (refine oCall rfl (by kernel_rfl) (fun w hS => frame hS (by repeat' (first | exact Split.nil | exact Pick.here | apply Split.cons | apply Pick.there)) (fun B' hB hS' => live_yes (p := p) (s := s) hS')) ?_; rintro ⟨⟩ -)
  refine oNotT rfl ?_
  refine oMove rfl ?_
  refine oWant rfl rfl ?_
  refine oMove rfl ?_
  refine oWant rfl rfl ?_
  refine oPtr rfl ?_
  refine oWant rfl rfl ?_
  refine oFld (n := 0) (m := 0) rfl rfl rfl ?_
  refine oWant rfl rfl ?_
  first | refine oLd rfl (by repeat (first | exact Pick.here | apply Pick.there)) rfl rfl ?_ | refine oLdI (S := (· ∈ s.l)) (f := s.f) rfl (by repeat (first | exact Pick.here | apply Pick.there)) hbl rfl rfl ?_
  refine oWant rfl rfl ?_
  refine oPtr rfl ?_
  refine oWant rfl rfl ?_
  refine oFld (n := 1) (m := 1) rfl rfl rfl ?_
  refine oWant rfl rfl ?_
  first | refine oLd rfl (by repeat (first | exact Pick.here | apply Pick.there)) rfl rfl ?_ | refine oLdI (S := (· ∈ s.l)) (f := s.f) rfl (by repeat (first | exact Pick.here | apply Pick.there)) hbl rfl rfl ?_
  refine oWant rfl rfl ?_
  refine oMove rfl ?_
  refine oWant rfl rfl ?_
  refine oLook (ev := ptrV) (m := s.m) (keyE_int .i64) rfl rfl rfl (by repeat (first | exact Pick.here | apply Pick.there)) (look_eq id) ?_
  refine oWant rfl rfl ?_
  refine oEqlP rfl rfl rfl ?_
  refine oPickF rfl rfl ?_
  refine oNil ?_
  refine thn_n ?_
  first | refine wCond rfl (fun h19 => ?_) (fun h19 => ?_) | refine wCondB rfl (fun h19 => ?_) (fun h19 => ?_)
  ·
    have hm : s.m id = none := by cases hm : s.m id <;> simp [hm] at h19 ⊢
    refine wSeq ?_
    refine wRegion' ?_
    refine oAssign rfl ?_
    refine oNil ?_
    refine thn_n ?_
    refine wRet ?_
    refine thn_r ?_
    refine fin_r ?_
    refine ⟨rfl, _, (ResL.cons (ResR.tmp rfl) ResL.nil), ?_⟩
    exact ⟨s, by
      have : qdel W id = W := List.filter_eq_self.2 (fun y hy => by
        rw [hm] at hh
        have h9 : ¬ (W.any fun x => x.1 == id) = true := by rw [show (W.any fun x => x.1 == id) = qhas W id from rfl, hh]; simp
        have : ¬ y.1 = id := fun e => h9 (List.any_eq_true.2 ⟨y, hy, by simpa using e⟩)
        simpa using this)
      rw [this]; exact hq, by rw [hh, hm]; rfl, (Leads.has (by repeat' (first | exact Has.nil | exact Pick.here | apply Has.cons | apply Pick.there)))⟩
  ·
    obtain ⟨b, hb⟩ : ∃ b, s.m id = some b := by cases hm : s.m id <;> simp [hm] at h19 ⊢
    have hbl := ((hq.ok.mp id b).1 hb).1
    have hbi := ((hq.ok.mp id b).1 hb).2
    obtain ⟨i, hi⟩ := List.getElem?_of_mem hbl
    have hpl := hq.ok.pl i b hi
    have hil := (List.getElem?_eq_some_iff.1 hi).1
    refine wSkip ?_
    refine thn_n ?_
    refine wSeq ?_
    refine wDraw2 rfl rfl [0, 5, 12] [1, 2, 3, 4, 6, 7, 8, 9, 10, 11, 13, 14, 15, 16] 17 (by kernel_rfl) rfl rfl rfl (fun w0 => ?_)
    refine oPtr rfl ?_
    refine oFld (n := 0) (m := 0) rfl rfl rfl ?_
    first | refine oLd rfl (by repeat (first | exact Pick.here | apply Pick.there)) rfl rfl ?_ | refine oLdI (S := (· ∈ s.l)) (f := s.f) rfl (by repeat (first | exact Pick.here | apply Pick.there)) hbl rfl rfl ?_
    refine oIface rfl rfl ?_
    refine oPtr rfl ?_
    refine oFld (n := 0) (m := 0) rfl rfl rfl ?_
    first | refine oLd rfl (by repeat (first | exact Pick.here | apply Pick.there)) rfl rfl ?_ | refine oLdI (S := (· ∈ s.l)) (f := s.f) rfl (by repeat (first | exact Pick.here | apply Pick.there)) hbl rfl rfl ?_
    refine oPtr rfl ?_
    refine oFld (n := 1) (m := 1) rfl rfl rfl ?_
    first | refine oLd rfl (by repeat (first | exact Pick.here | apply Pick.there)) rfl rfl ?_ | refine oLdI (S := (· ∈ s.l)) (f := s.f) rfl (by repeat (first | exact Pick.here | apply Pick.there)) hbl rfl rfl ?_
    refine oLook (ev := ptrV) (m := s.m) (keyE_int .i64) rfl rfl rfl (by repeat (first | exact Pick.here | apply Pick.there)) (r := ptrV b) (by rw [hb]; rfl) ?_
    refine oPtr rfl ?_
    refine oFld (n := 2) (m := 2) rfl rfl rfl ?_
    first | refine oLd rfl (by repeat (first | exact Pick.here | apply Pick.there)) rfl rfl ?_ | refine oLdI (S := (· ∈ s.l)) (f := s.f) rfl (by repeat (first | exact Pick.here | apply Pick.there)) hbl rfl rfl ?_
    refine oSet (t := 36) (v' := .int .i64 (i : Int)) rfl (by rw [hpl]) ?_
    refine oHead ?_
    (refine oCall rfl (by kernel_rfl) (fun w hS => frame hS (by repeat' (first | exact Split.nil | exact Pick.here | apply Split.cons | apply Pick.there)) (fun B' hB hS' => heap_Remove (s := s) hS' hq.ok hq.heap i hil)) ?_; rintro ⟨s1, nb, x⟩ ⟨hok1, hh1, hv1, hx1⟩)
    refine oNilT ?_
    refine thn_n ?_
    refine wSeq ?_
    refine wRegion' ?_
    refine oAssign rfl ?_
    refine oNil ?_
    refine thn_n ?_
    refine wRet ?_
    refine fin_r ?_
    refine ⟨rfl, _, (ResL.cons (ResR.tmp rfl) ResL.nil), ?_⟩
    exact ⟨s1, by
      dsimp only at hok1 hh1 hv1 hx1
      have h8 := drop_ok hq hok1 hh1 hv1
      rw [hx1, at_some hi, hbi] at h8; exact h8, by rw [hh, hb]; rfl, (Leads.has (by repeat' (first | exact Has.nil | exact Pick.here | apply Has.cons | apply Pick.there)))⟩
set_option maxRecDepth 100000 in
theorem queue_Drop0 {B : Base} {w : World} {A : Option Addr} {H : List Res} (hA : Dead A H) (hS : St B H w) (id : Int) :
    CallsIn Fence.wide 0 Try.prog 31 #[.pointer A, .int .i64 id] w (Ret B (fun _ : Unit => True) (fun _ => .bool false) (fun _ => H)) := by
  (refine enter Try.func31 rfl rfl hS ?_; simp only [List.zipIdx_cons, List.zipIdx_nil, List.map_cons, List.map_nil, Nat.reduceAdd, Nat.zero_add])
  refine wSeq ?_
  refine wRegion' ?_
  refine oAssign rfl ?_
  refine oNil ?_
  refine thn_n ?_
  refine wSeq ?_
  refine wSeq ?_
  refine wRegion' ?_
  refine oMove rfl ?_
  (refine oCall rfl (by kernel_rfl) (fun w hS => live_no hA hS) ?_; rintro ⟨⟩ -)
  refine oNotF rfl ?_
  refine oMove rfl ?_
  refine oSkip rfl rfl rfl rfl ?_
  refine oSkip rfl rfl rfl rfl ?_
  refine oSkip rfl rfl rfl rfl ?_
  refine oSkip rfl rfl rfl rfl ?_
  refine oSkip rfl rfl rfl rfl ?_
  refine oSkip rfl rfl rfl rfl ?_
  refine oSkip rfl rfl rfl rfl ?_
  refine oSkip rfl rfl rfl rfl ?_
  refine oSkip rfl rfl rfl rfl ?_
  refine oSkip rfl rfl rfl rfl ?_
  refine oPickT rfl rfl ?_
  refine oNil ?_
  refine thn_n ?_
  refine wCondT rfl ?_
  refine wSeq ?_
  refine wRegion' ?_
  refine oAssign rfl ?_
  refine oNil ?_
  refine thn_n ?_
  refine wRet ?_
  refine thn_r ?_
  refine fin_r ?_
  refine ⟨rfl, _, (ResL.cons (ResR.tmp rfl) ResL.nil), ?_⟩
  exact ⟨(), trivial, rfl, fun _ h => h⟩

set_option maxRecDepth 100000 in
theorem queue_Take {B : Base} {w : World} {q p : Nat} {s : Pile} {W : List (Int × Int)} (hS : St B (queueR q p s) w) (hq : QOk s W) :
    CallsIn Fence.wide 0 Try.prog 26 #[ptrV q] w
      (Ret B (fun s' => QOk s' W.tail) (fun _ => .tuple #[.int .i64 (hd1 W), .int .i64 (hd2 W), .bool (hd3 W)]) (fun s' => queueR q p s')) := by
  have hlen := len_eq hq
  (refine enter Try.func26 rfl rfl hS ?_; simp only [List.zipIdx_cons, List.zipIdx_nil, List.map_cons, List.map_nil, Nat.reduceAdd, Nat.zero_add])
  refine wSeq ?_
  refine wRegion' ?_
  refine oAssign rfl ?_
  refine oAssign rfl ?_
  refine oAssign rfl ?_
  refine oNil ?_
  refine thn_n ?_
  refine wSeq ?_
  refine wSeq ?_
  refine wRegion' ?_
  refine oMove rfl ?_
  (refine oCall rfl (by kernel_rfl) (fun w hS => frame hS (by repeat' (first | exact Split.nil | exact Pick.here | apply Split.cons | apply Pick.there)) (fun B' hB hS' => queue_Len (p := p) (s := s) hS' hq)) ?_; rintro ⟨⟩ -)
  refine oEql rfl rfl ?_
  refine oNil ?_
  refine thn_n ?_
  first | refine wCond rfl (fun h9 => ?_) (fun h9 => ?_) | refine wCondB rfl (fun h9 => ?_) (fun h9 => ?_)
  ·
    have hW : W = [] := List.eq_nil_of_length_eq_zero (by omega)
    refine wSeq ?_
    refine wRegion' ?_
    refine oAssign rfl ?_
    refine oAssign rfl ?_
    refine oAssign rfl ?_
    refine oNil ?_
    refine thn_n ?_
    refine wRet ?_
    refine thn_r ?_
    refine fin_r ?_
    refine ⟨rfl, _, (ResL.cons (ResR.tmp rfl) (ResL.cons (ResR.tmp rfl) (ResL.cons (ResR.tmp rfl) ResL.nil))), ?_⟩
    subst hW
    exact ⟨s, hq, rfl, (Leads.has (by repeat' (first | exact Has.nil | exact Pick.here | apply Has.cons | apply Pick.there)))⟩
  ·
    have hne : s.l ≠ [] := by intro e; rw [e] at hlen; simp at hlen; omega
    refine wSkip ?_
    refine thn_n ?_
    refine wSeq ?_
    refine wRegion' ?_
    refine oMove rfl ?_
    refine oPtr rfl ?_
    refine oFld (n := 0) (m := 0) rfl rfl rfl ?_
    refine oLd rfl (by repeat (first | exact Pick.here | apply Pick.there)) rfl rfl ?_
    refine oIface rfl rfl ?_
    (refine oCall rfl (by kernel_rfl) (fun w hS => frame hS (by repeat' (first | exact Split.nil | exact Pick.here | apply Split.cons | apply Pick.there)) (fun B' hB hS' => heap_Pop (s := s) hS' hq.ok hq.heap hne)) ?_; rintro ⟨s1, nb, x⟩ ⟨hok1, hh1, hv1, hx1⟩)
    dsimp only at hok1 hh1 hv1 hx1
    obtain ⟨W', hW, hq1⟩ := take_ok hq hok1 hh1 hv1 hx1
    refine oAssertT rfl rfl ?_
    refine oMove rfl ?_
    refine oExt rfl (by repeat (first | exact GetAt.here | apply GetAt.there)) ?_
    refine oExt rfl (by repeat (first | exact GetAt.here | apply GetAt.there)) ?_
    refine oAssign rfl ?_
    refine oAssign rfl ?_
    refine oNil ?_
    refine thn_n ?_
    refine wSeq ?_
    refine wSeq ?_
    refine wRegion' ?_
    refine oMove rfl ?_
    refine oNotT rfl ?_
    refine oNil ?_
    refine thn_n ?_
    refine wCondF rfl ?_
    refine wSkip ?_
    refine thn_n ?_
    refine wSeq ?_
    refine wDraw2 rfl rfl [0, 4] [1, 2, 3, 5, 6, 7, 8, 9] 10 (by kernel_rfl) rfl rfl rfl (fun w0 => ?_)
    refine oPtr rfl ?_
    refine oFld (n := 0) (m := 0) rfl rfl rfl ?_
    refine oLd rfl (by repeat (first | exact Pick.here | apply Pick.there)) rfl rfl ?_
    refine oPtr rfl ?_
    refine oFld (n := 1) (m := 1) rfl rfl rfl ?_
    refine oLd rfl (by repeat (first | exact Pick.here | apply Pick.there)) rfl rfl ?_
    refine oAssign rfl ?_
    refine oAssign rfl ?_
    refine oHead ?_
    refine oAssign rfl ?_
    refine oNilT ?_
    refine thn_n ?_
    refine wRet ?_
    refine fin_r ?_
    refine ⟨rfl, _, (ResL.cons (ResR.tmp rfl) (ResL.cons (ResR.tmp rfl) (ResL.cons (ResR.tmp rfl) ResL.nil))), ?_⟩
    subst hW
    exact ⟨s1, hq1, rfl, (Leads.has (by repeat' (first | exact Has.nil | exact Pick.here | apply Has.cons | apply Pick.there)))⟩
set_option maxRecDepth 100000 in
theorem queue_Take0 {B : Base} {w : World} {A : Option Addr} {H : List Res} (hA : Dead A H) (hS : St B H w) :
    CallsIn Fence.wide 0 Try.prog 26 #[.pointer A] w (Ret B (fun _ : Unit => True) (fun _ => .tuple #[.int .i64 0, .int .i64 0, .bool false]) (fun _ => H)) := by
  (refine enter Try.func26 rfl rfl hS ?_; simp only [List.zipIdx_cons, List.zipIdx_nil, List.map_cons, List.map_nil, Nat.reduceAdd, Nat.zero_add])
  refine wSeq ?_
  refine wRegion' ?_
  refine oAssign rfl ?_
  refine oAssign rfl ?_
  refine oAssign rfl ?_
  refine oNil ?_
  refine thn_n ?_
  refine wSeq ?_
  refine wSeq ?_
  refine wRegion' ?_
  refine oMove rfl ?_
  (refine oCall rfl (by kernel_rfl) (fun w hS => queue_Len0 hA hS) ?_; rintro ⟨⟩ -)
  refine oEql rfl rfl ?_
  refine oNil ?_
  refine thn_n ?_
  first | refine wCond rfl (fun h9 => ?_) (fun h9 => ?_) | refine wCondB rfl (fun h9 => ?_) (fun h9 => ?_)
  ·
    refine wSeq ?_
    refine wRegion' ?_
    refine oAssign rfl ?_
    refine oAssign rfl ?_
    refine oAssign rfl ?_
    refine oNil ?_
    refine thn_n ?_
    refine wRet ?_
    refine thn_r ?_
    refine fin_r ?_
    refine ⟨rfl, _, (ResL.cons (ResR.tmp rfl) (ResL.cons (ResR.tmp rfl) (ResL.cons (ResR.tmp rfl) ResL.nil))), ?_⟩
    exact ⟨(), trivial, rfl, fun _ h => h⟩
  ·
    exact absurd rfl h9
end Go.Proofs.YtnidmlngkpkmlaaQ
