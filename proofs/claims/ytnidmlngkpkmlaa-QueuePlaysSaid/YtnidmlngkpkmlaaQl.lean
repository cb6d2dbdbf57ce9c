/-
  The document's queue: a sorted list, read and made anew.
-/
import Derived.Test.YtnidmlngkpkmlaaQk
import Derived.Test.YtnidmlngkpkmlaaKk
namespace Go.Proofs.YtnidmlngkpkmlaaQ
set_option linter.unusedVariables false
set_option linter.unusedSimpArgs false
open Go.RowKit Go.Proofs.YtnidmlngkpkmlaaK Go.Proofs.YtnidmlngkpkmlaaT

def kIt : Kd (Int × Int) := Kd.pair (Kd.int .i64) (Kd.int .i64)
theorem kIt_open {w : World} {x : Int × Int} {cs : List Value} (h : kIt.K w x cs) : cs = [.int .i64 x.1, .int .i64 x.2] := by
  obtain ⟨_, _, rfl, rfl, rfl⟩ := h
  rfl
theorem kIt_mk (w : World) (x : Int × Int) : kIt.K w x [.int .i64 x.1, .int .i64 x.2] := ⟨_, _, rfl, rfl, rfl⟩
def qat (W : List (Int × Int)) (id : Int) : Int := ((W.findIdx? fun x => x.1 == id).map Int.ofNat).getD (-1)
theorem qat_eq {W : List (Int × Int)} {id : Int} {i : Nat} {x : Int × Int} (hx : W[i]? = some x) (hi : x.1 = id) (h : ∀ j y, j < i → W[j]? = some y → y.1 ≠ id) : qat W id = (i : Int) := by
  obtain ⟨hl, rfl⟩ := List.getElem?_eq_some_iff.1 hx
  have : W.findIdx? (fun x => x.1 == id) = some i := List.findIdx?_eq_some_iff_getElem.2 ⟨hl, by simpa using hi, fun j hj => by simpa using h j _ hj (List.getElem?_eq_getElem (by omega))⟩
  unfold qat; rw [this]; rfl
theorem qat_no {W : List (Int × Int)} {id : Int} (h : ∀ j y, j < W.length → W[j]? = some y → y.1 ≠ id) : qat W id = -1 := by
  have : W.findIdx? (fun x => x.1 == id) = none := List.findIdx?_eq_none_iff.2 (fun x hx => by
    obtain ⟨j, hj⟩ := List.mem_iff_getElem?.1 hx
    simpa using h j x (List.getElem?_eq_some_iff.1 hj).1 hj)
  unfold qat; rw [this]; rfl
theorem qat_has {W : List (Int × Int)} {id : Int} (h : qhas W id = true) : ∃ i x, qat W id = ((i : Nat) : Int) ∧ W[i]? = some x ∧ qkey W id = x.2 := by
  induction W with
  | nil => cases h
  | cons y W ih =>
    by_cases e : y.1 = id
    · exact ⟨0, y, by simp [qat, List.findIdx?_cons, e], rfl, by simp [qkey, e]⟩
    · have h' : qhas W id = true := by simpa [qhas, e] using h
      obtain ⟨i, x, h1, h2, h3⟩ := ih h'
      refine ⟨i + 1, x, ?_, by simpa using h2, by simpa [qkey, e] using h3⟩
      unfold qat at h1 ⊢
      rw [List.findIdx?_cons]
      cases hf : W.findIdx? (fun x => x.1 == id) with
      | none => rw [hf] at h1; simp at h1
      | some k => rw [hf] at h1; simp [e] at h1 ⊢; omega
theorem qat_hasnt {W : List (Int × Int)} {id : Int} (h : qhas W id = false) : qat W id = -1 := qat_no (fun j y _ hj => by
  have := List.any_eq_false.1 h y (List.mem_of_getElem? hj)
  simpa using this)
theorem qat_ge {W : List (Int × Int)} {id : Int} : decide (0 ≤ qat W id) = qhas W id := by
  cases h : qhas W id with
  | false => rw [qat_hasnt h]; rfl
  | true => obtain ⟨i, x, h1, _⟩ := qat_has h; rw [h1]; simp

set_option maxRecDepth 100000 in
theorem ref_At {B : Base} {w : World} (hS : St B [] w) (A : Option Addr) (cp : Nat) (W : List (Int × Int)) (hC : kIt.C B.e A W) (id : Int) :
    CallsIn Fence.wide 0 Try.prog 28 #[.slice A W.length cp, .int .i64 id] w (Ret B (fun _ : Unit => True) (fun _ => .int .i64 (qat W id)) (fun _ => [])) := by
  have hlen := hC.1
  (refine enter Try.func28 rfl rfl hS ?_; simp only [List.zipIdx_cons, List.zipIdx_nil, List.map_cons, List.map_nil, Nat.reduceAdd, Nat.zero_add])
  refine wSeq ?_
  refine wRegion' ?_
  refine oAssign rfl ?_
  refine oNil ?_
  refine thn_n ?_
  refine wSeq ?_
  refine wSeq ?_
  refine wRegion' ?_
  refine oAssign rfl ?_
  refine oNil ?_
  refine thn_n ?_
  refine wBlock ?_
  refine wLoop (ι := Nat) (fun i => [(0, .slice A W.length cp), (1, .int .i64 id), (5, .int .i64 (i : Int))]) (fun i => []) (fun i => i ≤ W.length ∧ ∀ j y, j < i → W[j]? = some y → y.1 ≠ id) (fun i => W.length - i) 0 ?_ (by repeat (first | exact trivial | refine And.intro rfl ?_)) (Leads.has (by repeat' (first | exact Has.nil | exact Pick.here | apply Has.cons | apply Pick.there))) ?_
  ·
    exact ⟨Nat.zero_le _, fun j y hj => by omega⟩
  ·
    rintro i ⟨hi, hn⟩
    dsimp only
    refine wSeq ?_
    refine wSeq ?_
    refine wRegion' ?_
    refine oMove rfl ?_
    refine oMove rfl ?_
    refine oLenS rfl rfl ?_
    refine oLss rfl rfl ?_
    refine oNil ?_
    refine thn_n ?_
    first | refine wCond rfl (fun h9 => ?_) (fun h9 => ?_) | refine wCondB rfl (fun h9 => ?_) (fun h9 => ?_)
    ·
      refine wSkip ?_
      refine thn_n ?_
      refine wSeq ?_
      refine wBlock ?_
      refine wSeq ?_
      refine wRegion' ?_
      refine oMove rfl ?_
      refine oMove rfl ?_
      refine oIdx rfl rfl (hC) rfl (by omega) rfl rfl (fun e14 u14 cs14 hu14 hk14 hc14 => ?_)
      obtain rfl := kIt_open hk14
      first | refine oFldX (n := 0) (m := 0) rfl rfl rfl ?_ | refine oFldR (n := 0) (m := 0) rfl rfl rfl ?_ | refine oFldD (n := 0) (m := 0) rfl rfl rfl ?_
      first | refine oLdX rfl hc14 rfl rfl ?_ | refine oLdXA rfl hc14 rfl (by repeat (first | exact SubL.done | apply SubL.take | apply SubL.drop)) ?_ | (refine oLdR1 rfl (by repeat (first | exact Pick.here | apply Pick.there)) (by omega) rfl (fun u16 hu16 => ?_))
      refine oMove rfl ?_
      refine oEql rfl rfl ?_
      refine oNil ?_
      refine thn_n ?_
      first | refine wCond rfl (fun h18 => ?_) (fun h18 => ?_) | refine wCondB rfl (fun h18 => ?_) (fun h18 => ?_)
      ·
        refine wSeq ?_
        refine wRegion' ?_
        refine oMove rfl ?_
        refine oAssign rfl ?_
        refine oNil ?_
        refine thn_n ?_
        refine wRet ?_
        refine blk_r ?_
        refine thn_r ?_
        refine thn_r ?_
        refine blk_r ?_
        refine thn_r ?_
        refine fin_r ?_
        refine ⟨rfl, _, (ResL.cons (ResR.tmp rfl) ResL.nil), ?_⟩
        exact ⟨(), trivial, by rw [qat_eq hu14 h18 hn]; rfl, (Leads.has (by repeat' (first | exact Has.nil | exact Pick.here | apply Has.cons | apply Pick.there)))⟩
      ·
        refine wSkip ?_
        refine blk_n ?_
        refine thn_n ?_
        refine wRegion' ?_
        refine oMove rfl ?_
        refine oSucc rfl rfl (by omega) ?_
        refine oAssign rfl ?_
        refine oNil ?_
        refine thn_n ?_
        exact ⟨rfl, i + 1, ⟨by omega, fun j y hj hy => by
        by_cases e : j = i
        · subst e; obtain rfl := Option.some.inj (hu14.symm.trans hy); exact h18
        · exact hn j y (by omega) hy⟩, by omega, (by repeat (first | exact trivial | refine And.intro rfl ?_)), (Leads.has (by repeat' (first | exact Has.nil | exact Pick.here | apply Has.cons | apply Pick.there)))⟩
    ·
      refine wExit ?_
      refine thn_x ?_
      refine thn_x ?_
      refine blk_x ?_
      refine thn_n ?_
      refine wSeq ?_
      refine wRegion' ?_
      refine oAssign rfl ?_
      refine oNil ?_
      refine thn_n ?_
      refine wRet ?_
      refine fin_r ?_
      refine ⟨rfl, _, (ResL.cons (ResR.tmp rfl) ResL.nil), ?_⟩
      obtain rfl : i = W.length := by omega
      exact ⟨(), trivial, by rw [qat_no hn]; rfl, (Leads.has (by repeat' (first | exact Has.nil | exact Pick.here | apply Has.cons | apply Pick.there)))⟩

theorem qdel_less {W : List (Int × Int)} {id : Int} : qhas W id = decide ((qdel W id).length < W.length) := by
  cases h : qhas W id with
  | false =>
    have : qdel W id = W := List.filter_eq_self.2 (fun x hx => by have := List.any_eq_false.1 h x hx; simpa using this)
    rw [this]; simp
  | true =>
    have : (qdel W id).length < W.length := by
      rcases Nat.lt_or_ge (qdel W id).length W.length with h1 | h1
      · exact h1
      · have h2 : qdel W id = W := List.filter_sublist.eq_of_length (Nat.le_antisymm (qdel_le W id) h1)
        obtain ⟨x, hx, e⟩ := List.any_eq_true.1 h
        have := List.filter_eq_self.1 h2 x hx
        simp at e this; exact absurd e this
    simp [this]
theorem qins_here {x y : Int × Int} {W : List (Int × Int)} (h : lt2 x y) : qins x (y :: W) = x :: y :: W := if_pos h
theorem qins_on {x y : Int × Int} {W : List (Int × Int)} (h : ¬ lt2 x y) : qins x (y :: W) = y :: qins x W := if_neg h

set_option maxRecDepth 100000 in
theorem ref_Drop {B : Base} {w : World} (hS : St B [] w) (A : Option Addr) (cp : Nat) (W : List (Int × Int)) (hC : kIt.C B.e A W) (id : Int) (hl : W.length ≤ 1000000) :
    CallsIn Fence.wide 0 Try.prog 32 #[.slice A W.length cp, .int .i64 id] w
      (Ret B (fun i : Option Addr × Nat => (qdel W id).length ≤ i.2) (fun i => .tuple #[.slice i.1 (qdel W id).length i.2, .bool (qhas W id)]) (fun i => [row kIt default 59 (.slice i.1 (qdel W id).length i.2) (qdel W id)])) := by
  (refine enter Try.func32 rfl rfl hS ?_; simp only [List.zipIdx_cons, List.zipIdx_nil, List.map_cons, List.map_nil, Nat.reduceAdd, Nat.zero_add])
  refine wSeq ?_
  refine wRegion' ?_
  refine oAssign rfl ?_
  refine oAssign rfl ?_
  refine oNil ?_
  refine thn_n ?_
  refine wSeq ?_
  refine wRegion' ?_
  refine oAssign rfl ?_
  refine oNil ?_
  refine thn_n ?_
  refine wSeq ?_
  refine wSeq ?_
  refine wRegion' ?_
  refine oAssign rfl ?_
  refine oNil ?_
  refine thn_n ?_
  refine wBlock ?_
  refine wLoop (ι := List (Int × Int) × List (Int × Int) × (Option Addr × Nat)) (fun z => [(0, .slice A W.length cp), (1, .int .i64 id), (6, .slice z.2.2.1 (qdel z.1 id).length z.2.2.2), (7, .int .i64 (z.1.length : Int))]) (fun z => [row kIt default 59 (.slice z.2.2.1 (qdel z.1 id).length z.2.2.2) (qdel z.1 id)]) (fun z => W = z.1 ++ z.2.1 ∧ (qdel z.1 id).length ≤ z.2.2.2) (fun z => z.2.1.length) ([], W, (none, 0)) ?_ (by repeat (first | exact trivial | refine And.intro rfl ?_)) Leads.nilrow ?_
  ·
    exact ⟨rfl, Nat.le_refl _⟩
  ·
    rintro ⟨tk, Wr, ⟨A6, c6⟩⟩ ⟨hsp, hc6⟩
    dsimp only at hsp hc6
    have hlen : W.length = tk.length + Wr.length := by rw [hsp, List.length_append]
    have hqd := qdel_le tk id
    dsimp only
    refine wSeq ?_
    refine wSeq ?_
    refine wRegion' ?_
    refine oMove rfl ?_
    refine oMove rfl ?_
    refine oLenS rfl rfl ?_
    refine oLss rfl rfl ?_
    refine oNil ?_
    refine thn_n ?_
    first | refine wCond rfl (fun h11 => ?_) (fun h11 => ?_) | refine wCondB rfl (fun h11 => ?_) (fun h11 => ?_)
    ·
      obtain ⟨x, Wt, rfl⟩ : ∃ x Wt, Wr = x :: Wt := by cases Wr with | nil => simp at hlen; omega | cons x Wt => exact ⟨x, Wt, rfl⟩
      have hat : W[tk.length]? = some x := by rw [hsp]; simp
      refine wSkip ?_
      refine thn_n ?_
      refine wSeq ?_
      refine wBlock ?_
      refine wSeq ?_
      refine wRegion' ?_
      refine oMove rfl ?_
      refine oMove rfl ?_
      refine oIdx rfl rfl (hC) rfl (by omega) rfl rfl (fun e16 u16 cs16 hu16 hk16 hc16 => ?_)
      obtain rfl := kIt_open hk16
      first | refine oFldX (n := 0) (m := 0) rfl rfl rfl ?_ | refine oFldR (n := 0) (m := 0) rfl rfl rfl ?_ | refine oFldD (n := 0) (m := 0) rfl rfl rfl ?_
      first | refine oLdX rfl hc16 rfl rfl ?_ | refine oLdXA rfl hc16 rfl (by repeat (first | exact SubL.done | apply SubL.take | apply SubL.drop)) ?_ | (refine oLdR1 rfl (by repeat (first | exact Pick.here | apply Pick.there)) (by omega) rfl (fun u18 hu18 => ?_))
      refine oMove rfl ?_
      refine oNeq rfl rfl ?_
      refine oNil ?_
      refine thn_n ?_
      first | refine wCond rfl (fun h20 => ?_) (fun h20 => ?_) | refine wCondB rfl (fun h20 => ?_) (fun h20 => ?_)
      ·
        obtain rfl := Option.some.inj (hu16.symm.trans hat)
        have e1 : qdel (tk ++ [u16]) id = qdel tk id ++ [u16] := by unfold qdel; rw [List.filter_append]; simp [h20]
        refine wRegion' ?_
        refine oMove rfl ?_
        refine oMove rfl ?_
        refine oMove rfl ?_
        refine oIdx rfl rfl (hC) rfl (by omega) rfl rfl (fun e24 u24 cs24 hu24 hk24 hc24 => ?_)
        obtain rfl := kIt_open hk24
        first | refine oLdX rfl hc24 rfl rfl ?_ | refine oLdXA rfl hc24 rfl (by repeat (first | exact SubL.done | apply SubL.take | apply SubL.drop)) ?_ | (refine oLdR1 rfl (by repeat (first | exact Pick.here | apply Pick.there)) (by omega) rfl (fun u25 hu25 => ?_))
        refine oBuildSlice1 rfl rfl rfl rfl rfl (by first | exact CellsOf.agg | exact CellsOf.one rfl) rfl (fun b26 => ?_)
        obtain rfl := Option.some.inj (hu24.symm.trans hat)
        refine oApp1 (kd := kIt) u24 rfl rfl rfl rfl (by repeat (first | exact Pick.here | apply Pick.there)) (by repeat (first | exact Pick.here | apply Pick.there)) (kIt_mk _ _) (by omega) rfl (fun g27 cp27 => ?_)
        refine oRoom (by repeat (first | exact Pick.here | apply Pick.there)) (fun _ hcp => ?_)
        refine oAssign rfl ?_
        refine oNil ?_
        refine blk_n ?_
        refine thn_n ?_
        refine wRegion' ?_
        refine oMove rfl ?_
        refine oSucc rfl rfl (by omega) ?_
        refine oAssign rfl ?_
        refine oNil ?_
        refine thn_n ?_
        refine ⟨rfl, (tk ++ [u24], Wt, (some ⟨g27, 0, none⟩, cp27)), ⟨by rw [hsp]; simp, by rw [e1, List.length_append]; exact hcp⟩, by show Wt.length < (u24 :: Wt).length; simp, ?_, ?_⟩
        · simp only [e1, List.length_append, List.length_cons, List.length_nil, Nat.zero_add]
          exact (by repeat (first | exact trivial | refine And.intro rfl ?_))
        · simp only [e1, List.length_append, List.length_cons, List.length_nil, Nat.zero_add]
          exact (Leads.has (by repeat' (first | exact Has.nil | exact Pick.here | apply Has.cons | apply Pick.there)))
      ·
        obtain rfl := Option.some.inj (hu16.symm.trans hat)
        have e1 : qdel (tk ++ [u16]) id = qdel tk id := by unfold qdel; rw [List.filter_append]; simp at h20; simp [h20]
        refine wSkip ?_
        refine blk_n ?_
        refine thn_n ?_
        refine wRegion' ?_
        refine oMove rfl ?_
        refine oSucc rfl rfl (by omega) ?_
        refine oAssign rfl ?_
        refine oNil ?_
        refine thn_n ?_
        refine ⟨rfl, (tk ++ [u16], Wt, (A6, c6)), ⟨by rw [hsp]; simp, by rw [e1]; exact hc6⟩, by show Wt.length < (u16 :: Wt).length; simp, ?_, ?_⟩
        · simp only [e1, List.length_append, List.length_cons, List.length_nil, Nat.zero_add]
          exact (by repeat (first | exact trivial | refine And.intro rfl ?_))
        · simp only [e1]
          exact (Leads.has (by repeat' (first | exact Has.nil | exact Pick.here | apply Has.cons | apply Pick.there)))
    ·
      obtain rfl : Wr = [] := List.eq_nil_of_length_eq_zero (by omega)
      rw [List.append_nil] at hsp
      subst hsp
      refine wExit ?_
      refine thn_x ?_
      refine thn_x ?_
      refine blk_x ?_
      refine thn_n ?_
      refine wSeq ?_
      refine wRegion' ?_
      refine oMove rfl ?_
      refine oMove rfl ?_
      refine oLenS rfl rfl ?_
      refine oMove rfl ?_
      refine oLenS rfl rfl ?_
      refine oLss rfl rfl ?_
      refine oAssign rfl ?_
      refine oAssign rfl ?_
      refine oNil ?_
      refine thn_n ?_
      refine wRet ?_
      refine fin_r ?_
      refine ⟨rfl, _, (ResL.cons (ResR.tmp rfl) (ResL.cons (ResR.tmp rfl) ResL.nil)), ?_⟩
      exact ⟨(A6, c6), hc6, by rw [qdel_less]; simp [resVal], (Leads.has (by repeat' (first | exact Has.nil | exact Pick.here | apply Has.cons | apply Pick.there)))⟩

set_option maxRecDepth 100000 in
theorem ref_PutT {B : Base} {w : World} (hS : St B [] w) (A : Option Addr) (cp : Nat) (W : List (Int × Int)) (hC : kIt.C B.e A W) (id key : Int) (hh : qhas W id = true) :
    CallsIn Fence.wide 0 Try.prog 30 #[.slice A W.length cp, .int .i64 id, .int .i64 key] w (Ret B (fun _ : Unit => True) (fun _ => .tuple #[.slice A W.length cp, .bool false]) (fun _ => [])) := by
  (refine enter Try.func30 rfl rfl hS ?_; simp only [List.zipIdx_cons, List.zipIdx_nil, List.map_cons, List.map_nil, Nat.reduceAdd, Nat.zero_add])
  refine wSeq ?_
  refine wRegion' ?_
  refine oAssign rfl ?_
  refine oAssign rfl ?_
  refine oNil ?_
  refine thn_n ?_
  refine wSeq ?_
  refine wSeq ?_
  refine wRegion' ?_
  refine oMove rfl ?_
  refine oMove rfl ?_
  (refine oCall rfl (by kernel_rfl) (fun w hS => frame hS (by repeat' (first | exact Split.nil | exact Pick.here | apply Split.cons | apply Pick.there)) (fun B' hB hS' => ref_At hS' A cp W (Kd.C_grow hB hC) id)) ?_; rintro ⟨⟩ -)
  refine oGeq rfl rfl ?_
  refine oSet (t := 14) (v' := .bool true) rfl (by rw [show decide (0 ≤ qat W id) = true from qat_ge.trans hh]) ?_
  refine oNil ?_
  refine thn_n ?_
  refine wCondT rfl ?_
  refine wSeq ?_
  refine wRegion' ?_
  refine oMove rfl ?_
  refine oAssign rfl ?_
  refine oAssign rfl ?_
  refine oNil ?_
  refine thn_n ?_
  refine wRet ?_
  refine thn_r ?_
  refine fin_r ?_
  refine ⟨rfl, _, (ResL.cons (ResR.tmp rfl) (ResL.cons (ResR.tmp rfl) ResL.nil)), ?_⟩
  exact ⟨(), trivial, rfl, (Leads.has (by repeat' (first | exact Has.nil | exact Pick.here | apply Has.cons | apply Pick.there)))⟩
set_option maxRecDepth 100000 in
theorem ref_PutF {B : Base} {w : World} (hS : St B [] w) (A : Option Addr) (cp : Nat) (W : List (Int × Int)) (hC : kIt.C B.e A W) (id key : Int) (hh : qhas W id = false) (hl : W.length ≤ 1000000) :
    CallsIn Fence.wide 0 Try.prog 30 #[.slice A W.length cp, .int .i64 id, .int .i64 key] w
      (Ret B (fun i : Option Addr × Nat => W.length + 1 ≤ i.2) (fun i => .tuple #[.slice i.1 (W.length + 1) i.2, .bool true]) (fun i => [row kIt default 59 (.slice i.1 (W.length + 1) i.2) (qins (id, key) W)])) := by
  (refine enter Try.func30 rfl rfl hS ?_; simp only [List.zipIdx_cons, List.zipIdx_nil, List.map_cons, List.map_nil, Nat.reduceAdd, Nat.zero_add])
  refine wSeq ?_
  refine wRegion' ?_
  refine oAssign rfl ?_
  refine oAssign rfl ?_
  refine oNil ?_
  refine thn_n ?_
  refine wSeq ?_
  refine wSeq ?_
  refine wRegion' ?_
  refine oMove rfl ?_
  refine oMove rfl ?_
  (refine oCall rfl (by kernel_rfl) (fun w hS => frame hS (by repeat' (first | exact Split.nil | exact Pick.here | apply Split.cons | apply Pick.there)) (fun B' hB hS' => ref_At hS' A cp W (Kd.C_grow hB hC) id)) ?_; rintro ⟨⟩ -)
  refine oGeq rfl rfl ?_
  refine oSet (t := 14) (v' := .bool false) rfl (by rw [show decide (0 ≤ qat W id) = false from qat_ge.trans hh]) ?_
  refine oNil ?_
  refine thn_n ?_
  refine wCondF rfl ?_
  refine wSkip ?_
  refine thn_n ?_
  refine wSeq ?_
  refine wRegion' ?_
  refine oAssign rfl ?_
  refine oNil ?_
  refine thn_n ?_
  refine wSeq ?_
  refine wRegion' ?_
  refine oAssign rfl ?_
  refine oNil ?_
  refine thn_n ?_
  refine wSeq ?_
  refine wSeq ?_
  refine wRegion' ?_
  refine oAssign rfl ?_
  refine oNil ?_
  refine thn_n ?_
  refine wBlock ?_
  refine wLoop (ι := (List (Int × Int) × List (Int × Int)) × (Option Addr × Nat) × List (Int × Int) × Bool) (fun z => [(0, .slice A W.length cp), (1, .int .i64 id), (2, .int .i64 key), (8, .slice z.2.1.1 z.2.2.1.length z.2.1.2), (9, .bool z.2.2.2), (10, .int .i64 (z.1.1.length : Int))]) (fun z => [row kIt default 59 (.slice z.2.1.1 z.2.2.1.length z.2.1.2) z.2.2.1]) (fun z => W = z.1.1 ++ z.1.2 ∧ z.2.2.1 ++ (if z.2.2.2 then z.1.2 else qins (id, key) z.1.2) = qins (id, key) W) (fun z => z.1.2.length) (([], W), (none, 0), [], false) ?_ (by repeat (first | exact trivial | refine And.intro rfl ?_)) Leads.nilrow ?_
  ·
    exact ⟨rfl, by rw [if_neg (by simp)]; rfl⟩
  ·
    rintro ⟨⟨tk, Wr⟩, ⟨A8, c8⟩, out, put⟩ ⟨hsp, hout⟩
    dsimp only at hsp hout
    have hlen : W.length = tk.length + Wr.length := by rw [hsp, List.length_append]
    have hol : out.length ≤ W.length + 1 := by have := congrArg List.length hout; rw [List.length_append, qins_len] at this; omega
    dsimp only
    refine wSeq ?_
    refine wSeq ?_
    refine wRegion' ?_
    refine oMove rfl ?_
    refine oMove rfl ?_
    refine oLenS rfl rfl ?_
    refine oLss rfl rfl ?_
    refine oNil ?_
    refine thn_n ?_
    first | refine wCond rfl (fun h19 => ?_) (fun h19 => ?_) | refine wCondB rfl (fun h19 => ?_) (fun h19 => ?_)
    ·
      obtain ⟨x, Wt, rfl⟩ : ∃ x Wt, Wr = x :: Wt := by cases Wr with | nil => simp at hlen; omega | cons x Wt => exact ⟨x, Wt, rfl⟩
      have hat : W[tk.length]? = some x := by rw [hsp]; simp
      refine wSkip ?_
      refine thn_n ?_
      refine wSeq ?_
      refine wBlock ?_
      refine wSeq ?_
      refine wSeq ?_
      refine wRegion' ?_
      refine oMove rfl ?_
      first | refine oNot rfl ?_ | refine oNotB rfl ?_
      refine oMove rfl ?_
      first | refine oSplit (t := 24) rfl (fun h24 => ?_) (fun h24 => ?_) | refine oSplitB (t := 24) rfl (fun h24 => ?_) (fun h24 => ?_)
      ·
        refine oWant rfl rfl ?_
        refine oMove rfl ?_
        refine oWant rfl rfl ?_
        refine oMove rfl ?_
        refine oWant rfl rfl ?_
        refine oMove rfl ?_
        refine oWant rfl rfl ?_
        refine oIdx rfl rfl (hC) rfl (by omega) rfl rfl (fun e28 u28 cs28 hu28 hk28 hc28 => ?_)
        obtain rfl := kIt_open hk28
        obtain rfl := Option.some.inj (hat.symm.trans hu28)
        refine oWant rfl rfl ?_
        first | refine oFldX (n := 1) (m := 1) rfl rfl rfl ?_ | refine oFldR (n := 1) (m := 1) rfl rfl rfl ?_ | refine oFldD (n := 1) (m := 1) rfl rfl rfl ?_
        refine oWant rfl rfl ?_
        first | refine oLdX rfl hc28 rfl rfl ?_ | refine oLdXA rfl hc28 rfl (by repeat (first | exact SubL.done | apply SubL.take | apply SubL.drop)) ?_ | (refine oLdR1 rfl (by repeat (first | exact Pick.here | apply Pick.there)) (by omega) rfl (fun u30 hu30 => ?_))
        refine oWant rfl rfl ?_
        refine oLss rfl rfl ?_
        refine oWant rfl rfl ?_
        refine oMove rfl ?_
        first | refine oSplit (t := 32) rfl (fun h32 => ?_) (fun h32 => ?_) | refine oSplitB (t := 32) rfl (fun h32 => ?_) (fun h32 => ?_)
        ·
          refine oSkip rfl rfl rfl rfl ?_
          refine oSkip rfl rfl rfl rfl ?_
          refine oSkip rfl rfl rfl rfl ?_
          refine oSkip rfl rfl rfl rfl ?_
          refine oSkip rfl rfl rfl rfl ?_
          refine oSkip rfl rfl rfl rfl ?_
          refine oSkip rfl rfl rfl rfl ?_
          refine oSkip rfl rfl rfl rfl ?_
          refine oSkipU rfl rfl rfl ?_
          refine oSkipU rfl rfl rfl ?_
          refine oSkipU rfl rfl rfl ?_
          refine oSkipU rfl rfl rfl ?_
          refine oSkipU rfl rfl rfl ?_
          refine oSkipU rfl rfl rfl ?_
          refine oSkipU rfl rfl rfl ?_
          refine oSkip rfl rfl rfl rfl ?_
          refine oWant rfl rfl ?_
          refine oPickT rfl rfl ?_
          refine oPickT rfl rfl ?_
          refine oNil ?_
          refine thn_n ?_
          refine wCondT rfl ?_
          refine wSeq ?_
          refine wRegion' ?_
          refine oMove rfl ?_
          refine oMove rfl ?_
          refine oMove rfl ?_
          refine oBuild (Parts.cons rfl (Parts.cons rfl Parts.nil)) rfl rfl (Built.cons (off := 0) (s := 1) rfl (by first | exact CellsOf.agg | exact CellsOf.one rfl) rfl (by repeat (first | exact PutL.done | apply PutL.put | apply PutL.skip)) (Built.cons (off := 1) (s := 1) rfl (by first | exact CellsOf.agg | exact CellsOf.one rfl) rfl (by repeat (first | exact PutL.done | apply PutL.put | apply PutL.skip)) Built.nil)) ?_
          refine oBuildSlice1 rfl rfl rfl rfl rfl (by first | exact CellsOf.agg | exact CellsOf.one rfl) rfl (fun b55 => ?_)
          refine oApp1 (kd := kIt) (id, key) rfl rfl rfl rfl (by repeat (first | exact Pick.here | apply Pick.there)) (by repeat (first | exact Pick.here | apply Pick.there)) (kIt_mk _ _) (by omega) rfl (fun g56 cp56 => ?_)
          refine oAssign rfl ?_
          refine oNil ?_
          refine thn_n ?_
          refine wRegion' ?_
          refine oAssign rfl ?_
          refine oNil ?_
          refine thn_n ?_
          refine wRegion' ?_
          refine oMove rfl ?_
          refine oMove rfl ?_
          refine oMove rfl ?_
          refine oIdx rfl rfl (hC) rfl (by omega) rfl rfl (fun e60 u60 cs60 hu60 hk60 hc60 => ?_)
          obtain rfl := kIt_open hk60
          obtain rfl := Option.some.inj (hat.symm.trans hu60)
          first | refine oLdX rfl hc60 rfl rfl ?_ | refine oLdXA rfl hc60 rfl (by repeat (first | exact SubL.done | apply SubL.take | apply SubL.drop)) ?_ | (refine oLdR1 rfl (by repeat (first | exact Pick.here | apply Pick.there)) (by omega) rfl (fun u61 hu61 => ?_))
          refine oBuildSlice1 rfl rfl rfl rfl rfl (by first | exact CellsOf.agg | exact CellsOf.one rfl) rfl (fun b62 => ?_)
          refine oApp1 (kd := kIt) x rfl rfl rfl rfl (by repeat (first | exact Pick.here | apply Pick.there)) (by repeat (first | exact Pick.here | apply Pick.there)) (kIt_mk _ _) (by first | omega | (simp only [List.length_append, List.length_cons, List.length_nil]; omega)) rfl (fun g63 cp63 => ?_)
          refine oAssign rfl ?_
          refine oNil ?_
          refine blk_n ?_
          refine thn_n ?_
          refine wRegion' ?_
          refine oMove rfl ?_
          refine oSucc rfl rfl (by omega) ?_
          refine oAssign rfl ?_
          refine oNil ?_
          refine thn_n ?_
          have hlt : lt2 (id, key) x := by unfold lt2; dsimp only; omega
          have hp : put = false := by simpa using h24
          refine ⟨rfl, ((tk ++ [x], Wt), (some ⟨g63, 0, none⟩, cp63), out ++ [(id, key)] ++ [x], true), ⟨by rw [hsp]; simp, by show out ++ [(id, key)] ++ [x] ++ Wt = qins (id, key) W; rw [← hout, hp, if_neg (by simp), qins_here hlt]; simp⟩, by show Wt.length < (x :: Wt).length; simp, ?_, ?_⟩
          · simp only [List.length_append, List.length_cons, List.length_nil, Nat.zero_add]
            exact (by repeat (first | exact trivial | refine And.intro rfl ?_))
          · simp only [List.length_append, List.length_cons, List.length_nil, Nat.zero_add]
            exact (Leads.has (by repeat' (first | exact Has.nil | exact Pick.here | apply Has.cons | apply Pick.there)))
        ·
          refine oWant rfl rfl ?_
          refine oMove rfl ?_
          refine oWant rfl rfl ?_
          refine oMove rfl ?_
          refine oWant rfl rfl ?_
          refine oMove rfl ?_
          refine oWant rfl rfl ?_
          refine oIdx rfl rfl (hC) rfl (by omega) rfl rfl (fun e36 u36 cs36 hu36 hk36 hc36 => ?_)
          obtain rfl := kIt_open hk36
          obtain rfl := Option.some.inj (hat.symm.trans hu36)
          refine oWant rfl rfl ?_
          first | refine oFldX (n := 1) (m := 1) rfl rfl rfl ?_ | refine oFldR (n := 1) (m := 1) rfl rfl rfl ?_ | refine oFldD (n := 1) (m := 1) rfl rfl rfl ?_
          refine oWant rfl rfl ?_
          first | refine oLdX rfl hc36 rfl rfl ?_ | refine oLdXA rfl hc36 rfl (by repeat (first | exact SubL.done | apply SubL.take | apply SubL.drop)) ?_ | (refine oLdR1 rfl (by repeat (first | exact Pick.here | apply Pick.there)) (by omega) rfl (fun u38 hu38 => ?_))
          refine oWant rfl rfl ?_
          refine oEql rfl rfl ?_
          refine oWant rfl rfl ?_
          refine oMove rfl ?_
          first | refine oSplit (t := 40) rfl (fun h40 => ?_) (fun h40 => ?_) | refine oSplitB (t := 40) rfl (fun h40 => ?_) (fun h40 => ?_)
          ·
            refine oWant rfl rfl ?_
            refine oMove rfl ?_
            refine oWant rfl rfl ?_
            refine oMove rfl ?_
            refine oWant rfl rfl ?_
            refine oMove rfl ?_
            refine oWant rfl rfl ?_
            refine oIdx rfl rfl (hC) rfl (by omega) rfl rfl (fun e44 u44 cs44 hu44 hk44 hc44 => ?_)
            obtain rfl := kIt_open hk44
            obtain rfl := Option.some.inj (hat.symm.trans hu44)
            refine oWant rfl rfl ?_
            first | refine oFldX (n := 0) (m := 0) rfl rfl rfl ?_ | refine oFldR (n := 0) (m := 0) rfl rfl rfl ?_ | refine oFldD (n := 0) (m := 0) rfl rfl rfl ?_
            refine oWant rfl rfl ?_
            first | refine oLdX rfl hc44 rfl rfl ?_ | refine oLdXA rfl hc44 rfl (by repeat (first | exact SubL.done | apply SubL.take | apply SubL.drop)) ?_ | (refine oLdR1 rfl (by repeat (first | exact Pick.here | apply Pick.there)) (by omega) rfl (fun u46 hu46 => ?_))
            refine oWant rfl rfl ?_
            refine oLss rfl rfl ?_
            refine oWant rfl rfl ?_
            refine oPickT rfl rfl ?_
            refine oWant rfl rfl ?_
            refine oPickF rfl rfl ?_
            refine oPickT rfl rfl ?_
            refine oNil ?_
            refine thn_n ?_
            first | refine wCond rfl (fun h50 => ?_) (fun h50 => ?_) | refine wCondB rfl (fun h50 => ?_) (fun h50 => ?_)
            ·
              refine wSeq ?_
              refine wRegion' ?_
              refine oMove rfl ?_
              refine oMove rfl ?_
              refine oMove rfl ?_
              refine oBuild (Parts.cons rfl (Parts.cons rfl Parts.nil)) rfl rfl (Built.cons (off := 0) (s := 1) rfl (by first | exact CellsOf.agg | exact CellsOf.one rfl) rfl (by repeat (first | exact PutL.done | apply PutL.put | apply PutL.skip)) (Built.cons (off := 1) (s := 1) rfl (by first | exact CellsOf.agg | exact CellsOf.one rfl) rfl (by repeat (first | exact PutL.done | apply PutL.put | apply PutL.skip)) Built.nil)) ?_
              refine oBuildSlice1 rfl rfl rfl rfl rfl (by first | exact CellsOf.agg | exact CellsOf.one rfl) rfl (fun b55 => ?_)
              refine oApp1 (kd := kIt) (id, key) rfl rfl rfl rfl (by repeat (first | exact Pick.here | apply Pick.there)) (by repeat (first | exact Pick.here | apply Pick.there)) (kIt_mk _ _) (by omega) rfl (fun g56 cp56 => ?_)
              refine oAssign rfl ?_
              refine oNil ?_
              refine thn_n ?_
              refine wRegion' ?_
              refine oAssign rfl ?_
              refine oNil ?_
              refine thn_n ?_
              refine wRegion' ?_
              refine oMove rfl ?_
              refine oMove rfl ?_
              refine oMove rfl ?_
              refine oIdx rfl rfl (hC) rfl (by omega) rfl rfl (fun e60 u60 cs60 hu60 hk60 hc60 => ?_)
              obtain rfl := kIt_open hk60
              obtain rfl := Option.some.inj (hat.symm.trans hu60)
              first | refine oLdX rfl hc60 rfl rfl ?_ | refine oLdXA rfl hc60 rfl (by repeat (first | exact SubL.done | apply SubL.take | apply SubL.drop)) ?_ | (refine oLdR1 rfl (by repeat (first | exact Pick.here | apply Pick.there)) (by omega) rfl (fun u61 hu61 => ?_))
              refine oBuildSlice1 rfl rfl rfl rfl rfl (by first | exact CellsOf.agg | exact CellsOf.one rfl) rfl (fun b62 => ?_)
              refine oApp1 (kd := kIt) x rfl rfl rfl rfl (by repeat (first | exact Pick.here | apply Pick.there)) (by repeat (first | exact Pick.here | apply Pick.there)) (kIt_mk _ _) (by first | omega | (simp only [List.length_append, List.length_cons, List.length_nil]; omega)) rfl (fun g63 cp63 => ?_)
              refine oAssign rfl ?_
              refine oNil ?_
              refine blk_n ?_
              refine thn_n ?_
              refine wRegion' ?_
              refine oMove rfl ?_
              refine oSucc rfl rfl (by omega) ?_
              refine oAssign rfl ?_
              refine oNil ?_
              refine thn_n ?_
              have hlt : lt2 (id, key) x := by unfold lt2; dsimp only; omega
              have hp : put = false := by simpa using h24
              refine ⟨rfl, ((tk ++ [x], Wt), (some ⟨g63, 0, none⟩, cp63), out ++ [(id, key)] ++ [x], true), ⟨by rw [hsp]; simp, by show out ++ [(id, key)] ++ [x] ++ Wt = qins (id, key) W; rw [← hout, hp, if_neg (by simp), qins_here hlt]; simp⟩, by show Wt.length < (x :: Wt).length; simp, ?_, ?_⟩
              · simp only [List.length_append, List.length_cons, List.length_nil, Nat.zero_add]
                exact (by repeat (first | exact trivial | refine And.intro rfl ?_))
              · simp only [List.length_append, List.length_cons, List.length_nil, Nat.zero_add]
                exact (Leads.has (by repeat' (first | exact Has.nil | exact Pick.here | apply Has.cons | apply Pick.there)))
            ·
              refine wSkip ?_
              refine thn_n ?_
              refine wRegion' ?_
              refine oMove rfl ?_
              refine oMove rfl ?_
              refine oMove rfl ?_
              refine oIdx rfl rfl (hC) rfl (by omega) rfl rfl (fun e60 u60 cs60 hu60 hk60 hc60 => ?_)
              obtain rfl := kIt_open hk60
              obtain rfl := Option.some.inj (hat.symm.trans hu60)
              first | refine oLdX rfl hc60 rfl rfl ?_ | refine oLdXA rfl hc60 rfl (by repeat (first | exact SubL.done | apply SubL.take | apply SubL.drop)) ?_ | (refine oLdR1 rfl (by repeat (first | exact Pick.here | apply Pick.there)) (by omega) rfl (fun u61 hu61 => ?_))
              refine oBuildSlice1 rfl rfl rfl rfl rfl (by first | exact CellsOf.agg | exact CellsOf.one rfl) rfl (fun b62 => ?_)
              refine oApp1 (kd := kIt) x rfl rfl rfl rfl (by repeat (first | exact Pick.here | apply Pick.there)) (by repeat (first | exact Pick.here | apply Pick.there)) (kIt_mk _ _) (by first | omega | (simp only [List.length_append, List.length_cons, List.length_nil]; omega)) rfl (fun g63 cp63 => ?_)
              refine oAssign rfl ?_
              refine oNil ?_
              refine blk_n ?_
              refine thn_n ?_
              refine wRegion' ?_
              refine oMove rfl ?_
              refine oSucc rfl rfl (by omega) ?_
              refine oAssign rfl ?_
              refine oNil ?_
              refine thn_n ?_
              have hnot : put = false → ¬ lt2 (id, key) x := fun _ => by unfold lt2; dsimp only; omega
              refine ⟨rfl, ((tk ++ [x], Wt), (some ⟨g63, 0, none⟩, cp63), out ++ [x], put), ⟨by rw [hsp]; simp, by rw [← hout]; have := hnot; cases put <;> simp_all [qins_on]⟩, by show Wt.length < (x :: Wt).length; simp, ?_, ?_⟩
              · simp only [List.length_append, List.length_cons, List.length_nil, Nat.zero_add]
                exact (by repeat (first | exact trivial | refine And.intro rfl ?_))
              · simp only [List.length_append, List.length_cons, List.length_nil, Nat.zero_add]
                exact (Leads.has (by repeat' (first | exact Has.nil | exact Pick.here | apply Has.cons | apply Pick.there)))
          ·
            refine oSkip rfl rfl rfl rfl ?_
            refine oSkip rfl rfl rfl rfl ?_
            refine oSkip rfl rfl rfl rfl ?_
            refine oSkip rfl rfl rfl rfl ?_
            refine oSkip rfl rfl rfl rfl ?_
            refine oSkip rfl rfl rfl rfl ?_
            refine oSkip rfl rfl rfl rfl ?_
            refine oWant rfl rfl ?_
            refine oPickF rfl rfl ?_
            refine oWant rfl rfl ?_
            refine oPickF rfl rfl ?_
            refine oPickT rfl rfl ?_
            refine oNil ?_
            refine thn_n ?_
            refine wCondF rfl ?_
            refine wSkip ?_
            refine thn_n ?_
            refine wRegion' ?_
            refine oMove rfl ?_
            refine oMove rfl ?_
            refine oMove rfl ?_
            refine oIdx rfl rfl (hC) rfl (by omega) rfl rfl (fun e60 u60 cs60 hu60 hk60 hc60 => ?_)
            obtain rfl := kIt_open hk60
            obtain rfl := Option.some.inj (hat.symm.trans hu60)
            first | refine oLdX rfl hc60 rfl rfl ?_ | refine oLdXA rfl hc60 rfl (by repeat (first | exact SubL.done | apply SubL.take | apply SubL.drop)) ?_ | (refine oLdR1 rfl (by repeat (first | exact Pick.here | apply Pick.there)) (by omega) rfl (fun u61 hu61 => ?_))
            refine oBuildSlice1 rfl rfl rfl rfl rfl (by first | exact CellsOf.agg | exact CellsOf.one rfl) rfl (fun b62 => ?_)
            refine oApp1 (kd := kIt) x rfl rfl rfl rfl (by repeat (first | exact Pick.here | apply Pick.there)) (by repeat (first | exact Pick.here | apply Pick.there)) (kIt_mk _ _) (by first | omega | (simp only [List.length_append, List.length_cons, List.length_nil]; omega)) rfl (fun g63 cp63 => ?_)
            refine oAssign rfl ?_
            refine oNil ?_
            refine blk_n ?_
            refine thn_n ?_
            refine wRegion' ?_
            refine oMove rfl ?_
            refine oSucc rfl rfl (by omega) ?_
            refine oAssign rfl ?_
            refine oNil ?_
            refine thn_n ?_
            have hnot : put = false → ¬ lt2 (id, key) x := fun _ => by unfold lt2; dsimp only; omega
            refine ⟨rfl, ((tk ++ [x], Wt), (some ⟨g63, 0, none⟩, cp63), out ++ [x], put), ⟨by rw [hsp]; simp, by rw [← hout]; have := hnot; cases put <;> simp_all [qins_on]⟩, by show Wt.length < (x :: Wt).length; simp, ?_, ?_⟩
            · simp only [List.length_append, List.length_cons, List.length_nil, Nat.zero_add]
              exact (by repeat (first | exact trivial | refine And.intro rfl ?_))
            · simp only [List.length_append, List.length_cons, List.length_nil, Nat.zero_add]
              exact (Leads.has (by repeat' (first | exact Has.nil | exact Pick.here | apply Has.cons | apply Pick.there)))
      ·
        refine oSkip rfl rfl rfl rfl ?_
        refine oSkip rfl rfl rfl rfl ?_
        refine oSkip rfl rfl rfl rfl ?_
        refine oSkip rfl rfl rfl rfl ?_
        refine oSkip rfl rfl rfl rfl ?_
        refine oSkip rfl rfl rfl rfl ?_
        refine oSkip rfl rfl rfl rfl ?_
        refine oSkip rfl rfl rfl rfl ?_
        refine oSkipU rfl rfl rfl ?_
        refine oSkipU rfl rfl rfl ?_
        refine oSkipU rfl rfl rfl ?_
        refine oSkipU rfl rfl rfl ?_
        refine oSkipU rfl rfl rfl ?_
        refine oSkipU rfl rfl rfl ?_
        refine oSkipU rfl rfl rfl ?_
        refine oSkipU rfl rfl rfl ?_
        refine oSkipU rfl rfl rfl ?_
        refine oSkipU rfl rfl rfl ?_
        refine oSkipU rfl rfl rfl ?_
        refine oSkipU rfl rfl rfl ?_
        refine oSkipU rfl rfl rfl ?_
        refine oSkipU rfl rfl rfl ?_
        refine oSkipU rfl rfl rfl ?_
        refine oSkipU rfl rfl rfl ?_
        refine oSkip rfl rfl rfl rfl ?_
        refine oPickF rfl rfl ?_
        refine oNil ?_
        refine thn_n ?_
        refine wCondF rfl ?_
        refine wSkip ?_
        refine thn_n ?_
        refine wRegion' ?_
        refine oMove rfl ?_
        refine oMove rfl ?_
        refine oMove rfl ?_
        refine oIdx rfl rfl (hC) rfl (by omega) rfl rfl (fun e60 u60 cs60 hu60 hk60 hc60 => ?_)
        obtain rfl := kIt_open hk60
        obtain rfl := Option.some.inj (hat.symm.trans hu60)
        first | refine oLdX rfl hc60 rfl rfl ?_ | refine oLdXA rfl hc60 rfl (by repeat (first | exact SubL.done | apply SubL.take | apply SubL.drop)) ?_ | (refine oLdR1 rfl (by repeat (first | exact Pick.here | apply Pick.there)) (by omega) rfl (fun u61 hu61 => ?_))
        refine oBuildSlice1 rfl rfl rfl rfl rfl (by first | exact CellsOf.agg | exact CellsOf.one rfl) rfl (fun b62 => ?_)
        refine oApp1 (kd := kIt) x rfl rfl rfl rfl (by repeat (first | exact Pick.here | apply Pick.there)) (by repeat (first | exact Pick.here | apply Pick.there)) (kIt_mk _ _) (by first | omega | (simp only [List.length_append, List.length_cons, List.length_nil]; omega)) rfl (fun g63 cp63 => ?_)
        refine oAssign rfl ?_
        refine oNil ?_
        refine blk_n ?_
        refine thn_n ?_
        refine wRegion' ?_
        refine oMove rfl ?_
        refine oSucc rfl rfl (by omega) ?_
        refine oAssign rfl ?_
        refine oNil ?_
        refine thn_n ?_
        have hnot : put = false → ¬ lt2 (id, key) x := fun e => by simp [e] at h24
        refine ⟨rfl, ((tk ++ [x], Wt), (some ⟨g63, 0, none⟩, cp63), out ++ [x], put), ⟨by rw [hsp]; simp, by rw [← hout]; have := hnot; cases put <;> simp_all [qins_on]⟩, by show Wt.length < (x :: Wt).length; simp, ?_, ?_⟩
        · simp only [List.length_append, List.length_cons, List.length_nil, Nat.zero_add]
          exact (by repeat (first | exact trivial | refine And.intro rfl ?_))
        · simp only [List.length_append, List.length_cons, List.length_nil, Nat.zero_add]
          exact (Leads.has (by repeat' (first | exact Has.nil | exact Pick.here | apply Has.cons | apply Pick.there)))
    ·
      obtain rfl : Wr = [] := List.eq_nil_of_length_eq_zero (by omega)
      refine wExit ?_
      refine thn_x ?_
      refine thn_x ?_
      refine blk_x ?_
      refine thn_n ?_
      refine wSeq ?_
      refine wSeq ?_
      refine wRegion' ?_
      refine oMove rfl ?_
      first | refine oNot rfl ?_ | refine oNotB rfl ?_
      refine oNil ?_
      refine thn_n ?_
      first | refine wCond rfl (fun h65 => ?_) (fun h65 => ?_) | refine wCondB rfl (fun h65 => ?_) (fun h65 => ?_)
      ·
        refine wRegion' ?_
        refine oMove rfl ?_
        refine oMove rfl ?_
        refine oMove rfl ?_
        refine oBuild (Parts.cons rfl (Parts.cons rfl Parts.nil)) rfl rfl (Built.cons (off := 0) (s := 1) rfl (by first | exact CellsOf.agg | exact CellsOf.one rfl) rfl (by repeat (first | exact PutL.done | apply PutL.put | apply PutL.skip)) (Built.cons (off := 1) (s := 1) rfl (by first | exact CellsOf.agg | exact CellsOf.one rfl) rfl (by repeat (first | exact PutL.done | apply PutL.put | apply PutL.skip)) Built.nil)) ?_
        refine oBuildSlice1 rfl rfl rfl rfl rfl (by first | exact CellsOf.agg | exact CellsOf.one rfl) rfl (fun b70 => ?_)
        refine oApp1 (kd := kIt) (id, key) rfl rfl rfl rfl (by repeat (first | exact Pick.here | apply Pick.there)) (by repeat (first | exact Pick.here | apply Pick.there)) (kIt_mk _ _) (by omega) rfl (fun g71 cp71 => ?_)
        refine oAssign rfl ?_
        refine oNil ?_
        refine thn_n ?_
        refine wSeq ?_
        refine wRegion' ?_
        refine oMove rfl ?_
        refine oRoom (by repeat (first | exact Pick.here | apply Pick.there)) (fun _ hcp => ?_)
        refine oAssign rfl ?_
        refine oAssign rfl ?_
        refine oNil ?_
        refine thn_n ?_
        refine wRet ?_
        refine fin_r ?_
        refine ⟨rfl, _, (ResL.cons (ResR.tmp rfl) (ResL.cons (ResR.tmp rfl) ResL.nil)), ?_⟩
        have ho : out ++ [(id, key)] = qins (id, key) W := by rw [← hout, if_neg (by simpa using h65)]; rfl
        have hol : out.length = W.length := by have := congrArg List.length ho; rw [qins_len] at this; simpa using this
        exact ⟨(some ⟨g71, 0, none⟩, cp71), by show W.length + 1 ≤ cp71; omega, by rw [hol]; rfl, by rw [← ho, ← hol]; exact (Leads.has (by repeat' (first | exact Has.nil | exact Pick.here | apply Has.cons | apply Pick.there)))⟩
      ·
        refine wSkip ?_
        refine thn_n ?_
        refine wSeq ?_
        refine wRegion' ?_
        refine oMove rfl ?_
        refine oRoom (by repeat (first | exact Pick.here | apply Pick.there)) (fun _ hcp => ?_)
        refine oAssign rfl ?_
        refine oAssign rfl ?_
        refine oNil ?_
        refine thn_n ?_
        refine wRet ?_
        refine fin_r ?_
        refine ⟨rfl, _, (ResL.cons (ResR.tmp rfl) (ResL.cons (ResR.tmp rfl) ResL.nil)), ?_⟩
        have ho : out = qins (id, key) W := by rw [← hout, if_pos (by simpa using h65)]; simp
        have hol : out.length = W.length + 1 := by rw [ho, qins_len]
        exact ⟨(A8, c8), by show W.length + 1 ≤ c8; omega, by rw [hol]; rfl, by rw [← ho, ← hol]; exact (Leads.has (by repeat' (first | exact Has.nil | exact Pick.here | apply Has.cons | apply Pick.there)))⟩
end Go.Proofs.YtnidmlngkpkmlaaQ
