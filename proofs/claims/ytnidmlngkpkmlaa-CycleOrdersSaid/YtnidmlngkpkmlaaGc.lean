/-
  Package digraph: Reach.
-/
import Derived.Test.YtnidmlngkpkmlaaGb
namespace Go.Proofs.YtnidmlngkpkmlaaG
set_option linter.unusedVariables false
set_option linter.unusedSimpArgs false
open Go.RowKit Go.Proofs.YtnidmlngkpkmlaaK Go.Proofs.YtnidmlngkpkmlaaT Go.Proofs.YtnidmlngkpkmlaaL

/-- What is reached. -/
inductive RP (g : Graph) (from_ : List Int) : Int → Prop
  | start {a : Int} : a ∈ from_ → inG g a = true → RP g from_ a
  | step {a : Nat} {b : Int} : RP g from_ (a : Int) → b ∈ endsOf g a → RP g from_ b
theorem inG_iff {g : Graph} {x : Int} : inG g x = true ↔ 0 ≤ x ∧ x < (g.length : Int) := by simp [inG]
theorem ends_in {g : Graph} {a : Nat} {b : Int} (h : b ∈ endsOf g a) : inG g b = true := (List.mem_filter.1 h).2
theorem RP.inG {g : Graph} {f : List Int} {x : Int} (h : RP g f x) : inG g x = true := by
  cases h with
  | start _ h => exact h
  | step _ h => exact ends_in h
/-- The state of the search. -/
structure RS (g : Graph) (from_ : List Int) (out : List Bool) (wait : List Int) : Prop where
  len : out.length = g.length
  sound : ∀ i : Nat, out[i]? = some true → RP g from_ (i : Int)
  waits : ∀ x ∈ wait, RP g from_ x
  starts : ∀ x ∈ from_, inG g x = true → out[x.toNat]? = some true ∨ x ∈ wait
  closed : ∀ i : Nat, out[i]? = some true → ∀ b ∈ endsOf g i, out[b.toNat]? = some true ∨ b ∈ wait
theorem RS.done {g : Graph} {f : List Int} {out : List Bool} (h : RS g f out []) : ∀ x, RP g f x → out[x.toNat]? = some true := by
  intro x hx
  induction hx with
  | start h1 h2 =>
    rcases h.starts _ h1 h2 with h | h
    · exact h
    · cases h
  | step h1 h2 ih =>
    rcases h.closed _ (by simpa using ih) _ h2 with h | h
    · exact h
    · cases h
theorem RS.skip {g : Graph} {f : List Int} {out : List Bool} {wait : List Int} {x : Int} (h : RS g f out (wait ++ [x])) (hx : out[x.toNat]? = some true) : RS g f out wait := by
  refine ⟨h.len, h.sound, fun y hy => h.waits y (List.mem_append_left _ hy), fun y hy hi => ?_, fun i hi b hb => ?_⟩
  · rcases h.starts y hy hi with h | h
    · exact .inl h
    · rcases List.mem_append.1 h with h | h
      · exact .inr h
      · rw [List.mem_singleton.1 h]; exact .inl hx
  · rcases h.closed i hi b hb with h | h
    · exact .inl h
    · rcases List.mem_append.1 h with h | h
      · exact .inr h
      · rw [List.mem_singleton.1 h]; exact .inl hx
theorem RS.take {g : Graph} {f : List Int} {out : List Bool} {wait : List Int} {a : Nat} (h : RS g f out (wait ++ [(a : Int)])) (ha : a < out.length) : RS g f (out.set a true) (wait ++ endsOf g a) := by
  have hR : RP g f (a : Int) := h.waits _ (by simp)
  have hset : ∀ i : Nat, out[i]? = some true → (out.set a true)[i]? = some true := fun i hi => by
    rw [List.getElem?_set]
    split
    · rename_i e; subst e; simp [ha]
    · exact hi
  have haa : (out.set a true)[a]? = some true := by simp [ha]
  refine ⟨by rw [List.length_set]; exact h.len, fun i hi => ?_, fun x hx => ?_, fun x hx hi => ?_, fun i hi b hb => ?_⟩
  · rw [List.getElem?_set] at hi
    split at hi
    · rename_i e; subst e; exact hR
    · exact h.sound i hi
  · rcases List.mem_append.1 hx with hx | hx
    · exact h.waits x (List.mem_append_left _ hx)
    · exact .step hR hx
  · rcases h.starts x hx hi with h | h
    · exact .inl (hset _ h)
    · rcases List.mem_append.1 h with h | h
      · exact .inr (List.mem_append_left _ h)
      · rw [List.mem_singleton.1 h]; exact .inl (by simpa using haa)
  · by_cases e : i = a
    · subst e; exact .inr (List.mem_append_right _ hb)
    · have hi' : out[i]? = some true := by rw [List.getElem?_set, if_neg (fun h => e h.symm)] at hi; exact hi
      rcases h.closed i hi' b hb with h | h
      · exact .inl (hset _ h)
      · rcases List.mem_append.1 h with h | h
        · exact .inr (List.mem_append_left _ h)
        · rw [List.mem_singleton.1 h]; exact .inl (by simpa using haa)
theorem RS.init (g : Graph) (f : List Int) : RS g f (List.replicate g.length false) (f.filter (inG g)) := by
  refine ⟨by simp, fun i h => ?_, fun x hx => ?_, fun x hx hi => .inr (List.mem_filter.2 ⟨hx, hi⟩), fun i h => ?_⟩
  · rw [List.getElem?_replicate] at h; split at h <;> simp at h
  · obtain ⟨h1, h2⟩ := List.mem_filter.1 hx; exact .start h1 h2
  · rw [List.getElem?_replicate] at h; split at h <;> simp at h
def falses (out : List Bool) : Nat := (out.filter (fun b => !b)).length
theorem falses_set {out : List Bool} {a : Nat} (h : out[a]? = some false) : falses (out.set a true) + 1 = falses out := by
  unfold falses
  induction out generalizing a with
  | nil => simp at h
  | cons b out ih =>
    cases a with
    | zero => simp at h; subst h; simp
    | succ a =>
      have := ih (a := a) (by simpa using h)
      cases b <;> simp_all <;> omega
theorem falses_le (out : List Bool) : falses out ≤ out.length := List.length_filter_le _ _
theorem filter_take {u : List Int} {i : Nat} {x : Int} {P : Int → Bool} (h : u[i]? = some x) : (u.take (i + 1)).filter P = (u.take i).filter P ++ (if P x = true then [x] else []) := by
  obtain ⟨hi, rfl⟩ := List.getElem?_eq_some_iff.1 h
  rw [List.take_succ_eq_append_getElem hi, List.filter_append, List.filter_cons, List.filter_nil]

set_option maxRecDepth 100000 in
set_option maxHeartbeats 1000000 in
theorem reach_any {B : Base} {w : World} (hS : St B [] w) (g : Graph) (A : Option Addr) (cp : Nat) (hC : kII.C B.e A g) (hsm : SmallG g) (from_ : List Int) (A1 : Option Addr) (cp1 : Nat) (hC1 : (Kd.int .i64).C B.e A1 from_) (hf : from_.length ≤ 1000) (W0 : World) :
    CallsIn Fence.wide 0 Try.prog 63 #[.slice A g.length cp, .slice A1 from_.length cp1] w
      (Ret B (fun z : Option Addr × Nat × List Bool => z.2.2.length = g.length ∧ ∀ i : Nat, z.2.2[i]? = some true ↔ RP g from_ (i : Int)) (fun z => .slice z.1 g.length z.2.1) (fun z => [row Kd.bool W0 4 (.slice z.1 g.length z.2.1) z.2.2])) := by
  have hn := hsm.1
  (refine enterM Try.func63 rfl rfl hS ?_; simp only [List.zipIdx_cons, List.zipIdx_nil, List.map_cons, List.map_nil, Nat.reduceAdd, Nat.zero_add])
  refine wSeq ?_
  refine wRegion' ?_
  refine oAssign rfl ?_
  refine oNil ?_
  refine thn_n ?_
  refine wSeq ?_
  refine wRegion' ?_
  refine oMove rfl ?_
  refine oLenS rfl rfl ?_
  refine oMake (kd := Kd.bool) (W := W0) false rfl rfl rfl rfl rfl rfl (by omega) rfl (fun g13 => ?_)
  refine oAssign rfl ?_
  refine oNil ?_
  refine thn_n ?_
  refine wSeq ?_
  refine wRegion' ?_
  refine oAlloc rfl (by first | exact CellsOf.agg | exact CellsOf.one rfl) (fun b6 => ?_)
  refine oNil ?_
  refine thn_n ?_
  refine wSeq ?_
  refine wSeq ?_
  refine wRegion' ?_
  refine oMove rfl ?_
  refine oLenS rfl rfl ?_
  refine oMove rfl ?_
  refine oNil ?_
  refine thn_n ?_
  refine wBlock ?_
  refine wLoop (ι := Nat × Option Addr × Nat) (fun z => [(0, .slice A g.length cp), (5, .slice (some ⟨g13, 0, none⟩) g.length g.length), (6, .pointer (some ⟨b6, 0, none⟩)), (14, .slice A1 from_.length cp1), (15, .int .i64 (from_.length : Int)), (16, .int .i64 (z.1 : Int))]) (fun z => [row Kd.bool W0 4 (.slice (some ⟨g13, 0, none⟩) g.length g.length) (List.replicate g.length false), blk b6 50 [.slice z.2.1 ((from_.take z.1).filter (inG g)).length z.2.2], row (Kd.int .i64) W0 3 (.slice z.2.1 ((from_.take z.1).filter (inG g)).length z.2.2) ((from_.take z.1).filter (inG g))]) (fun z => z.1 ≤ from_.length) (fun z => from_.length - z.1) (0, none, 0) ?_ (by repeat (first | exact trivial | refine And.intro rfl ?_)) (Leads.nilrow.trans (Leads.has (by repeat' (first | exact Has.nil | exact Pick.here | apply Has.cons | apply Pick.there)))) ?_
  ·
    exact Nat.zero_le _
  ·
    rintro ⟨i, A2, c2⟩ hi
    dsimp only at hi
    have hle : ((from_.take i).filter (inG g)).length ≤ 1000 := Nat.le_trans (List.length_filter_le _ _) (by rw [List.length_take]; omega)
    dsimp only
    refine wSeq ?_
    refine wRegion' ?_
    refine oLss rfl rfl ?_
    refine oNil ?_
    refine thn_n ?_
    refine wSeq ?_
    first | refine wCond rfl (fun h17 => ?_) (fun h17 => ?_) | refine wCondB rfl (fun h17 => ?_) (fun h17 => ?_)
    ·
      refine wSkip ?_
      refine thn_n ?_
      refine wSeq ?_
      refine wBlock ?_
      refine wSeq ?_
      refine wRegion' ?_
      refine oIdx rfl rfl (hC1) rfl (by omega) rfl rfl (fun e18 u18 cs18 hu18 hk18 hc18 => ?_)
      obtain rfl := hk18
      have hft := filter_take (P := inG g) hu18
      first | refine oLdX rfl hc18 rfl rfl ?_ | refine oLdXA rfl hc18 rfl (by repeat (first | exact SubL.done | apply SubL.take | apply SubL.drop)) ?_ | (refine oLdR1 rfl (by repeat (first | exact Pick.here | apply Pick.there)) (by omega) rfl (fun u19 hu19 => ?_))
      refine oAssign rfl ?_
      refine oNil ?_
      refine thn_n ?_
      refine wSeq ?_
      refine wRegion' ?_
      refine oMove rfl ?_
      refine oGeq rfl rfl ?_
      refine oMove rfl ?_
      first | refine oSplit (t := 22) rfl (fun h22 => ?_) (fun h22 => ?_) | refine oSplitB (t := 22) rfl (fun h22 => ?_) (fun h22 => ?_)
      ·
        refine oWant rfl rfl ?_
        refine oMove rfl ?_
        refine oWant rfl rfl ?_
        refine oMove rfl ?_
        refine oWant rfl rfl ?_
        refine oLenS rfl rfl ?_
        refine oWant rfl rfl ?_
        refine oLss rfl rfl ?_
        refine oPickT rfl rfl ?_
        refine oNil ?_
        refine thn_n ?_
        first | refine wCond rfl (fun h27 => ?_) (fun h27 => ?_) | refine wCondB rfl (fun h27 => ?_) (fun h27 => ?_)
        ·
          refine wRegion' ?_
          refine oLd rfl (by repeat (first | exact Pick.here | apply Pick.there)) rfl rfl ?_
          refine oMove rfl ?_
          refine oBuildSlice1 rfl rfl rfl rfl rfl (by first | exact CellsOf.agg | exact CellsOf.one rfl) rfl (fun b30 => ?_)
          refine oApp1 u18 rfl rfl rfl rfl (by repeat (first | exact Pick.here | apply Pick.there)) (by repeat (first | exact Pick.here | apply Pick.there)) rfl (by omega) rfl (fun g31 cp31 => ?_)
          rw [if_pos (by simp [inG]; omega)] at hft
          rw [show ((from_.take i).filter (inG g)).length + 1 = ((from_.take (i + 1)).filter (inG g)).length by rw [hft, List.length_append]; rfl, ← hft]
          refine oSt rfl rfl rfl rfl rfl (by repeat (first | exact Pick.here | apply Pick.there)) (by repeat (first | exact SetAt.here | apply SetAt.there)) ?_
          refine oNil ?_
          refine blk_n ?_
          refine thn_n ?_
          refine wRegion' ?_
          refine oSucc rfl rfl (by omega) ?_
          refine oMove rfl ?_
          refine oNil ?_
          refine thn_n ?_
          exact ⟨rfl, (i + 1, some ⟨g31, 0, none⟩, cp31), by show i + 1 ≤ _; omega, by show from_.length - (i + 1) < from_.length - i; omega, (by repeat (first | exact trivial | refine And.intro rfl ?_)), (Leads.has (by repeat' (first | exact Has.nil | exact Pick.here | apply Has.cons | apply Pick.there)))⟩
        ·
          refine wSkip ?_
          refine blk_n ?_
          refine thn_n ?_
          refine wRegion' ?_
          refine oSucc rfl rfl (by omega) ?_
          refine oMove rfl ?_
          refine oNil ?_
          refine thn_n ?_
          rw [show (if inG g u18 = true then [u18] else []) = [] by rw [if_neg]; simp [inG]; omega, List.append_nil] at hft
          exact ⟨rfl, (i + 1, A2, c2), by show i + 1 ≤ _; omega, by show from_.length - (i + 1) < from_.length - i; omega, (by repeat (first | exact trivial | refine And.intro rfl ?_)), by dsimp only; rw [hft]; exact (Leads.has (by repeat' (first | exact Has.nil | exact Pick.here | apply Has.cons | apply Pick.there)))⟩
      ·
        refine oSkip rfl rfl rfl rfl ?_
        refine oSkip rfl rfl rfl rfl ?_
        refine oSkip rfl rfl rfl rfl ?_
        refine oSkip rfl rfl rfl rfl ?_
        refine oPickF rfl rfl ?_
        refine oNil ?_
        refine thn_n ?_
        refine wCondF rfl ?_
        refine wSkip ?_
        refine blk_n ?_
        refine thn_n ?_
        refine wRegion' ?_
        refine oSucc rfl rfl (by omega) ?_
        refine oMove rfl ?_
        refine oNil ?_
        refine thn_n ?_
        rw [show (if inG g u18 = true then [u18] else []) = [] by rw [if_neg]; simp [inG]; omega, List.append_nil] at hft
        exact ⟨rfl, (i + 1, A2, c2), by show i + 1 ≤ _; omega, by show from_.length - (i + 1) < from_.length - i; omega, (by repeat (first | exact trivial | refine And.intro rfl ?_)), by dsimp only; rw [hft]; exact (Leads.has (by repeat' (first | exact Has.nil | exact Pick.here | apply Has.cons | apply Pick.there)))⟩
    ·
      obtain rfl : i = from_.length := by omega
      rw [List.take_length]
      refine wExit ?_
      refine thn_x ?_
      refine thn_x ?_
      refine blk_x ?_
      refine thn_n ?_
      refine wSeq ?_
      refine wBlock ?_
      refine wLoopM (ι := List Bool × List Int × Option Addr × Nat) (fun z => [(0, .slice A g.length cp), (5, .slice (some ⟨g13, 0, none⟩) g.length g.length), (6, .pointer (some ⟨b6, 0, none⟩))]) (fun z => [row Kd.bool W0 4 (.slice (some ⟨g13, 0, none⟩) g.length g.length) z.1, blk b6 50 [.slice z.2.2.1 z.2.1.length z.2.2.2], row (Kd.int .i64) W0 3 (.slice z.2.2.1 z.2.1.length z.2.2.2) z.2.1]) (fun z => RS g from_ z.1 z.2.1 ∧ z.2.1.length + falses z.1 * 1000 ≤ 2000000) (fun z => falses z.1 * 1001 + z.2.1.length) (List.replicate g.length false, from_.filter (inG g), A2, c2) ?_ (by repeat (first | exact trivial | refine And.intro rfl ?_)) [] rfl (marks_nil.trans (Leads.has (by repeat' (first | exact Has.nil | exact Pick.here | apply Has.cons | apply Pick.there)))) ?_
      ·
        exact ⟨RS.init g from_, by have h1 : falses (List.replicate g.length false) ≤ g.length := Nat.le_trans (falses_le _) (by simp); have h2 : (from_.filter (inG g)).length ≤ from_.length := List.length_filter_le _ _; show (from_.filter (inG g)).length + falses (List.replicate g.length false) * 1000 ≤ 2000000; omega⟩
      ·
        rintro ⟨out, wait, A3, c3⟩ Ms ⟨hrs, hbd⟩
        dsimp only at hrs hbd
        have hol := hrs.len
        dsimp only
        refine wSeq ?_
        refine wSeq ?_
        refine wRegion' ?_
        refine oLd rfl (by repeat (first | exact Pick.here | apply Pick.there)) rfl rfl ?_
        refine oLenS rfl rfl ?_
        refine oGtr rfl rfl ?_
        refine oNil ?_
        refine thn_n ?_
        first | refine wCond rfl (fun h35 => ?_) (fun h35 => ?_) | refine wCondB rfl (fun h35 => ?_) (fun h35 => ?_)
        ·
          refine wSkip ?_
          refine thn_n ?_
          refine wBlock ?_
          refine wSeq ?_
          refine wRegion' ?_
          refine oLd rfl (by repeat (first | exact Pick.here | apply Pick.there)) rfl rfl ?_
          refine oLd rfl (by repeat (first | exact Pick.here | apply Pick.there)) rfl rfl ?_
          refine oLenS rfl rfl ?_
          first | refine oSub rfl rfl (by omega) ?_ | refine oSubW rfl rfl ?_
          refine oSet (t := 39) (v' := .int .i64 ((wait.length - 1 : Nat) : Int)) rfl (by congr 1; omega) ?_
          refine oIdxR rfl rfl (by repeat (first | exact Pick.here | apply Pick.there)) (by omega) rfl rfl (fun g40 hg40 => ?_)
          first | subst hg40 | (injection hg40 with hg40; injection hg40 with hg40; subst hg40)
          first | refine oLdX rfl hc40 rfl rfl ?_ | refine oLdXA rfl hc40 rfl (by repeat (first | exact SubL.done | apply SubL.take | apply SubL.drop)) ?_ | (refine oLdR1 rfl (by repeat (first | exact Pick.here | apply Pick.there)) (by omega) rfl (fun u41 hu41 => ?_))
          have hW : (wait.take (wait.length - 1)).length = wait.length - 1 := by simp
          have hw : wait = wait.take (wait.length - 1) ++ [u41] := by
            have h1 : wait.length - 1 < wait.length := by omega
            have h2 := (List.getElem?_eq_some_iff.1 hu41).2
            rw [← h2, ← List.take_succ_eq_append_getElem h1, show wait.length - 1 + 1 = wait.length by omega, List.take_length]
          have hin := inG_iff.1 (hrs.waits u41 (by rw [hw]; simp)).inG
          obtain ⟨a, rfl⟩ := Int.eq_ofNat_of_zero_le hin.1
          have ha : a < g.length := by omega
          have hel := ends_le hsm a
          have hrs' : RS g from_ out (wait.take (wait.length - 1) ++ [(a : Int)]) := by rw [← hw]; exact hrs
          refine oAssign rfl ?_
          refine oNil ?_
          refine thn_n ?_
          refine wSeq ?_
          refine wRegion' ?_
          refine oLd rfl (by repeat (first | exact Pick.here | apply Pick.there)) rfl rfl ?_
          refine oLd rfl (by repeat (first | exact Pick.here | apply Pick.there)) rfl rfl ?_
          refine oLenS rfl rfl ?_
          first | refine oSub rfl rfl (by omega) ?_ | refine oSubW rfl rfl ?_
          refine oSet (t := 45) (v' := .int .i64 ((wait.length - 1 : Nat) : Int)) rfl (by congr 1; omega) ?_
          refine oSliceTo rfl rfl (by omega) rfl (by repeat (first | exact Pick.here | apply Pick.there)) ?_
          refine oSt rfl rfl rfl rfl rfl (by repeat (first | exact Pick.here | apply Pick.there)) (by repeat (first | exact SetAt.here | apply SetAt.there)) ?_
          refine oNil ?_
          refine thn_n ?_
          refine wSeq ?_
          refine wSeq ?_
          refine wRegion' ?_
          refine oMove rfl ?_
          refine oMove rfl ?_
          refine oIdxR rfl rfl (by repeat (first | exact Pick.here | apply Pick.there)) (by omega) rfl rfl (fun g49 hg49 => ?_)
          first | subst hg49 | (injection hg49 with hg49; injection hg49 with hg49; subst hg49)
          first | refine oLdX rfl hc49 rfl rfl ?_ | refine oLdXA rfl hc49 rfl (by repeat (first | exact SubL.done | apply SubL.take | apply SubL.drop)) ?_ | (refine oLdR1 rfl (by repeat (first | exact Pick.here | apply Pick.there)) (by omega) rfl (fun u50 hu50 => ?_))
          refine oNil ?_
          refine thn_n ?_
          first | refine wCond rfl (fun h50 => ?_) (fun h50 => ?_) | refine wCondB rfl (fun h50 => ?_) (fun h50 => ?_)
          ·
            refine wExit ?_
            refine thn_x ?_
            refine blk_x ?_
            refine thn_n ?_
            exact ⟨Ms, rfl, (out, wait.take (wait.length - 1), some ⟨g40, 0, none⟩, c3), ⟨hrs'.skip (by rw [Int.toNat_natCast, hu50, h50]), by show (wait.take (wait.length - 1)).length + falses out * 1000 ≤ 2000000; rw [hW]; omega⟩, by show falses out * 1001 + (wait.take (wait.length - 1)).length < falses out * 1001 + wait.length; rw [hW]; omega, (by repeat (first | exact trivial | refine And.intro rfl ?_)), by (try dsimp only); rw [hW]; exact (Leads.has (by repeat' (first | exact Has.nil | exact Pick.here | apply Has.cons | apply Pick.there)))⟩
          ·
            have hfs := falses_set (out := out) (a := a) (by rw [hu50, h50])
            refine wSkip ?_
            refine thn_n ?_
            refine wSeq ?_
            refine wRegion' ?_
            refine oMove rfl ?_
            refine oMove rfl ?_
            refine oIdxR rfl rfl (by repeat (first | exact Pick.here | apply Pick.there)) (by omega) rfl rfl (fun g53 hg53 => ?_)
            first | subst hg53 | (injection hg53 with hg53; injection hg53 with hg53; subst hg53)
            refine oStR _ rfl rfl rfl rfl (by repeat (first | exact Pick.here | apply Pick.there)) (by first | omega | (simp only [List.length_set]; omega)) ?_
            refine oNil ?_
            refine thn_n ?_
            refine wSeq ?_
            refine wRegion' ?_
            refine oMove rfl ?_
            refine oMove rfl ?_
            (refine oCall rfl (by kernel_rfl) (fun w hS => frame hS (by repeat' (first | exact Split.nil | exact Pick.here | apply Split.cons | apply Pick.there)) (fun B' hB hS' => ends_any hS' A g.length cp (a : Int))) ?_; rintro ⟨p2, p3⟩ -)
            refine oNil ?_
            refine thn_n ?_
            refine wBlock ?_
            refine wRange rfl rfl (by kernel_rfl) (ends1 g A cp a p2 p3 hC ha) (by rintro _ h; obtain ⟨y, _, rfl⟩ := List.mem_map.1 h; rfl) rfl (ι := Nat × Option Addr × Nat) (κ := Unit) (fun j z => z.1 = j) (fun z => [marksR Ms, row Kd.bool W0 4 (.slice (some ⟨g13, 0, none⟩) g.length g.length) (out.set a true), blk b6 50 [.slice z.2.1 (wait.length - 1 + z.1) z.2.2], row (Kd.int .i64) W0 3 (.slice z.2.1 (wait.length - 1 + z.1) z.2.2) (wait.take (wait.length - 1) ++ (endsOf g a).take z.1)]) (fun x z => False) (fun x z => []) (0, some ⟨g40, 0, none⟩, c3) rfl (by dsimp only; rw [List.take_zero, List.append_nil, Nat.add_zero]; exact (Leads.has (by repeat' (first | exact Has.nil | exact Pick.here | apply Has.cons | apply Pick.there)))) ?_ ?_ ?_
            ·
              intro lp4 B' R1 R2 j hj
              rintro ⟨i, A2, c2⟩ hB rfl
              dsimp only
              have hj' : i < (endsOf g a).length := by simpa using hj
              have hlt : (wait.take (wait.length - 1) ++ (endsOf g a).take i).length = wait.length - 1 + i := by rw [List.length_append, hW, List.length_take]; omega
              have htk : wait.take (wait.length - 1) ++ (endsOf g a).take i ++ [(endsOf g a)[i]] = wait.take (wait.length - 1) ++ (endsOf g a).take (i + 1) := by rw [List.append_assoc, List.take_succ_eq_append_getElem hj']
              rw [List.getElem_map]
              generalize (endsOf g a)[i] = x at *
              dsimp only [hand, intV]
              refine wRegion' ?_
              refine oAssign rfl ?_
              refine oNil ?_
              refine aq_n (by repeat (first | exact Pick.here | apply Pick.there)) ?_
              refine wBlock ?_
              refine wRegion' ?_
              refine oLd rfl (by repeat (first | exact Pick.here | apply Pick.there)) rfl rfl ?_
              refine oMove rfl ?_
              refine oBuildSlice1 rfl rfl rfl rfl rfl (by first | exact CellsOf.agg | exact CellsOf.one rfl) rfl (fun b60 => ?_)
              refine oApp1 x rfl rfl rfl rfl (by repeat (first | exact Pick.here | apply Pick.there)) (by repeat (first | exact Pick.here | apply Pick.there)) rfl (by omega) rfl (fun g61 cp61 => ?_)
              rw [hlt, htk]
              refine oSt rfl rfl rfl rfl rfl (by repeat (first | exact Pick.here | apply Pick.there)) (by repeat (first | exact SetAt.here | apply SetAt.there)) ?_
              refine oNil ?_
              refine blk_n ?_
              refine rq_n ?_
              exact ⟨(i + 1, some ⟨g61, 0, none⟩, cp61), rfl, (Leads.has (by repeat' (first | exact Has.nil | exact Pick.here | apply Has.cons | apply Pick.there)))⟩
            ·
              rintro ⟨i, A2, c2⟩ Dm4 h
              dsimp only at h
              rw [List.length_map] at h
              subst h
              dsimp only
              rw [List.take_length]
              try dsimp only
              refine blk_n ?_
              refine blk_n ?_
              refine thn_n ?_
              exact ⟨Dm4 :: Ms, rfl, (out.set a true, wait.take (wait.length - 1) ++ endsOf g a, A2, c2), ⟨hrs'.take (by omega), by show (wait.take (wait.length - 1) ++ endsOf g a).length + falses (out.set a true) * 1000 ≤ 2000000; rw [List.length_append, hW]; omega⟩, by show falses (out.set a true) * 1001 + (wait.take (wait.length - 1) ++ endsOf g a).length < falses out * 1001 + wait.length; rw [List.length_append, hW]; omega, (by repeat (first | exact trivial | refine And.intro rfl ?_)), by (try dsimp only); rw [List.length_append, hW]; exact (marks_push (by repeat (first | exact Pick.here | apply Pick.there)) (by repeat (first | exact Pick.here | apply Pick.there))).trans (Leads.has (by repeat' (first | exact Has.nil | exact Pick.here | apply Has.cons | apply Pick.there)))⟩
            ·
              rintro _ _ _ h; exact h.elim
        ·
          refine wExit ?_
          refine thn_x ?_
          refine thn_x ?_
          refine blk_x ?_
          refine thn_n ?_
          refine wSeq ?_
          refine wRegion' ?_
          refine oMove rfl ?_
          refine oAssign rfl ?_
          refine oNil ?_
          refine thn_n ?_
          refine wRet ?_
          refine finMb_r (Ds := Ms) rfl (by repeat (first | exact Pick.here | apply Pick.there)) (ResL.cons (ResR.tmp rfl) ResL.nil) ?_
          have hw0 : wait = [] := List.eq_nil_of_length_eq_zero (by omega)
          subst hw0
          exact ⟨(some ⟨g13, 0, none⟩, g.length, out), ⟨hrs.len, fun i => ⟨hrs.sound i, fun h => by simpa using hrs.done _ h⟩⟩, rfl, (Leads.has (by repeat' (first | exact Has.nil | exact Pick.here | apply Has.cons | apply Pick.there)))⟩
end Go.Proofs.YtnidmlngkpkmlaaG
