import Derived.Test.YtcacohoanlljhaaDoorNc

/-
  Names of files; the fixed calls; the statements on names.
-/
namespace Go.Proofs.YtcacohoanlljhaaDoorN
set_option linter.unusedVariables false
set_option linter.unusedSimpArgs false
open Go.RowKit Go.Proofs.YtcacohoanlljhaaDoorK Go.Proofs.YtcacohoanlljhaaDoorT Go.Proofs.YtcacohoanlljhaaDoorL

/-! ### decimals -/
theorem ofL_append (a b : List UInt8) : ofL (a ++ b) = ofL a ++ ofL b := by
  apply ByteArray.ext
  rw [ByteArray.data_append]
  simp [ofL]
theorem app_assoc (a b c : ByteArray) : a ++ b ++ c = a ++ (b ++ c) := by
  apply ByteArray.ext
  simp [ByteArray.data_append]
theorem app_emp (a : ByteArray) : a ++ ByteArray.empty = a := by
  apply ByteArray.ext
  rw [ByteArray.data_append]
  show a.data ++ #[] = a.data
  simp
theorem digB_one (k : Int) : bytesS [digB k] = ofL [UInt8.ofNat (48 + k.natAbs % 10)] := by
  have : (digB k).toNat = 48 + k.natAbs % 10 := by
    unfold digB
    rw [Int.natAbs_tmod]
    show (48 + ((k.natAbs % 10 : Nat) : Int)).toNat = _
    omega
  unfold bytesS ofL
  simp [this]
theorem digS_eq : ∀ (f : Nat) (k : Int) (s : ByteArray), k ≠ 0 → k.natAbs < 10 ^ f → digS f k s = ofL (Lib.decDigits k.natAbs) ++ s
  | 0, k, s, h, hk => by simp at hk; omega
  | f + 1, k, s, h, hk => by
    rw [digS, if_neg h, digB_one]
    have hd : (k.tdiv 10).natAbs = k.natAbs / 10 := by rw [Int.natAbs_tdiv]; rfl
    by_cases h10 : k.natAbs < 10
    · have h0 : k.tdiv 10 = 0 := Int.natAbs_eq_zero.1 (by omega)
      rw [h0, Lib.decDigits_one h10, Nat.mod_eq_of_lt h10]
      cases f with
      | zero => rfl
      | succ f => rw [digS, if_pos rfl]
    · have h0 : k.tdiv 10 ≠ 0 := fun e => by rw [e] at hd; simp at hd; omega
      rw [digS_eq f _ _ h0 (by rw [hd, Nat.pow_succ] at *; omega), hd]
      conv => rhs; rw [Lib.decDigits, dif_neg h10, ofL_append]
      rw [app_assoc]
theorem itoa_eq {z : Int} (hz : in64 z) : (⟨(Lib.itoa z).toArray⟩ : ByteArray) = decF z := by
  have hb : z.natAbs < 10 ^ 20 := by unfold in64 at hz; omega
  show ofL (Lib.itoa z) = decF z
  unfold Lib.itoa decF
  by_cases h0 : z = 0
  · subst h0
    rw [if_neg (by omega), if_pos rfl, show (0 : Int).toNat = 0 from rfl, Lib.decDigits_one (by decide)]
    rfl
  · rw [if_neg h0]
    by_cases h1 : z < 0
    · rw [if_pos h1, if_pos h1, digS_eq 20 z _ h0 hb, app_emp]
      show ofL ([45] ++ Lib.decDigits z.natAbs) = _
      rw [ofL_append]; rfl
    · rw [if_neg h1, if_neg h1, digS_eq 20 z _ h0 hb, app_emp, show z.toNat = z.natAbs by omega]
/-! ### joined names -/
def dotF : ByteArray := ⟨#[46, 102]⟩
def joinT (file : Int) (s : ByteArray) : ByteArray := s ++ dotF ++ decF file
def joinF (file : Int) (s : ByteArray) : ByteArray := if file < 0 ∨ nameF4 (joinT file s) ≠ 0 then ByteArray.empty else joinT file s
theorem Keeps.tabP {B B' : Base} {P : Program} (h : Keeps B B') (hT : TabP P B.e) : TabP P B'.e := Keeps.tab h hT
set_option maxRecDepth 100000 in
theorem name_Join {B : Base} {w : World} (hS : St B [] w) (hT : TabP Tryd.prog B.e) (file : Int) (hf : in64 file) (s : ByteArray) (hs : s.size ≤ 1000) :
    CallsIn Fence.wide 0 Tryd.prog 10 #[.int .i64 file, .string s] w (Ret B (fun _ : Unit => True) (fun _ => .string (joinF file s)) (fun _ => [])) := by
  have hsz := decF_size file
  have hd2 : dotF.size = 2 := rfl
  (refine enter Tryd.func10 rfl rfl hS ?_; simp only [List.zipIdx_cons, List.zipIdx_nil, List.map_cons, List.map_nil, Nat.reduceAdd, Nat.zero_add])
  refine wSeq ?_
  refine wRegion' ?_
  refine oAssign rfl ?_
  refine oNil ?_
  refine thn_n ?_
  refine wSeq ?_
  refine wRegion' ?_
  refine oMove rfl ?_
  refine oAddStr (r := dotF) rfl rfl (by omega) ?_
  refine oMove rfl ?_
  (refine oCall rfl (by kernel_rfl) (fun w hS => frameK hS (by repeat' (first | exact Split.nil | exact Pick.here | apply Split.cons | apply Pick.there)) (fun B' hB hK hS' => itoa laysmn171_at hS' (Keeps.tabP hK hT) file hf.1 hf.2)) ?_; rintro ⟨⟩ -)
  rw [itoa_eq hf]
  refine oAddStr rfl rfl (by rw [ByteArray.size_append]; omega) ?_
  refine oAssign rfl ?_
  refine oNil ?_
  refine thn_n ?_
  refine wSeq ?_
  refine wSeq ?_
  refine wRegion' ?_
  refine oMove rfl ?_
  refine oLss rfl rfl ?_
  refine oMove rfl ?_
  first | refine oSplit (t := 13) rfl (fun h13 => ?_) (fun h13 => ?_) | refine oSplitB (t := 13) rfl (fun h13 => ?_) (fun h13 => ?_)
  ·
    refine oSkip rfl rfl rfl rfl ?_
    refine oSkip rfl rfl rfl rfl ?_
    refine oSkip rfl rfl rfl rfl ?_
    refine oPickT rfl rfl ?_
    refine oNil ?_
    refine thn_n ?_
    first | refine wCondT rfl ?_ | refine wCondTd h17 rfl ?_ | refine wCondTb h17 rfl ?_
    refine wSeq ?_
    refine wRegion' ?_
    refine oAssign rfl ?_
    refine oNil ?_
    refine thn_n ?_
    refine wRet ?_
    refine thn_r ?_
    refine fin_r ?_
    refine ⟨rfl, _, (ResL.cons (ResR.tmp rfl) ResL.nil), ?_⟩
    exact ⟨(), trivial, by unfold joinF; rw [if_pos (.inl h13)]; rfl, (Leads.has (by repeat' (first | exact Has.nil | exact Pick.here | apply Has.cons | apply Pick.there)))⟩
  ·
    refine oWant rfl rfl ?_
    refine oMove rfl ?_
    refine oWant rfl rfl ?_
    (refine oCall rfl (by kernel_rfl) (fun w hS => frame hS (by repeat' (first | exact Split.nil | exact Pick.here | apply Split.cons | apply Pick.there)) (fun B' hB hS' => name_Check hS' (joinT file s))) ?_; rintro ⟨⟩ -)
    refine oWant rfl rfl ?_
    refine oNeq rfl rfl ?_
    refine oPickF rfl rfl ?_
    refine oNil ?_
    refine thn_n ?_
    first | refine wCond rfl (fun h17 => ?_) (fun h17 => ?_) | refine wCondB rfl (fun h17 => ?_) (fun h17 => ?_)
    ·
      refine wSeq ?_
      refine wRegion' ?_
      refine oAssign rfl ?_
      refine oNil ?_
      refine thn_n ?_
      refine wRet ?_
      refine thn_r ?_
      refine fin_r ?_
      refine ⟨rfl, _, (ResL.cons (ResR.tmp rfl) ResL.nil), ?_⟩
      exact ⟨(), trivial, by unfold joinF; rw [if_pos (.inr (by simpa using h17))]; rfl, (Leads.has (by repeat' (first | exact Has.nil | exact Pick.here | apply Has.cons | apply Pick.there)))⟩
    ·
      refine wSkip ?_
      refine thn_n ?_
      refine wSeq ?_
      refine wRegion' ?_
      refine oMove rfl ?_
      refine oAssign rfl ?_
      refine oNil ?_
      refine thn_n ?_
      refine wRet ?_
      refine fin_r ?_
      refine ⟨rfl, _, (ResL.cons (ResR.tmp rfl) ResL.nil), ?_⟩
      exact ⟨(), trivial, by unfold joinF; rw [if_neg (fun h => h.elim h13 (fun h => h (by simpa using h17)))]; rfl, (Leads.has (by repeat' (first | exact Has.nil | exact Pick.here | apply Has.cons | apply Pick.there)))⟩
set_option maxRecDepth 100000 in
theorem ref4_Join {B : Base} {w : World} (hS : St B [] w) (file : Int) (hf : in64 file) (s : ByteArray) (hs : s.size ≤ 1000) :
    CallsIn Fence.wide 0 Tryd.prog 11 #[.int .i64 file, .string s] w (Ret B (fun _ : Unit => True) (fun _ => .string (joinF file s)) (fun _ => [])) := by
  have hsz := decF_size file
  have hd2 : dotF.size = 2 := rfl
  (refine enter Tryd.func11 rfl rfl hS ?_; simp only [List.zipIdx_cons, List.zipIdx_nil, List.map_cons, List.map_nil, Nat.reduceAdd, Nat.zero_add])
  refine wSeq ?_
  refine wRegion' ?_
  refine oAssign rfl ?_
  refine oNil ?_
  refine thn_n ?_
  refine wSeq ?_
  refine wSeq ?_
  refine wRegion' ?_
  refine oMove rfl ?_
  refine oLss rfl rfl ?_
  refine oNil ?_
  refine thn_n ?_
  first | refine wCond rfl (fun h7 => ?_) (fun h7 => ?_) | refine wCondB rfl (fun h7 => ?_) (fun h7 => ?_)
  ·
    refine wSeq ?_
    refine wRegion' ?_
    refine oAssign rfl ?_
    refine oNil ?_
    refine thn_n ?_
    refine wRet ?_
    refine thn_r ?_
    refine fin_r ?_
    refine ⟨rfl, _, (ResL.cons (ResR.tmp rfl) ResL.nil), ?_⟩
    exact ⟨(), trivial, by unfold joinF; rw [if_pos (.inl h7)]; rfl, (Leads.has (by repeat' (first | exact Has.nil | exact Pick.here | apply Has.cons | apply Pick.there)))⟩
  ·
    refine wSkip ?_
    refine thn_n ?_
    refine wSeq ?_
    refine wRegion' ?_
    refine oMove rfl ?_
    refine oAddStr (r := dotF) rfl rfl (by omega) ?_
    refine oMove rfl ?_
    (refine oCall rfl (by kernel_rfl) (fun w hS => frame hS (by repeat' (first | exact Split.nil | exact Pick.here | apply Split.cons | apply Pick.there)) (fun B' hB hS' => ref_Digits hS' file hf)) ?_; rintro ⟨⟩ -)
    refine oAddStr rfl rfl (by rw [ByteArray.size_append]; omega) ?_
    refine oAssign rfl ?_
    refine oNil ?_
    refine thn_n ?_
    refine wSeq ?_
    refine wSeq ?_
    refine wRegion' ?_
    refine oMove rfl ?_
    (refine oCall rfl (by kernel_rfl) (fun w hS => frame hS (by repeat' (first | exact Split.nil | exact Pick.here | apply Split.cons | apply Pick.there)) (fun B' hB hS' => ref4_Check hS' (joinT file s))) ?_; rintro ⟨⟩ -)
    refine oNeq rfl rfl ?_
    refine oNil ?_
    refine thn_n ?_
    first | refine wCond rfl (fun h15 => ?_) (fun h15 => ?_) | refine wCondB rfl (fun h15 => ?_) (fun h15 => ?_)
    ·
      refine wSeq ?_
      refine wRegion' ?_
      refine oAssign rfl ?_
      refine oNil ?_
      refine thn_n ?_
      refine wRet ?_
      refine thn_r ?_
      refine fin_r ?_
      refine ⟨rfl, _, (ResL.cons (ResR.tmp rfl) ResL.nil), ?_⟩
      exact ⟨(), trivial, by unfold joinF; rw [if_pos (.inr h15)]; rfl, (Leads.has (by repeat' (first | exact Has.nil | exact Pick.here | apply Has.cons | apply Pick.there)))⟩
    ·
      refine wSkip ?_
      refine thn_n ?_
      refine wSeq ?_
      refine wRegion' ?_
      refine oMove rfl ?_
      refine oAssign rfl ?_
      refine oNil ?_
      refine thn_n ?_
      refine wRet ?_
      refine fin_r ?_
      refine ⟨rfl, _, (ResL.cons (ResR.tmp rfl) ResL.nil), ?_⟩
      exact ⟨(), trivial, by unfold joinF; rw [if_neg (fun h => h.elim h7 h15)]; rfl, (Leads.has (by repeat' (first | exact Has.nil | exact Pick.here | apply Has.cons | apply Pick.there)))⟩
/-! ### alike -/
set_option maxRecDepth 100000 in
theorem ref1_Texts {B : Base} {w : World} (hS : St B [] w) (A : Option Addr) (cp : Nat) (a : List ByteArray) (hC : Kd.string.C B.e A a) (A' : Option Addr) (cp' : Nat) (b : List ByteArray) (hC' : Kd.string.C B.e A' b) (hl : a.length ≤ 1000000) :
    CallsIn Fence.wide 0 Tryd.prog 14 #[.slice A a.length cp, .slice A' b.length cp'] w (Ret B (fun _ : Unit => True) (fun _ => .bool (decide (a = b))) (fun _ => [])) := by
  have hlb := hC'.1
  (refine enter Tryd.func14 rfl rfl hS ?_; simp only [List.zipIdx_cons, List.zipIdx_nil, List.map_cons, List.map_nil, Nat.reduceAdd, Nat.zero_add])
  refine wSeq ?_
  refine wRegion' ?_
  refine oAssign rfl ?_
  refine oNil ?_
  refine thn_n ?_
  refine wSeq ?_
  refine wSeq ?_
  refine wRegion' ?_
  refine oMove rfl ?_
  refine oLenS rfl rfl ?_
  refine oMove rfl ?_
  refine oLenS rfl rfl ?_
  refine oNeq rfl rfl ?_
  refine oNil ?_
  refine thn_n ?_
  first | refine wCond rfl (fun h10 => ?_) (fun h10 => ?_) | refine wCondB rfl (fun h10 => ?_) (fun h10 => ?_)
  ·
    refine wSeq ?_
    refine wRegion' ?_
    refine oAssign rfl ?_
    refine oNil ?_
    refine thn_n ?_
    refine wRet ?_
    refine thn_r ?_
    refine fin_r ?_
    refine ⟨rfl, _, (ResL.cons (ResR.tmp rfl) ResL.nil), ?_⟩
    exact ⟨(), trivial, by rw [decide_eq_false (fun e => h10 (by rw [e]))]; rfl, (Leads.has (by repeat' (first | exact Has.nil | exact Pick.here | apply Has.cons | apply Pick.there)))⟩
  ·
    have hab : a.length = b.length := by omega
    refine wSkip ?_
    refine thn_n ?_
    refine wSeq ?_
    refine wSeq ?_
    refine wRegion' ?_
    refine oAssign rfl ?_
    refine oNil ?_
    refine thn_n ?_
    refine wBlock ?_
    refine wLoop (ι := Nat) (fun i => [(0, .slice A a.length cp), (1, .slice A' b.length cp'), (5, .int .i64 (i : Int))]) (fun i => []) (fun i => i ≤ a.length ∧ ∀ j, j < i → a[j]? = b[j]?) (fun i => a.length - i) 0 ?_ (by repeat (first | exact trivial | refine And.intro rfl ?_)) (Leads.has (by repeat' (first | exact Has.nil | exact Pick.here | apply Has.cons | apply Pick.there))) ?_
    ·
      exact ⟨Nat.zero_le _, fun j hj => by omega⟩
    ·
      rintro i ⟨hi, hs⟩
      try dsimp only
      refine wSeq ?_
      refine wSeq ?_
      refine wRegion' ?_
      refine oMove rfl ?_
      refine oMove rfl ?_
      refine oLenS rfl rfl ?_
      refine oLss rfl rfl ?_
      refine oNil ?_
      refine thn_n ?_
      first | refine wCond rfl (fun h14 => ?_) (fun h14 => ?_) | refine wCondB rfl (fun h14 => ?_) (fun h14 => ?_)
      ·
        refine wSkip ?_
        refine thn_n ?_
        refine wSeq ?_
        refine wBlock ?_
        refine wSeq ?_
        refine wDraw2 rfl rfl [0, 1, 4, 5] [2, 3, 6, 7] 8 (by kernel_rfl) rfl rfl rfl (fun w0 => ?_)
        refine oIdx rfl rfl (hC) rfl (by omega) rfl rfl (fun e19 u19 cs19 hu19 hk19 hc19 => ?_)
        obtain rfl := hk19
        first | refine oLdX rfl hc19 rfl rfl ?_ | refine oLdXA rfl hc19 rfl (by repeat (first | exact SubL.done | apply SubL.take | apply SubL.drop)) ?_ | (refine oLdR1 rfl (by repeat (first | exact Pick.here | apply Pick.there)) (by omega) rfl (fun u20 hu20 => ?_))
        refine oIdx rfl rfl (hC') rfl (by omega) rfl rfl (fun e23 u23 cs23 hu23 hk23 hc23 => ?_)
        obtain rfl := hk23
        first | refine oLdX rfl hc23 rfl rfl ?_ | refine oLdXA rfl hc23 rfl (by repeat (first | exact SubL.done | apply SubL.take | apply SubL.drop)) ?_ | (refine oLdR1 rfl (by repeat (first | exact Pick.here | apply Pick.there)) (by omega) rfl (fun u24 hu24 => ?_))
        refine oHead ?_
        refine oSNe rfl rfl ?_
        refine oNilT ?_
        refine thn_n ?_
        first | refine wCond rfl (fun h25 => ?_) (fun h25 => ?_) | refine wCondB rfl (fun h25 => ?_) (fun h25 => ?_)
        ·
          refine wSeq ?_
          refine wRegion' ?_
          refine oAssign rfl ?_
          refine oNil ?_
          refine thn_n ?_
          refine wRet ?_
          refine blk_r ?_
          refine thn_r ?_
          refine thn_r ?_
          refine blk_r ?_
          refine thn_r ?_
          refine fin_r ?_
          refine ⟨rfl, _, (ResL.cons (ResR.tmp rfl) ResL.nil), ?_⟩
          exact ⟨(), trivial, by rw [decide_eq_false (fun e => h25 (Option.some.inj (by rw [← hu19, ← hu23, e])))]; rfl, (Leads.has (by repeat' (first | exact Has.nil | exact Pick.here | apply Has.cons | apply Pick.there)))⟩
        ·
          refine wSkip ?_
          refine blk_n ?_
          refine thn_n ?_
          refine wRegion' ?_
          refine oMove rfl ?_
          refine oSucc rfl rfl (by omega) ?_
          refine oAssign rfl ?_
          refine oNil ?_
          refine thn_n ?_
          exact ⟨rfl, i + 1, ⟨by omega, fun j hj => by
          by_cases e : j = i
          · subst e; rw [hu19, hu23, Classical.not_not.1 h25]
          · exact hs j (by omega)⟩, by omega, (by repeat (first | exact trivial | refine And.intro rfl ?_)), (Leads.has (by repeat' (first | exact Has.nil | exact Pick.here | apply Has.cons | apply Pick.there)))⟩
      ·
        refine wExit ?_
        refine thn_x ?_
        refine thn_x ?_
        refine blk_x ?_
        refine thn_n ?_
        refine wSeq ?_
        refine wRegion' ?_
        refine oAssign rfl ?_
        refine oNil ?_
        refine thn_n ?_
        refine wRet ?_
        refine fin_r ?_
        refine ⟨rfl, _, (ResL.cons (ResR.tmp rfl) ResL.nil), ?_⟩
        obtain rfl : i = a.length := by omega
        have hab' : a = b := List.ext_getElem? (fun j => by
        rcases Nat.lt_or_ge j a.length with h | h
        · exact hs j h
        · rw [List.getElem?_eq_none h, List.getElem?_eq_none (by omega)])
        exact ⟨(), trivial, by rw [decide_eq_true hab']; rfl, (Leads.has (by repeat' (first | exact Has.nil | exact Pick.here | apply Has.cons | apply Pick.there)))⟩
end Go.Proofs.YtcacohoanlljhaaDoorN
