/-
  sheerleglaw11: CycleOrders.
-/
import Derived.Test.YtnidmlngkpkmlaaGt
namespace Go.Proofs.YtnidmlngkpkmlaaG
set_option linter.unusedVariables false
set_option linter.unusedSimpArgs false
open Go.RowKit Go.Proofs.YtnidmlngkpkmlaaK Go.Proofs.YtnidmlngkpkmlaaT Go.Proofs.YtnidmlngkpkmlaaL

def outO (g : Graph) (ib : List Bool) : List Nat := if okO g ib then seqN g ib else []
theorem ordL_out (g : Graph) (ib : List Bool) : ordL g ib = (outO g ib).map Int.ofNat := by
  unfold ordL outO
  cases okO g ib <;> rfl
theorem out_is (g : Graph) (ib : List Bool) : IsO g ib (outO g ib) := by
  unfold outO
  cases okO g ib
  · exact ⟨List.nodup_nil, by simp⟩
  · exact seq_is g ib
theorem out_len (g : Graph) (ib : List Bool) : (outO g ib).length ≤ g.length := by
  have h1 := ordL_length g ib
  rw [ordL_out, List.length_map] at h1
  have h2 := trues_le (memL g ib)
  rw [memL_len] at h2
  rw [h1]
  split <;> omega
theorem on_len {g : Graph} {ib : List Bool} : decide (((onL g ib).length : Int) = 0) = okO g ib := by
  rw [Bool.eq_iff_iff, decide_eq_true_eq, ← on_nil]
  constructor
  · intro h; exact List.eq_nil_of_length_eq_zero (by omega)
  · intro h; rw [h]; rfl
def plc (out : List Nat) (i c : Nat) : Int := if c ∈ out.take i then ((out.idxOf c : Nat) : Int) + 1 else 0
def plcL (n : Nat) (out : List Nat) (i : Nat) : List Int := (List.range n).map (plc out i)
theorem plcL_len (n : Nat) (out : List Nat) (i : Nat) : (plcL n out i).length = n := by simp [plcL]
theorem plcL_at {n : Nat} {out : List Nat} {i c : Nat} (h : c < n) : (plcL n out i)[c]? = some (plc out i c) := by simp [plcL, h]
theorem plc_val {n : Nat} {out : List Nat} {i c : Nat} {u : Int} (hc : c < n) (hu : (plcL n out i)[c]? = some u) : u = plc out i c := by
  rw [plcL_at hc] at hu
  exact (Option.some.inj hu).symm
theorem plcL_zero (n : Nat) (out : List Nat) : plcL n out 0 = List.replicate n 0 := by
  apply List.ext_getElem?
  intro i
  unfold plcL
  rw [List.getElem?_map, List.getElem?_replicate]
  by_cases h : i < n <;> simp [h, plc]
theorem nd_inj {l : List Nat} (h : l.Nodup) {i j : Nat} (hi : i < l.length) (hj : j < l.length) (he : l[i] = l[j]) : i = j := by
  have h1 := List.pairwise_iff_getElem.1 h
  rcases Nat.lt_trichotomy i j with k | k | k
  · exact absurd he (h1 i j hi hj k)
  · exact k
  · exact absurd he.symm (h1 j i hj hi k)
theorem nd_take {out : List Nat} (hnd : out.Nodup) {i x : Nat} (hx : out[i]? = some x) : ¬ x ∈ out.take i ∧ out.idxOf x = i := by
  obtain ⟨hi, rfl⟩ := List.getElem?_eq_some_iff.1 hx
  have h2 : out.idxOf out[i] = i := by
    have h1 : out.idxOf out[i] < out.length := List.idxOf_lt_length_iff.2 (List.getElem_mem hi)
    exact nd_inj hnd h1 hi (List.getElem_idxOf h1)
  refine ⟨fun hm => ?_, h2⟩
  obtain ⟨j, hj, he⟩ := List.mem_take_iff_getElem.1 hm
  have := nd_inj hnd (show j < out.length by omega) hi he
  omega
theorem plcL_set {n : Nat} {out : List Nat} (hnd : out.Nodup) {i x : Nat} (hx : out[i]? = some x) : (plcL n out i).set x ((i : Int) + 1) = plcL n out (i + 1) := by
  obtain ⟨h1, h2⟩ := nd_take hnd hx
  have ht : out.take (i + 1) = out.take i ++ [x] := by rw [List.take_add_one, hx]; rfl
  apply List.ext_getElem?
  intro c
  rw [List.getElem?_set]
  by_cases hc : c < n
  · rw [plcL_at hc, plcL_at hc]
    by_cases e : x = c
    · subst e
      rw [if_pos rfl, if_pos (by rw [plcL_len]; exact hc)]
      unfold plc
      rw [ht, if_pos (by simp), h2]
    · rw [if_neg e]
      unfold plc
      rw [ht]
      have : ¬ c = x := fun h => e h.symm
      simp [this]
  · rw [List.getElem?_eq_none (show (plcL n out (i + 1)).length ≤ c by rw [plcL_len]; omega), List.getElem?_eq_none (show (plcL n out i).length ≤ c by rw [plcL_len]; omega), plcL_len]
    split
    · rw [if_neg (by omega)]
    · rfl
theorem plc_end {g : Graph} {ib : List Bool} {c : Nat} : plc (outO g ib) (outO g ib).length c = if c ∈ outO g ib then (((outO g ib).idxOf c : Nat) : Int) + 1 else 0 := by unfold plc; rw [List.take_length]
theorem plc_pos {g : Graph} {ib : List Bool} {c : Nat} : (0 < plc (outO g ib) (outO g ib).length c) ↔ c ∈ outO g ib := by
  rw [plc_end]
  split
  · rename_i h; simp only [h, iff_true]; omega
  · rename_i h; simp [h]
theorem plc_mem {g : Graph} {ib : List Bool} {c : Nat} (hok : okO g ib = true) : memF g ib (c : Int) = decide (0 < plc (outO g ib) (outO g ib).length c) := by
  rw [Bool.eq_iff_iff, decide_eq_true_eq, plc_pos]
  constructor
  · intro h; unfold outO; rw [hok, if_pos rfl]; exact seq_all hok h
  · intro h; exact (out_is g ib).mem c h
theorem plc_edge {g : Graph} {ib : List Bool} {a b : Nat} (hok : okO g ib = true) (ha : 0 < plc (outO g ib) (outO g ib).length a) (hb : 0 < plc (outO g ib) (outO g ib).length b) (he : edgeF g (a : Int) (b : Int) = true) : plc (outO g ib) (outO g ib).length a < plc (outO g ib) (outO g ib).length b := by
  rw [plc_pos] at ha hb
  have hma := (out_is g ib).mem a ha
  have hmb := (out_is g ib).mem b hb
  have hd : edE g ib a b = true := by
    unfold edgeF at he
    simp only [Bool.and_eq_true, decide_eq_true_eq, Int.toNat_natCast] at he
    exact edE_iff.2 ⟨by omega, by omega, he.2, hma, hmb⟩
  rw [plc_end, plc_end, if_pos ha, if_pos hb]
  have e : outO g ib = seqN g ib := by unfold outO; rw [hok, if_pos rfl]
  rw [e] at hb ⊢
  have := seq_on hd hb
  omega

set_option maxRecDepth 100000 in
set_option maxHeartbeats 2000000 in
theorem cycleOrders {B : Base} {w : World} (hS : St B [] w) (A : Option Addr) (cp : Nat) (g : Graph) (hC : kII.C B.e A g) (A1 : Option Addr) (cp1 : Nat) (ib : List Bool) (hC1 : Kd.bool.C B.e A1 ib) :
    CallsIn Fence.wide 0 Try.prog 11 #[.slice A g.length cp, .slice A1 ib.length cp1] w (Ret B (fun _ : Unit => True) (fun _ => .bool true) (fun _ => [])) := by
  have m1 := hC1.1
  (refine enter Try.func11 rfl rfl hS ?_; simp only [List.zipIdx_cons, List.zipIdx_nil, List.map_cons, List.map_nil, Nat.reduceAdd, Nat.zero_add])
  refine wSeq ?_
  refine wRegion' ?_
  refine oAssign rfl ?_
  refine oNil ?_
  refine thn_n ?_
  refine wSeq ?_
  refine wSeq ?_
  refine wRegion' ?_
  refine oMove rfl ?_
  (refine oCall rfl (by kernel_rfl) (fun w hS => frame hS (by repeat' (first | exact Split.nil | exact Pick.here | apply Split.cons | apply Pick.there)) (fun B' hB hS' => few10 hS' A cp g (Kd.C_grow hB hC))) ?_; rintro r14 h14)
  first | refine oNot rfl ?_ | refine oNotB rfl ?_
  refine oMove rfl ?_
  first | refine oSplit (t := 16) rfl (fun h16 => ?_) (fun h16 => ?_) | refine oSplitB (t := 16) rfl (fun h16 => ?_) (fun h16 => ?_)
  ·
    refine oSkip rfl rfl rfl rfl ?_
    refine oSkip rfl rfl rfl rfl ?_
    refine oSkip rfl rfl rfl rfl ?_
    refine oPickT rfl rfl ?_
    refine oNil ?_
    refine thn_n ?_
    refine wCondT rfl ?_
    refine wSeq ?_
    refine wRegion' ?_
    (refine oCall rfl (by kernel_rfl) (fun w hS => frame hS (by repeat' (first | exact Split.nil | exact Pick.here | apply Split.cons | apply Pick.there)) (fun B' hB hS' => known11 hS')) ?_; rintro ⟨⟩ -)
    refine oAssign rfl ?_
    refine oNil ?_
    refine thn_n ?_
    refine wRet ?_
    refine thn_r ?_
    refine fin_r ?_
    refine ⟨rfl, _, (ResL.cons (ResR.tmp rfl) ResL.nil), ?_⟩
    exact ⟨(), trivial, rfl, (Leads.has (by repeat' (first | exact Has.nil | exact Pick.here | apply Has.cons | apply Pick.there)))⟩
  ·
    refine oWant rfl rfl ?_
    refine oMove rfl ?_
    refine oWant rfl rfl ?_
    refine oLenS rfl rfl ?_
    refine oWant rfl rfl ?_
    refine oGtr rfl rfl ?_
    refine oPickF rfl rfl ?_
    refine oNil ?_
    refine thn_n ?_
    first | refine wCond rfl (fun h20 => ?_) (fun h20 => ?_) | refine wCondB rfl (fun h20 => ?_) (fun h20 => ?_)
    ·
      refine wSeq ?_
      refine wRegion' ?_
      (refine oCall rfl (by kernel_rfl) (fun w hS => frame hS (by repeat' (first | exact Split.nil | exact Pick.here | apply Split.cons | apply Pick.there)) (fun B' hB hS' => known11 hS')) ?_; rintro ⟨⟩ -)
      refine oAssign rfl ?_
      refine oNil ?_
      refine thn_n ?_
      refine wRet ?_
      refine thn_r ?_
      refine fin_r ?_
      refine ⟨rfl, _, (ResL.cons (ResR.tmp rfl) ResL.nil), ?_⟩
      exact ⟨(), trivial, rfl, (Leads.has (by repeat' (first | exact Has.nil | exact Pick.here | apply Has.cons | apply Pick.there)))⟩
    ·
      have hsm := few_small (h14 (by simpa using h16))
      have hn := hsm.1
      have hol := out_len g ib
      refine wSkip ?_
      refine thn_n ?_
      refine wSeq ?_
      refine wRegion' ?_
      refine oMove rfl ?_
      refine oMove rfl ?_
      (refine oCall rfl (by kernel_rfl) (fun w hS => frame hS (by repeat' (first | exact Split.nil | exact Pick.here | apply Split.cons | apply Pick.there)) (fun B' hB hS' => orderP hS' g A cp (Kd.C_grow hB hC) hsm ib A1 cp1 (Kd.C_grow hB hC1) (by omega) B.e)) ?_; rintro ⟨A25, c25⟩ -)
      refine oMove rfl ?_
      refine oExt rfl (by repeat (first | exact GetAt.here | apply GetAt.there)) ?_
      refine oExt rfl (by repeat (first | exact GetAt.here | apply GetAt.there)) ?_
      refine oAssign rfl ?_
      refine oAssign rfl ?_
      refine oNil ?_
      refine thn_n ?_
      refine wSeq ?_
      refine wRegion' ?_
      refine oMove rfl ?_
      refine oMove rfl ?_
      (refine oCall rfl (by kernel_rfl) (fun w hS => frame hS (by repeat' (first | exact Split.nil | exact Pick.here | apply Split.cons | apply Pick.there)) (fun B' hB hS' => backP hS' g A cp (Kd.C_grow hB hC) hsm ib A1 cp1 (Kd.C_grow hB hC1) (by omega) B.e)) ?_; rintro ⟨A31, c31⟩ -)
      refine oMove rfl ?_
      refine oExt rfl (by repeat (first | exact GetAt.here | apply GetAt.there)) ?_
      refine oExt rfl (by repeat (first | exact GetAt.here | apply GetAt.there)) ?_
      refine oAssign rfl ?_
      refine oAssign rfl ?_
      refine oNil ?_
      refine thn_n ?_
      refine wSeq ?_
      refine wSeq ?_
      refine wRegion' ?_
      refine oMove rfl ?_
      refine oMove rfl ?_
      refine oMove rfl ?_
      (refine oCall rfl (by kernel_rfl) (fun w hS => frame hS (by repeat' (first | exact Split.nil | exact Pick.here | apply Split.cons | apply Pick.there)) (fun B' hB hS' => on_any hS' g A cp (Kd.C_grow hB hC) hsm ib A1 cp1 (Kd.C_grow hB hC1) (by omega) B.e)) ?_; rintro ⟨A37, c37⟩ -)
      refine oLenS rfl rfl ?_
      refine oEql rfl rfl ?_
      rw [on_len]
      refine oNeqBool rfl rfl rfl ?_
      refine oMove rfl ?_
      first | refine oSplit (t := 41) rfl (fun h41 => ?_) (fun h41 => ?_) | refine oSplitB (t := 41) rfl (fun h41 => ?_) (fun h41 => ?_)
      ·
        exact absurd rfl h41
      ·
        refine oWant rfl rfl ?_
        refine oMove rfl ?_
        refine oWant rfl rfl ?_
        refine oMove rfl ?_
        refine oWant rfl rfl ?_
        refine oNeqBool rfl rfl rfl ?_
        refine oPickF rfl rfl ?_
        refine oMove rfl ?_
        first | refine oSplit (t := 46) rfl (fun h46 => ?_) (fun h46 => ?_) | refine oSplitB (t := 46) rfl (fun h46 => ?_) (fun h46 => ?_)
        ·
          exact absurd (ok_turn g ib) h46
        ·
          refine oWant rfl rfl ?_
          refine oMove rfl ?_
          refine oWant rfl rfl ?_
          refine oLenS rfl rfl ?_
          refine oWant rfl rfl ?_
          refine oMove rfl ?_
          refine oWant rfl rfl ?_
          refine oLenS rfl rfl ?_
          refine oWant rfl rfl ?_
          refine oNeq rfl rfl ?_
          refine oPickF rfl rfl ?_
          refine oNil ?_
          refine thn_n ?_
          first | refine wCond rfl (fun h52 => ?_) (fun h52 => ?_) | refine wCondB rfl (fun h52 => ?_) (fun h52 => ?_)
          ·
            exact absurd (by rw [ordL_turn_len]) h52
          ·
            refine wSkip ?_
            refine thn_n ?_
            refine wSeq ?_
            refine wRegion' ?_
            refine oMove rfl ?_
            refine oLenS rfl rfl ?_
            refine oMake (kd := Kd.int .i64) (W := B.e) (0 : Int) rfl rfl rfl rfl rfl rfl (by omega) rfl (fun g55 => ?_)
            rw [← plcL_zero g.length (outO g ib), ordL_out g ib]
            refine oAssign rfl ?_
            refine oNil ?_
            refine thn_n ?_
            refine wSeq ?_
            refine wSeq ?_
            refine wRegion' ?_
            refine oAssign rfl ?_
            refine oNil ?_
            refine thn_n ?_
            refine wBlock ?_
            refine wLoop (ι := Nat) (fun i => [(0, .slice A g.length cp), (1, .slice A1 ib.length cp1), (5, .slice A25 ((outO g ib).map Int.ofNat).length c25), (6, .bool (okO g ib)), (9, .slice (some ⟨g55, 0, none⟩) g.length g.length), (10, .int .i64 (i : Int))]) (fun i => [row (Kd.int .i64) B.e 3 (.slice A25 ((outO g ib).map Int.ofNat).length c25) ((outO g ib).map Int.ofNat), row (Kd.int .i64) B.e 3 (.slice (some ⟨g55, 0, none⟩) g.length g.length) (plcL g.length (outO g ib) i)]) (fun i => i ≤ ((outO g ib).map Int.ofNat).length) (fun i => ((outO g ib).map Int.ofNat).length - i) 0 ?_ (by repeat (first | exact trivial | refine And.intro rfl ?_)) (Leads.has (by repeat' (first | exact Has.nil | exact Pick.here | apply Has.cons | apply Pick.there))) ?_
            ·
              exact Nat.zero_le _
            ·
              rintro i hi
              have hpl := plcL_len g.length (outO g ib) i
              have hom : ((outO g ib).map Int.ofNat).length = (outO g ib).length := List.length_map _
              dsimp only
              refine wSeq ?_
              refine wSeq ?_
              refine wRegion' ?_
              refine oMove rfl ?_
              refine oMove rfl ?_
              refine oLenS rfl rfl ?_
              refine oLss rfl rfl ?_
              refine oNil ?_
              refine thn_n ?_
              first | refine wCond rfl (fun h59 => ?_) (fun h59 => ?_) | refine wCondB rfl (fun h59 => ?_) (fun h59 => ?_)
              ·
                refine wSkip ?_
                refine thn_n ?_
                refine wSeq ?_
                refine wBlock ?_
                refine wSeq ?_
                refine wSeq ?_
                refine wRegion' ?_
                refine oMove rfl ?_
                refine oMove rfl ?_
                refine oMove rfl ?_
                refine oMove rfl ?_
                refine oIdxR rfl rfl (by repeat (first | exact Pick.here | apply Pick.there)) (by omega) rfl rfl (fun g66 hg66 => ?_)
                first | subst hg66 | (injection hg66 with hg66; injection hg66 with hg66; subst hg66)
                first | refine oLdX rfl hc66 rfl rfl ?_ | refine oLdXA rfl hc66 rfl (by repeat (first | exact SubL.done | apply SubL.take | apply SubL.drop)) ?_ | (refine oLdR1 rfl (by repeat (first | exact Pick.here | apply Pick.there)) (by omega) rfl (fun u67 hu67 => ?_))
                obtain ⟨x, hx, rfl⟩ := nat_at hu67
                have hmx := (out_is g ib).mem x (List.mem_of_getElem? hx)
                have hxn : x < g.length := by unfold memF at hmx; simp only [Bool.and_eq_true, decide_eq_true_eq] at hmx; omega
                obtain ⟨hx1, hx2⟩ := nd_take (out_is g ib).nodup hx
                (refine oCall rfl (by kernel_rfl) (fun w hS => frame hS (by repeat' (first | exact Split.nil | exact Pick.here | apply Split.cons | apply Pick.there)) (fun B' hB hS' => member_any hS' A cp g A1 cp1 ib (Kd.C_grow hB hC1) (x : Int))) ?_; rintro ⟨⟩ -)
                rw [hmx]
                first | refine oNot rfl ?_ | refine oNotB rfl ?_
                refine oMove rfl ?_
                first | refine oSplit (t := 70) rfl (fun h70 => ?_) (fun h70 => ?_) | refine oSplitB (t := 70) rfl (fun h70 => ?_) (fun h70 => ?_)
                ·
                  cases h70
                ·
                  refine oWant rfl rfl ?_
                  refine oMove rfl ?_
                  refine oWant rfl rfl ?_
                  refine oMove rfl ?_
                  refine oWant rfl rfl ?_
                  refine oMove rfl ?_
                  refine oWant rfl rfl ?_
                  refine oIdxR rfl rfl (by repeat (first | exact Pick.here | apply Pick.there)) (by omega) rfl rfl (fun g74 hg74 => ?_)
                  first | subst hg74 | (injection hg74 with hg74; injection hg74 with hg74; subst hg74)
                  refine oWant rfl rfl ?_
                  first | refine oLdX rfl hc74 rfl rfl ?_ | refine oLdXA rfl hc74 rfl (by repeat (first | exact SubL.done | apply SubL.take | apply SubL.drop)) ?_ | (refine oLdR1 rfl (by repeat (first | exact Pick.here | apply Pick.there)) (by omega) rfl (fun u75 hu75 => ?_))
                  obtain ⟨x', hx', rfl⟩ := nat_at hu75
                  obtain rfl := Option.some.inj (hx.symm.trans hx')
                  refine oWant rfl rfl ?_
                  refine oIdxR rfl rfl (by repeat (first | exact Pick.here | apply Pick.there)) (by omega) rfl rfl (fun g76 hg76 => ?_)
                  first | subst hg76 | (injection hg76 with hg76; injection hg76 with hg76; subst hg76)
                  refine oWant rfl rfl ?_
                  first | refine oLdX rfl hc76 rfl rfl ?_ | refine oLdXA rfl hc76 rfl (by repeat (first | exact SubL.done | apply SubL.take | apply SubL.drop)) ?_ | (refine oLdR1 rfl (by repeat (first | exact Pick.here | apply Pick.there)) (by omega) rfl (fun u77 hu77 => ?_))
                  obtain rfl : u77 = 0 := by rw [plcL_at hxn] at hu77; rw [← Option.some.inj hu77]; exact if_neg hx1
                  refine oWant rfl rfl ?_
                  refine oGtr rfl rfl ?_
                  refine oPickF rfl rfl ?_
                  refine oNil ?_
                  refine thn_n ?_
                  first | refine wCond rfl (fun h79 => ?_) (fun h79 => ?_) | refine wCondB rfl (fun h79 => ?_) (fun h79 => ?_)
                  ·
                    omega
                  ·
                    refine wSkip ?_
                    refine thn_n ?_
                    refine wRegion' ?_
                    refine oMove rfl ?_
                    refine oMove rfl ?_
                    refine oMove rfl ?_
                    refine oIdxR rfl rfl (by repeat (first | exact Pick.here | apply Pick.there)) (by omega) rfl rfl (fun g83 hg83 => ?_)
                    first | subst hg83 | (injection hg83 with hg83; injection hg83 with hg83; subst hg83)
                    first | refine oLdX rfl hc83 rfl rfl ?_ | refine oLdXA rfl hc83 rfl (by repeat (first | exact SubL.done | apply SubL.take | apply SubL.drop)) ?_ | (refine oLdR1 rfl (by repeat (first | exact Pick.here | apply Pick.there)) (by omega) rfl (fun u84 hu84 => ?_))
                    obtain ⟨x', hx', rfl⟩ := nat_at hu84
                    obtain rfl := Option.some.inj (hx.symm.trans hx')
                    refine oMove rfl ?_
                    refine oAdd rfl rfl (by omega) ?_
                    refine oIdxR rfl rfl (by repeat (first | exact Pick.here | apply Pick.there)) (by omega) rfl rfl (fun g87 hg87 => ?_)
                    first | subst hg87 | (injection hg87 with hg87; injection hg87 with hg87; subst hg87)
                    refine oStR _ rfl rfl rfl rfl (by repeat (first | exact Pick.here | apply Pick.there)) (by first | omega | (simp only [List.length_set]; omega)) ?_
                    refine oNil ?_
                    refine blk_n ?_
                    refine thn_n ?_
                    refine wRegion' ?_
                    rw [plcL_set (out_is g ib).nodup hx]
                    refine oMove rfl ?_
                    refine oSucc rfl rfl (by omega) ?_
                    refine oAssign rfl ?_
                    refine oNil ?_
                    refine thn_n ?_
                    exact ⟨rfl, i + 1, by omega, by omega, (by repeat (first | exact trivial | refine And.intro rfl ?_)), (Leads.has (by repeat' (first | exact Has.nil | exact Pick.here | apply Has.cons | apply Pick.there)))⟩
              ·
                obtain rfl : i = ((outO g ib).map Int.ofNat).length := by omega
                rw [show plcL g.length (outO g ib) ((outO g ib).map Int.ofNat).length = plcL g.length (outO g ib) (outO g ib).length by rw [List.length_map]]
                refine wExit ?_
                refine thn_x ?_
                refine thn_x ?_
                refine blk_x ?_
                refine thn_n ?_
                refine wSeq ?_
                refine wSeq ?_
                refine wRegion' ?_
                refine oAssign rfl ?_
                refine oNil ?_
                refine thn_n ?_
                refine wBlock ?_
                refine wLoop (ι := Nat) (fun a => [(0, .slice A g.length cp), (1, .slice A1 ib.length cp1), (6, .bool (okO g ib)), (9, .slice (some ⟨g55, 0, none⟩) g.length g.length), (11, .int .i64 (a : Int))]) (fun a => [row (Kd.int .i64) B.e 3 (.slice (some ⟨g55, 0, none⟩) g.length g.length) (plcL g.length (outO g ib) (outO g ib).length)]) (fun a => a ≤ g.length) (fun a => g.length - a) 0 ?_ (by repeat (first | exact trivial | refine And.intro rfl ?_)) (Leads.has (by repeat' (first | exact Has.nil | exact Pick.here | apply Has.cons | apply Pick.there))) ?_
                ·
                  exact Nat.zero_le _
                ·
                  rintro a ha
                  have hpl := plcL_len g.length (outO g ib) (outO g ib).length
                  dsimp only
                  refine wSeq ?_
                  refine wSeq ?_
                  refine wRegion' ?_
                  refine oMove rfl ?_
                  refine oMove rfl ?_
                  first | refine oSplit (t := 89) rfl (fun h89 => ?_) (fun h89 => ?_) | refine oSplitB (t := 89) rfl (fun h89 => ?_) (fun h89 => ?_)
                  ·
                    have hok : okO g ib = true := by first | exact h89 | exact decide_eq_true h89
                    refine oWant rfl rfl ?_
                    refine oMove rfl ?_
                    refine oWant rfl rfl ?_
                    refine oMove rfl ?_
                    refine oWant rfl rfl ?_
                    refine oLenS rfl rfl ?_
                    refine oWant rfl rfl ?_
                    refine oLss rfl rfl ?_
                    refine oPickT rfl rfl ?_
                    refine oNil ?_
                    refine thn_n ?_
                    first | refine wCond rfl (fun h94 => ?_) (fun h94 => ?_) | refine wCondB rfl (fun h94 => ?_) (fun h94 => ?_)
                    ·
                      refine wSkip ?_
                      refine thn_n ?_
                      refine wSeq ?_
                      refine wBlock ?_
                      refine wSeq ?_
                      refine wSeq ?_
                      refine wDrawG rfl [0, 1, 2, 4, 5, 6, 7, 8] [(3, [4, 5, 6, 7, 8], [])] [9] 24 (by kernel_rfl) rfl rfl (fun w0 => ?_)
                      refine oMove rfl ?_
                      refine oMove rfl ?_
                      refine oMove rfl ?_
                      refine oMove rfl ?_
                      refine oMove rfl ?_
                      refine oIdxR rfl rfl (by repeat (first | exact Pick.here | apply Pick.there)) (by omega) rfl rfl (fun g103 hg103 => ?_)
                      first | subst hg103 | (injection hg103 with hg103; injection hg103 with hg103; subst hg103)
                      first | refine oLdX rfl hc103 rfl rfl ?_ | refine oLdXA rfl hc103 rfl (by repeat (first | exact SubL.done | apply SubL.take | apply SubL.drop)) ?_ | (refine oLdR1 rfl (by repeat (first | exact Pick.here | apply Pick.there)) (by omega) rfl (fun u104 hu104 => ?_))
                      obtain rfl := plc_val (by omega) hu104
                      refine oGtr rfl rfl ?_
                      refine oLkSegG ?_
                      refine oSegG rfl ?_
                      (refine oCall rfl (by kernel_rfl) (fun w hS => frame hS (by repeat' (first | exact Split.nil | exact Pick.here | apply Split.cons | apply Pick.there)) (fun B' hB hS' => member_any hS' A cp g A1 cp1 ib (Kd.C_grow hB hC1) (a : Int))) ?_; rintro ⟨⟩ -)
                      refine oAgainG ?_ rfl (fun w0 => ?_)
                      ·
                        refine AgainG.cons rfl rfl rfl rfl (fun w0 => ?_) ?_
                        ·
                          refine oMove rfl ?_
                          exact oLkHas rfl
                        ·
                          refine AgainG.cons rfl rfl rfl rfl (fun w0 => ?_) ?_
                          ·
                            refine oMove rfl ?_
                            exact oLkHas rfl
                          ·
                            refine AgainG.cons rfl rfl rfl rfl (fun w0 => ?_) ?_
                            ·
                              refine oIdxR rfl rfl (by repeat (first | exact Pick.here | apply Pick.there)) (by omega) rfl rfl (fun g103 hg103 => ?_)
                              first | subst hg103 | (injection hg103 with hg103; injection hg103 with hg103; subst hg103)
                              exact oLkHas rfl
                            ·
                              refine AgainG.cons rfl rfl rfl rfl (fun w0 => ?_) ?_
                              ·
                                first | refine oLdX rfl hc103 rfl rfl ?_ | refine oLdXA rfl hc103 rfl (by repeat (first | exact SubL.done | apply SubL.take | apply SubL.drop)) ?_ | (refine oLdR1 rfl (by repeat (first | exact Pick.here | apply Pick.there)) (by omega) rfl (fun u104 hu104 => ?_))
                                rw [plc_val (by omega) hu104]
                                exact oLkHas rfl
                              ·
                                refine AgainG.cons rfl rfl rfl rfl (fun w0 => ?_) ?_
                                ·
                                  refine oGtr rfl rfl ?_
                                  exact oLkHas rfl
                                ·
                                  exact AgainG.nil
                      ·
                        refine oTailG ?_
                        refine oNeqBool rfl rfl rfl ?_
                        refine oNil ?_
                        refine thn_n ?_
                        first | refine wCond rfl (fun h106 => ?_) (fun h106 => ?_) | refine wCondB rfl (fun h106 => ?_) (fun h106 => ?_)
                        ·
                          exact absurd (plc_mem hok) (by simpa using h106)
                        ·
                          refine wSkip ?_
                          refine thn_n ?_
                          refine wSeq ?_
                          refine wRegion' ?_
                          refine oAssign rfl ?_
                          refine oNil ?_
                          refine thn_n ?_
                          refine wBlock ?_
                          refine wLoop (ι := Nat) (fun b => [(0, .slice A g.length cp), (1, .slice A1 ib.length cp1), (6, .bool (okO g ib)), (9, .slice (some ⟨g55, 0, none⟩) g.length g.length), (11, .int .i64 (a : Int)), (12, .int .i64 (b : Int))]) (fun b => [row (Kd.int .i64) B.e 3 (.slice (some ⟨g55, 0, none⟩) g.length g.length) (plcL g.length (outO g ib) (outO g ib).length)]) (fun b => b ≤ g.length) (fun b => g.length - b) 0 ?_ (by repeat (first | exact trivial | refine And.intro rfl ?_)) (Leads.has (by repeat' (first | exact Has.nil | exact Pick.here | apply Has.cons | apply Pick.there))) ?_
                          ·
                            exact Nat.zero_le _
                          ·
                            rintro b hb
                            dsimp only
                            refine wSeq ?_
                            refine wSeq ?_
                            refine wRegion' ?_
                            refine oMove rfl ?_
                            refine oMove rfl ?_
                            refine oLenS rfl rfl ?_
                            refine oLss rfl rfl ?_
                            refine oNil ?_
                            refine thn_n ?_
                            first | refine wCond rfl (fun h110 => ?_) (fun h110 => ?_) | refine wCondB rfl (fun h110 => ?_) (fun h110 => ?_)
                            ·
                              refine wSkip ?_
                              refine thn_n ?_
                              refine wSeq ?_
                              refine wBlock ?_
                              refine wSeq ?_
                              refine wDrawG rfl [0, 1, 2, 3, 4, 5, 6, 7, 8, 9, 10, 11, 12, 13, 14, 15] [(16, [], [17, 18, 19, 20, 21, 22, 23, 24, 25, 26])] [27, 28] 24 (by kernel_rfl) rfl rfl (fun w0 => ?_)
                              refine oMove rfl ?_
                              refine oMove rfl ?_
                              refine oIdxR rfl rfl (by repeat (first | exact Pick.here | apply Pick.there)) (by omega) rfl rfl (fun g115 hg115 => ?_)
                              first | subst hg115 | (injection hg115 with hg115; injection hg115 with hg115; subst hg115)
                              first | refine oLdX rfl hc115 rfl rfl ?_ | refine oLdXA rfl hc115 rfl (by repeat (first | exact SubL.done | apply SubL.take | apply SubL.drop)) ?_ | (refine oLdR1 rfl (by repeat (first | exact Pick.here | apply Pick.there)) (by omega) rfl (fun u116 hu116 => ?_))
                              obtain rfl := plc_val (by omega) hu116
                              refine oGtr rfl rfl ?_
                              refine oMove rfl ?_
                              first | refine oSplit (t := 118) rfl (fun h118 => ?_) (fun h118 => ?_) | refine oSplitB (t := 118) rfl (fun h118 => ?_) (fun h118 => ?_)
                              ·
                                refine oWant rfl rfl ?_
                                refine oMove rfl ?_
                                refine oWant rfl rfl ?_
                                refine oMove rfl ?_
                                refine oWant rfl rfl ?_
                                refine oIdxR rfl rfl (by repeat (first | exact Pick.here | apply Pick.there)) (by omega) rfl rfl (fun g121 hg121 => ?_)
                                first | subst hg121 | (injection hg121 with hg121; injection hg121 with hg121; subst hg121)
                                refine oWant rfl rfl ?_
                                first | refine oLdX rfl hc121 rfl rfl ?_ | refine oLdXA rfl hc121 rfl (by repeat (first | exact SubL.done | apply SubL.take | apply SubL.drop)) ?_ | (refine oLdR1 rfl (by repeat (first | exact Pick.here | apply Pick.there)) (by omega) rfl (fun u122 hu122 => ?_))
                                obtain rfl := plc_val (by omega) hu122
                                refine oWant rfl rfl ?_
                                refine oGtr rfl rfl ?_
                                refine oPickT rfl rfl ?_
                                refine oMove rfl ?_
                                first | refine oSplit (t := 125) rfl (fun h125 => ?_) (fun h125 => ?_) | refine oSplitB (t := 125) rfl (fun h125 => ?_) (fun h125 => ?_)
                                ·
                                  refine oWant rfl rfl ?_
                                  refine oMove rfl ?_
                                  refine oWant rfl rfl ?_
                                  refine oMove rfl ?_
                                  refine oWant rfl rfl ?_
                                  refine oMove rfl ?_
                                  refine oLkSegG ?_
                                  refine oSegG rfl ?_
                                  refine oWant rfl rfl ?_
                                  (refine oCall rfl (by kernel_rfl) (fun w hS => frame hS (by repeat' (first | exact Split.nil | exact Pick.here | apply Split.cons | apply Pick.there)) (fun B' hB hS' => edge_any hS' A cp g (Kd.C_grow hB hC) (a : Int) (b : Int))) ?_; rintro ⟨⟩ -)
                                  refine oAgainG ?_ rfl (fun w0 => ?_)
                                  ·
                                    exact AgainG.nil
                                  ·
                                    refine oPickT rfl rfl ?_
                                    refine oMove rfl ?_
                                    first | refine oSplit (t := 131) rfl (fun h131 => ?_) (fun h131 => ?_) | refine oSplitB (t := 131) rfl (fun h131 => ?_) (fun h131 => ?_)
                                    ·
                                      refine oWant rfl rfl ?_
                                      refine oMove rfl ?_
                                      refine oWant rfl rfl ?_
                                      refine oMove rfl ?_
                                      refine oWant rfl rfl ?_
                                      refine oIdxR rfl rfl (by repeat (first | exact Pick.here | apply Pick.there)) (by omega) rfl rfl (fun g134 hg134 => ?_)
                                      first | subst hg134 | (injection hg134 with hg134; injection hg134 with hg134; subst hg134)
                                      refine oWant rfl rfl ?_
                                      first | refine oLdX rfl hc134 rfl rfl ?_ | refine oLdXA rfl hc134 rfl (by repeat (first | exact SubL.done | apply SubL.take | apply SubL.drop)) ?_ | (refine oLdR1 rfl (by repeat (first | exact Pick.here | apply Pick.there)) (by omega) rfl (fun u135 hu135 => ?_))
                                      obtain rfl := plc_val (by omega) hu135
                                      refine oWant rfl rfl ?_
                                      refine oMove rfl ?_
                                      refine oWant rfl rfl ?_
                                      refine oMove rfl ?_
                                      refine oWant rfl rfl ?_
                                      refine oIdxR rfl rfl (by repeat (first | exact Pick.here | apply Pick.there)) (by omega) rfl rfl (fun g138 hg138 => ?_)
                                      first | subst hg138 | (injection hg138 with hg138; injection hg138 with hg138; subst hg138)
                                      refine oWant rfl rfl ?_
                                      first | refine oLdX rfl hc138 rfl rfl ?_ | refine oLdXA rfl hc138 rfl (by repeat (first | exact SubL.done | apply SubL.take | apply SubL.drop)) ?_ | (refine oLdR1 rfl (by repeat (first | exact Pick.here | apply Pick.there)) (by omega) rfl (fun u139 hu139 => ?_))
                                      obtain rfl := plc_val (by omega) hu139
                                      refine oTailG ?_
                                      refine oWant rfl rfl ?_
                                      refine oGeq rfl rfl ?_
                                      refine oPickT rfl rfl ?_
                                      refine oNil ?_
                                      refine thn_n ?_
                                      first | refine wCond rfl (fun h141 => ?_) (fun h141 => ?_) | refine wCondB rfl (fun h141 => ?_) (fun h141 => ?_)
                                      ·
                                        have := plc_edge hok (by simpa using h118) (by simpa using h125) (by first | exact h131 | simpa using h131)
                                        omega
                                      ·
                                        refine wSkip ?_
                                        refine blk_n ?_
                                        refine thn_n ?_
                                        refine wRegion' ?_
                                        refine oMove rfl ?_
                                        refine oSucc rfl rfl (by omega) ?_
                                        refine oAssign rfl ?_
                                        refine oNil ?_
                                        refine thn_n ?_
                                        exact ⟨rfl, b + 1, by omega, by omega, (by repeat (first | exact trivial | refine And.intro rfl ?_)), (Leads.has (by repeat' (first | exact Has.nil | exact Pick.here | apply Has.cons | apply Pick.there)))⟩
                                    ·
                                      refine oSkip rfl rfl rfl rfl ?_
                                      refine oSkip rfl rfl rfl rfl ?_
                                      refine oSkip rfl rfl rfl rfl ?_
                                      refine oSkip rfl rfl rfl rfl ?_
                                      refine oSkip rfl rfl rfl rfl ?_
                                      refine oSkip rfl rfl rfl rfl ?_
                                      refine oSkip rfl rfl rfl rfl ?_
                                      refine oSkip rfl rfl rfl rfl ?_
                                      refine oTailG ?_
                                      refine oSkip rfl rfl rfl rfl ?_
                                      refine oPickF rfl rfl ?_
                                      refine oNil ?_
                                      refine thn_n ?_
                                      refine wCondF rfl ?_
                                      refine wSkip ?_
                                      refine blk_n ?_
                                      refine thn_n ?_
                                      refine wRegion' ?_
                                      refine oMove rfl ?_
                                      refine oSucc rfl rfl (by omega) ?_
                                      refine oAssign rfl ?_
                                      refine oNil ?_
                                      refine thn_n ?_
                                      exact ⟨rfl, b + 1, by omega, by omega, (by repeat (first | exact trivial | refine And.intro rfl ?_)), (Leads.has (by repeat' (first | exact Has.nil | exact Pick.here | apply Has.cons | apply Pick.there)))⟩
                                ·
                                  refine oSkip rfl rfl rfl rfl ?_
                                  refine oSkip rfl rfl rfl rfl ?_
                                  refine oSkip rfl rfl rfl rfl ?_
                                  refine oLkSegG ?_
                                  refine oSegG rfl ?_
                                  refine oSkip rfl rfl rfl rfl ?_
                                  refine oAgainG ?_ rfl (fun w0 => ?_)
                                  ·
                                    exact AgainG.nil
                                  ·
                                    refine oPickF rfl rfl ?_
                                    refine oMove rfl ?_
                                    refine oSkip rfl rfl rfl rfl ?_
                                    refine oSkip rfl rfl rfl rfl ?_
                                    refine oSkip rfl rfl rfl rfl ?_
                                    refine oSkip rfl rfl rfl rfl ?_
                                    refine oSkip rfl rfl rfl rfl ?_
                                    refine oSkip rfl rfl rfl rfl ?_
                                    refine oSkip rfl rfl rfl rfl ?_
                                    refine oSkip rfl rfl rfl rfl ?_
                                    refine oTailG ?_
                                    refine oSkip rfl rfl rfl rfl ?_
                                    refine oPickF rfl rfl ?_
                                    refine oNil ?_
                                    refine thn_n ?_
                                    refine wCondF rfl ?_
                                    refine wSkip ?_
                                    refine blk_n ?_
                                    refine thn_n ?_
                                    refine wRegion' ?_
                                    refine oMove rfl ?_
                                    refine oSucc rfl rfl (by omega) ?_
                                    refine oAssign rfl ?_
                                    refine oNil ?_
                                    refine thn_n ?_
                                    exact ⟨rfl, b + 1, by omega, by omega, (by repeat (first | exact trivial | refine And.intro rfl ?_)), (Leads.has (by repeat' (first | exact Has.nil | exact Pick.here | apply Has.cons | apply Pick.there)))⟩
                              ·
                                refine oSkip rfl rfl rfl rfl ?_
                                refine oSkip rfl rfl rfl rfl ?_
                                refine oSkip rfl rfl rfl rfl ?_
                                refine oSkip rfl rfl rfl rfl ?_
                                refine oSkip rfl rfl rfl rfl ?_
                                refine oPickF rfl rfl ?_
                                refine oMove rfl ?_
                                refine oSkip rfl rfl rfl rfl ?_
                                refine oSkip rfl rfl rfl rfl ?_
                                refine oSkip rfl rfl rfl rfl ?_
                                refine oLkSegG ?_
                                refine oSegG rfl ?_
                                refine oSkip rfl rfl rfl rfl ?_
                                refine oAgainG ?_ rfl (fun w0 => ?_)
                                ·
                                  exact AgainG.nil
                                ·
                                  refine oPickF rfl rfl ?_
                                  refine oMove rfl ?_
                                  refine oSkip rfl rfl rfl rfl ?_
                                  refine oSkip rfl rfl rfl rfl ?_
                                  refine oSkip rfl rfl rfl rfl ?_
                                  refine oSkip rfl rfl rfl rfl ?_
                                  refine oSkip rfl rfl rfl rfl ?_
                                  refine oSkip rfl rfl rfl rfl ?_
                                  refine oSkip rfl rfl rfl rfl ?_
                                  refine oSkip rfl rfl rfl rfl ?_
                                  refine oTailG ?_
                                  refine oSkip rfl rfl rfl rfl ?_
                                  refine oPickF rfl rfl ?_
                                  refine oNil ?_
                                  refine thn_n ?_
                                  refine wCondF rfl ?_
                                  refine wSkip ?_
                                  refine blk_n ?_
                                  refine thn_n ?_
                                  refine wRegion' ?_
                                  refine oMove rfl ?_
                                  refine oSucc rfl rfl (by omega) ?_
                                  refine oAssign rfl ?_
                                  refine oNil ?_
                                  refine thn_n ?_
                                  exact ⟨rfl, b + 1, by omega, by omega, (by repeat (first | exact trivial | refine And.intro rfl ?_)), (Leads.has (by repeat' (first | exact Has.nil | exact Pick.here | apply Has.cons | apply Pick.there)))⟩
                            ·
                              refine wExit ?_
                              refine thn_x ?_
                              refine thn_x ?_
                              refine blk_x ?_
                              refine blk_n ?_
                              refine thn_n ?_
                              refine wRegion' ?_
                              refine oMove rfl ?_
                              refine oSucc rfl rfl (by omega) ?_
                              refine oAssign rfl ?_
                              refine oNil ?_
                              refine thn_n ?_
                              exact ⟨rfl, a + 1, by omega, by omega, (by repeat (first | exact trivial | refine And.intro rfl ?_)), (Leads.has (by repeat' (first | exact Has.nil | exact Pick.here | apply Has.cons | apply Pick.there)))⟩
                    ·
                      refine wExit ?_
                      refine thn_x ?_
                      refine thn_x ?_
                      refine blk_x ?_
                      refine thn_n ?_
                      refine wSeq ?_
                      refine wRegion' ?_
                      (refine oCall rfl (by kernel_rfl) (fun w hS => frame hS (by repeat' (first | exact Split.nil | exact Pick.here | apply Split.cons | apply Pick.there)) (fun B' hB hS' => known11 hS')) ?_; rintro ⟨⟩ -)
                      refine oAssign rfl ?_
                      refine oNil ?_
                      refine thn_n ?_
                      refine wRet ?_
                      refine fin_r ?_
                      refine ⟨rfl, _, (ResL.cons (ResR.tmp rfl) ResL.nil), ?_⟩
                      exact ⟨(), trivial, rfl, (Leads.has (by repeat' (first | exact Has.nil | exact Pick.here | apply Has.cons | apply Pick.there)))⟩
                  ·
                    refine oSkip rfl rfl rfl rfl ?_
                    refine oSkip rfl rfl rfl rfl ?_
                    refine oSkip rfl rfl rfl rfl ?_
                    refine oSkip rfl rfl rfl rfl ?_
                    refine oPickF rfl rfl ?_
                    refine oNil ?_
                    refine thn_n ?_
                    refine wCondF rfl ?_
                    refine wExit ?_
                    refine thn_x ?_
                    refine thn_x ?_
                    refine blk_x ?_
                    refine thn_n ?_
                    refine wSeq ?_
                    refine wRegion' ?_
                    (refine oCall rfl (by kernel_rfl) (fun w hS => frame hS (by repeat' (first | exact Split.nil | exact Pick.here | apply Split.cons | apply Pick.there)) (fun B' hB hS' => known11 hS')) ?_; rintro ⟨⟩ -)
                    refine oAssign rfl ?_
                    refine oNil ?_
                    refine thn_n ?_
                    refine wRet ?_
                    refine fin_r ?_
                    refine ⟨rfl, _, (ResL.cons (ResR.tmp rfl) ResL.nil), ?_⟩
                    exact ⟨(), trivial, rfl, (Leads.has (by repeat' (first | exact Has.nil | exact Pick.here | apply Has.cons | apply Pick.there)))⟩
end Go.Proofs.YtnidmlngkpkmlaaG
