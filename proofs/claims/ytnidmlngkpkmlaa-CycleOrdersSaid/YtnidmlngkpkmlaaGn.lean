/-
  Package cycle: order's closures, drain.
-/
import Derived.Test.YtnidmlngkpkmlaaGm
namespace Go.Proofs.YtnidmlngkpkmlaaG
set_option linter.unusedVariables false
set_option linter.unusedSimpArgs false
open Go.RowKit Go.Proofs.YtnidmlngkpkmlaaK Go.Proofs.YtnidmlngkpkmlaaT Go.Proofs.YtnidmlngkpkmlaaL
open Go.Proofs.YtnidmlngkpkmlaaQ (Pile queueR QOk qins qhas hd1 hd2 hd3 queue_New queue_Put queue_Take ptrV)

theorem pack2 {B : Base} {Φ Φ' Φ'' : List Res} {r1 r2 : Res} (h1 : Pick Φ r1 Φ') (h2 : Pick Φ' r2 Φ'') : Leads B Φ (bun [r1, r2] :: Φ'') := fun w h => St.pack (Ψ := [r1, r2]) (h.perm (h1.perm.trans (h2.perm.cons _)))
theorem unpack2 {B : Base} {Φ Φ' : List Res} {r1 r2 : Res} (h1 : Pick Φ (bun [r1, r2]) Φ') : Leads B Φ (r1 :: r2 :: Φ') := fun w h => St.unpack (Ψ := [r1, r2]) (h.perm h1.perm)
theorem ahJ_at {w : Graph} {left : List Bool} {l : List Int} {b : Nat} {u : Int} (hb : b < w.length) (hu : (ahJ w left l)[b]? = some u) : u = ((cnt w left b + inT l b : Nat) : Int) := by
  unfold ahJ at hu
  rw [aheadL_at hb] at hu
  exact (Option.some.inj hu).symm
theorem ahJ_step (w : Graph) (left : List Bool) {l : List Int} (hl : l.Pairwise (· < ·)) {j b : Nat} (hx : l[j]? = some (b : Int)) {v : Int} (hv : v = (cnt w left b : Int)) : (ahJ w left (l.drop j)).set b v = ahJ w left (l.drop (j + 1)) := by
  obtain ⟨h1, h2, h3⟩ := inT_drop hl hx
  exact aheadL_set (by rw [hv, h2]; rfl) (fun c hc => by rw [h3 c hc])
theorem wtJ_put (w : Graph) {left : List Bool} {l : List Int} (hl : l.Pairwise (· < ·)) {j b : Nat} (hx : l[j]? = some (b : Int)) (hb : b < w.length) (h0 : cnt w left b = 0) (hlb : left.getD b false = true) : qhas (wtJ w left (l.drop j)) (b : Int) = false ∧ qins ((b : Int), (b : Int)) (wtJ w left (l.drop j)) = wtJ w left (l.drop (j + 1)) := by
  obtain ⟨h1, h2, h3⟩ := inT_drop hl hx
  constructor
  · unfold wtJ
    rw [wt_has hb, h1, decide_eq_false (by omega), Bool.and_false]
  · exact wt_ins hb (by rw [h1, decide_eq_false (by omega), Bool.and_false]) (by rw [h2, hlb, decide_eq_true (by omega)]; rfl) (fun c hc => by rw [h3 c hc])
theorem wtJ_skip (w : Graph) {left : List Bool} {l : List Int} (hl : l.Pairwise (· < ·)) {j b : Nat} (hx : l[j]? = some (b : Int)) (h0 : cnt w left b ≠ 0) : wtJ w left (l.drop j) = wtJ w left (l.drop (j + 1)) := by
  obtain ⟨h1, h2, h3⟩ := inT_drop hl hx
  refine wt_congr (fun c _ => ?_)
  by_cases e : c = b
  · subst e; rw [decide_eq_false (by omega), decide_eq_false (by omega)]
  · rw [h3 c e]
theorem step_left {w : Graph} {mem left : List Bool} {out : List Nat} (hok : WOk w mem) (hrun : Run (edW w) mem out left) {a b : Nat} (hn : nxt (edW w) left = some a) (hx : (b : Int) ∈ w.getD a []) : (left.set a false).getD b false = true := by
  obtain ⟨c, hc, hmb⟩ := hok.mem2 a b hx
  obtain rfl : b = c := by omega
  have ha := nxt_left hn
  have he : edW w a b = true := decide_eq_true hx
  have hfa := fre_iff.1 (List.find?_some hn)
  have hne : b ≠ a := by rintro rfl; have := hfa.2 b ha; rw [he] at this; cases this
  rw [set_getD]
  rcases hrun.clear b (getD_true hmb) with h | h
  · rw [getD_at h]; simp [hne]
  · have := h a ha; rw [he] at this; cases this

set_option maxRecDepth 100000 in
set_option maxHeartbeats 1000000 in
theorem order1 {B : Base} {w : World} (b6 g6 : Nat) (ah : List Int) (W0 : World) (c : Nat) {v : Int} (hv : ah[c]? = some v) (hl : ah.length ≤ 1000)
    (hS : St B [blk b6 50 [.slice (some ⟨g6, 0, none⟩) ah.length ah.length], row (Kd.int .i64) W0 3 (.slice (some ⟨g6, 0, none⟩) ah.length ah.length) ah] w) :
    CallsIn Fence.wide 0 Try.prog 70 #[.int .i64 (c : Int), .pointer (some ⟨b6, 0, none⟩)] w
      (Ret B (fun _ : Unit => True) (fun _ => .bool (decide (v = 0))) (fun _ => [blk b6 50 [.slice (some ⟨g6, 0, none⟩) ah.length ah.length], row (Kd.int .i64) W0 3 (.slice (some ⟨g6, 0, none⟩) ah.length ah.length) ah])) := by
  have hcl := (List.getElem?_eq_some_iff.1 hv).1
  (refine enter Try.func70 rfl rfl hS ?_; simp only [List.zipIdx_cons, List.zipIdx_nil, List.map_cons, List.map_nil, Nat.reduceAdd, Nat.zero_add])
  refine wSeq ?_
  refine wRegion' ?_
  refine oAssign rfl ?_
  refine oNil ?_
  refine thn_n ?_
  refine wSeq ?_
  refine wRegion' ?_
  refine oLd rfl (by repeat (first | exact Pick.here | apply Pick.there)) rfl rfl ?_
  refine oMove rfl ?_
  refine oIdxR rfl rfl (by repeat (first | exact Pick.here | apply Pick.there)) (by omega) rfl rfl (fun g6 hg6 => ?_)
  first | subst hg6 | (injection hg6 with hg6; injection hg6 with hg6; subst hg6)
  first | refine oLdX rfl hc6 rfl rfl ?_ | refine oLdXA rfl hc6 rfl (by repeat (first | exact SubL.done | apply SubL.take | apply SubL.drop)) ?_ | (refine oLdR1 rfl (by repeat (first | exact Pick.here | apply Pick.there)) (by omega) rfl (fun u7 hu7 => ?_))
  refine oEql rfl rfl ?_
  refine oAssign rfl ?_
  refine oNil ?_
  refine thn_n ?_
  refine wRet ?_
  refine fin_r ?_
  refine ⟨rfl, _, (ResL.cons (ResR.tmp rfl) ResL.nil), ?_⟩
  exact ⟨(), trivial, by rw [Option.some.inj (hv.symm.trans hu7)]; rfl, (Leads.has (by repeat' (first | exact Has.nil | exact Pick.here | apply Has.cons | apply Pick.there)))⟩
set_option maxRecDepth 100000 in
theorem order3 {B : Base} {w : World} (a : Int) {H : List Res} (hS : St B H w) :
    CallsIn Fence.wide 0 Try.prog 73 #[.int .i64 a] w (Ret B (fun _ : Unit => True) (fun _ => .bool true) (fun _ => H)) := by
  (refine enter Try.func73 rfl rfl hS ?_; simp only [List.zipIdx_cons, List.zipIdx_nil, List.map_cons, List.map_nil, Nat.reduceAdd, Nat.zero_add])
  refine wSeq ?_
  refine wRegion' ?_
  refine oAssign rfl ?_
  refine oNil ?_
  refine thn_n ?_
  refine wSeq ?_
  refine wRegion' ?_
  refine oAssign rfl ?_
  refine oNil ?_
  refine thn_n ?_
  refine wRet ?_
  refine fin_r ?_
  refine ⟨rfl, _, (ResL.cons (ResR.tmp rfl) ResL.nil), ?_⟩
  exact ⟨(), trivial, rfl, fun _ h => h⟩
/-- What order's closures share. -/
abbrev ordR (b14 b2 b6 b11 q p g6 : Nat) (A9 : Option Addr) (c9 : Nat) (out : List Nat) (A : Option Addr) (cp : Nat) (W : Graph) (ah : List Int) (W0 : World) (s : Pile) : List Res :=
  [blk b14 50 [.slice A9 out.length c9], row (Kd.int .i64) W0 3 (.slice A9 out.length c9) (out.map Int.ofNat), blk b2 68 [.slice A W.length cp], blk b6 50 [.slice (some ⟨g6, 0, none⟩) W.length W.length], row (Kd.int .i64) W0 3 (.slice (some ⟨g6, 0, none⟩) W.length W.length) ah, blk b11 45 [ptrV q]] ++ queueR q p s

set_option maxRecDepth 100000 in
set_option maxHeartbeats 2000000 in
theorem order2 {B : Base} {w : World} (b14 b2 b6 b11 q p g6 : Nat) (A9 : Option Addr) (c9 : Nat) (out : List Nat) (A : Option Addr) (cp : Nat) (W : Graph) (W0 : World) (s : Pile) (left mem : List Bool) (a : Nat)
    (hS : St B (ordR b14 b2 b6 b11 q p g6 A9 c9 out A cp W (ahJ W (left.set a false) (W.getD a [])) W0 s) w) (hok : WOk W mem) (hrun : Run (edW W) mem out left) (hn : nxt (edW W) left = some a) (hq : QOk s (wtJ W (left.set a false) (W.getD a []))) (hC : kII.C B.e A W) :
    CallsIn Fence.wide 0 Try.prog 72 #[.int .i64 (a : Int), .pointer (some ⟨b14, 0, none⟩), .pointer (some ⟨b2, 0, none⟩), .pointer (some ⟨b6, 0, none⟩), .pointer (some ⟨b11, 0, none⟩)] w
      (Ret B (fun z : (Option Addr × Nat) × Pile => QOk z.2 (wtJ W (left.set a false) [])) (fun _ => .tuple #[]) (fun z => ordR b14 b2 b6 b11 q p g6 z.1.1 z.1.2 (out ++ [a]) A cp W (ahJ W (left.set a false) []) W0 z.2)) := by
  have hnn := hok.small
  have hln := hrun.len
  have hml := hok.len
  have htl := trues_le mem
  have hal := (List.getElem?_eq_some_iff.1 (nxt_left hn)).1
  have hrow := hok.row a
  have hahl : ∀ l, (ahJ W (left.set a false) l).length = W.length := fun l => aheadL_len _ _
  have hmo : (out ++ [a]).map Int.ofNat = out.map Int.ofNat ++ [(a : Int)] := by simp
  have hol : (out.map Int.ofNat).length = out.length := by simp
  have hml1 : (out ++ [a]).length = out.length + 1 := by simp
  (refine enter Try.func72 rfl rfl hS ?_; simp only [List.zipIdx_cons, List.zipIdx_nil, List.map_cons, List.map_nil, Nat.reduceAdd, Nat.zero_add])
  refine wSeq ?_
  refine wRegion' ?_
  refine oLd rfl (by repeat (first | exact Pick.here | apply Pick.there)) rfl rfl ?_
  refine oMove rfl ?_
  refine oBuildSlice1 rfl rfl rfl rfl rfl (by first | exact CellsOf.agg | exact CellsOf.one rfl) rfl (fun b10 => ?_)
  refine oApp1 _ rfl rfl rfl rfl (by repeat (first | exact Pick.here | apply Pick.there)) (by repeat (first | exact Pick.here | apply Pick.there)) rfl (by omega) rfl (fun g11 cp11 => ?_)
  refine oSt rfl rfl rfl rfl rfl (by repeat (first | exact Pick.here | apply Pick.there)) (by repeat (first | exact SetAt.here | apply SetAt.there)) ?_
  refine oNil ?_
  refine thn_n ?_
  refine wSeq ?_
  refine wRegion' ?_
  refine oLd rfl (by repeat (first | exact Pick.here | apply Pick.there)) rfl rfl ?_
  refine oMove rfl ?_
  refine oIdx rfl rfl (hC) rfl (by omega) rfl rfl (fun e14 u14 cs14 hu14 hk14 hc14 => ?_)
  obtain ⟨A0, c0, rfl, hle14, g0⟩ := hk14
  obtain rfl : u14 = W.getD a [] := (getD_at hu14).symm
  have m14 := g0.1
  first | refine oLdX rfl hc14 rfl rfl ?_ | refine oLdXA rfl hc14 rfl (by repeat (first | exact SubL.done | apply SubL.take | apply SubL.drop)) ?_ | (refine oLdR1 rfl (by repeat (first | exact Pick.here | apply Pick.there)) (by omega) rfl (fun u15 hu15 => ?_))
  refine oLenS rfl rfl ?_
  refine oMove rfl ?_
  refine oNil ?_
  refine thn_n ?_
  refine wBlock ?_
  refine wLoop (ι := Nat × Pile) (fun z => [(0, .int .i64 (a : Int)), (1, .pointer (some ⟨b14, 0, none⟩)), (2, .pointer (some ⟨b2, 0, none⟩)), (3, .pointer (some ⟨b6, 0, none⟩)), (4, .pointer (some ⟨b11, 0, none⟩)), (15, .slice A0 (W.getD a []).length c0), (16, .int .i64 ((W.getD a []).length : Int)), (17, .int .i64 (z.1 : Int))]) (fun z => ordR b14 b2 b6 b11 q p g6 (some ⟨g11, 0, none⟩) cp11 (out ++ [a]) A cp W (ahJ W (left.set a false) ((W.getD a []).drop z.1)) W0 z.2) (fun z => z.1 ≤ (W.getD a []).length ∧ QOk z.2 (wtJ W (left.set a false) ((W.getD a []).drop z.1))) (fun z => (W.getD a []).length - z.1) (0, s) ?_ (by repeat (first | exact trivial | refine And.intro rfl ?_)) (by dsimp only [ordR]; rw [hmo, hml1, List.drop_zero, ← hol]; exact (Leads.has (by repeat' (first | exact Has.nil | exact Pick.here | apply Has.cons | apply Pick.there)))) ?_
  ·
    exact ⟨Nat.zero_le _, by rw [List.drop_zero]; exact hq⟩
  ·
    rintro ⟨j, s1⟩ ⟨hj, hq1⟩
    dsimp only at hj hq1
    dsimp only
    refine wSeq ?_
    refine wRegion' ?_
    refine oLss rfl rfl ?_
    refine oNil ?_
    refine thn_n ?_
    refine wSeq ?_
    first | refine wCond rfl (fun h18 => ?_) (fun h18 => ?_) | refine wCondB rfl (fun h18 => ?_) (fun h18 => ?_)
    ·
      refine wSkip ?_
      refine thn_n ?_
      refine wSeq ?_
      refine wBlock ?_
      refine wSeq ?_
      refine wRegion' ?_
      refine oIdx rfl rfl (g0) rfl (by omega) rfl rfl (fun e19 u19 cs19 hu19 hk19 hc19 => ?_)
      obtain rfl := hk19
      obtain ⟨b, rfl, hmb⟩ := hok.mem2 a u19 (List.mem_of_getElem? hu19)
      have hbl := getD_lt hmb
      have hid := inT_drop hrow hu19
      have hah1 := hahl ((W.getD a []).drop j)
      have hah2 := hahl ((W.getD a []).drop (j + 1))
      first | refine oLdX rfl hc19 rfl rfl ?_ | refine oLdXA rfl hc19 rfl (by repeat (first | exact SubL.done | apply SubL.take | apply SubL.drop)) ?_ | (refine oLdR1 rfl (by repeat (first | exact Pick.here | apply Pick.there)) (by omega) rfl (fun u20 hu20 => ?_))
      refine oAssign rfl ?_
      refine oNil ?_
      refine thn_n ?_
      refine wSeq ?_
      refine wRegion' ?_
      refine oLd rfl (by repeat (first | exact Pick.here | apply Pick.there)) rfl rfl ?_
      refine oMove rfl ?_
      refine oIdxR rfl rfl (by repeat (first | exact Pick.here | apply Pick.there)) (by omega) rfl rfl (fun g23 hg23 => ?_)
      first | subst hg23 | (injection hg23 with hg23; injection hg23 with hg23; subst hg23)
      first | refine oLdX rfl hc23 rfl rfl ?_ | refine oLdXA rfl hc23 rfl (by repeat (first | exact SubL.done | apply SubL.take | apply SubL.drop)) ?_ | (refine oLdR1 rfl (by repeat (first | exact Pick.here | apply Pick.there)) (by omega) rfl (fun u24 hu24 => ?_))
      have hu24' := ahJ_at (by omega) hu24
      rw [hid.1] at hu24'
      subst hu24'
      refine oSub rfl rfl (by have := cnt_le W (left.set a false) b; omega) ?_
      refine oIdxR rfl rfl (by repeat (first | exact Pick.here | apply Pick.there)) (by omega) rfl rfl (fun g26 hg26 => ?_)
      first | subst hg26 | (injection hg26 with hg26; injection hg26 with hg26; subst hg26)
      refine oStR _ rfl rfl rfl rfl (by repeat (first | exact Pick.here | apply Pick.there)) (by first | omega | (simp only [List.length_set]; omega)) ?_
      refine oNil ?_
      refine thn_n ?_
      refine wSeq ?_
      refine wRegion' ?_
      refine oLd rfl (by repeat (first | exact Pick.here | apply Pick.there)) rfl rfl ?_
      rw [ahJ_step W (left.set a false) hrow hu19 (by omega)]
      refine oMove rfl ?_
      refine oIdxR rfl rfl (by repeat (first | exact Pick.here | apply Pick.there)) (by omega) rfl rfl (fun g29 hg29 => ?_)
      first | subst hg29 | (injection hg29 with hg29; injection hg29 with hg29; subst hg29)
      first | refine oLdX rfl hc29 rfl rfl ?_ | refine oLdXA rfl hc29 rfl (by repeat (first | exact SubL.done | apply SubL.take | apply SubL.drop)) ?_ | (refine oLdR1 rfl (by repeat (first | exact Pick.here | apply Pick.there)) (by omega) rfl (fun u30 hu30 => ?_))
      have hu30' := ahJ_at (by omega) hu30
      rw [hid.2.1, Nat.add_zero] at hu30'
      subst hu30'
      refine oEql rfl rfl ?_
      refine oNil ?_
      refine thn_n ?_
      first | refine wCond rfl (fun h31 => ?_) (fun h31 => ?_) | refine wCondB rfl (fun h31 => ?_) (fun h31 => ?_)
      ·
        have hput := wtJ_put W hrow hu19 (by omega) (by omega) (step_left hok hrun hn (List.mem_of_getElem? hu19))
        have hwl : (wtJ W (left.set a false) ((W.getD a []).drop j)).length ≤ W.length := wt_len _ _
        refine wRegion' ?_
        refine oLd rfl (by repeat (first | exact Pick.here | apply Pick.there)) rfl rfl ?_
        refine oMove rfl ?_
        refine oMove rfl ?_
        (refine oCall rfl (by kernel_rfl) (fun w hS => frame hS (by repeat' (first | exact Split.nil | exact Pick.here | apply Split.cons | apply Pick.there)) (fun B' hB hS' => queue_Put (p := p) (s := s1) hS' hq1 _ _ (by omega))) ?_; rintro s2 hq2)
        rw [hput.1, if_neg (by simp), hput.2] at hq2
        refine oNil ?_
        refine blk_n ?_
        refine thn_n ?_
        refine wRegion' ?_
        refine oSucc rfl rfl (by omega) ?_
        refine oMove rfl ?_
        refine oNil ?_
        refine thn_n ?_
        exact ⟨rfl, (j + 1, s2), ⟨by show j + 1 ≤ _; omega, hq2⟩, by show (W.getD a []).length - (j + 1) < (W.getD a []).length - j; omega, (by repeat (first | exact trivial | refine And.intro rfl ?_)), (Leads.has (by repeat' (first | exact Has.nil | exact Pick.here | apply Has.cons | apply Pick.there)))⟩
      ·
        have hsk := wtJ_skip W (left := left.set a false) hrow hu19 (by omega)
        rw [hsk] at hq1
        refine wSkip ?_
        refine blk_n ?_
        refine thn_n ?_
        refine wRegion' ?_
        refine oSucc rfl rfl (by omega) ?_
        refine oMove rfl ?_
        refine oNil ?_
        refine thn_n ?_
        exact ⟨rfl, (j + 1, s1), ⟨by show j + 1 ≤ _; omega, hq1⟩, by show (W.getD a []).length - (j + 1) < (W.getD a []).length - j; omega, (by repeat (first | exact trivial | refine And.intro rfl ?_)), (Leads.has (by repeat' (first | exact Has.nil | exact Pick.here | apply Has.cons | apply Pick.there)))⟩
    ·
      refine wExit ?_
      refine thn_x ?_
      refine thn_x ?_
      refine blk_x ?_
      refine fin_n ?_
      refine ⟨rfl, _, ResL.nil, ?_⟩
      obtain rfl : j = (W.getD a []).length := by omega
      rw [List.drop_length] at hq1 ⊢
      exact ⟨((some ⟨g11, 0, none⟩, cp11), s1), hq1, rfl, (Leads.has (by repeat' (first | exact Has.nil | exact Pick.here | apply Has.cons | apply Pick.there)))⟩
end Go.Proofs.YtnidmlngkpkmlaaG
