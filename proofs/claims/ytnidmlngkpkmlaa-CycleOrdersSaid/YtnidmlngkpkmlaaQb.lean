/-
  Package queue: a pile's exchange.
-/
import Derived.Test.YtnidmlngkpkmlaaQa
import Derived.Test.YtnidmlngkpkmlaaQp
namespace Go.Proofs.YtnidmlngkpkmlaaQ
set_option linter.unusedVariables false
set_option linter.unusedSimpArgs false
open Go.RowKit Go.Proofs.YtnidmlngkpkmlaaK

structure POk (s : Pile) : Prop where
  nd : s.l.Nodup
  pl : ∀ (i b : Nat), s.l[i]? = some b → (s.f b).pl = (i : Int)
  mp : ∀ k b, s.m k = some b ↔ b ∈ s.l ∧ (s.f b).id = k
  sm : s.l.length ≤ 1000000
def Same (f f' : Nat → It) : Prop := ∀ b, (f' b).id = (f b).id ∧ (f' b).key = (f b).key
section
variable {c : Cx} {N : Md c} {M : Me c} {d : Nat} {ty : TypeId} {pos : String} {af : Array Edge} {rest : List Oper} {E : Env} {D : List Deferred} {H H' : List Res} {v : Value} {x y : Operand} {t : TypeId} {S : Nat → Prop} {f : Nat → It}
theorem oStI {b i : Nat} (x' : It) (hx : E.op x = some (.pointer (some ⟨b, i, none⟩))) (hy : E.op y = some v) (hv : v.cells = #[v]) (h1 : v.oneCell' = true) (hs : (c.P.info? t).map (·.size) = some 1) (hp : Pick H (its S f) H') (hb : S b) (hi : i < 3) (he : (itCells (f b)).set i v = itCells x')
    (h : O M.toMd rest E D (its S (fun k => if k = b then x' else f k) :: H')) : O M.toMd (⟨none, .store t x y, ty, pos, af, none⟩ :: rest) E D H :=
  oEffs rfl fun a w ha hw => by
    have hbb := (hw.get hp) b hb
    refine ⟨w.setCell ⟨b, i, none⟩ v, its S (fun k => if k = b then x' else f k) :: H', ?_, hw.upd' hp ((Chg.setCell w ⟨b, i, none⟩ v).mono (fun k hk => by subst hk; exact hb)) ?_ (fun k hk => .inl hk), h⟩
    · simp [execOp, ha.op hx, ha.op hy, run_store1 hbb (by simp [itCells]; omega) hv h1 hs]
    · intro k hk
      by_cases e : k = b
      · subst e
        simp only [if_true]
        rw [set_heap hbb, he]
      · simp only [if_neg e]
        rw [Below.heap_setCell _ _ _ _ (show k ≠ _ from e)]
        exact (hw.get hp) k hk
end
theorem mem_swp {l : List Nat} {i j : Nat} (hi : i < l.length) (hj : j < l.length) : (fun b => b ∈ l) = (fun b => b ∈ swp l i j) := by
  funext b; exact propext (swp_perm hi hj).mem_iff.symm

theorem nd_inj {l : List Nat} (h : l.Nodup) {i j b : Nat} (hi : l[i]? = some b) (hj : l[j]? = some b) : i = j :=
  (List.getElem?_inj (List.getElem?_eq_some_iff.1 hi).1 h).1 (hi.trans hj.symm)
def swF (f : Nat → It) (a b : Nat) (i j : Int) : Nat → It := fun k =>
  if k = a then { (if a = b then { f b with pl := i } else f a) with pl := j } else if k = b then { f b with pl := i } else f k
theorem swF_same (f : Nat → It) (a b : Nat) (i j : Int) : Same f (swF f a b i j) := by
  intro k
  unfold swF
  by_cases h1 : k = a
  · subst h1
    by_cases h2 : k = b
    · subst h2; simp
    · simp [h2]
  · by_cases h2 : k = b
    · subst h2; simp [h1]
    · simp [h1, h2]
theorem swap_ok {A A' : Option Addr} {cp mb : Nat} {l : List Nat} {f : Nat → It} {m : Int → Option Nat} (h : POk ⟨A, cp, mb, l, f, m⟩) {i j : Nat} (li : i < l.length) (lj : j < l.length) :
    POk ⟨A', cp, mb, swp l i j, swF f (at_ l i) (at_ l j) i j, m⟩ := by
  obtain ⟨nd, pl, mp, sm⟩ := h
  dsimp only at *
  refine ⟨(swp_perm li lj).nodup_iff.2 nd, fun k b hk => ?_, fun k b => ?_, by show (swp l i j).length ≤ _; rw [swp_length]; exact sm⟩
  · dsimp only at hk ⊢
    rw [swp_get li lj, get_at li, get_at lj] at hk
    unfold swF
    by_cases h1 : k = i
    · subst h1
      rw [if_pos rfl] at hk
      obtain rfl := Option.some.inj hk
      by_cases h2 : at_ l j = at_ l k
      · have := nd_inj nd (get_at lj) (h2 ▸ get_at li)
        subst this
        simp
      · simp [h2]
    · rw [if_neg h1] at hk
      by_cases h2 : k = j
      · subst h2
        rw [if_pos rfl] at hk
        obtain rfl := Option.some.inj hk
        simp
      · rw [if_neg h2] at hk
        have h3 : ¬ b = at_ l i := by rintro rfl; exact h1 (nd_inj nd hk (get_at li))
        have h4 : ¬ b = at_ l j := by rintro rfl; exact h2 (nd_inj nd hk (get_at lj))
        simp [h3, h4, pl k b hk]
  · show m k = some b ↔ b ∈ swp l i j ∧ (swF f (at_ l i) (at_ l j) i j b).id = k
    rw [mp, (swp_perm li lj).mem_iff, (swF_same f _ _ _ _ b).1]

set_option maxRecDepth 100000 in
theorem pile_Swap {B : Base} {w : World} {p : Nat} {s : Pile} (hS : St B (pileR p s) w) (hok : POk s) (i j : Nat) (li : i < s.l.length) (lj : j < s.l.length) :
    CallsIn Fence.wide 0 Try.prog 122 #[ptrV p, .int .i64 (i : Int), .int .i64 (j : Int)] w (Ret B (fun s' => POk s' ∧ s'.l = swp s.l i j ∧ Same s.f s'.f) (fun _ => .tuple #[]) (fun s' => pileR p s')) := by
  have hi := get_at li
  have hj := get_at lj
  obtain ⟨A, cp, mb, l, f, m⟩ := s
  have hok' := fun A' => swap_ok (A' := A') hok li lj
  obtain ⟨nd, pl, mp, sm⟩ := hok
  unfold pileR at hS
  dsimp only at *
  have hg : ((l.set i (at_ l j)).set j (at_ l i))[i]? = _ := swp_get (k := i) li lj
  have hg' : ((l.set i (at_ l j)).set j (at_ l i))[j]? = _ := swp_get (k := j) li lj
  have hlen : ((l.set i (at_ l j)).set j (at_ l i)).length = l.length := swp_length l i j
  have hmem := mem_swp li lj
  have mi : at_ l i ∈ l := List.mem_of_getElem? hi
  have mj : at_ l j ∈ l := List.mem_of_getElem? hj
  (refine enter Try.func122 rfl rfl hS ?_; simp only [List.zipIdx_cons, List.zipIdx_nil, List.map_cons, List.map_nil, Nat.reduceAdd, Nat.zero_add])
  refine wSeq ?_
  refine wDraw2 rfl rfl [0, 4, 5, 9, 10, 14, 17, 21] [1, 2, 3, 6, 7, 8, 11, 12, 13, 15, 16, 18, 19, 20, 22, 23, 24] 25 (by kernel_rfl) rfl rfl rfl (fun w0 => ?_)
  refine oPtr rfl ?_
  refine oFld (n := 0) (m := 0) rfl rfl rfl ?_
  refine oLd rfl (by repeat (first | exact Pick.here | apply Pick.there)) rfl rfl ?_
  refine oPtr rfl ?_
  refine oFld (n := 0) (m := 0) rfl rfl rfl ?_
  refine oLd rfl (by repeat (first | exact Pick.here | apply Pick.there)) rfl rfl ?_
  refine oPtr rfl ?_
  refine oFld (n := 0) (m := 0) rfl rfl rfl ?_
  refine oLd rfl (by repeat (first | exact Pick.here | apply Pick.there)) rfl rfl ?_
  refine oIdxR rfl rfl (by repeat (first | exact Pick.here | apply Pick.there)) (by omega) rfl rfl (fun g21 hg21 => ?_)
  first | subst hg21 | (injection hg21 with hg21; injection hg21 with hg21; subst hg21)
  first | refine oLdX rfl hc21 rfl rfl ?_ | refine oLdXA rfl hc21 rfl (by repeat (first | exact SubL.done | apply SubL.take | apply SubL.drop)) ?_ | (refine oLdR1 rfl (by repeat (first | exact Pick.here | apply Pick.there)) (by omega) rfl (fun u22 hu22 => ?_))
  obtain rfl := Option.some.inj (hu22.symm.trans hj)
  refine oPtr rfl ?_
  refine oFld (n := 0) (m := 0) rfl rfl rfl ?_
  refine oLd rfl (by repeat (first | exact Pick.here | apply Pick.there)) rfl rfl ?_
  refine oIdxR rfl rfl (by repeat (first | exact Pick.here | apply Pick.there)) (by omega) rfl rfl (fun g28 hg28 => ?_)
  first | subst hg28 | (injection hg28 with hg28; injection hg28 with hg28; subst hg28)
  first | refine oLdX rfl hc28 rfl rfl ?_ | refine oLdXA rfl hc28 rfl (by repeat (first | exact SubL.done | apply SubL.take | apply SubL.drop)) ?_ | (refine oLdR1 rfl (by repeat (first | exact Pick.here | apply Pick.there)) (by omega) rfl (fun u29 hu29 => ?_))
  obtain rfl := Option.some.inj (hu29.symm.trans hi)
  refine oIdxR rfl rfl (by repeat (first | exact Pick.here | apply Pick.there)) (by omega) rfl rfl (fun g30 hg30 => ?_)
  first | subst hg30 | (injection hg30 with hg30; injection hg30 with hg30; subst hg30)
  refine oHead ?_
  refine oStR _ rfl rfl rfl rfl (by repeat (first | exact Pick.here | apply Pick.there)) (by first | omega | (simp only [List.length_set]; omega)) ?_
  refine oIdxR rfl rfl (by repeat (first | exact Pick.here | apply Pick.there)) (by omega) rfl rfl (fun g31 hg31 => ?_)
  first | subst hg31 | (injection hg31 with hg31; injection hg31 with hg31; subst hg31)
  refine oStR _ rfl rfl rfl rfl (by repeat (first | exact Pick.here | apply Pick.there)) (by first | omega | (simp only [List.length_set]; omega)) ?_
  refine oNilT ?_
  refine thn_n ?_
  refine wDraw2 rfl rfl [0, 4, 7, 11, 14, 15] [1, 2, 3, 5, 6, 8, 9, 10, 12, 13, 16, 17] 18 (by kernel_rfl) rfl rfl rfl (fun w0 => ?_)
  refine oPtr rfl ?_
  refine oFld (n := 0) (m := 0) rfl rfl rfl ?_
  refine oLd rfl (by repeat (first | exact Pick.here | apply Pick.there)) rfl rfl ?_
  refine oIdxR rfl rfl (by repeat (first | exact Pick.here | apply Pick.there)) (by omega) rfl rfl (fun g37 hg37 => ?_)
  first | subst hg37 | (injection hg37 with hg37; injection hg37 with hg37; subst hg37)
  first | refine oLdX rfl hc37 rfl rfl ?_ | refine oLdXA rfl hc37 rfl (by repeat (first | exact SubL.done | apply SubL.take | apply SubL.drop)) ?_ | (refine oLdR1 rfl (by repeat (first | exact Pick.here | apply Pick.there)) (by omega) rfl (fun u38 hu38 => ?_))
  obtain rfl : u38 = at_ l j := by
    have := hu38.symm.trans hg; simp at this; rw [hj] at this; simpa using this
  refine oPtr rfl ?_
  refine oFld (n := 0) (m := 0) rfl rfl rfl ?_
  refine oLd rfl (by repeat (first | exact Pick.here | apply Pick.there)) rfl rfl ?_
  refine oIdxR rfl rfl (by repeat (first | exact Pick.here | apply Pick.there)) (by omega) rfl rfl (fun g44 hg44 => ?_)
  first | subst hg44 | (injection hg44 with hg44; injection hg44 with hg44; subst hg44)
  first | refine oLdX rfl hc44 rfl rfl ?_ | refine oLdXA rfl hc44 rfl (by repeat (first | exact SubL.done | apply SubL.take | apply SubL.drop)) ?_ | (refine oLdR1 rfl (by repeat (first | exact Pick.here | apply Pick.there)) (by omega) rfl (fun u45 hu45 => ?_))
  obtain rfl : u45 = at_ l i := by
    have h9 := hu45.symm.trans hg'
    by_cases e : j = i
    · subst e; simpa [hj] using h9
    · simpa [e, hi] using h9
  refine oPtr rfl ?_
  refine oFld (n := 2) (m := 2) rfl rfl rfl ?_
  refine oHead ?_
  refine oStI { f (at_ l j) with pl := (i : Int) } rfl rfl rfl rfl rfl (by repeat (first | exact Pick.here | apply Pick.there)) mj (by decide) rfl ?_
  refine oPtr rfl ?_
  refine oFld (n := 2) (m := 2) rfl rfl rfl ?_
  refine oStI { (if at_ l i = at_ l j then { f (at_ l j) with pl := (i : Int) } else f (at_ l i)) with pl := (j : Int) } rfl rfl rfl rfl rfl (by repeat (first | exact Pick.here | apply Pick.there)) mi (by decide) rfl ?_
  refine oNilT ?_
  refine fin_n ?_
  refine ⟨rfl, _, ResL.nil, ?_⟩
  refine ⟨⟨some ⟨g21, 0, none⟩, cp, mb, swp l i j, swF f (at_ l i) (at_ l j) i j, m⟩, ⟨hok' _, rfl, swF_same _ _ _ _ _⟩, rfl, ?_⟩
  show Leads _ _ [blk p _ [.slice _ (swp l i j).length cp, _], row _ _ _ (.slice _ (swp l i j).length cp) (swp l i j), its (fun b => b ∈ swp l i j) _, _]
  rw [swp_length, ← hmem]
  exact (Leads.has (by repeat' (first | exact Has.nil | exact Pick.here | apply Has.cons | apply Pick.there)))
end Go.Proofs.YtnidmlngkpkmlaaQ
