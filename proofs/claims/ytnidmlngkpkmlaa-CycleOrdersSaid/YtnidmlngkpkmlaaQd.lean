/-
  Package queue: a pile's Pop; container/heap's up and down.
-/
import Derived.Test.YtnidmlngkpkmlaaQc
namespace Go.Proofs.YtnidmlngkpkmlaaQ
set_option linter.unusedVariables false
set_option linter.unusedSimpArgs false
open Go.RowKit Go.Proofs.YtnidmlngkpkmlaaK

theorem last_of {l : List Nat} (h : l ≠ []) : l[l.length - 1]? = some (at_ l (l.length - 1)) := get_at (by have := List.length_pos_iff.2 h; omega)
theorem mem_drop {l : List Nat} (nd : l.Nodup) (h : l ≠ []) (k : Nat) : k ∈ l.take (l.length - 1) ↔ k ∈ l ∧ k ≠ at_ l (l.length - 1) := by
  have hl := List.length_pos_iff.2 h
  constructor
  · intro hk
    refine ⟨List.mem_of_mem_take hk, ?_⟩
    rintro rfl
    obtain ⟨i, hi⟩ := List.getElem?_of_mem hk
    have hlt : i < l.length - 1 := by have := (List.getElem?_eq_some_iff.1 hi).1; simp at this; omega
    rw [List.getElem?_take, if_pos hlt] at hi
    have := nd_inj nd hi (last_of h)
    omega
  · rintro ⟨hk, hne⟩
    obtain ⟨i, hi⟩ := List.getElem?_of_mem hk
    have hlt : i < l.length := (List.getElem?_eq_some_iff.1 hi).1
    have : i ≠ l.length - 1 := by
      rintro rfl
      rw [last_of h] at hi
      exact hne (Option.some.inj hi).symm
    exact List.mem_of_getElem? (i := i) (by rw [List.getElem?_take, if_pos (by omega)]; exact hi)
set_option maxRecDepth 100000 in
theorem pile_Pop {B : Base} {w : World} {p : Nat} {s : Pile} (hS : St B (pileR p s) w) (hok : POk s) (hl : s.l ≠ []) :
    CallsIn Fence.wide 0 Try.prog 120 #[ptrV p] w (Ret B (fun s' => POk s' ∧ s'.l = s.l.take (s.l.length - 1) ∧ s'.f = s.f) (fun _ => .iface 95 (ptrV (at_ s.l (s.l.length - 1))))
      (fun s' => blk (at_ s.l (s.l.length - 1)) 98 (itCells (s.f (at_ s.l (s.l.length - 1)))) :: pileR p s')) := by
  obtain ⟨nd, pl, mp, sm⟩ := hok
  obtain ⟨A, cp, mb, l, f, m⟩ := s
  unfold pileR at hS
  dsimp only at *
  have hl0 := List.length_pos_iff.2 hl
  have hlast := last_of hl
  have hmem := mem_drop nd hl
  obtain ⟨n1, hn1⟩ : ∃ n1, l.length = n1 + 1 := ⟨l.length - 1, by omega⟩
  have e1 : ((l.length : Nat) : Int) - 1 = ((l.length - 1 : Nat) : Int) := by omega
  have hx : at_ l (l.length - 1) ∈ l := List.mem_of_getElem? hlast
  generalize hb : at_ l (l.length - 1) = xb at *
  (refine enter Try.func120 rfl rfl hS ?_; simp only [List.zipIdx_cons, List.zipIdx_nil, List.map_cons, List.map_nil, Nat.reduceAdd, Nat.zero_add])
  refine wSeq ?_
  refine wRegion' ?_
  refine oAssign rfl ?_
  refine oNil ?_
  refine thn_n ?_
  refine wSeq ?_
  refine wRegion' ?_
  refine oMove rfl ?_
  refine oPtr rfl ?_
  refine oFld (n := 0) (m := 0) rfl rfl rfl ?_
  first | refine oLd rfl (by repeat (first | exact Pick.here | apply Pick.there)) rfl rfl ?_ | refine oLdI rfl (by repeat (first | exact Pick.here | apply Pick.there)) hx rfl rfl ?_
  refine oLenS rfl rfl ?_
  first | refine oSub rfl rfl (by omega) ?_ | refine oSubW rfl rfl ?_
  refine oSet (t := 10) (v' := .int .i64 ((l.length - 1 : Nat) : Int)) rfl (by rw [e1]) ?_
  refine oAssign rfl ?_
  refine oNil ?_
  refine thn_n ?_
  refine wSeq ?_
  refine wRegion' ?_
  refine oMove rfl ?_
  refine oPtr rfl ?_
  refine oFld (n := 0) (m := 0) rfl rfl rfl ?_
  first | refine oLd rfl (by repeat (first | exact Pick.here | apply Pick.there)) rfl rfl ?_ | refine oLdI rfl (by repeat (first | exact Pick.here | apply Pick.there)) hx rfl rfl ?_
  refine oMove rfl ?_
  refine oIdxR rfl rfl (by repeat (first | exact Pick.here | apply Pick.there)) (by omega) rfl rfl (fun g16 hg16 => ?_)
  first | subst hg16 | (injection hg16 with hg16; injection hg16 with hg16; subst hg16)
  first | refine oLdX rfl hc16 rfl rfl ?_ | refine oLdXA rfl hc16 rfl (by repeat (first | exact SubL.done | apply SubL.take | apply SubL.drop)) ?_ | (refine oLdR1 rfl (by repeat (first | exact Pick.here | apply Pick.there)) (by omega) rfl (fun u17 hu17 => ?_))
  obtain rfl : u17 = xb := by rw [hlast] at hu17; exact (Option.some.inj hu17).symm
  refine oAssign rfl ?_
  refine oNil ?_
  refine thn_n ?_
  refine wSeq ?_
  refine wRegion' ?_
  refine oMove rfl ?_
  refine oMove rfl ?_
  refine oPtr rfl ?_
  refine oFld (n := 0) (m := 0) rfl rfl rfl ?_
  first | refine oLd rfl (by repeat (first | exact Pick.here | apply Pick.there)) rfl rfl ?_ | refine oLdI rfl (by repeat (first | exact Pick.here | apply Pick.there)) hx rfl rfl ?_
  refine oMove rfl ?_
  refine oSliceTo rfl rfl (by omega) rfl (by repeat (first | exact Pick.here | apply Pick.there)) ?_
  refine oPtr rfl ?_
  refine oFld (n := 0) (m := 0) rfl rfl rfl ?_
  refine oSt rfl rfl rfl rfl rfl (by repeat (first | exact Pick.here | apply Pick.there)) (by repeat (first | exact SetAt.here | apply SetAt.there)) ?_
  refine oNil ?_
  refine thn_n ?_
  refine wSeq ?_
  refine wDraw2 rfl rfl [0, 4] [1, 2, 3, 5, 6, 7] 8 (by kernel_rfl) rfl rfl rfl (fun w0 => ?_)
  refine oPtr rfl ?_
  refine oFld (n := 1) (m := 1) rfl rfl rfl ?_
  first | refine oLd rfl (by repeat (first | exact Pick.here | apply Pick.there)) rfl rfl ?_ | refine oLdI rfl (by repeat (first | exact Pick.here | apply Pick.there)) hx rfl rfl ?_
  refine oPtr rfl ?_
  refine oFld (n := 0) (m := 0) rfl rfl rfl ?_
  first | refine oLd rfl (by repeat (first | exact Pick.here | apply Pick.there)) rfl rfl ?_ | refine oLdI rfl (by repeat (first | exact Pick.here | apply Pick.there)) hx rfl rfl ?_
  refine oHead ?_
  refine oDelete (ev := ptrV) (keyE_int .i64) rfl rfl rfl (by repeat (first | exact Pick.here | apply Pick.there)) ?_
  refine oNilT ?_
  refine thn_n ?_
  refine wSeq ?_
  refine wRegion' ?_
  refine oMove rfl ?_
  refine oIface rfl rfl ?_
  refine oAssign rfl ?_
  refine oNil ?_
  refine thn_n ?_
  refine wRet ?_
  refine fin_r ?_
  refine ⟨rfl, _, (ResL.cons (ResR.tmp rfl) ResL.nil), ?_⟩
  refine ⟨⟨some ⟨g16, 0, none⟩, cp, mb, l.take (l.length - 1), f, fun k => if k = (f u17).id then none else m k⟩, ⟨⟨?_, ?_, ?_, ?_⟩, rfl, rfl⟩, rfl, ?_⟩
  · exact nd.sublist (List.take_sublist _ _)
  · intro i b hb
    dsimp only at hb ⊢
    have hlt : i < l.length - 1 := by have := (List.getElem?_eq_some_iff.1 hb).1; simp at this; omega
    rw [List.getElem?_take, if_pos hlt] at hb
    exact pl i b hb
  · intro k b
    show (if k = (f u17).id then none else m k) = some b ↔ b ∈ l.take (l.length - 1) ∧ (f b).id = k
    rw [hmem]
    by_cases hk : k = (f u17).id
    · subst hk
      simp only [if_true, reduceCtorEq, false_iff]
      rintro ⟨⟨h1, h2⟩, h3⟩
      have h4 := (mp (f u17).id u17).2 ⟨hx, rfl⟩
      have h5 := (mp (f u17).id b).2 ⟨h1, h3⟩
      exact h2 (Option.some.inj (h5.symm.trans h4))
    · rw [if_neg hk, mp]
      constructor
      · rintro ⟨h1, rfl⟩; exact ⟨⟨h1, by rintro rfl; exact hk rfl⟩, rfl⟩
      · rintro ⟨⟨h1, _⟩, h2⟩; exact ⟨h1, h2⟩
  · show (l.take (l.length - 1)).length ≤ _
    simp; omega
  · refine (its_split (b := u17) (S' := (· ∈ l.take (l.length - 1))) (by repeat (first | exact Pick.here | apply Pick.there)) hx hmem).trans ?_
    show Leads _ _ [blk u17 _ _, blk p _ [.slice _ (l.take (l.length - 1)).length cp, _], row _ _ _ (.slice _ (l.take (l.length - 1)).length cp) (l.take (l.length - 1)), _, _]
    rw [List.length_take, Nat.min_eq_left (by omega)]
    exact (Leads.has (by repeat' (first | exact Has.nil | exact Pick.here | apply Has.cons | apply Pick.there)))
end Go.Proofs.YtnidmlngkpkmlaaQ
