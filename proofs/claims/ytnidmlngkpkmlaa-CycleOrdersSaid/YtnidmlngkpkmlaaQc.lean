/-
  Package queue: a pile's Push and Pop.
-/
import Derived.Test.YtnidmlngkpkmlaaQb
namespace Go.Proofs.YtnidmlngkpkmlaaQ
set_option linter.unusedVariables false
set_option linter.unusedSimpArgs false
open Go.RowKit Go.Proofs.YtnidmlngkpkmlaaK

section
variable {B : Base} {w : World} {Φ Φ' Φ'' : List Res} {S S' : Nat → Prop} {f f' : Nat → It} {b : Nat}
theorem St.apart {r s : Res} (h : St B Φ w) (hp : Pick Φ r Φ') (hq : Pick Φ' s Φ'') {k : Nat} (hr : r.fp k) : ¬ s.fp k := by
  have := (h.perm (hp.perm.trans (hq.perm.cons _))).sep
  exact this.2.2.1 s List.mem_cons_self k hr
theorem its_congr (hp : Pick Φ (its S f) Φ') (hS : ∀ k, S' k ↔ S k) (hf : ∀ k, S k → f' k = f k) : Leads B Φ (its S' f' :: Φ') := fun w h =>
  (h.perm hp.perm).conv .here (fun hq k hk => by rw [hf k ((hS k).1 hk)]; exact hq k ((hS k).1 hk)) (fun k hk => (hS k).1 hk)
theorem its_join {cs : List Value} (hp : Pick Φ (its S f) Φ') (hq : Pick Φ' (blk b 98 cs) Φ'') (hS : ∀ k, S' k ↔ S k ∨ k = b) (hf : ∀ k, S k → k ≠ b → f' k = f k) (hb : cs = itCells (f' b)) : Leads B Φ (its S' f' :: Φ'') := fun w h => by
  have h1 := h.perm (hp.perm.trans (hq.perm.cons _))
  obtain ⟨g1, g2, g3, h2, h3, h4, h5⟩ := h1.sep
  refine ⟨h1.ok, fun k hk => ?_, fun k hk => ?_, fun s hs k hk => ?_, h5⟩
  · rcases (hS k).1 hk with hk | rfl
    · by_cases e : k = b
      · subst e; exact absurd rfl (g3 _ List.mem_cons_self k hk)
      · rw [hf k hk e]; exact g1 k hk
    · rw [← hb]; exact h2
  · rcases (hS k).1 hk with hk | rfl
    · exact g2 k hk
    · exact h3 k rfl
  · rcases (hS k).1 hk with hk | rfl
    · exact g3 s (List.mem_cons_of_mem _ hs) k hk
    · exact h4 s hs k rfl
theorem its_split (hp : Pick Φ (its S f) Φ') (hb : S b) (hS : ∀ k, S' k ↔ S k ∧ k ≠ b) : Leads B Φ (its S' f :: blk b 98 (itCells (f b)) :: Φ') := fun w h => by
  have h1 := h.perm hp.perm
  obtain ⟨g1, g2, g3, h5⟩ := h1.sep
  refine ⟨h1.ok, fun k hk => g1 k ((hS k).1 hk).1, fun k hk => g2 k ((hS k).1 hk).1, fun s hs k hk hsk => ?_, g1 b hb, fun k hk => ?_, fun s hs k hk => ?_, h5⟩
  · rcases List.mem_cons.1 hs with rfl | hs
    · exact ((hS k).1 hk).2 hsk
    · exact g3 s hs k ((hS k).1 hk).1 hsk
  · have : k = b := hk
    subst this; exact g2 k hb
  · have : k = b := hk
    subst this; exact g3 s hs k hb
end

def pushF (f : Nat → It) (b : Nat) (x : It) : Nat → It := fun k => if k = b then x else f k
set_option maxRecDepth 100000 in
theorem pile_Push {B : Base} {w : World} {p nb : Nat} {s : Pile} {x : It} (hS : St B (pileR p s ++ [blk nb 98 (itCells x)]) w) (hok : POk s) (hid : s.m x.id = none) (hl : s.l.length < 1000000) :
    CallsIn Fence.wide 0 Try.prog 121 #[ptrV p, .iface 95 (ptrV nb)] w (Ret B (fun s' => POk s' ∧ s'.l = s.l ++ [nb] ∧ s'.f = pushF s.f nb { x with pl := s.l.length }) (fun _ => .tuple #[]) (fun s' => pileR p s')) := by
  obtain ⟨nd, pl, mp, sm⟩ := hok
  obtain ⟨A, cp, mb, l, f, m⟩ := s
  unfold pileR at hS
  dsimp only [List.cons_append, List.nil_append] at *
  have hnb : nb ∉ l := fun hm => St.apart hS (by repeat (first | exact Pick.here | apply Pick.there)) (by repeat (first | exact Pick.here | apply Pick.there)) (r := its (· ∈ l) f) (s := blk nb _ _) hm rfl
  obtain ⟨xi, xk, xp⟩ := x
  unfold itCells at hS
  dsimp only at hid hS
  (refine enter Try.func121 rfl rfl hS ?_; simp only [List.zipIdx_cons, List.zipIdx_nil, List.map_cons, List.map_nil, Nat.reduceAdd, Nat.zero_add])
  refine wSeq ?_
  refine wRegion' ?_
  refine oMove rfl ?_
  refine oAssertT rfl rfl ?_
  refine oMove rfl ?_
  refine oExt rfl (by repeat (first | exact GetAt.here | apply GetAt.there)) ?_
  refine oExt rfl (by repeat (first | exact GetAt.here | apply GetAt.there)) ?_
  refine oAssign rfl ?_
  refine oAssign rfl ?_
  refine oNil ?_
  refine thn_n ?_
  refine wSeq ?_
  refine wSeq ?_
  refine wRegion' ?_
  refine oMove rfl ?_
  refine oNotT rfl ?_
  refine oNil ?_
  refine thn_n ?_
  refine wCondF rfl ?_
  refine wSkip ?_
  refine thn_n ?_
  refine wSeq ?_
  refine wRegion' ?_
  refine oMove rfl ?_
  refine oMove rfl ?_
  refine oPtr rfl ?_
  refine oFld (n := 0) (m := 0) rfl rfl rfl ?_
  refine oLd rfl (by repeat (first | exact Pick.here | apply Pick.there)) rfl rfl ?_
  refine oLenS rfl rfl ?_
  refine oPtr rfl ?_
  refine oFld (n := 2) (m := 2) rfl rfl rfl ?_
  refine oSt rfl rfl rfl rfl rfl (by repeat (first | exact Pick.here | apply Pick.there)) (by repeat (first | exact SetAt.here | apply SetAt.there)) ?_
  refine oNil ?_
  refine thn_n ?_
  refine wSeq ?_
  refine wRegion' ?_
  refine oMove rfl ?_
  refine oMove rfl ?_
  refine oPtr rfl ?_
  refine oFld (n := 0) (m := 0) rfl rfl rfl ?_
  refine oLd rfl (by repeat (first | exact Pick.here | apply Pick.there)) rfl rfl ?_
  refine oMove rfl ?_
  refine oBuildSlice1 rfl rfl rfl rfl rfl (by first | exact CellsOf.agg | exact CellsOf.one rfl) rfl (fun b27 => ?_)
  refine oApp1 _ rfl rfl rfl rfl (by repeat (first | exact Pick.here | apply Pick.there)) (by repeat (first | exact Pick.here | apply Pick.there)) rfl (by omega) rfl (fun g28 cp28 => ?_)
  refine oPtr rfl ?_
  refine oFld (n := 0) (m := 0) rfl rfl rfl ?_
  refine oSt rfl rfl rfl rfl rfl (by repeat (first | exact Pick.here | apply Pick.there)) (by repeat (first | exact SetAt.here | apply SetAt.there)) ?_
  refine oNil ?_
  refine thn_n ?_
  refine wDraw2 rfl rfl [0, 4, 8] [1, 2, 3, 5, 6, 7] 9 (by kernel_rfl) rfl rfl rfl (fun w0 => ?_)
  refine oPtr rfl ?_
  refine oFld (n := 1) (m := 1) rfl rfl rfl ?_
  refine oLd rfl (by repeat (first | exact Pick.here | apply Pick.there)) rfl rfl ?_
  refine oPtr rfl ?_
  refine oFld (n := 0) (m := 0) rfl rfl rfl ?_
  refine oLd rfl (by repeat (first | exact Pick.here | apply Pick.there)) rfl rfl ?_
  refine oHead ?_
  refine oMapUpd (ev := ptrV) (u := nb) (keyE_int .i64) rfl rfl rfl rfl (by repeat (first | exact Pick.here | apply Pick.there)) ?_
  refine oNilT ?_
  refine fin_n ?_
  refine ⟨rfl, _, ResL.nil, ?_⟩
  refine ⟨⟨some ⟨g28, 0, none⟩, cp28, mb, l ++ [nb], pushF f nb ⟨xi, xk, l.length⟩, fun k => if k = xi then some nb else m k⟩, ⟨⟨?_, ?_, ?_, ?_⟩, rfl, rfl⟩, rfl, ?_⟩
  · exact List.nodup_append.2 ⟨nd, by simp, fun a ha b hb => by simp at hb; subst hb; rintro rfl; exact hnb ha⟩
  · intro i b hb
    dsimp only at hb ⊢
    unfold pushF
    rcases Nat.lt_or_ge i l.length with hi | hi
    · rw [List.getElem?_append_left hi] at hb
      have : ¬ b = nb := by rintro rfl; exact hnb (List.mem_of_getElem? hb)
      rw [if_neg this]; exact pl i b hb
    · rw [List.getElem?_append_right hi] at hb
      have h0 : i - l.length = 0 := by
        have := (List.getElem?_eq_some_iff.1 hb).1; simp at this; omega
      rw [h0] at hb
      obtain rfl : nb = b := by simpa using hb
      rw [if_pos rfl]
      show ((l.length : Nat) : Int) = i
      omega
  · intro k b
    show (if k = xi then some nb else m k) = some b ↔ b ∈ l ++ [nb] ∧ (pushF f nb ⟨xi, xk, l.length⟩ b).id = k
    unfold pushF
    by_cases hb : b = nb
    · subst hb
      simp only [List.mem_append, List.mem_singleton, or_true, true_and, if_true]
      by_cases hk : k = xi
      · simp [hk]
      · rw [if_neg hk]
        constructor
        · intro h; exact absurd ((mp k b).1 h).1 hnb
        · intro h; exact absurd h.symm hk
    · rw [if_neg hb]
      by_cases hk : k = xi
      · subst hk
        rw [if_pos rfl]
        constructor
        · intro h; exact absurd (Option.some.inj h).symm hb
        · rintro ⟨h1, h2⟩
          have := (mp k b).2 ⟨by simpa [hb] using h1, h2⟩
          rw [hid] at this; cases this
      · rw [if_neg hk, mp]; simp [hb]
  · show (l ++ [nb]).length ≤ _
    simp; omega
  · refine (its_join (S' := (· ∈ l ++ [nb])) (f' := pushF f nb ⟨xi, xk, l.length⟩) (by repeat (first | exact Pick.here | apply Pick.there)) (by repeat (first | exact Pick.here | apply Pick.there)) (fun k => by simp) (fun k h1 h2 => by simp [pushF, h2]) (by simp [pushF, itCells])).trans ?_
    show Leads _ _ [blk p _ [.slice _ (l ++ [nb]).length cp28, _], row _ _ _ (.slice _ (l ++ [nb]).length cp28) (l ++ [nb]), its (fun b => b ∈ l ++ [nb]) _, _]
    rw [List.length_append]
    exact (Leads.has (by repeat' (first | exact Has.nil | exact Pick.here | apply Has.cons | apply Pick.there)))
end Go.Proofs.YtnidmlngkpkmlaaQ
