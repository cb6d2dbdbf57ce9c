/-
  Package queue: queues, as sorted lists of ids and keys.
-/
import Derived.Test.YtnidmlngkpkmlaaQf
namespace Go.Proofs.YtnidmlngkpkmlaaQ
set_option linter.unusedVariables false
set_option linter.unusedSimpArgs false
open Go.RowKit Go.Proofs.YtnidmlngkpkmlaaK

def lt2 (a b : Int × Int) : Prop := a.2 < b.2 ∨ a.2 = b.2 ∧ a.1 < b.1
instance (a b : Int × Int) : Decidable (lt2 a b) := by unfold lt2; infer_instance
def Sorted (W : List (Int × Int)) : Prop := W.Pairwise lt2
structure QOk (s : Pile) (W : List (Int × Int)) : Prop where
  ok : POk s
  heap : Heap s
  perm : (vw s).Perm W
  sorted : Sorted W
def queueR (q p : Nat) (s : Pile) : List Res := blk q 66 [ptrV p] :: pileR p s
def qhas (W : List (Int × Int)) (id : Int) : Bool := W.any fun x => x.1 == id
def qkey (W : List (Int × Int)) (id : Int) : Int := ((W.find? fun x => x.1 == id).map (·.2)).getD 0
def qins (x : Int × Int) : List (Int × Int) → List (Int × Int)
  | [] => [x]
  | y :: W => if lt2 x y then x :: y :: W else y :: qins x W
def qdel (W : List (Int × Int)) (id : Int) : List (Int × Int) := W.filter fun x => x.1 != id
def hd1 : List (Int × Int) → Int
  | [] => 0
  | x :: _ => x.1
def hd2 : List (Int × Int) → Int
  | [] => 0
  | x :: _ => x.2
def hd3 : List (Int × Int) → Bool
  | [] => false
  | _ :: _ => true
theorem qins_perm (x : Int × Int) (W : List (Int × Int)) : (qins x W).Perm (x :: W) := by
  induction W with
  | nil => exact .refl _
  | cons y W ih =>
    simp only [qins]
    split
    · exact .refl _
    · exact (ih.cons y).trans (.swap _ _ _)
theorem lt2_tr {a b c : Int × Int} (h : lt2 a b) (k : lt2 b c) : lt2 a c := by unfold lt2 at *; omega
theorem qins_sorted {x : Int × Int} {W : List (Int × Int)} (h : Sorted W) (hx : ∀ y ∈ W, y.1 ≠ x.1) : Sorted (qins x W) := by
  induction W with
  | nil => exact List.pairwise_singleton _ _
  | cons y W ih =>
    unfold Sorted at h
    rw [List.pairwise_cons] at h
    simp only [qins]
    split
    · rename_i hl
      refine List.pairwise_cons.2 ⟨fun z hz => ?_, List.pairwise_cons.2 h⟩
      rcases List.mem_cons.1 hz with rfl | hz
      · exact hl
      · exact lt2_tr hl (h.1 z hz)
    · rename_i hl
      refine List.pairwise_cons.2 ⟨fun z hz => ?_, ih h.2 (fun y hy => hx y (List.mem_cons_of_mem _ hy))⟩
      rcases List.mem_cons.1 ((qins_perm x W).mem_iff.1 hz) with rfl | hz
      · have := hx y List.mem_cons_self
        unfold lt2 at *; omega
      · exact h.1 z hz
theorem Sorted.filter {W : List (Int × Int)} (h : Sorted W) (p : Int × Int → Bool) : Sorted (W.filter p) := List.Pairwise.sublist List.filter_sublist h
theorem nodup_map {α β : Type} (f : α → β) {W : List α} (h : W.Nodup) (hi : ∀ a ∈ W, ∀ b ∈ W, f a = f b → a = b) : (W.map f).Nodup := by
  unfold List.Nodup at *
  rw [List.pairwise_map]
  exact h.imp_of_mem (fun ha hb hne e => hne (hi _ ha _ hb e))
theorem inj_nodup {α β : Type} (f : α → β) : ∀ {W : List α}, (W.map f).Nodup → ∀ x ∈ W, ∀ y ∈ W, f x = f y → x = y
  | [], _, x, hx, _, _, _ => by cases hx
  | z :: W, h, x, hx, y, hy, e => by
    rw [List.map_cons, List.nodup_cons] at h
    rcases List.mem_cons.1 hx with e1 | hx'
    · rcases List.mem_cons.1 hy with e2 | hy'
      · rw [e1, e2]
      · exact absurd (e1 ▸ e ▸ List.mem_map_of_mem hy') h.1
    · rcases List.mem_cons.1 hy with e2 | hy'
      · exact absurd (e2 ▸ e ▸ List.mem_map_of_mem hx') h.1
      · exact inj_nodup f h.2 x hx' y hy' e
theorem ids_nodup {s : Pile} (h : POk s) : ((vw s).map (·.1)).Nodup := by
  unfold vw
  rw [List.map_map]
  refine nodup_map _ h.nd ?_
  intro a ha b hb e
  have e : (s.f a).id = (s.f b).id := e
  have h1 := (h.mp _ a).2 ⟨ha, rfl⟩
  have h2 := (h.mp _ b).2 ⟨hb, e.symm⟩
  exact Option.some.inj (h1.symm.trans h2)
theorem mem_vw {s : Pile} {x : Int × Int} : x ∈ vw s ↔ ∃ b ∈ s.l, (s.f b).id = x.1 ∧ (s.f b).key = x.2 := by
  unfold vw
  rw [List.mem_map]
  constructor
  · rintro ⟨b, hb, rfl⟩; exact ⟨b, hb, rfl, rfl⟩
  · rintro ⟨b, hb, h1, h2⟩; exact ⟨b, hb, by rw [h1, h2]⟩
theorem has_iff {s : Pile} {W : List (Int × Int)} (h : QOk s W) (id : Int) : qhas W id = (s.m id).isSome := by
  rw [Bool.eq_iff_iff, Option.isSome_iff_exists, qhas, List.any_eq_true]
  constructor
  · rintro ⟨x, hx, e⟩
    obtain ⟨b, hb, h1, _⟩ := mem_vw.1 (h.perm.mem_iff.2 hx)
    exact ⟨b, (h.ok.mp id b).2 ⟨hb, by rw [h1]; simpa using e⟩⟩
  · rintro ⟨b, hb⟩
    obtain ⟨h1, h2⟩ := (h.ok.mp id b).1 hb
    exact ⟨((s.f b).id, (s.f b).key), h.perm.mem_iff.1 (mem_vw.2 ⟨b, h1, rfl, rfl⟩), by simpa using h2⟩
theorem len_eq {s : Pile} {W : List (Int × Int)} (h : QOk s W) : s.l.length = W.length := by rw [← h.perm.length_eq]; simp [vw]
theorem ids_W {s : Pile} {W : List (Int × Int)} (h : QOk s W) : (W.map (·.1)).Nodup := (h.perm.map _).nodup_iff.1 (ids_nodup h.ok)
theorem put_ok {s s' : Pile} {W : List (Int × Int)} {id key : Int} (h : QOk s W) (hid : s.m id = none) (hok : POk s') (hp : (vw s').Perm (vw s ++ [(id, key)])) (hh : Heap s') : QOk s' (qins (id, key) W) := by
  refine ⟨hok, hh, ?_, qins_sorted h.sorted (fun y hy e => ?_)⟩
  · exact hp.trans ((List.perm_append_singleton _ _).trans ((h.perm.cons _).trans (qins_perm _ _).symm))
  · have h1 := has_iff h id
    rw [hid] at h1
    have : qhas W id = true := List.any_eq_true.2 ⟨y, hy, by simpa using e⟩
    rw [h1] at this; cases this
theorem take_ok {s s' : Pile} {W : List (Int × Int)} {x : It} (h : QOk s W) (hok : POk s') (hh : Heap s') (hp : (vw s).Perm ((x.id, x.key) :: vw s')) (hx : ∀ k, k < s.l.length → ¬ ltI (s.f (at_ s.l k)) x) : ∃ W', W = (x.id, x.key) :: W' ∧ QOk s' W' := by
  have hxs : (x.id, x.key) ∈ W := h.perm.mem_iff.1 (hp.mem_iff.2 List.mem_cons_self)
  cases hW : W with
  | nil => rw [hW] at hxs; cases hxs
  | cons y W' =>
    have hs := h.sorted
    rw [hW] at hs hxs
    have hy : y ∈ vw s := h.perm.mem_iff.2 (hW ▸ List.mem_cons_self)
    obtain ⟨b, hb, h1, h2⟩ := mem_vw.1 hy
    obtain ⟨k, hk⟩ := List.getElem?_of_mem hb
    have hlt := hx k (List.getElem?_eq_some_iff.1 hk).1
    rw [at_some hk] at hlt
    have hyx : (x.id, x.key) = y := by
      rcases List.mem_cons.1 hxs with e | e
      · exact e
      · have := (List.pairwise_cons.1 hs).1 _ e
        unfold lt2 at this; unfold ltI at hlt; rw [h1, h2] at hlt
        exact absurd this (by simpa using hlt)
    refine ⟨W', by rw [hyx], hok, hh, ?_, (List.pairwise_cons.1 hs).2⟩
    have := hp.symm.trans h.perm
    rw [hW, ← hyx] at this
    exact List.Perm.cons_inv this
theorem drop_ok {s s' : Pile} {W : List (Int × Int)} {x : It} (h : QOk s W) (hok : POk s') (hh : Heap s') (hp : (vw s).Perm ((x.id, x.key) :: vw s')) : QOk s' (qdel W x.id) := by
  refine ⟨hok, hh, ?_, h.sorted.filter _⟩
  have h1 : ((vw s).filter fun y => y.1 != x.id).Perm (qdel W x.id) := h.perm.filter _
  have h2 := hp.filter (fun y => y.1 != x.id)
  have hnd : (((x.id, x.key) :: vw s').map (·.1)).Nodup := (hp.map _).nodup_iff.1 (ids_nodup h.ok)
  rw [List.map_cons, List.nodup_cons] at hnd
  have h3 : ((x.id, x.key) :: vw s').filter (fun y => y.1 != x.id) = vw s' := by
    rw [List.filter_cons_of_neg (by simp), List.filter_eq_self.2]
    intro y hy
    have : y.1 ≠ x.id := fun e => hnd.1 (List.mem_map.2 ⟨y, hy, e⟩)
    simpa using this
  rw [h3] at h2
  exact h2.symm.trans h1
theorem key_of {s : Pile} {W : List (Int × Int)} (h : QOk s W) {id : Int} {b : Nat} (hb : s.m id = some b) : qkey W id = (s.f b).key := by
  obtain ⟨h1, h2⟩ := (h.ok.mp id b).1 hb
  have hm : ((s.f b).id, (s.f b).key) ∈ W := h.perm.mem_iff.1 (mem_vw.2 ⟨b, h1, rfl, rfl⟩)
  have hnd := ids_W h
  unfold qkey
  cases hf : W.find? (fun x => x.1 == id) with
  | none => exact absurd (List.find?_eq_none.1 hf _ hm) (by simpa using h2)
  | some y =>
    have hy := List.mem_of_find?_eq_some hf
    have hy1 : y.1 = id := by simpa using List.find?_some hf
    have : y = ((s.f b).id, (s.f b).key) := inj_nodup (·.1) hnd y hy _ hm (by rw [hy1]; exact h2.symm)
    rw [this]; rfl
end Go.Proofs.YtnidmlngkpkmlaaQ
