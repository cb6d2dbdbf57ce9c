import Derived.Test.YtcacohoanlljhaaMH

/-
  sheerleglaw11: known.
-/
namespace Go.Proofs.YtcacohoanlljhaaG
set_option linter.unusedVariables false
set_option linter.unusedSimpArgs false
open Go.RowKit Go.Proofs.YtcacohoanlljhaaK Go.Proofs.YtcacohoanlljhaaT Go.Proofs.YtcacohoanlljhaaL

def kg0 : Graph := [[2], [0], []]
def kg1 : Graph := [[1], [0]]
def kg2 : Graph := [[1], [0], [0]]
def kin : List Bool := [true, true, true]
theorem ord_kg0 : ordL kg0 kin = [1, 0, 2] := by decide
theorem ok_kg0 : okO kg0 kin = true := by decide
theorem back_kg0 : ordL (turnG kg0) kin = [2, 0, 1] := by decide
theorem bok_kg0 : okO (turnG kg0) kin = true := by decide
theorem ok_kg1 : okO kg1 kin = false := by decide
theorem small_kg0 : SmallG kg0 := by unfold SmallG; decide
theorem small_kg1 : SmallG kg1 := by unfold SmallG; decide
theorem small_kg2 : SmallG kg2 := by unfold SmallG; decide
theorem on_kg2 : onL kg2 kin = [0, 1] := by
  have hw : withinR kg2 kin = kg2 := by decide
  have h01 : (0 : Int) ∈ endsOf kg2 1 := by decide
  have h10 : (1 : Int) ∈ endsOf kg2 0 := by decide
  have e0 : ∀ a x, x ∈ endsOf kg2 a → x = 0 ∨ x = 1 := by
    intro a x hx
    match a, hx with
    | 0, hx => right; simpa [kg2, endsOf, inG] using hx
    | 1, hx => left; simpa [kg2, endsOf, inG] using hx
    | 2, hx => left; simpa [kg2, endsOf, inG] using hx
    | a + 3, hx => simp [kg2, endsOf] at hx
  have s0 : RP kg2 [1] 1 := .start (by decide) (by decide)
  have s1 : RP kg2 [0] 0 := .start (by decide) (by decide)
  have p0 : onP kg2 0 = true := onP_iff.2 (show RP kg2 [1] 0 from .step (a := 1) s0 h01)
  have p1 : onP kg2 1 = true := onP_iff.2 (show RP kg2 [0] 1 from .step (a := 0) s1 h10)
  have p2 : onP kg2 2 = false := by
    cases h : onP kg2 2 with
    | false => rfl
    | true =>
      have h2 : RP kg2 [0] 2 := onP_iff.1 h
      have : ∀ x, RP kg2 [0] x → x = 0 ∨ x = 1 := by
        intro x hx
        cases hx with
        | start h1 _ => left; simpa using h1
        | step _ h2 => exact e0 _ _ h2
      have := this 2 h2
      omega
  have m : ∀ a : Int, memF kg2 kin a = (decide (0 ≤ a) && decide (a < 3) && decide (a < 3) && kin.getD a.toNat false) := fun a => rfl
  unfold onL selTo
  rw [hw]
  show ((List.range 3).filter _).map _ = _
  rw [show List.range 3 = [0, 1, 2] from rfl]
  rw [List.filter_cons_of_pos (by rw [p0]; decide), List.filter_cons_of_pos (by rw [p1]; decide), List.filter_cons_of_neg (by rw [p2]; simp)]
  rfl
theorem int_K {w : World} {A0 : Option Addr} {l : List Int} {n c0 : Nat} (h : (Kd.int .i64).C w A0 l) (hn : l.length = n) (hc : n ≤ c0) : (Kd.slice (Kd.int .i64)).K w l [.slice A0 n c0] := by
  subst hn
  exact ⟨A0, c0, rfl, hc, h⟩
theorem C_ints {w : World} {b : Nat} {l : List Int} {cs : List Value} (h : (blk b 3 cs).q w) (hc : cs = l.map (fun x => Value.int .i64 x)) (hl : l.length ≤ 100) : (Kd.int .i64).C w (some ⟨b, 0, none⟩) l := C_blk (kd := Kd.int .i64) h (by omega) (cat_scalar.2 hc)
theorem C_bools {w : World} {b : Nat} {l : List Bool} {cs : List Value} (h : (blk b 4 cs).q w) (hc : cs = l.map (fun x => Value.bool x)) (hl : l.length ≤ 100) : Kd.bool.C w (some ⟨b, 0, none⟩) l := C_blk (kd := Kd.bool) h (by omega) (cat_scalar.2 hc)
theorem C_kg0 {w : World} {b1 b2 b3 : Nat} (h1 : (blk b1 3 [.int .i64 2]).q w) (h2 : (blk b2 3 [.int .i64 0]).q w) (h3 : (blk b3 24 [.slice (some ⟨b1, 0, none⟩) 1 1, .slice (some ⟨b2, 0, none⟩) 1 1, .slice none 0 0]).q w) : kII.C w (some ⟨b3, 0, none⟩) kg0 :=
  C_blk h3 (by decide) (Cat.app (Cat.one (int_K (l := [2]) (C_ints h1 rfl (by decide)) rfl (by decide))) (Cat.app (Cat.one (int_K (l := [0]) (C_ints h2 rfl (by decide)) rfl (by decide))) (Cat.one (int_K (l := []) (Kd.C_nil _ _ _) rfl (by decide)))))
theorem C_kg1 {w : World} {b1 b2 b3 : Nat} (h1 : (blk b1 3 [.int .i64 1]).q w) (h2 : (blk b2 3 [.int .i64 0]).q w) (h3 : (blk b3 24 [.slice (some ⟨b1, 0, none⟩) 1 1, .slice (some ⟨b2, 0, none⟩) 1 1]).q w) : kII.C w (some ⟨b3, 0, none⟩) kg1 :=
  C_blk h3 (by decide) (Cat.app (Cat.one (int_K (l := [1]) (C_ints h1 rfl (by decide)) rfl (by decide))) (Cat.one (int_K (l := [0]) (C_ints h2 rfl (by decide)) rfl (by decide))))
theorem C_kg2 {w : World} {b1 b2 b4 b3 : Nat} (h1 : (blk b1 3 [.int .i64 1]).q w) (h2 : (blk b2 3 [.int .i64 0]).q w) (h4 : (blk b4 3 [.int .i64 0]).q w) (h3 : (blk b3 24 [.slice (some ⟨b1, 0, none⟩) 1 1, .slice (some ⟨b2, 0, none⟩) 1 1, .slice (some ⟨b4, 0, none⟩) 1 1]).q w) : kII.C w (some ⟨b3, 0, none⟩) kg2 :=
  C_blk h3 (by decide) (Cat.app (Cat.one (int_K (l := [1]) (C_ints h1 rfl (by decide)) rfl (by decide))) (Cat.app (Cat.one (int_K (l := [0]) (C_ints h2 rfl (by decide)) rfl (by decide))) (Cat.one (int_K (l := [0]) (C_ints h4 rfl (by decide)) rfl (by decide)))))
end Go.Proofs.YtcacohoanlljhaaG
