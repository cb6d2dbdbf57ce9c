import Derived.Test.YtogaiijhicfoaaaGreatUf

/-
  The statement that calls are as the document says.
-/
namespace Go.Proofs.YtogaiijhicfoaaaGreatU
set_option linter.unusedVariables false
set_option linter.unusedSimpArgs false
open Go.RowKit Go.Proofs.YtogaiijhicfoaaaGreatK Go.Proofs.YtogaiijhicfoaaaGreatT Go.Proofs.YtogaiijhicfoaaaGreatL Go.Proofs.YtogaiijhicfoaaaGreatV Go.Proofs.YtogaiijhicfoaaaGreatG Go.Proofs.YtogaiijhicfoaaaGreatW

theorem opens_arr2 {P : Program} {t e : TypeId} (ht : P.underlying t = some (.array 2 e)) (hc : P.cellsOf e = 1) (hl : P.cellsOf t = 2) (he : P.underlying e = some (.int .i64)) : Opens P t (Kd.pair (Kd.int .i64) (Kd.int .i64)) (fun _ => True) := by
  constructor
  intro H enc w base held fuel cs x hx
  obtain ⟨xs, m, _, rfl, hl', hlen, hf⟩ := DataW.trod_array ht hx
  rw [hl] at hl'
  match cs, hl' with
  | [u0, u1], _ =>
    have key : ∀ i, i < 2 → ∃ a : Int, [u0, u1][i]? = some (.int .i64 a) := by
      intro i hi
      have h1 := hf i hi
      rw [hc, Nat.mul_one, List.getElem?_eq_getElem (show i < xs.length by omega)] at h1
      obtain ⟨a, hK, _⟩ := (opens_int he).get enc w base held m _ _ h1
      have hK' : ([u0, u1].drop i).take 1 = [.int .i64 a] := hK
      refine ⟨a, ?_⟩
      have h2 : (([u0, u1].drop i).take 1)[0]? = some (.int .i64 a) := by rw [hK']; rfl
      rw [List.getElem?_take, List.getElem?_drop] at h2
      simpa using h2
    obtain ⟨a0, h0⟩ := key 0 (by omega)
    obtain ⟨a1, h1⟩ := key 1 (by omega)
    simp at h0 h1
    subst h0 h1
    exact ⟨(a0, a1), ⟨[.int .i64 a0], [.int .i64 a1], rfl, rfl, rfl⟩, trivial⟩
abbrev mainS : ByteArray := ⟨#[109, 97, 105, 110]⟩
end Go.Proofs.YtogaiijhicfoaaaGreatU
