/-
  Package scope: the iterator over all symbols.
-/
import Derived.Test.YtnidmlngkpkmlaaSla
import Derived.Test.YtnidmlngkpkmlaaPScopex0
namespace Go.Proofs.Ytnidmlngkpkmlaa.PScope
open Go.RowKit Go.Shelf Go.Proofs.YtnidmlngkpkmlaaW.PrintWords Go.Proofs.YtnidmlngkpkmlaaSl
attribute [local go_sem] Oper.semAt_some

/-- The symbols of a file on, with their places. -/
def fileSyms (i : Nat) (o : S40) : List (Nat × Nat × S42) := o.f0.mapIdx fun k x => (i, k, x)
def symsFrom : Nat → List S40 → List (Nat × Nat × S42)
  | _, [] => []
  | i, o :: l => fileSyms i o ++ symsFrom (i + 1) l
def symArgs (y : Nat × Nat × S42) : Array Value :=
  #[.agg #[.int .i64 y.1, .int .i64 y.2.1], .agg #[.string y.2.2.f0, .bool y.2.2.f1, .int .i64 y.2.2.f2, .int .i64 y.2.2.f3, .int .i64 y.2.2.f4]]
/-- Files, and symbols of each, few enough that a counter counts them. -/
def Small (l : List S40) : Prop := l.length ≤ 1000 ∧ ∀ o ∈ l, o.f0.length ≤ 1000

theorem drop_at {α : Type} {l : List α} {j : Nat} {y : α} {r : List α} (h : l.drop j = y :: r) : ∃ hj : j < l.length, l[j] = y ∧ l.drop (j + 1) = r := by
  have hj : j < l.length := by
    rcases Nat.lt_or_ge j l.length with hj | hj
    · exact hj
    · rw [List.drop_of_length_le hj] at h; cases h
  rw [List.drop_eq_getElem_cons hj] at h
  injection h with h1 h2
  exact ⟨hj, h1, h2⟩

theorem drop_file {l : List S40} {i : Nat} {ox : S40} (h : i < l.length) (hx : l.getD (i : Int).toNat z40 = ox) : symsFrom i (l.drop i) = fileSyms i ox ++ symsFrom (i + 1) (l.drop (i + 1)) := by
  rw [List.drop_eq_getElem_cons h]
  have : l[i] = ox := by rw [← hx, List.getD_eq_getElem?_getD]; simp [h]
  simp [symsFrom, this]
theorem drop_sym {i k : Nat} {ox : S40} {x : S42} {r : List (Nat × Nat × S42)} (h : k < ox.f0.length) (hx : ox.f0.getD (k : Int).toNat z42 = x) : (fileSyms i ox).drop k ++ r = (i, k, x) :: ((fileSyms i ox).drop (k + 1) ++ r) := by
  have hl : k < (fileSyms i ox).length := by simpa [fileSyms] using h
  rw [List.drop_eq_getElem_cons hl]
  have : ox.f0[k] = x := by rw [← hx, List.getD_eq_getElem?_getD]; simp [h]
  simp [fileSyms, this]

set_option maxRecDepth 100000 in
set_option maxHeartbeats 1000000 in
theorem all1 (l : List S40) (A : Option Addr) (c b : Nat) (w0 : World) (hC : Kd.C k40 w0 A l.length l) (hl : Small l) :
    IterC Try.prog 67 #[.pointer (some ⟨b, 0, none⟩)] w0.heap.size w0 ((symsFrom 0 l).map symArgs) [blk b 22 [.slice A l.length c]] := by
  intro lp AI Ax Ψ0 W hbody hA hS
  have hl1 := hl.1
  (refine callsIn_of_wp Try.func67 rfl trivial ?_ rfl; simp only [Try.ntmps67, List.size_toArray, List.length_cons, List.length_nil, Nat.reduceAdd, Nat.reduceSub, Array.replicate_succ, Array.replicate_zero, List.push_toArray, List.append_toArray, List.nil_append, List.cons_append])
  gi_wp2_with (refine arm_get hS rfl _ _ rfl _ _ rfl rfl rfl _ _ (by repeat (first | exact Pick.here | apply Pick.there)) _ (by rfl) ?_)
  gi_loopw [9] (fun v9 wr => ∃ (i j : Nat) (Ψ : List Res), v9 = .int .i64 i ∧ i ≤ l.length ∧ AI j Ψ ∧ j ≤ (symsFrom 0 l).length ∧ St w0.heap.size w0 ([blk b 22 [.slice A l.length c]] ++ Ψ) wr ∧ (symsFrom 0 l).drop j = symsFrom i (l.drop i))
    (fun v9 _ => l.length - (intOf v9).toNat)
  case atStart => exact ⟨0, 0, Ψ0, rfl, Nat.zero_le _, hA, Nat.zero_le _, hS, rfl⟩
  case round =>
    clear hS hA
    obtain ⟨i, j, Ψ, rfl, hi, hA, hjl, hS, hd⟩ := hrel
    have HD := Lib.hid hd
    clear hd
    by_cases hlt : i < l.length
    · obtain ⟨ad, cs, rfl, hK, hlen, hcs⟩ := elem_cells hC z40 i (by omega) (by omega)
      generalize hox : l.getD (i : Int).toNat z40 = ox at hK
      have HX := Lib.hid hox
      clear hox
      have hox1 : ox.f0.length ≤ 1000 := by
        have := hl.2 _ (List.getElem_mem hlt)
        rw [← HX.out, List.getD_eq_getElem?_getD]; simpa [hlt] using this
      obtain ⟨A0, c0, A1, c1, A2, c2, rfl, l0, g0, _, _, _, _⟩ := k40_open hK
      gi_wp2_with (first | (refine arm_loadA rfl _ _ rfl _ rfl rfl rfl _ rfl (fun j v h => hS.ext (hcs j v h)) ?_) | (refine arm_alloc hS rfl _ rfl _ _ rfl (by dsimp only [Value.cells]) ?_; clear hS; intro bo wo hS _) | (refine arm_putA hS rfl _ _ _ rfl _ _ rfl (by simp [Act.eval, Act.put]; rfl) (by simp [Value.oneCell']) (by rfl) _ _ (by repeat (first | exact Upd.here | apply Upd.there)) (by rfl) ?_; clear hS; intro wp hS _) | (refine arm_get hS rfl _ _ rfl _ _ rfl rfl rfl _ _ (by repeat (first | exact Pick.here | apply Pick.there)) _ (by rfl) ?_))

      gi_loopw [17] (fun v17 wr => ∃ (k j : Nat) (Ψ : List Res), v17 = .int .i64 k ∧ k ≤ ox.f0.length ∧ AI j Ψ ∧ j ≤ (symsFrom 0 l).length ∧
          St w0.heap.size w0 ([blk bo 40 [.slice A0 ox.f0.length c0, .slice A1 ox.f1.length c1, .slice A2 ox.f2.length c2], blk b 22 [.slice (some ad) l.length c]] ++ Ψ) wr ∧
          (symsFrom 0 l).drop j = (fileSyms i ox).drop k ++ symsFrom (i + 1) (l.drop (i + 1)))
        (fun v17 _ => ox.f0.length - (intOf v17).toNat)
      case atStart => exact ⟨0, j, Ψ, rfl, Nat.zero_le _, hA, hjl, hS, by rw [HD.out, drop_file hlt HX.out]; rfl⟩
      case round =>
        clear hS hA HD
        obtain ⟨k, j, Ψ, rfl, hk, hA, hjl, hS, hd⟩ := hrel
        have HD := Lib.hid hd
        clear hd
        by_cases hkt : k < ox.f0.length
        · obtain ⟨ad2, cs, rfl, hK, hlen, hcs⟩ := elem_cells g0 z42 k (by omega) (by omega)
          generalize hxx : ox.f0.getD (k : Int).toNat z42 = x at hK
          have HXX := Lib.hid hxx
          clear hxx
          obtain rfl := k42_open hK
          have hY : ∀ Fr W1, St w0.heap.size w0 (Fr ++ Ψ) W1 → YieldAt Fence.wide 0 Try.prog lp (symArgs (i, k, x)) W1 (YieldEnd w0.heap.size w0 j AI Ax Fr) := by
            obtain ⟨hj, hg, _⟩ := drop_at (HD.out.trans (drop_sym (i := i) hkt HXX.out))
            intro Fr W1 h1
            have := hbody j (by simpa using hj) Ψ Fr W1 hA h1
            rwa [List.getElem_map, hg] at this
          obtain ⟨hjlt, hjg, hjd⟩ := drop_at (HD.out.trans (drop_sym (i := i) (r := symsFrom (i + 1) (l.drop (i + 1))) hkt HXX.out))
          have hD2 := Lib.hid hjd
          clear hjd hjg
          gi_wp2_with (first | (refine arm_loadA rfl _ _ rfl _ rfl rfl rfl _ rfl (fun j v h => hS.ext (hcs j v h)) ?_) | (refine arm_alloc hS rfl _ rfl _ _ rfl (by dsimp only [Value.cells]) ?_; clear hS; intro bx wx hS _) | (refine arm_putA hS rfl _ _ _ rfl _ _ rfl (by simp [Act.eval, Act.put]; rfl) (by simp [Value.oneCell']) (by rfl) _ _ (by repeat (first | exact Upd.here | apply Upd.there)) (by rfl) ?_; clear hS; intro wp hS _) | (refine arm_getA hS rfl _ _ rfl _ rfl rfl rfl _ _ (by repeat (first | exact Pick.here | apply Pick.there)) (by rfl) ?_) | (refine arm_get hS rfl _ _ rfl _ _ rfl rfl rfl _ _ (by repeat (first | exact Pick.here | apply Pick.there)) _ (by rfl) ?_) | (refine arm_yield rfl _ _ _ rfl rfl _ rfl (hY [_, _, _] _ hS) ?_; rintro e w4 (⟨rfl, Ψ4, hA4, hS4⟩ | ⟨rfl, Ψ4, hA4, hS4⟩); all_goals (refine ⟨_, rfl, ?_⟩)))
          · clear hS
            gi_wp2
            go_roundw
            case rel => exact ⟨k + 1, j + 1, Ψ4, by go_num, by omega, hA4, hjlt, hS4.drop, hD2.out⟩
            case measure => simp [intOf]; omega
          · clear hS
            gi_wp2
            refine bodyPost_ret (results_none rfl _ _ _) rfl ?_
            obtain ⟨hj, _⟩ := drop_at (HD.out.trans (drop_sym (i := i) hkt HXX.out))
            exact ⟨⟨_, rfl⟩, .inr ⟨j, Ψ4, by simpa using hj, hA4, hS4.drop.drop⟩⟩
        · obtain rfl : k = ox.f0.length := by omega
          gi_wp2
          go_roundw
          case rel => exact ⟨i + 1, j, Ψ, by go_num, by omega, hA, hjl, hS.drop, by rw [HD.out, List.drop_of_length_le (by simp [fileSyms])]; rfl⟩
          case measure => simp [intOf]; omega
    · obtain rfl : i = l.length := by omega
      gi_wp2
      go_end0
      have hj : j = ((symsFrom 0 l).map symArgs).length := by
        have := HD.out; rw [List.drop_length, symsFrom] at this
        have := List.drop_eq_nil_iff.1 this
        simp; omega
      subst hj
      exact ⟨⟨_, rfl⟩, .inl ⟨Ψ, hA, hS⟩⟩
end Go.Proofs.Ytnidmlngkpkmlaa.PScope
