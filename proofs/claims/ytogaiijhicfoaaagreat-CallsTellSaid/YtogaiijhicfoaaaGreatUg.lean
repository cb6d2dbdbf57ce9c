import Derived.Test.YtogaiijhicfoaaaGreatUf

/-
  The statement that calls are as the document says.
-/
namespace Go.Proofs.YtogaiijhicfoaaaGreatU
set_option linter.unusedVariables false
set_option linter.unusedSimpArgs false
open Go.RowKit Go.Proofs.YtogaiijhicfoaaaGreatK Go.Proofs.YtogaiijhicfoaaaGreatT Go.Proofs.YtogaiijhicfoaaaGreatL Go.Proofs.YtogaiijhicfoaaaGreatV Go.Proofs.YtogaiijhicfoaaaGreatG Go.Proofs.YtogaiijhicfoaaaGreatW

theorem opens_arr2 {P : Program} {t e : TypeId} (ht : P.underlying t = some (.array 2 e)) (hc : P.cellsOf e = 1) (hl : P.cellsOf t = 2) (he : P.underlying e = some (.int .i64)) : Opens P t (Kd.pair (Kd.int .i64) (Kd.int .i64)) (fun _ => True) := by
  constructor
  intro H enc w base held fuel cs x hx
  obtain ⟨xs, m, _, rfl, hl', hlen, hf⟩ := DataW.trod_array ht hx
  rw [hl] at hl'
  match cs, hl' with
  | [u0, u1], _ =>
    have key : ∀ i, i < 2 → ∃ a : Int, [u0, u1][i]? = some (.int .i64 a) := by
      intro i hi
      have h1 := hf i hi
      rw [hc, Nat.mul_one, List.getElem?_eq_getElem (show i < xs.length by omega)] at h1
      obtain ⟨a, hK, _⟩ := (opens_int he).get enc w base held m _ _ h1
      have hK' : ([u0, u1].drop i).take 1 = [.int .i64 a] := hK
      refine ⟨a, ?_⟩
      have h2 : (([u0, u1].drop i).take 1)[0]? = some (.int .i64 a) := by rw [hK']; rfl
      rw [List.getElem?_take, List.getElem?_drop] at h2
      simpa using h2
    obtain ⟨a0, h0⟩ := key 0 (by omega)
    obtain ⟨a1, h1⟩ := key 1 (by omega)
    simp at h0 h1
    subst h0 h1
    exact ⟨(a0, a1), ⟨[.int .i64 a0], [.int .i64 a1], rfl, rfl, rfl⟩, trivial⟩
theorem listF_0 (p : ApiProgram) : p.fFuns.map (listF p 0) = p.fFuns.map (directF p) := rfl
theorem listF_1 (p : ApiProgram) : p.fFuns.map (listF p 1) = p.fFuns.map (valuesF p) := rfl
theorem listF_2 (p : ApiProgram) : p.fFuns.map (listF p 2) = p.fFuns.map (refersF p) := rfl
theorem listF_3 (p : ApiProgram) : p.fFuns.map (listF p 3) = p.fFuns.map viasF := rfl
theorem listF_4 (p : ApiProgram) : p.fFuns.map (listF p 4) = p.fFuns.map (datasF p) := rfl
theorem ref10_Same' {B : Base} {w : World} (hS : St B [] w) (g : List (List Int)) (n : Nat) (hn : g.length = n) (A : Option Addr) (cp : Nat) (hC : (Kd.slice (Kd.int .i64)).C B.e A g) (A1 : Option Addr) (cp1 : Nat) (hC1 : (Kd.slice (Kd.int .i64)).C B.e A1 g) :
    CallsIn Fence.wide 0 Tryz.prog 20 #[.slice A n cp, .slice A1 n cp1] w (Ret B (fun _ : Unit => True) (fun _ => .bool true) (fun _ => [])) := by
  subst hn
  exact ref10_Same hS g A cp hC A1 cp1 hC1
abbrev mainS : ByteArray := ⟨#[109, 97, 105, 110]⟩
set_option maxRecDepth 100000 in
set_option maxHeartbeats 4000000 in
theorem callsTell {B : Base} {w : World} (hS : St B [] w) (A : Option Addr) (cp : Nat) (l : List ApiObject) (hC : kApiObject.C B.e A l) (hv : ∀ o ∈ l, vApiObject o) (at_ : Int × Int) (ac : List Value) (ha : (Kd.pair (Kd.int .i64) (Kd.int .i64)).K B.e at_ ac) (n : Int) (is : Bool) :
    CallsIn Fence.wide 0 Tryz.prog 3 #[.slice A l.length cp, .agg ac.toArray, .int .i64 n, .bool is] w (Ret B (fun _ : Unit => True) (fun _ => .bool true) (fun _ => [])) := by
  obtain ⟨x, y⟩ := at_
  obtain ⟨_, _, rfl, rfl, rfl⟩ := ha
  (refine enter Tryz.func3 rfl rfl hS ?_; simp only [List.zipIdx_cons, List.zipIdx_nil, List.map_cons, List.map_nil, Nat.reduceAdd, Nat.zero_add])
  refine wSeq ?_
  refine wRegion' ?_
  refine oBox rfl (by repeat constructor) (fun b5 => ?_)
  refine oAssign rfl ?_
  refine oNil ?_
  refine thn_n ?_
  refine wSeq ?_
  refine wSeq ?_
  refine wRegion' ?_
  refine oMove rfl ?_
  (refine oCall rfl (by kernel_rfl) (fun w hS => frame hS (by repeat' constructor) (fun B' hB hS' => ref24_Few hS' A cp l (Kd.C_grow hB hC))) ?_; rintro r12 h12)
  first | refine oNot rfl ?_ | refine oNotB rfl ?_
  refine oNil ?_
  refine thn_n ?_
  first | refine wCond rfl (fun h13 => ?_) (fun h13 => ?_) | refine wCondB rfl (fun h13 => ?_) (fun h13 => ?_)
  ·
   refine wSeq ?_
   refine wRegion' ?_
   (refine oCall rfl (by kernel_rfl) (fun w hS => frame hS (by repeat' constructor) (fun B' hB hS' => known25 hS')) ?_; rintro ⟨⟩ -)
   refine oAssign rfl ?_
   refine oNil ?_
   refine thn_n ?_
   refine wRet ?_
   refine thn_r ?_
   refine fin_r ?_
   refine ⟨rfl, _, (ResL.cons (ResR.tmp rfl) ResL.nil), ?_⟩
   exact ⟨(), trivial, rfl, (Leads.has (by repeat' constructor))⟩
  ·
   have hsm : FewO l := h12 (by simpa using h13)
   refine wSkip ?_
   refine thn_n ?_
   refine wSeq ?_
   refine wRegion' ?_
   refine oMove rfl ?_
   (refine oCall rfl (by kernel_rfl) (fun w hS => frame hS (by repeat' constructor) (fun B' hB hS' => ref24_Bind hS' A cp l B.e hB hC hv hsm mainS)) ?_; rintro z ⟨hz, hzp⟩)
   obtain ⟨Af, cf, ft, fr, Ad, cd, dt, dr⟩ := z
   have hz1 := hz.f
   have hz3 := hz.d
   dsimp only [PZ.cells] at hz1 hz3 ⊢
   refine oMove rfl ?_
   refine oExt rfl (by repeat constructor) ?_
   refine oExt rfl (by repeat constructor) ?_
   refine oAlloc rfl (by repeat constructor) (fun b9 => ?_)
   refine oAlloc rfl (by repeat constructor) (fun b10 => ?_)
   refine oStA rfl rfl rfl rfl (by repeat constructor) (by rfl) ?_
   refine oStA rfl rfl rfl rfl (by repeat constructor) (by rfl) ?_
   refine oNil ?_
   refine thn_n ?_
   refine wSeq ?_
   refine wRegion' ?_
   refine oLdA rfl (by repeat constructor) rfl (by repeat constructor) ?_
   refine oLdA rfl (by repeat constructor) rfl (by repeat constructor) ?_
   refine oMove rfl ?_
   refine oMove rfl ?_
   (refine oCall rfl (by kernel_rfl) (fun w hS => frame hS (by repeat' constructor) (fun B' hB hS' => law_Spoil Af cf ft fr Ad cd dt dr B.e hS' hz1 hz3 (bindP l mainS).fEntry x y n is)) ?_; rintro ⟨z2, e2⟩ hz2)
   dsimp only at hz2
   refine oStA rfl rfl rfl rfl (by repeat constructor) (by rfl) ?_
   refine oNil ?_
   refine thn_n ?_
   refine wSeq ?_
   refine wSeq ?_
   refine wRegion' ?_
   refine oLdA rfl (by repeat constructor) rfl (by repeat constructor) ?_
   (refine oCall rfl (by kernel_rfl) (fun w hS => frame' hS .nil (fun B' hB hR hS' => ref25_Few hS' (z2.prog e2) _ (prog_K hz2 (hR _ _ (by repeat constructor)) (hR _ _ (by repeat constructor)) (hR _ _ (by repeat constructor)) (hR _ _ (by repeat constructor)) hB e2))) ?_; rintro r26 h26)
   first | refine oNot rfl ?_ | refine oNotB rfl ?_
   refine oNil ?_
   refine thn_n ?_
   first | refine wCond rfl (fun h27 => ?_) (fun h27 => ?_) | refine wCondB rfl (fun h27 => ?_) (fun h27 => ?_)
   ·
    refine wSeq ?_
    refine wRegion' ?_
    (refine oCall rfl (by kernel_rfl) (fun w hS => frame hS (by repeat' constructor) (fun B' hB hS' => known25 hS')) ?_; rintro ⟨⟩ -)
    refine oAssign rfl ?_
    refine oNil ?_
    refine thn_n ?_
    refine wRet ?_
    refine thn_r ?_
    refine fin_r ?_
    refine ⟨rfl, _, (ResL.cons (ResR.tmp rfl) ResL.nil), ?_⟩
    exact ⟨(), trivial, rfl, (Leads.has (by repeat' constructor))⟩
   ·
    have hsp : SmallP (z2.prog e2) := h26 (by simpa using h27)
    have hfl : z2.ft.length = (z2.prog e2).fFuns.length := (zip_len hz2.f).symm
    refine wSkip ?_
    refine thn_n ?_
    refine wSeq ?_
    refine wDrawG rfl [0, 2] [(1, [2], []), (3, [], []), (4, [], [5, 6, 8]), (7, [8], []), (9, [], []), (10, [], [11, 12, 13, 15]), (14, [15], []), (16, [], []), (17, [], [18, 19, 20, 22]), (21, [22], []), (23, [], []), (24, [], [25, 26, 27, 29]), (28, [29], []), (30, [], []), (31, [], [32, 33]), (34, [], [35])] [36] 24 (by kernel_rfl) rfl rfl (fun w0 => ?_)
    refine oLdA rfl (by repeat constructor) rfl (by repeat constructor) ?_
    refine oLdA rfl (by repeat constructor) rfl (by repeat constructor) ?_
    refine oLkSegG ?_
    refine oSegG rfl ?_
    (refine oCall rfl (by kernel_rfl) (fun w hS => frame' hS .nil (fun B' hB hR hS' => prog_Direct hS' (z2.prog e2) _ (prog_K hz2 (hR _ _ (by repeat constructor)) (hR _ _ (by repeat constructor)) (hR _ _ (by repeat constructor)) (hR _ _ (by repeat constructor)) hB e2) hsp B.e)) ?_; rintro ⟨A30, c30, hs30⟩ hl30)
    refine oAgainG ?_ rfl (fun w0 => ?_)
    ·
     refine AgainG.cons rfl rfl rfl rfl (fun w0 => ?_) ?_
     ·
      refine oLdA rfl (by repeat constructor) rfl (by repeat constructor) ?_
      exact oLkHas rfl
     ·
      exact AgainG.nil
    ·
     refine oLkSegG ?_
     refine oSegG rfl ?_
     (refine oCall rfl (by kernel_rfl) (fun w hS => frame' hS .nil (fun B' hB hR hS' => ref25_Lists hS' (z2.prog e2) _ (prog_K hz2 (hR _ _ (by repeat constructor)) (hR _ _ (by repeat constructor)) (hR _ _ (by repeat constructor)) (hR _ _ (by repeat constructor)) hB e2) hsp 0 B.e)) ?_; rintro ⟨A32, c32, hs32⟩ hl32)
     rw [listF_0]
     refine oAgainG ?_ rfl (fun w0 => ?_)
     ·
      exact AgainG.nil
     ·
      refine oLkSegG ?_
      refine oSegG rfl ?_
      (refine oCall rfl (by kernel_rfl) (fun w hS => frame' hS .nil (fun B' hB hR hS' => ref10_Same' hS' ((z2.prog e2).fFuns.map (directF (z2.prog e2))) (z2.prog e2).fFuns.length (by rw [List.length_map]) A30 c30 (grid_C (kd := Kd.int .i64) (W := B.e) (ei := 3) (eo := 42) (W0 := B.e) (n := (z2.prog e2).fFuns.length) (cp := c30) (hs := hs30) (A := A30) (xss := ((z2.prog e2).fFuns.map (directF (z2.prog e2)))) (hR _ _ (by repeat constructor)) (hR _ _ (by repeat constructor)) (by rw [hl30, List.length_map]) hB) A32 c32 (grid_C (kd := Kd.int .i64) (W := B.e) (ei := 3) (eo := 42) (W0 := B.e) (n := (z2.prog e2).fFuns.length) (cp := c32) (hs := hs32) (A := A32) (xss := ((z2.prog e2).fFuns.map (directF (z2.prog e2)))) (hR _ _ (by repeat constructor)) (hR _ _ (by repeat constructor)) (by rw [hl32, List.length_map]) hB))) ?_; rintro ⟨⟩ -)
      refine oAgainG ?_ rfl (fun w0 => ?_)
      ·
       exact AgainG.nil
      ·
       refine oMove rfl ?_
       refine oWant rfl rfl ?_
       refine oLdA rfl (by repeat constructor) rfl (by repeat constructor) ?_
       refine oWant rfl rfl ?_
       refine oLdA rfl (by repeat constructor) rfl (by repeat constructor) ?_
       refine oLkSegG ?_
       refine oSegG rfl ?_
       refine oWant rfl rfl ?_
       (refine oCall rfl (by kernel_rfl) (fun w hS => frame' hS .nil (fun B' hB hR hS' => prog_Values hS' (z2.prog e2) _ (prog_K hz2 (hR _ _ (by repeat constructor)) (hR _ _ (by repeat constructor)) (hR _ _ (by repeat constructor)) (hR _ _ (by repeat constructor)) hB e2) hsp B.e)) ?_; rintro ⟨A36, c36, hs36⟩ hl36)
       refine oAgainG ?_ rfl (fun w0 => ?_)
       ·
        refine AgainG.cons rfl rfl rfl rfl (fun w0 => ?_) ?_
        ·
         refine oWant rfl rfl ?_
         refine oLdA rfl (by repeat constructor) rfl (by repeat constructor) ?_
         exact oLkHas rfl
        ·
         exact AgainG.nil
       ·
        refine oLkSegG ?_
        refine oSegG rfl ?_
        refine oWant rfl rfl ?_
        (refine oCall rfl (by kernel_rfl) (fun w hS => frame' hS .nil (fun B' hB hR hS' => ref25_Lists hS' (z2.prog e2) _ (prog_K hz2 (hR _ _ (by repeat constructor)) (hR _ _ (by repeat constructor)) (hR _ _ (by repeat constructor)) (hR _ _ (by repeat constructor)) hB e2) hsp 1 B.e)) ?_; rintro ⟨A38, c38, hs38⟩ hl38)
        rw [listF_1]
        refine oAgainG ?_ rfl (fun w0 => ?_)
        ·
         exact AgainG.nil
        ·
         refine oLkSegG ?_
         refine oSegG rfl ?_
         refine oWant rfl rfl ?_
         (refine oCall rfl (by kernel_rfl) (fun w hS => frame' hS .nil (fun B' hB hR hS' => ref10_Same' hS' ((z2.prog e2).fFuns.map (valuesF (z2.prog e2))) (z2.prog e2).fFuns.length (by rw [List.length_map]) A36 c36 (grid_C (kd := Kd.int .i64) (W := B.e) (ei := 3) (eo := 42) (W0 := B.e) (n := (z2.prog e2).fFuns.length) (cp := c36) (hs := hs36) (A := A36) (xss := ((z2.prog e2).fFuns.map (valuesF (z2.prog e2)))) (hR _ _ (by repeat constructor)) (hR _ _ (by repeat constructor)) (by rw [hl36, List.length_map]) hB) A38 c38 (grid_C (kd := Kd.int .i64) (W := B.e) (ei := 3) (eo := 42) (W0 := B.e) (n := (z2.prog e2).fFuns.length) (cp := c38) (hs := hs38) (A := A38) (xss := ((z2.prog e2).fFuns.map (valuesF (z2.prog e2)))) (hR _ _ (by repeat constructor)) (hR _ _ (by repeat constructor)) (by rw [hl38, List.length_map]) hB))) ?_; rintro ⟨⟩ -)
         refine oAgainG ?_ rfl (fun w0 => ?_)
         ·
          exact AgainG.nil
         ·
          refine oPickT rfl rfl ?_
          refine oMove rfl ?_
          refine oWant rfl rfl ?_
          refine oLdA rfl (by repeat constructor) rfl (by repeat constructor) ?_
          refine oWant rfl rfl ?_
          refine oLdA rfl (by repeat constructor) rfl (by repeat constructor) ?_
          refine oLkSegG ?_
          refine oSegG rfl ?_
          refine oWant rfl rfl ?_
          (refine oCall rfl (by kernel_rfl) (fun w hS => frame' hS .nil (fun B' hB hR hS' => prog_Refers hS' (z2.prog e2) _ (prog_K hz2 (hR _ _ (by repeat constructor)) (hR _ _ (by repeat constructor)) (hR _ _ (by repeat constructor)) (hR _ _ (by repeat constructor)) hB e2) hsp B.e)) ?_; rintro ⟨A43, c43, hs43⟩ hl43)
          refine oAgainG ?_ rfl (fun w0 => ?_)
          ·
           refine AgainG.cons rfl rfl rfl rfl (fun w0 => ?_) ?_
           ·
            refine oWant rfl rfl ?_
            refine oLdA rfl (by repeat constructor) rfl (by repeat constructor) ?_
            exact oLkHas rfl
           ·
            exact AgainG.nil
          ·
           refine oLkSegG ?_
           refine oSegG rfl ?_
           refine oWant rfl rfl ?_
           (refine oCall rfl (by kernel_rfl) (fun w hS => frame' hS .nil (fun B' hB hR hS' => ref25_Lists hS' (z2.prog e2) _ (prog_K hz2 (hR _ _ (by repeat constructor)) (hR _ _ (by repeat constructor)) (hR _ _ (by repeat constructor)) (hR _ _ (by repeat constructor)) hB e2) hsp 2 B.e)) ?_; rintro ⟨A45, c45, hs45⟩ hl45)
           rw [listF_2]
           refine oAgainG ?_ rfl (fun w0 => ?_)
           ·
            exact AgainG.nil
           ·
            refine oLkSegG ?_
            refine oSegG rfl ?_
            refine oWant rfl rfl ?_
            (refine oCall rfl (by kernel_rfl) (fun w hS => frame' hS .nil (fun B' hB hR hS' => ref10_Same' hS' ((z2.prog e2).fFuns.map (refersF (z2.prog e2))) (z2.prog e2).fFuns.length (by rw [List.length_map]) A43 c43 (grid_C (kd := Kd.int .i64) (W := B.e) (ei := 3) (eo := 42) (W0 := B.e) (n := (z2.prog e2).fFuns.length) (cp := c43) (hs := hs43) (A := A43) (xss := ((z2.prog e2).fFuns.map (refersF (z2.prog e2)))) (hR _ _ (by repeat constructor)) (hR _ _ (by repeat constructor)) (by rw [hl43, List.length_map]) hB) A45 c45 (grid_C (kd := Kd.int .i64) (W := B.e) (ei := 3) (eo := 42) (W0 := B.e) (n := (z2.prog e2).fFuns.length) (cp := c45) (hs := hs45) (A := A45) (xss := ((z2.prog e2).fFuns.map (refersF (z2.prog e2)))) (hR _ _ (by repeat constructor)) (hR _ _ (by repeat constructor)) (by rw [hl45, List.length_map]) hB))) ?_; rintro ⟨⟩ -)
            refine oAgainG ?_ rfl (fun w0 => ?_)
            ·
             exact AgainG.nil
            ·
             refine oPickT rfl rfl ?_
             refine oMove rfl ?_
             refine oWant rfl rfl ?_
             refine oLdA rfl (by repeat constructor) rfl (by repeat constructor) ?_
             refine oWant rfl rfl ?_
             refine oLdA rfl (by repeat constructor) rfl (by repeat constructor) ?_
             refine oLkSegG ?_
             refine oSegG rfl ?_
             refine oWant rfl rfl ?_
             (refine oCall rfl (by kernel_rfl) (fun w hS => frame' hS .nil (fun B' hB hR hS' => prog_Vias hS' (z2.prog e2) _ (prog_K hz2 (hR _ _ (by repeat constructor)) (hR _ _ (by repeat constructor)) (hR _ _ (by repeat constructor)) (hR _ _ (by repeat constructor)) hB e2) hsp B.e)) ?_; rintro ⟨A50, c50, hs50⟩ hl50)
             refine oAgainG ?_ rfl (fun w0 => ?_)
             ·
              refine AgainG.cons rfl rfl rfl rfl (fun w0 => ?_) ?_
              ·
               refine oWant rfl rfl ?_
               refine oLdA rfl (by repeat constructor) rfl (by repeat constructor) ?_
               exact oLkHas rfl
              ·
               exact AgainG.nil
             ·
              refine oLkSegG ?_
              refine oSegG rfl ?_
              refine oWant rfl rfl ?_
              (refine oCall rfl (by kernel_rfl) (fun w hS => frame' hS .nil (fun B' hB hR hS' => ref25_Lists hS' (z2.prog e2) _ (prog_K hz2 (hR _ _ (by repeat constructor)) (hR _ _ (by repeat constructor)) (hR _ _ (by repeat constructor)) (hR _ _ (by repeat constructor)) hB e2) hsp 3 B.e)) ?_; rintro ⟨A52, c52, hs52⟩ hl52)
              rw [listF_3]
              refine oAgainG ?_ rfl (fun w0 => ?_)
              ·
               exact AgainG.nil
              ·
               refine oLkSegG ?_
               refine oSegG rfl ?_
               refine oWant rfl rfl ?_
               (refine oCall rfl (by kernel_rfl) (fun w hS => frame' hS .nil (fun B' hB hR hS' => ref10_Same' hS' ((z2.prog e2).fFuns.map (viasF)) (z2.prog e2).fFuns.length (by rw [List.length_map]) A50 c50 (grid_C (kd := Kd.int .i64) (W := B.e) (ei := 3) (eo := 42) (W0 := B.e) (n := (z2.prog e2).fFuns.length) (cp := c50) (hs := hs50) (A := A50) (xss := ((z2.prog e2).fFuns.map (viasF))) (hR _ _ (by repeat constructor)) (hR _ _ (by repeat constructor)) (by rw [hl50, List.length_map]) hB) A52 c52 (grid_C (kd := Kd.int .i64) (W := B.e) (ei := 3) (eo := 42) (W0 := B.e) (n := (z2.prog e2).fFuns.length) (cp := c52) (hs := hs52) (A := A52) (xss := ((z2.prog e2).fFuns.map (viasF))) (hR _ _ (by repeat constructor)) (hR _ _ (by repeat constructor)) (by rw [hl52, List.length_map]) hB))) ?_; rintro ⟨⟩ -)
               refine oAgainG ?_ rfl (fun w0 => ?_)
               ·
                exact AgainG.nil
               ·
                refine oPickT rfl rfl ?_
                refine oMove rfl ?_
                refine oWant rfl rfl ?_
                refine oLdA rfl (by repeat constructor) rfl (by repeat constructor) ?_
                refine oWant rfl rfl ?_
                refine oLdA rfl (by repeat constructor) rfl (by repeat constructor) ?_
                refine oLkSegG ?_
                refine oSegG rfl ?_
                refine oWant rfl rfl ?_
                (refine oCall rfl (by kernel_rfl) (fun w hS => frame' hS .nil (fun B' hB hR hS' => prog_Datas hS' (z2.prog e2) _ (prog_K hz2 (hR _ _ (by repeat constructor)) (hR _ _ (by repeat constructor)) (hR _ _ (by repeat constructor)) (hR _ _ (by repeat constructor)) hB e2) hsp B.e)) ?_; rintro ⟨A57, c57, hs57⟩ hl57)
                refine oAgainG ?_ rfl (fun w0 => ?_)
                ·
                 refine AgainG.cons rfl rfl rfl rfl (fun w0 => ?_) ?_
                 ·
                  refine oWant rfl rfl ?_
                  refine oLdA rfl (by repeat constructor) rfl (by repeat constructor) ?_
                  exact oLkHas rfl
                 ·
                  exact AgainG.nil
                ·
                 refine oLkSegG ?_
                 refine oSegG rfl ?_
                 refine oWant rfl rfl ?_
                 (refine oCall rfl (by kernel_rfl) (fun w hS => frame' hS .nil (fun B' hB hR hS' => ref25_Lists hS' (z2.prog e2) _ (prog_K hz2 (hR _ _ (by repeat constructor)) (hR _ _ (by repeat constructor)) (hR _ _ (by repeat constructor)) (hR _ _ (by repeat constructor)) hB e2) hsp 4 B.e)) ?_; rintro ⟨A59, c59, hs59⟩ hl59)
                 rw [listF_4]
                 refine oAgainG ?_ rfl (fun w0 => ?_)
                 ·
                  exact AgainG.nil
                 ·
                  refine oLkSegG ?_
                  refine oSegG rfl ?_
                  refine oWant rfl rfl ?_
                  (refine oCall rfl (by kernel_rfl) (fun w hS => frame' hS .nil (fun B' hB hR hS' => ref10_Same' hS' ((z2.prog e2).fFuns.map (datasF (z2.prog e2))) (z2.prog e2).fFuns.length (by rw [List.length_map]) A57 c57 (grid_C (kd := Kd.int .i64) (W := B.e) (ei := 3) (eo := 42) (W0 := B.e) (n := (z2.prog e2).fFuns.length) (cp := c57) (hs := hs57) (A := A57) (xss := ((z2.prog e2).fFuns.map (datasF (z2.prog e2)))) (hR _ _ (by repeat constructor)) (hR _ _ (by repeat constructor)) (by rw [hl57, List.length_map]) hB) A59 c59 (grid_C (kd := Kd.int .i64) (W := B.e) (ei := 3) (eo := 42) (W0 := B.e) (n := (z2.prog e2).fFuns.length) (cp := c59) (hs := hs59) (A := A59) (xss := ((z2.prog e2).fFuns.map (datasF (z2.prog e2)))) (hR _ _ (by repeat constructor)) (hR _ _ (by repeat constructor)) (by rw [hl59, List.length_map]) hB))) ?_; rintro ⟨⟩ -)
                  refine oAgainG ?_ rfl (fun w0 => ?_)
                  ·
                   exact AgainG.nil
                  ·
                   refine oPickT rfl rfl ?_
                   refine oMove rfl ?_
                   refine oLkSegG ?_
                   refine oSegG rfl ?_
                   refine oWant rfl rfl ?_
                   (refine oCall rfl (by kernel_rfl) (fun w hS => frame hS (by repeat' constructor) (fun B' hB hS' => known25 hS')) ?_; rintro ⟨⟩ -)
                   refine oAgainG ?_ rfl (fun w0 => ?_)
                   ·
                    exact AgainG.nil
                   ·
                    refine oPickT rfl rfl ?_
                    refine oTailG ?_
                    refine oAssign rfl ?_
                    refine oNil ?_
                    refine thn_n ?_
                    refine wRet ?_
                    refine fin_r ?_
                    refine ⟨rfl, _, (ResL.cons (ResR.tmp rfl) ResL.nil), ?_⟩
                    exact ⟨(), trivial, rfl, (Leads.has (by repeat' constructor))⟩
end Go.Proofs.YtogaiijhicfoaaaGreatU
