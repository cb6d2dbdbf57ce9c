/-
  Part 1 of the proof of FileTold: contracts of functions, and what follows from them; without conditions.
-/
import Derived.Below
import Derived.WalkKit
import Derived.KernelRfl
import Derived.RangeFuncRecord
import Derived.Laws.AppendOwn
import Derived.Maps.OwnIn
import Derived.Lib.Hide
import Derived.TacticsIn
import Derived.StillTail
import Derived.Calls
import Derived.BigFrameIn
import Derived.LoopNIn
import Derived.RangeFuncCalls
import Derived.IntWalk
import Derived.WideLaws
import Derived.Laws.Strings
import Derived.Laws.Tables
import Derived.Laws.OwnMore
import Derived.Laws.MakeOwn
import Derived.Laws.Cells
import Derived.Laws.Entries
import Derived.Maps.AppendAt
import Derived.DataElems
import Derived.Deep.Slices
import Derived.DataReads
import Derived.RangeFuncBound
import Derived.RangeFuncLeaves
import Derived.Laws.IdiomCopy
import Derived.Shelf.Sort.Plain
import Derived.Shelf.Slices.In.SortNone
import Derived.Shelf.Slices.CompactI
import Derived.OrdersIn
import Derived.OpenShut
import Derived.Laws.RangeAny
import Derived.Laws.IdiomStrings
import Derived.Test.YtpmdhkjbhjgoaaaGreatProg
set_option linter.unusedVariables false
set_option linter.unusedSimpArgs false
set_option linter.defProp false
/-
  The ground of the walks: how data lie (kinds), resources with footprints, and the state of a walk: what it owns, and what lies around it.
-/
namespace Go.Proofs.YtpmdhkjbhjgoaaaGreatK
open Classical Go.RowKit

def Grow (w w':World):Prop:=∀ a v,w.cell? a=some v→w'.cell? a=some v
theorem Grow.refl (w:World):Grow w w:=fun _ _ h=>h
theorem Grow.trans {a b c:World}(h:Grow a b) (k:Grow b c):Grow a c:=fun x v hx=>k x v (h x v hx)

structure Base where
  w:World
  O:Nat→Prop
noncomputable def Base.e (B:Base):World:={ B.w with heap:=B.w.heap.mapIdx fun k o=>if B.O k then .deferred none else o }
structure Base.ok (B:Base) (w:World):Prop where
  os:w.os=B.w.os
  tape:w.tape=B.w.tape
  output:w.output=B.w.output
  size:B.w.heap.size≤w.heap.size
  block:∀ k,k<B.w.heap.size→¬ B.O k→w.heap[k]?=B.w.heap[k]?
def Base.mine (B:Base) (k:Nat):Prop:=B.O k∨B.w.heap.size≤k
def Base.at (w:World):Base:=⟨w,fun _=>False⟩

theorem Base.e_heap (B:Base) (k:Nat):B.e.heap[k]?=if B.O k then B.w.heap[k]?.map fun _=>.deferred none else B.w.heap[k]?:=by
 simp only [Base.e,Array.getElem?_mapIdx]
 split <;> cases B.w.heap[k]? <;> simp_all
theorem Base.grow {B:Base}{w:World}(h:B.ok w):Grow B.e w:=by
 intro a v hv
 unfold World.cell? at hv ⊢
 rw [B.e_heap] at hv
 by_cases ho:B.O a.block
 · rw [if_pos ho] at hv
   cases hb:B.w.heap[a.block]? <;> simp [hb] at hv
 · rw [if_neg ho] at hv
   by_cases hk:a.block<B.w.heap.size
   · rw [h.block _ hk ho];exact hv
   · rw [Array.getElem?_eq_none (by omega)] at hv;cases hv
theorem Base.at_e (w:World):(Base.at w).e=w:=by
 have h:(Base.at w).e.heap=w.heap:=by
  apply Array.ext_getElem?
  intro i
  rw [Base.e_heap,if_neg (show ¬ (Base.at w).O i from fun h=>h)]
  rfl
 show ({ w with heap:=(Base.at w).e.heap } : World)=w
 rw [h]
theorem Base.at_ok (w:World):(Base.at w).ok w:=⟨rfl,rfl,rfl,Nat.le_refl _,fun _ _ _=>rfl⟩
theorem Base.at_below {w w':World}(h:(Base.at w).ok w'):Below w.heap.size w w':=⟨h.os,h.tape,h.output,h.size,fun k hk=>h.block k hk (fun h=>h)⟩

structure Kd (α:Type) where
  sz:Nat
  K:World→α→List Value→Prop
  K_len:∀ {w x cs},K w x cs→cs.length=sz
  K_one:∀ {w x cs},K w x cs→∀ u ∈ cs,u.oneCell'=true
  K_grow:∀ {w w':World}{x cs},Grow w w'→K w x cs→K w' x cs
def Kd.C {α:Type}(d:Kd α) (w:World) (A:Option Addr) (xs:List α):Prop:=
  xs.length≤9223372036854775807∧(0<xs.length→∃ ad,A=some ad∧∀ j x,xs[j]?=some x→∃ c,d.K w x c∧∀ i u,c[i]?=some u→w.cell? (ad.add (j * d.sz+i))=some u)
namespace Kd
variable {α β : Type} {d : Kd α} {w w' : World} {A : Option Addr} {xs : List α}
theorem C_grow (g:Grow w w') (h:d.C w A xs):d.C w' A xs:=⟨h.1,fun hn=>by
 obtain ⟨ad,e,hc⟩:=h.2 hn
 exact ⟨ad,e,fun j x hx=>by
  obtain ⟨c,hK,hcell⟩:=hc j x hx
  exact ⟨c,d.K_grow g hK,fun i u hu=>g _ _ (hcell i u hu)⟩⟩⟩
theorem C_nil (d:Kd α) (w:World) (A:Option Addr):d.C w A []:=⟨by simp,fun h=>by simp at h⟩
def scalar (enc:α→Value) (h1:∀ x,(enc x).oneCell'=true):Kd α where
  sz:=1
  K:=fun _ x cs=>cs=[enc x]
  K_len:=fun h=>by rw [h];rfl
  K_one:=fun h u hu=>by
    rw [h] at hu
    rw [List.mem_singleton.1 hu]
    exact h1 _
  K_grow:=fun _ h=>h
def int (k:IntKind):Kd Int:=scalar (Value.int k) (fun _=>rfl)
def bool:Kd Bool:=scalar Value.bool (fun _=>rfl)
def string:Kd ByteArray:=scalar Value.string (fun _=>rfl)
def slice (d:Kd α):Kd (List α) where
  sz:=1
  K:=fun w xs cs=>∃ A c,cs=[.slice A xs.length c]∧xs.length≤c∧d.C w A xs
  K_len:=by
    rintro w x cs ⟨A,c,rfl,_⟩
    rfl
  K_one:=by
    rintro w x cs ⟨A,c,rfl,_⟩ u hu
    rw [List.mem_singleton.1 hu]
    rfl
  K_grow:=by
    rintro w w' x cs g ⟨A,c,rfl,hl,hC⟩
    exact ⟨A,c,rfl,hl,C_grow g hC⟩
def pair (a:Kd α) (b:Kd β):Kd (α×β) where
  sz:=a.sz+b.sz
  K:=fun w x cs=>∃ c1 c2,cs=c1++c2∧a.K w x.1 c1∧b.K w x.2 c2
  K_len:=by
    rintro w x cs ⟨c1,c2,rfl,h1,h2⟩
    rw [List.length_append,a.K_len h1,b.K_len h2]
  K_one:=by
    rintro w x cs ⟨c1,c2,rfl,h1,h2⟩ u hu
    rcases List.mem_append.1 hu with h | h
    · exact a.K_one h1 u h
    · exact b.K_one h2 u h
  K_grow:=by
    rintro w w' x cs g ⟨c1,c2,rfl,h1,h2⟩
    exact ⟨c1,c2,rfl,a.K_grow g h1,b.K_grow g h2⟩
def iso (d:Kd α) (f:β→α):Kd β where
  sz:=d.sz
  K:=fun w x cs=>d.K w (f x) cs
  K_len:=fun h=>d.K_len h
  K_one:=fun h=>d.K_one h
  K_grow:=fun g h=>d.K_grow g h
end Kd

structure Chg (w w':World) (S:Nat→Prop):Prop where
  os:w'.os=w.os
  tape:w'.tape=w.tape
  output:w'.output=w.output
  size:w.heap.size≤w'.heap.size
  block:∀ k,k<w.heap.size→¬ S k→w'.heap[k]?=w.heap[k]?
theorem Chg.refl (w:World) (S:Nat→Prop):Chg w w S:=⟨rfl,rfl,rfl,Nat.le_refl _,fun _ _ _=>rfl⟩
theorem Chg.trans {a b c:World}{S:Nat→Prop}(h:Chg a b S) (k:Chg b c S):Chg a c S:=
 ⟨k.os.trans h.os,k.tape.trans h.tape,k.output.trans h.output,Nat.le_trans h.size k.size,fun i hi hn=>(k.block i (Nat.lt_of_lt_of_le hi h.size) hn).trans (h.block i hi hn)⟩
theorem Chg.of_grown {w w':World}{row:Option Nat}(h:w.grownBy w' row):Chg w w' (fun k=>some k=row):=⟨h.os,h.tape,h.output,h.size,h.block⟩
theorem Chg.mono {w w':World}{S S':Nat→Prop}(h:Chg w w' S) (hs:∀ k,S k→S' k):Chg w w' S':=⟨h.os,h.tape,h.output,h.size,fun k hk hn=>h.block k hk (fun h'=>hn (hs k h'))⟩
theorem Chg.alloc (w:World) (o:Obj) (S:Nat→Prop):Chg w (w.alloc o) S:=⟨rfl,rfl,rfl,by simp,fun k hk _=>Below.heap_alloc _ _ _ hk⟩
theorem Chg.setCell (w:World) (a:Addr) (v:Value):Chg w (w.setCell a v) (fun k=>k=a.block):=⟨rfl,rfl,rfl,by simp [World.setCell],fun k _ hn=>Below.heap_setCell _ _ _ _ hn⟩
theorem Chg.putObj (w:World) (b:Nat) (o:Obj):Chg w (w.putObj b o) (fun k=>k=b):=⟨rfl,rfl,rfl,by simp,fun k _ hn=>World.putObj_heap_other hn⟩
theorem Chg.drew (w:World) (S:Nat→Prop):Chg w w.drew S:=⟨rfl,rfl,rfl,Nat.le_refl _,fun _ _ _=>rfl⟩

structure Res where
  fp:Nat→Prop
  q:World→Prop
  inb:∀ w,q w→∀ k,fp k→k<w.heap.size
  st:∀ w w',q w→(∀ k,fp k→w'.heap[k]?=w.heap[k]?)→q w'

def Sep (M:Nat→Prop) (w:World):List Res→Prop
  | []=>True
  | r :: Φ=>r.q w∧(∀ k,r.fp k→M k)∧(∀ s ∈ Φ,∀ k,r.fp k→¬ s.fp k)∧Sep M w Φ

structure St (B:Base) (Φ:List Res) (w:World):Prop where
  ok:B.ok w
  sep:Sep B.mine w Φ

inductive Upd:List Res→Res→Res→List Res→Prop
  | here {r r':Res}{Φ:List Res} : Upd (r :: Φ) r r' (r' :: Φ)
  | there {x r r':Res}{Φ Φ':List Res}(h:Upd Φ r r' Φ'):Upd (x :: Φ) r r' (x :: Φ')
inductive Pick:List Res→Res→List Res→Prop
  | here {r:Res}{Φ:List Res} : Pick (r :: Φ) r Φ
  | there {x r:Res}{Φ Φ':List Res}(h:Pick Φ r Φ'):Pick (x :: Φ) r (x :: Φ')
inductive Split:List Res→List Res→List Res→Prop
  | nil {Φ:List Res} : Split Φ [] Φ
  | cons {r:Res}{Ψ Φ Φ' Φ'':List Res}(h:Pick Φ r Φ') (k:Split Φ' Ψ Φ''):Split Φ (r :: Ψ) Φ''

inductive Has:List Res→List Res→Prop
  | nil {Φ:List Res} : Has Φ []
  | cons {r:Res}{Ψ Φ Φ':List Res}(h:Pick Φ r Φ') (k:Has Φ' Ψ):Has Φ (r :: Ψ)
theorem Has.split {Φ Ψ:List Res}(h:Has Φ Ψ):∃ Φ',Split Φ Ψ Φ':=by
 induction h with
 | nil=>exact ⟨_,.nil⟩
 | cons h _ ih=>obtain ⟨Φ',h'⟩:=ih;exact ⟨Φ',.cons h h'⟩

theorem Upd.mem {Φ Φ':List Res}{r r':Res}(h:Upd Φ r r' Φ'):r ∈ Φ:=by
 induction h with
 | here=>exact List.mem_cons_self
 | there _ ih=>exact List.mem_cons_of_mem _ ih
theorem Upd.from_ {Φ Φ':List Res}{r r':Res}(h:Upd Φ r r' Φ'):∀ s ∈ Φ',s=r'∨s ∈ Φ:=by
 induction h with
 | here=>exact fun s hs=>(List.mem_cons.1 hs).imp id (List.mem_cons_of_mem _)
 | there _ ih=>exact fun s hs=>(List.mem_cons.1 hs).elim (fun h=>.inr (h ▸ List.mem_cons_self)) (fun h=>(ih s h).imp id (List.mem_cons_of_mem _))
theorem Pick.mem {Φ Φ':List Res}{r:Res}(h:Pick Φ r Φ'):r ∈ Φ:=by
 induction h with
 | here=>exact List.mem_cons_self
 | there _ ih=>exact List.mem_cons_of_mem _ ih
theorem Pick.perm {Φ Φ':List Res}{r:Res}(hp:Pick Φ r Φ'):Φ.Perm (r :: Φ'):=by
 induction hp with
 | here=>exact .refl _
 | there _ ih=>exact (ih.cons _).trans (.swap _ _ _)
theorem Split.perm {Φ Ψ Φ':List Res}(h:Split Φ Ψ Φ'):Φ.Perm (Ψ++Φ'):=by
 induction h with
 | nil=>exact .refl _
 | cons hp _ ih=>exact hp.perm.trans (ih.cons _)

variable {M : Nat → Prop} {B : Base} {w w' : World} {Φ Φ' Ψ : List Res} {r r' : Res}

theorem Sep.get (h:Sep M w Φ) (hm:r ∈ Φ):r.q w∧∀ k,r.fp k→M k:=by
 induction Φ with
 | nil=>cases hm
 | cons x Φ ih=>
  obtain ⟨h1,h2,_,h4⟩:=h
  rcases List.mem_cons.1 hm with rfl | hm
  · exact ⟨h1,h2⟩
  · exact ih h4 hm
theorem Sep.keep (h:Sep M w Φ) {S:Nat→Prop}(hc:Chg w w' S) (hd:∀ s ∈ Φ,∀ k,S k→¬ s.fp k):Sep M w' Φ:=by
 induction Φ with
 | nil=>trivial
 | cons x Φ ih=>
  obtain ⟨h1,h2,h3,h4⟩:=h
  exact ⟨x.st w w' h1 (fun k hk=>hc.block k (x.inb w h1 k hk) (fun hs=>hd x List.mem_cons_self k hs hk)),h2,h3,ih h4 (fun s hs=>hd s (List.mem_cons_of_mem _ hs))⟩
theorem Sep.upd (h:Sep M w Φ) (hu:Upd Φ r r' Φ') (hn:∀ k,w.heap.size≤k→M k) (hc:Chg w w' r.fp) (hq:r'.q w') (hf:∀ k,r'.fp k→r.fp k∨w.heap.size≤k):Sep M w' Φ':=by
 induction hu with
 | @here r r' Φ=>
  obtain ⟨h1,h2,h3,h4⟩:=h
  refine ⟨hq,fun k hk=>?_,fun s hs k hk hsk=>?_,h4.keep hc h3⟩
  · rcases hf k hk with h | h
    · exact h2 k h
    · exact hn k h
  · rcases hf k hk with h | h
    · exact h3 s hs k h hsk
    · have:=s.inb w (h4.get hs).1 k hsk;omega
 | @there x r r' Φ Φ' hu ih=>
  obtain ⟨h1,h2,h3,h4⟩:=h
  refine ⟨x.st w w' h1 (fun k hk=>hc.block k (x.inb w h1 k hk) (h3 r hu.mem k hk)),h2,fun s hs k hk hsk=>?_,ih h4 hc hq hf⟩
  rcases hu.from_ s hs with rfl | hs'
  · rcases hf k hsk with h | h
    · exact h3 r hu.mem k hk h
    · have:=x.inb w h1 k hk;omega
  · exact h3 s hs' k hk hsk
theorem Sep.all (M:Nat→Prop) (w:World) (Φ:List Res):Sep M w Φ↔(∀ r ∈ Φ,r.q w∧∀ k,r.fp k→M k)∧Φ.Pairwise (fun r s=>∀ k,r.fp k→¬ s.fp k):=by
 induction Φ with
 | nil=>simp [Sep]
 | cons r Φ ih=>
  simp only [Sep,ih,List.mem_cons,List.pairwise_cons,forall_eq_or_imp]
  constructor
  · rintro ⟨a,b,c,d,e⟩;exact ⟨⟨⟨a,b⟩,d⟩,c,e⟩
  · rintro ⟨⟨⟨a,b⟩,d⟩,c,e⟩;exact ⟨a,b,c,d,e⟩
theorem St.perm (h:St B Φ w) (hp:Φ.Perm Φ'):St B Φ' w:=by
 refine ⟨h.ok,(Sep.all _ _ _).2 ?_⟩
 obtain ⟨h1,h2⟩:=(Sep.all _ _ _).1 h.sep
 exact ⟨fun r hr=>h1 r (hp.mem_iff.2 hr),(hp.pairwise_iff (fun {a b} hab k hb ha=>hab k ha hb)).1 h2⟩
theorem St.swap (h:St B (Φ++Ψ) w):St B (Ψ++Φ) w:=h.perm List.perm_append_comm
theorem St.tail (h:St B (Φ++Ψ) w):St B Ψ w:=by
 obtain ⟨h1,h2⟩:=(Sep.all _ _ _).1 h.sep
 exact ⟨h.ok,(Sep.all _ _ _).2 ⟨fun r hr=>h1 r (List.mem_append_right _ hr),(List.pairwise_append.1 h2).2.1⟩⟩
theorem St.head (h:St B (Φ++Ψ) w):St B Φ w:=h.swap.tail
theorem St.drop (h:St B (r :: Φ) w):St B Φ w:=⟨h.ok,h.sep.2.2.2⟩
theorem St.sub (h:St B Φ w) (hs:Split Φ Ψ Φ'):St B Ψ w:=(h.perm hs.perm).head
theorem St.has (h:St B Φ w) (hs:Has Φ Ψ):St B Ψ w:=by obtain ⟨_,hs⟩:=hs.split;exact h.sub hs
def Leads (B:Base) (Φ Ψ:List Res):Prop:=∀ w,St B Φ w→St B Ψ w
theorem Leads.has (h:Has Φ Ψ):Leads B Φ Ψ:=fun _ hS=>hS.has h
theorem Leads.trans {Ψ':List Res}(h:Leads B Φ Ψ) (k:Leads B Ψ Ψ'):Leads B Φ Ψ':=fun w hS=>k w (h w hS)
theorem St.get (h:St B Φ w) (hm:Pick Φ r Φ'):r.q w:=(h.sep.get hm.mem).1
theorem St.new (h:St B Φ w):∀ k,w.heap.size≤k→B.mine k:=fun k hk=>.inr (Nat.le_trans h.ok.size hk)
theorem Base.ok.chg {S:Nat→Prop}(h:B.ok w) (hc:Chg w w' S) (hS:∀ k,S k→B.mine k):B.ok w':=
 ⟨hc.os.trans h.os,hc.tape.trans h.tape,hc.output.trans h.output,Nat.le_trans h.size hc.size,fun k hk hn=>(hc.block k (Nat.lt_of_lt_of_le hk h.size) (fun hs=>by
  rcases hS k hs with h1 | h1
  · exact hn h1
  · omega)).trans (h.block k hk hn)⟩
theorem St.upd (h:St B Φ w) (hu:Upd Φ r r' Φ') (hc:Chg w w' r.fp) (hq:r'.q w') (hf:∀ k,r'.fp k→r.fp k∨w.heap.size≤k):St B Φ' w':=
 ⟨h.ok.chg hc (fun k hk=>(h.sep.get hu.mem).2 k hk),h.sep.upd hu h.new hc hq hf⟩
theorem St.keep (h:St B Φ w) (hc:Chg w w' (fun _=>False)):St B Φ w':=
 ⟨h.ok.chg hc (fun k hk=>hk.elim),h.sep.keep hc (fun _ _ _ hk=>hk.elim)⟩
theorem St.drew (h:St B Φ w):St B Φ w.drew:=h.keep (Chg.drew _ _)
theorem St.add (h:St B Φ w) (hc:Chg w w' (fun _=>False)) (hq:r.q w') (hf:∀ k,r.fp k→w.heap.size≤k):St B (r :: Φ) w':=by
 have hk:=h.keep hc
 refine ⟨hk.ok,hq,fun k hk'=>h.new k (hf k hk'),fun s hs k hrk hsk=>?_,hk.sep⟩
 have:=s.inb w (h.sep.get hs).1 k hsk
 have:=hf k hrk
 omega
theorem St.start (w:World):St (Base.at w) [] w:=⟨Base.at_ok w,trivial⟩
theorem St.conv (h:St B Φ w) (hu:Upd Φ r r' Φ') (hq:r.q w→r'.q w) (hf:∀ k,r'.fp k→r.fp k):St B Φ' w:=
  h.upd hu (Chg.refl _ _) (hq (h.sep.get hu.mem).1) (fun k hk=>.inl (hf k hk))

def Base.call (B:Base) (w:World) (Ψ:List Res):Base:=⟨w,fun k=>∃ r ∈ Ψ,r.fp k⟩
theorem St.lend (h:St B (Ψ++Φ) w):St (B.call w Ψ) Ψ w:=by
 refine ⟨⟨rfl,rfl,rfl,Nat.le_refl _,fun _ _ _=>rfl⟩,(Sep.all _ _ _).2 ?_⟩
 obtain ⟨h1,h2⟩:=(Sep.all _ _ _).1 h.head.sep
 exact ⟨fun r hr=>⟨(h1 r hr).1,fun k hk=>.inl ⟨r,hr,hk⟩⟩,h2⟩
theorem St.give {Ψ':List Res}(h:St B (Ψ++Φ) w) (h':St (B.call w Ψ) Ψ' w'):St B (Ψ'++Φ) w':=by
 have hs:=h.sep
 obtain ⟨h1,h2⟩:=(Sep.all _ _ _).1 hs
 have hpre:∀ k,(∃ r ∈ Ψ,r.fp k)→B.mine k∧k<w.heap.size:=by
  rintro k ⟨r,hr,hk⟩
  exact ⟨(h1 r (List.mem_append_left _ hr)).2 k hk,r.inb w (h1 r (List.mem_append_left _ hr)).1 k hk⟩
 have hc:Chg w w' (fun k=>∃ r ∈ Ψ,r.fp k):=⟨h'.ok.os,h'.ok.tape,h'.ok.output,h'.ok.size,h'.ok.block⟩
 have hok:B.ok w':=h.ok.chg hc (fun k hk=>(hpre k hk).1)
 have hdis:∀ s ∈ Φ,∀ k,(∃ r ∈ Ψ,r.fp k)→¬ s.fp k:=by
  rintro s hs' k ⟨r,hr,hk⟩ hsk
  exact (List.pairwise_append.1 h2).2.2 r hr s hs' k hk hsk
 have hΦ:Sep B.mine w' Φ:=(h.tail.sep).keep hc hdis
 obtain ⟨k1,k2⟩:=(Sep.all _ _ _).1 hΦ
 obtain ⟨g1,g2⟩:=(Sep.all _ _ _).1 h'.sep
 refine ⟨hok,(Sep.all _ _ _).2 ⟨fun r hr=>?_,List.pairwise_append.2 ⟨g2,k2,fun r hr s hs' k hk hsk=>?_⟩⟩⟩
 · rcases List.mem_append.1 hr with hr | hr
   · refine ⟨(g1 r hr).1,fun k hk=>?_⟩
     rcases (g1 r hr).2 k hk with h3 | h3
     · exact (hpre k h3).1
     · exact h.new k h3
   · exact k1 r hr
 · rcases (g1 r hr).2 k hk with h3 | h3
   · exact hdis s hs' k h3 hsk
   · have h4:=(h1 s (List.mem_append_right _ hs')).1
     have:=s.inb w h4 k hsk
     have h5:w.heap.size≤k:=h3
     omega
theorem St.egrow (h:St B (Ψ++Φ) w):Grow B.e (B.call w Ψ).e:=by
 intro a v hv
 obtain ⟨h1,_⟩:=(Sep.all _ _ _).1 h.head.sep
 have h0:B.e.heap[a.block]?=B.w.heap[a.block]?∧¬ B.O a.block∧a.block<B.w.heap.size:=by
  unfold World.cell? at hv
  rw [B.e_heap] at hv ⊢
  by_cases ho:B.O a.block
  · rw [if_pos ho] at hv
    cases hb:B.w.heap[a.block]? <;> simp [hb] at hv
  · rw [if_neg ho] at hv
    refine ⟨by rw [if_neg ho],ho,?_⟩
    by_cases hk:a.block<B.w.heap.size
    · exact hk
    · rw [Array.getElem?_eq_none (by omega)] at hv;cases hv
 obtain ⟨h0,ho,hk⟩:=h0
 have hno:¬ ∃ r ∈ Ψ,r.fp a.block:=by
  rintro ⟨r,hr,hf⟩
  rcases (h1 r hr).2 _ hf with h3 | h3
  · exact ho h3
  · omega
 have h3:(B.call w Ψ).e.heap[a.block]?=B.e.heap[a.block]?:=by
  rw [Base.e_heap,h0,if_neg (show ¬ (B.call w Ψ).O a.block from hno)]
  exact h.ok.block _ hk ho
 unfold World.cell? at hv ⊢
 rw [h3];exact hv

def ob (b:Nat) (o:Obj):Res where
  fp k:=k=b
  q w:=w.heap[b]?=some o
  inb w h k hk:=by subst hk;exact (Array.getElem?_eq_some_iff.1 h).1
  st w w' h hk:=(hk b rfl).trans h
abbrev blk (b:Nat) (t:TypeId) (cs:List Value):Res:=ob b (.cells cs.toArray t (0,0))
theorem St.alloc (h:St B Φ w) (o:Obj):St B (ob w.heap.size o :: Φ) (w.alloc o):=
 h.add (Chg.alloc w o _) (World.alloc_heap_new w o) (fun k hk=>by have:k=w.heap.size:=hk;omega)
theorem St.put (h:St B Φ w) {b:Nat}{o o':Obj}(hu:Upd Φ (ob b o) (ob b o') Φ'):St B Φ' (w.putObj b o'):=
 h.upd hu (Chg.putObj w b o') (World.putObj_heap_same (Array.getElem?_eq_some_iff.1 ((h.sep.get hu.mem).1:w.heap[b]?=some o)).1) (fun k hk=>.inl hk)
theorem cell_of {b i:Nat}{t:TypeId}{cs:List Value}{fz:Nat×Nat}(h:w.heap[b]?=some (.cells cs.toArray t fz)):w.cell? ⟨b,i,none⟩=cs[i]?:=by
 unfold World.cell?;simp [h]
theorem frozen_of {b i:Nat}{t:TypeId}{cs:Array Value}(h:w.heap[b]?=some (.cells cs t (0,0))):w.frozen? ⟨b,i,none⟩=false:=by
 unfold World.frozen?;simp [h]
theorem St.cell {b:Nat}{t:TypeId}{cs:List Value}(h:St B Φ w) (hm:Pick Φ (blk b t cs) Φ') (i:Nat) {v:Value}(hv:cs[i]?=some v):w.cell? ⟨b,i,none⟩=some v:=by
 rw [cell_of (h.get hm)];exact hv
theorem St.ext (h:St B Φ w) {a:Addr}{v:Value}(hc:B.e.cell? a=some v):w.cell? a=some v:=Base.grow h.ok a v hc
theorem set_heap {b i:Nat}{t:TypeId}{cs:List Value}{v:Value}(h:w.heap[b]?=some (.cells cs.toArray t (0,0))):(w.setCell ⟨b,i,none⟩ v).heap[b]?=some (.cells (cs.set i v).toArray t (0,0)):=by
 simp [World.setCell,Array.getElem?_modify,h]
theorem St.set {b:Nat}{t:TypeId}{cs:List Value}(h:St B Φ w) (i:Nat) (v:Value) (hu:Upd Φ (blk b t cs) (blk b t (cs.set i v)) Φ'):St B Φ' (w.setCell ⟨b,i,none⟩ v):=
 h.upd hu (Chg.setCell w ⟨b,i,none⟩ v) (set_heap (h.sep.get hu.mem).1) (fun k hk=>.inl hk)
end Go.Proofs.YtpmdhkjbhjgoaaaGreatK


/-
  The walk over named slots: a state is a list of slots with values, the deferred calls, the resources; one rule for each form of code, and for each operation that leaves the world alone.
-/
namespace Go.Proofs.YtpmdhkjbhjgoaaaGreatK
open Go.RowKit

abbrev Env:=List (Nat×Value)
def Env.find:Env→Nat→Option Value
  | [],_=>none
  | (k,v) :: E,t=>bif Nat.beq k t then some v else Env.find E t
def Env.op (E:Env):Operand→Option Value
  | .tmp t=>E.find t
  | .const v=>some v
  | .global g=>some (.pointer (some ⟨g,0,none⟩))
  | .func f=>some (.func (.func f) #[] #[])
def Env.ops (E:Env):List Operand→Option (List Value)
  | []=>some []
  | x :: xs=>match E.op x with
    | none=>none
    | some v=>match Env.ops E xs with
      | none=>none
      | some vs=>some (v :: vs)
def Fits (E:Env) (a:Act):Prop:=∀ t v,E.find t=some v→a.tmps.getD t undef=v
structure Ok (N:Nat) (E:Env) (D:List Deferred) (a:Act):Prop where
  size:a.tmps.size=N
  fit:Fits E a
  dfr:a.defers=D
theorem Fits.op {E:Env}{a:Act}(h:Fits E a) {x:Operand}{v:Value}(hx:E.op x=some v):a.eval x=v:=by
 cases x with
 | tmp t=>exact h t v hx
 | const u=>exact Option.some.inj hx
 | global g=>exact Option.some.inj hx
 | func f=>exact Option.some.inj hx
theorem Fits.ops {E:Env}{a:Act}(h:Fits E a):∀ {xs:List Operand}{vs:List Value},E.ops xs=some vs→xs.map a.eval=vs
 | [],vs,hx=>by simp only [Env.ops,Option.some.injEq] at hx;subst hx;rfl
 | x :: xs,vs,hx=>by
  simp only [Env.ops] at hx
  split at hx
  · cases hx
  · rename_i v hv
    split at hx
    · cases hx
    · rename_i us hus
      injection hx with hx
      subst hx
      simp [h.op hv,Fits.ops h hus]
theorem Env.find_cons (k t:Nat) (v:Value) (E:Env):Env.find ((k,v) :: E) t=if k=t then some v else E.find t:=by
 show (bif Nat.beq k t then some v else Env.find E t)=_
 by_cases h:k=t
 · subst h;simp
 · have:Nat.beq k t=false:=by cases hb:Nat.beq k t <;> simp_all [Nat.beq_eq]
   rw [this,if_neg h];rfl
theorem Ok.put {N:Nat}{E:Env}{D:List Deferred}{a:Act}(h:Ok N E D a) {d:Nat}{v:Value}(hd:Nat.blt d N=true):Ok N ((d,v) :: E) D (a.put (some d) v):=by
  have hd' : d < a.tmps.size := by have := h.size; have : d < N := by simpa [Nat.blt_eq] using hd
                                   omega
  refine ⟨by simpa [Act.put] using h.size,fun t u hu=>?_,h.dfr⟩
  rw [Env.find_cons] at hu
  simp only [Act.put,Array.getD_eq_getD_getElem?,Array.getElem?_setIfInBounds]
  split at hu
  · rename_i e;subst e;injection hu with hu;subst hu;simp [hd']
  · rename_i hne
    rw [if_neg hne]
    have:=h.fit t u hu
    rwa [Array.getD_eq_getD_getElem?] at this
theorem Ok.put_none {N:Nat}{E:Env}{D:List Deferred}{a:Act}(h:Ok N E D a) {v:Value} : Ok N E D (a.put none v):=h
def Cov (E:Env):Env→Prop
  | []=>True
  | (t,v) :: E'=>E.find t=some v∧Cov E E'
theorem Cov.find {E:Env} : ∀ {E':Env}{t:Nat}{v:Value},Cov E E'→E'.find t=some v→E.find t=some v
 | (k,u) :: E',t,v,h,hf=>by
  rw [Env.find_cons] at hf
  split at hf
  · rename_i e;subst e;injection hf with hf;subst hf;exact h.1
  · exact Cov.find h.2 hf
theorem Ok.cov {N:Nat}{E E':Env}{D:List Deferred}{a:Act}(h:Ok N E D a) (hc:Cov E E'):Ok N E' D a:=⟨h.size,fun t v hv=>h.fit t v (hc.find hv),h.dfr⟩
theorem Ok.enter (N:Nat) (args:List Value) (h:args.length≤N):Ok N ((args.zipIdx).map fun p=>(p.2,p.1)) [] { tmps:=args.toArray++Array.replicate (N-args.toArray.size) undef,defers:=[] }:=by
 refine ⟨by simp;omega,?_,rfl⟩
 have key:∀ (l:List Value) (k t:Nat) (v:Value),Env.find ((l.zipIdx k).map fun p=>(p.2,p.1)) t=some v→k≤t∧l[t-k]?=some v:=by
  intro l
  induction l with
  | nil=>intro k t v h;cases h
  | cons x l ih=>
   intro k t v h
   rw [List.zipIdx_cons,List.map_cons,Env.find_cons] at h
   split at h
   · rename_i e;subst e;injection h with h;subst h;simp
   · obtain ⟨h1,h2⟩:=ih _ _ _ h
     refine ⟨by omega,?_⟩
     have:t-k=(t-(k+1))+1:=by omega
     rw [this,List.getElem?_cons_succ];exact h2
 intro t v hv
 obtain ⟨_,h2⟩:=key args 0 t v hv
 have ht:t<args.length:=(List.getElem?_eq_some_iff.1 h2).1
 simp only [Array.getD_eq_getD_getElem?]
 rw [Array.getElem?_append_left (by simpa using ht)]
 simp at h2
 simp [h2]

structure Cx where
  P:Program
  F:Fence
  N:Nat
  B:Base
  fn:∀ f,F.fn f
  dp:F.depth.isSome=false
  call:∀ {g:FuncId}{args:Array Value}{w:World}{R:Ending→World→Prop},CallsIn Fence.wide 0 P g args w R→CallsIn F 0 P g args w R
abbrev Post:=Exit→Env→List Deferred→List Res→Prop
def okE:Exit→Prop
  | .panic _=>False
  | _=>True
def lift (c:Cx) (Q:Post):Exit→Act→World→Prop:=fun e a w=>∃ E D H,Ok c.N E D a∧St c.B H w∧Q e E D H∧okE e
def W (c:Cx) (x:Code) (Q:Post) (E:Env) (D:List Deferred) (H:List Res):Prop:=∀ a w,Ok c.N E D a→St c.B H w→x.wpIn c.F 0 c.P (lift c Q) a w
@[reducible] def thn (K:Env→List Deferred→List Res→Prop) (Q:Post):Post
  | .normal,E,D,H=>K E D H
  | e,E,D,H=>Q e E D H
@[reducible] def inBlk (id:Nat) (Q:Post):Post
  | .exit i,E,D,H=>bif Nat.beq i id then Q .normal E D H else Q (.exit i) E D H
  | e,E,D,H=>Q e E D H
theorem lift_mono {c:Cx}{Q Q':Post}(h:∀ e E D H,Q e E D H→Q' e E D H):∀ e a w,lift c Q e a w→lift c Q' e a w:=fun _ _ _ ⟨E,D,H,h1,h2,h3,h4⟩=>⟨E,D,H,h1,h2,h _ _ _ _ h3,h4⟩
section
variable {c : Cx} {Q Q' : Post} {E E' : Env} {D : List Deferred} {H H' : List Res} {x y : Code}
theorem wSeq (h:W c x (thn (W c y Q) Q) E D H):W c (x.seq y) Q E D H:=fun a w ha hw=>wpIn_seq (wpIn_mono (h a w ha hw) (by
 rintro e a w ⟨E,D,H,h1,h2,h3⟩
 cases e with
 | normal=>exact h3.1 a w h1 h2
 | _=>exact ⟨E,D,H,h1,h2,h3⟩))
theorem wSkip (h:Q .normal E D H):W c .skip Q E D H:=fun a w ha hw=>wpIn_skip ⟨E,D,H,ha,hw,h,trivial⟩
theorem wRet (h:Q .ret E D H):W c .ret Q E D H:=fun a w ha hw=>wpIn_ret ⟨E,D,H,ha,hw,h,trivial⟩
theorem wExit {id:Nat}(h:Q (.exit id) E D H):W c (.exit id) Q E D H:=fun a w ha hw=>wpIn_exit ⟨E,D,H,ha,hw,h,trivial⟩
theorem wCondT {o:Operand}(hc:E.op o=some (.bool true)) (h:W c x Q E D H):W c (.cond o x y) Q E D H:=fun a w ha hw=>wpIn_cond_true (ha.fit.op hc) (h a w ha hw)
theorem wCondF {o:Operand}(hc:E.op o=some (.bool false)) (h:W c y Q E D H):W c (.cond o x y) Q E D H:=fun a w ha hw=>wpIn_cond_false (ha.fit.op hc) (h a w ha hw)
theorem wCond {o:Operand}{p:Prop} [Decidable p] (hc:E.op o=some (.bool (decide p))) (h1:p→W c x Q E D H) (h0:¬ p→W c y Q E D H):W c (.cond o x y) Q E D H:=by
 intro a w ha hw
 by_cases hp:p
 · exact wpIn_cond_true (by rw [ha.fit.op hc];simp [hp]) (h1 hp a w ha hw)
 · exact wpIn_cond_false (by rw [ha.fit.op hc];simp [hp]) (h0 hp a w ha hw)
theorem wCondB {o:Operand}{p:Bool}(hc:E.op o=some (.bool p)) (h1:p=true→W c x Q E D H) (h0:p=false→W c y Q E D H):W c (.cond o x y) Q E D H:=by
 intro a w ha hw
 cases p
 · exact wpIn_cond_false (ha.fit.op hc) (h0 rfl a w ha hw)
 · exact wpIn_cond_true (ha.fit.op hc) (h1 rfl a w ha hw)
theorem wBlock {id:Nat}(h:W c x (inBlk id Q) E D H):W c (.block id x) Q E D H:=fun a w ha hw=>wpIn_block (wpIn_mono (h a w ha hw) (by
 rintro e a w ⟨E,D,H,h1,h2,h3⟩
 cases e with
 | exit i=>
  simp only [Exit.inBlock]
  by_cases hi:i=id
  · rw [if_pos hi]
    have:Nat.beq i id=true:=by simpa [Nat.beq_eq] using hi
    simp only [inBlk,this,cond_true] at h3
    exact ⟨E,D,H,h1,h2,h3.1,trivial⟩
  · rw [if_neg hi]
    have:Nat.beq i id=false:=by cases hb:Nat.beq i id <;> simp_all [Nat.beq_eq]
    simp only [inBlk,this,cond_false] at h3
    exact ⟨E,D,H,h1,h2,h3⟩
 | _=>exact ⟨E,D,H,h1,h2,h3⟩))
theorem wLoop {ι:Type}(Ei:ι→Env) (Hi:ι→List Res) (inv:ι→Prop) (μ:ι→Nat) (i0:ι) (h0:inv i0) (hE:Cov E (Ei i0)) (hH:Leads c.B H (Hi i0))
 (round:∀ i,inv i→W c x (thn (fun E' D' H'=>D'=D∧∃ i',inv i'∧μ i'<μ i∧Cov E' (Ei i')∧Leads c.B H' (Hi i')) Q) (Ei i) D (Hi i)):W c (.loop x) Q E D H:=by
 have key:∀ m i a w,μ i<m→inv i→Ok c.N (Ei i) D a→St c.B (Hi i) w→Code.roundsIn c.F 0 c.P x (lift c Q) m a w:=by
  intro m
  induction m with
  | zero=>intro i a w h;omega
  | succ m ih=>
   intro i a w hm hi ha hw
   rw [roundsIn_succ]
   refine wpIn_mono (round i hi a w ha hw) ?_
   rintro e a' w' ⟨E',D',H',h1,h2,h3⟩
   cases e with
   | normal=>
    obtain ⟨⟨rfl,i',hi',hlt,hcov,hsp⟩,_⟩:=h3
    exact ih i' a' w' (by omega) hi' (h1.cov hcov) (hsp _ h2)
   | _=>exact ⟨E',D',H',h1,h2,h3⟩
 intro a w ha hw
 exact wpIn_loop_rounds (μ i0+1) (key _ i0 a w (Nat.lt_succ_self _) h0 (ha.cov hE) (hH _ hw))
end

def plain:Op→Bool
  | .defer _=>false
  | _=>true
theorem semAt_plain' (F:Fence) (ρ:Operand→Value) (o:Oper) (h:plain o.op=true):o.semAt F.round ρ=execOp ρ o:=
 Oper.semAt_plain F ρ o (fun c hc=>by rw [hc] at h;simp [plain] at h)
structure Md (c:Cx) where
  X:List Oper→Act→World→Prop
  ops:Array Oper
  calm:∀ o rest a w v,Region.wanted o (yielded ops a.tmps)=true→plain o.op=true→(execOp a.eval o).run c.P w=.ok (.value v) w→X rest (a.put o.dst v) w→X (o :: rest) a w
  skip:∀ o rest a w,Region.wanted o (yielded ops a.tmps)=false→X rest (a.put o.dst undef) w→X (o :: rest) a w
  want:∀ (dst:Option Tmp) (op:Op) (ty:TypeId) (pos:String) (af:Array Edge) (g:Nat×Bool) rest (a:Act) w,Region.wanted ⟨dst,op,ty,pos,af,some g⟩ (yielded ops a.tmps)=true→X (⟨dst,op,ty,pos,af,none⟩ :: rest) a w→X (⟨dst,op,ty,pos,af,some g⟩ :: rest) a w
def O {c:Cx}(M:Md c) (l:List Oper) (E:Env) (D:List Deferred) (H:List Res):Prop:=∀ a w,Ok c.N E D a→St c.B H w→M.X l a w
def Md.list (c:Cx) (ops:Array Oper) (Q:Post):Md c where
  X:=wpListIn c.F 0 c.P ops (lift c Q)
  ops:=ops
  calm o rest a w v hw hp hr hK:=by
    simp only [wpListIn,hw,if_true]
    exact ⟨fun f _=>c.fn f,by rw [semAt_plain' _ _ _ hp,hr];exact hK⟩
  skip o rest a w hw hK:=by
    simp only [wpListIn,hw]
    exact ⟨fun f _=>c.fn f,hK⟩
  want dst op ty pos af g rest a w hw h:=by
    simp only [wpListIn] at h ⊢
    rw [if_pos hw]
    rw [if_pos (show Region.wanted { dst:=dst,op:=op,type:=ty,pos:=pos,after:=af,guard:=none } (yielded ops a.tmps)=true from rfl)] at h
    exact h
section
variable {c : Cx} {Q : Post} {E : Env} {D : List Deferred} {H : List Res}
theorem oNil {ops:Array Oper}(h:Q .normal E D H):O (Md.list c ops Q) [] E D H:=fun a w ha hw=>⟨E,D,H,ha,hw,h,trivial⟩
structure Me (c:Cx) extends Md c where
  eff:∀ o rest a w v w',Region.wanted o (yielded ops a.tmps)=true→plain o.op=true→(execOp a.eval o).run c.P w=.ok (.value v) w'→X rest (a.put o.dst v) w'→X (o :: rest) a w
  effs:∀ o rest a w w',Region.wanted o (yielded ops a.tmps)=true→plain o.op=true→(execOp a.eval o).run c.P w=.ok .skip w'→X rest (a.put o.dst undef) w'→X (o :: rest) a w
  enter:∀ o rest a w g args w1,Region.wanted o (yielded ops a.tmps)=true→plain o.op=true→(execOp a.eval o).run c.P w=.ok (.enter g args) w1→
    CallsIn Fence.wide 0 c.P g args w1 (fun e w2=>∃ v,e=.returned v∧X rest (a.put o.dst v) w2)→X (o :: rest) a w
def Me.list (c:Cx) (ops:Array Oper) (Q:Post):Me c where
  toMd:=Md.list c ops Q
  eff o rest a w v w' hw hp hr hK:=by
    show wpListIn _ _ _ _ _ _ _ _
    simp only [wpListIn]
    rw [if_pos (show Region.wanted o (yielded ops a.tmps)=true from hw)]
    exact ⟨fun f _=>c.fn f,by rw [semAt_plain' _ _ _ hp,hr];exact hK⟩
  effs o rest a w w' hw hp hr hK:=by
    show wpListIn _ _ _ _ _ _ _ _
    simp only [wpListIn]
    rw [if_pos (show Region.wanted o (yielded ops a.tmps)=true from hw)]
    exact ⟨fun f _=>c.fn f,by rw [semAt_plain' _ _ _ hp,hr];exact hK⟩
  enter o rest a w g args w1 hw hp hr hK:=by
    show wpListIn _ _ _ _ _ _ _ _
    simp only [wpListIn]
    rw [if_pos (show Region.wanted o (yielded ops a.tmps)=true from hw)]
    refine ⟨fun f _=>c.fn f,?_⟩
    rw [semAt_plain' _ _ _ hp,hr]
    refine ⟨fun h=>absurd h (by rw [c.dp];simp),(c.call hK).mono ?_⟩
    rintro e w2 ⟨v,rfl,hx⟩
    exact hx
def Me.tail (c:Cx) (ops:Array Oper) (Q:Post):Me c where
  X:=wpList c.P ops (lift c Q)
  ops:=ops
  calm o rest a w v hw hp hr hK:=by
    simp only [wpList,hw,if_true]
    exact .inl (by simp only [Oper.wp,hr];exact hK)
  skip o rest a w hw hK:=by simp only [wpList,hw];exact hK
  want dst op ty pos af g rest a w hw h:=by
    simp only [wpList] at h ⊢
    rw [if_pos hw]
    rw [if_pos (show Region.wanted { dst:=dst,op:=op,type:=ty,pos:=pos,after:=af,guard:=none } (yielded ops a.tmps)=true from rfl)] at h
    exact h
  eff o rest a w v w' hw hp hr hK:=by
    simp only [wpList,hw,if_true]
    exact .inl (by simp only [Oper.wp,hr];exact hK)
  effs o rest a w w' hw hp hr hK:=by
    simp only [wpList,hw,if_true]
    exact .inl (by simp only [Oper.wp,hr];exact hK)
  enter o rest a w g args w1 hw hp hr hK:=by
    simp only [wpList,hw,if_true]
    refine .inl ?_
    simp only [Oper.wp,hr]
    refine Calls.mono (callsIn_wide.1 hK) ?_
    rintro e w2 ⟨v,rfl,hx⟩
    exact hx
def Md.head (c:Cx) (ops:Array Oper) (w0:World) (tail:List Oper) (Q:Post):Md c where
  X:=fun l a w=>w=w0→wpStill c.P ops w0 (fun a'=>wpList c.P ops (lift c Q) tail a' w0) l a
  ops:=ops
  calm o rest a w v hw hp hr hK:=by
    rintro rfl
    simp only [wpStill,hw,if_true,Oper.still,hr,Oper.stillUpon]
    exact ⟨trivial,hK rfl⟩
  skip o rest a w hw hK:=by
    rintro rfl
    simp only [wpStill,hw]
    exact hK rfl
  want dst op ty pos af g rest a w hw h:=by
    rintro rfl
    have h:=h rfl
    simp only [wpStill] at h ⊢
    rw [if_pos hw]
    rw [if_pos (show Region.wanted { dst:=dst,op:=op,type:=ty,pos:=pos,after:=af,guard:=none } (yielded ops a.tmps)=true from rfl)] at h
    exact h
theorem oHead {ops:Array Oper}{w0:World}{tail:List Oper}(h:O (Me.tail c ops Q).toMd tail E D H):O (Md.head c ops w0 tail Q) [] E D H:=by
 rintro a w ha hw rfl
 exact h a w ha hw
theorem oNilT {ops:Array Oper}(h:Q .normal E D H):O (Me.tail c ops Q).toMd [] E D H:=fun a w ha hw=>⟨E,D,H,ha,hw,h,trivial⟩
theorem wRegion' {id:Nat}{l:List Oper}(h:O (Me.list c l.toArray Q).toMd l E D H):W c (.region id l.toArray false) Q E D H:=fun a w ha hw=>wpIn_region_lit (h a w ha hw)
end
end Go.Proofs.YtpmdhkjbhjgoaaaGreatK


/-
  The walk's rules for operations that leave the world alone.
-/
namespace Go.Proofs.YtpmdhkjbhjgoaaaGreatK
open Go.RowKit
variable {c : Cx} {M : Md c} {d : Nat} {ty : TypeId} {pos : String} {af : Array Edge} {rest : List Oper} {E : Env} {D : List Deferred} {H H' : List Res} {v : Value} {x y z : Operand} {k : IntKind} {t t' : TypeId}

theorem oC {op:Op}(v:Value) (hp:plain op=true) (hN:Nat.blt d c.N=true) (hy:∀ a w,Fits E a→St c.B H w→(execOp a.eval ⟨some d,op,ty,pos,af,none⟩).run c.P w=.ok (.value v) w)
 (k:O M rest ((d,v) :: E) D H):O M (⟨some d,op,ty,pos,af,none⟩ :: rest) E D H:=
 fun a w ha hw=>M.calm _ _ _ _ v rfl hp (hy a w ha.fit hw) (k _ _ (ha.put hN) hw)

theorem bool_find {E:Env}{a:Act}(h:Fits E a) {t:Nat}{b:Bool}(hf:E.find t=some (.bool b)):a.tmps[t]?=some (.bool b):=by
 have:=h t _ hf
 rw [Array.getD_eq_getD_getElem?] at this
 cases hx:a.tmps[t]? with
 | none=>rw [hx] at this;simp [undef] at this
 | some u=>rw [hx] at this;simp at this;rw [this]
theorem yielded_of {E:Env}{a:Act}(h:Fits E a) {ops:Array Oper}{j t:Nat}{b:Bool}(hj:(ops[j]?).bind (·.dst)=some t) (hf:E.find t=some (.bool b)):yielded ops a.tmps j=some b:=by
 unfold yielded
 rw [hj]
 simp only [Option.bind_some,bool_find h hf]
theorem oSkip {op:Op}{j t:Nat}{b b':Bool}(hj:(M.ops[j]?).bind (·.dst)=some t) (hf:E.find t=some (.bool b)) (hb:(b == b')=false) (hN:Nat.blt d c.N=true)
 (k:O M rest ((d,undef) :: E) D H):O M (⟨some d,op,ty,pos,af,some (j,b')⟩ :: rest) E D H:=
 fun a w ha hw=>M.skip _ _ _ _ (by
  simp only [Region.wanted,yielded_of ha.fit hj hf]
  simpa using hb) (k _ _ (ha.put hN) hw)
theorem oSkipU {op:Op}{j t:Nat}{b':Bool}(hj:(M.ops[j]?).bind (·.dst)=some t) (hf:E.find t=some undef) (hN:Nat.blt d c.N=true)
 (k:O M rest ((d,undef) :: E) D H):O M (⟨some d,op,ty,pos,af,some (j,b')⟩ :: rest) E D H:=
 fun a w ha hw=>M.skip _ _ _ _ (by
  have h1:=ha.fit t _ hf
  rw [Array.getD_eq_getD_getElem?] at h1
  simp only [Region.wanted,yielded,hj,Option.bind_some]
  cases hx:a.tmps[t]? with
  | none=>simp
  | some u=>
   rw [hx] at h1
   simp only [Option.getD_some] at h1
   subst h1
   simp [undef]) (k _ _ (ha.put hN) hw)
theorem oWant {op:Op}{dst:Option Tmp}{j t:Nat}{b':Bool}(hj:(M.ops[j]?).bind (·.dst)=some t) (hf:E.find t=some (.bool b'))
 (k:O M (⟨dst,op,ty,pos,af,none⟩ :: rest) E D H):O M (⟨dst,op,ty,pos,af,some (j,b')⟩ :: rest) E D H:=
 fun a w ha hw=>M.want _ _ _ _ _ _ _ _ _ (by
  simp only [Region.wanted,yielded_of ha.fit hj hf]
  simp) (k a w ha hw)
theorem Ok.over {N:Nat}{a:Act}(h:Ok N E D a) {t:Nat}{v:Value}(hf:E.find t=some v):Ok N ((t,v) :: E) D a:=⟨h.size,fun s u hu=>by
 rw [Env.find_cons] at hu
 split at hu
 · rename_i e;subst e;injection hu with hu;subst hu;exact h.fit _ _ hf
 · exact h.fit _ _ hu,h.dfr⟩
theorem oSplit {l:List Oper}{t:Nat}{p:Prop} [Decidable p] (hf:E.find t=some (.bool (decide p))) (k1:p→O M l ((t,.bool true) :: E) D H) (k0:¬ p→O M l ((t,.bool false) :: E) D H):O M l E D H:=by
 intro a w ha hw
 by_cases hp:p
 · exact k1 hp a w (ha.over (by rw [hf];simp [hp])) hw
 · exact k0 hp a w (ha.over (by rw [hf];simp [hp])) hw
theorem oSplitB {l:List Oper}{t:Nat}{p:Bool}(hf:E.find t=some (.bool p)) (k1:p=true→O M l ((t,.bool true) :: E) D H) (k0:p=false→O M l ((t,.bool false) :: E) D H):O M l E D H:=by
 intro a w ha hw
 cases p
 · exact k0 rfl a w (ha.over hf) hw
 · exact k1 rfl a w (ha.over hf) hw
theorem oSet {l:List Oper}{t:Nat}{v':Value}(hf:E.find t=some v) (e:v=v') (k:O M l ((t,v') :: E) D H):O M l E D H:=fun a w ha hw=>k a w (ha.over (by rw [hf,e])) hw

theorem oMove (h:E.op x=some v) (k:O M rest ((d,v) :: E) D H) (hN:Nat.blt d c.N=true:=by rfl):O M (⟨some d,.move x,ty,pos,af,none⟩ :: rest) E D H:=
 oC v rfl hN (fun a w ha hw=>by simp [execOp,ha.op h]) k
theorem oAssign (h:E.op x=some v) (k:O M rest ((d,v) :: E) D H) (hN:Nat.blt d c.N=true:=by rfl):O M (⟨some d,.assign x,ty,pos,af,none⟩ :: rest) E D H:=
 oC v rfl hN (fun a w ha hw=>by simp [execOp,ha.op h]) k
theorem oPickT (hx:E.op x=some (.bool true)) (h:E.op y=some v) (k:O M rest ((d,v) :: E) D H) (hN:Nat.blt d c.N=true:=by rfl):O M (⟨some d,.pick x y z,ty,pos,af,none⟩ :: rest) E D H:=
 oC v rfl hN (fun a w ha hw=>by simp [execOp,ha.op hx,ha.op h,asBool]) k
theorem oPickF (hx:E.op x=some (.bool false)) (h:E.op z=some v) (k:O M rest ((d,v) :: E) D H) (hN:Nat.blt d c.N=true:=by rfl):O M (⟨some d,.pick x y z,ty,pos,af,none⟩ :: rest) E D H:=
 oC v rfl hN (fun a w ha hw=>by simp [execOp,ha.op hx,ha.op h,asBool]) k
theorem oNot {p:Prop} [Decidable p] (hx:E.op x=some (.bool (decide p))) (k:O M rest ((d,.bool (decide (¬ p))) :: E) D H) (hN:Nat.blt d c.N=true:=by rfl):O M (⟨some d,.unOp .not t x,ty,pos,af,none⟩ :: rest) E D H:=
 oC _ rfl hN (fun a w ha hw=>by simp [execOp,ha.op hx,Op.unary]) k
theorem oNotB {p:Bool}(hx:E.op x=some (.bool p)) (k:O M rest ((d,.bool (!p)) :: E) D H) (hN:Nat.blt d c.N=true:=by rfl):O M (⟨some d,.unOp .not t x,ty,pos,af,none⟩ :: rest) E D H:=
 oC _ rfl hN (fun a w ha hw=>by simp [execOp,ha.op hx,Op.unary]) k
theorem run_eqGuard (op:BinOp) (t:TypeId) (x y:Operand) (k k':IntKind) (a b:Int) (P:Program) (w:World):(eqGuard op t x y (.int k a) (.int k' b)).run P w=.ok () w:=by
 unfold eqGuard;split <;> simp
section
variable {a b : Int}
theorem oCmp {op:BinOp}(r:Bool) (hx:E.op x=some (.int k a)) (hy:E.op y=some (.int k b)) (hr:∀ P w,(binOp op t (.int k a) (.int k b)).run P w=.ok (.bool r) w) (k:O M rest ((d,.bool r) :: E) D H) (hN:Nat.blt d c.N=true:=by rfl):O M (⟨some d,.binOp op t x y t',ty,pos,af,none⟩ :: rest) E D H:=
 oC _ rfl hN (fun u w ha hw=>by simp [execOp,ha.op hx,ha.op hy,run_eqGuard,hr]) k
theorem oLss (hx:E.op x=some (.int k a)) (hy:E.op y=some (.int k b)) (k:O M rest ((d,.bool (decide (a<b))) :: E) D H) (hN:Nat.blt d c.N=true:=by rfl):O M (⟨some d,.binOp .lss t x y t',ty,pos,af,none⟩ :: rest) E D H:=
 oCmp _ hx hy (fun P w=>by simp [binOp,Op.intCmp]) k hN
theorem oLeq (hx:E.op x=some (.int k a)) (hy:E.op y=some (.int k b)) (k:O M rest ((d,.bool (decide (a≤b))) :: E) D H) (hN:Nat.blt d c.N=true:=by rfl):O M (⟨some d,.binOp .leq t x y t',ty,pos,af,none⟩ :: rest) E D H:=
 oCmp _ hx hy (fun P w=>by simp [binOp,Op.intCmp]) k hN
theorem oGtr (hx:E.op x=some (.int k a)) (hy:E.op y=some (.int k b)) (k:O M rest ((d,.bool (decide (b<a))) :: E) D H) (hN:Nat.blt d c.N=true:=by rfl):O M (⟨some d,.binOp .gtr t x y t',ty,pos,af,none⟩ :: rest) E D H:=
 oCmp _ hx hy (fun P w=>by simp [binOp,Op.intCmp]) k hN
theorem oGeq (hx:E.op x=some (.int k a)) (hy:E.op y=some (.int k b)) (k:O M rest ((d,.bool (decide (b≤a))) :: E) D H) (hN:Nat.blt d c.N=true:=by rfl):O M (⟨some d,.binOp .geq t x y t',ty,pos,af,none⟩ :: rest) E D H:=
 oCmp _ hx hy (fun P w=>by simp [binOp,Op.intCmp]) k hN
theorem oEql (hx:E.op x=some (.int k a)) (hy:E.op y=some (.int k b)) (k:O M rest ((d,.bool (decide (a=b))) :: E) D H) (hN:Nat.blt d c.N=true:=by rfl):O M (⟨some d,.binOp .eql t x y t',ty,pos,af,none⟩ :: rest) E D H:=
 oCmp _ hx hy (fun P w=>by simp [binOp,Op.intCmp];rfl) k hN
theorem oNeq (hx:E.op x=some (.int k a)) (hy:E.op y=some (.int k b)) (k:O M rest ((d,.bool (decide (¬ a=b))) :: E) D H) (hN:Nat.blt d c.N=true:=by rfl):O M (⟨some d,.binOp .neq t x y t',ty,pos,af,none⟩ :: rest) E D H:=
 oCmp _ hx hy (fun P w=>by simp [binOp,Op.intCmp,bne];rfl) k hN
theorem oAri {op:BinOp}(r:Int) (hx:E.op x=some (.int k a)) (hy:E.op y=some (.int k b)) (hr:∀ P w,(binOp op t (.int k a) (.int k b)).run P w=.ok (.int k r) w) (k:O M rest ((d,.int k r) :: E) D H) (hN:Nat.blt d c.N=true:=by rfl):O M (⟨some d,.binOp op t x y t',ty,pos,af,none⟩ :: rest) E D H:=
 oC _ rfl hN (fun u w ha hw=>by simp [execOp,ha.op hx,ha.op hy,run_eqGuard,hr]) k
theorem oAddW (hx:E.op x=some (.int k a)) (hy:E.op y=some (.int k b)) (h:O M rest ((d,.int k (k.wrap (a+b))) :: E) D H) (hN:Nat.blt d c.N=true:=by rfl):O M (⟨some d,.binOp .add t x y t',ty,pos,af,none⟩ :: rest) E D H:=
 oAri _ hx hy (fun P w=>by simp [binOp,Op.intArith]) h hN
theorem oSubW (hx:E.op x=some (.int k a)) (hy:E.op y=some (.int k b)) (h:O M rest ((d,.int k (k.wrap (a-b))) :: E) D H) (hN:Nat.blt d c.N=true:=by rfl):O M (⟨some d,.binOp .sub t x y t',ty,pos,af,none⟩ :: rest) E D H:=
 oAri _ hx hy (fun P w=>by simp [binOp,Op.intArith]) h hN
theorem oMulW (hx:E.op x=some (.int k a)) (hy:E.op y=some (.int k b)) (h:O M rest ((d,.int k (k.wrap (a * b))) :: E) D H) (hN:Nat.blt d c.N=true:=by rfl):O M (⟨some d,.binOp .mul t x y t',ty,pos,af,none⟩ :: rest) E D H:=
 oAri _ hx hy (fun P w=>by simp [binOp,Op.intArith]) h hN
def in64 (n:Int):Prop:=-9223372036854775808≤n∧n≤9223372036854775807
theorem wrap_in {n:Int}(h:in64 n):IntKind.i64.wrap n=n:=by
 obtain ⟨h1,h2⟩:=h
 exact IntWalk.i64_in n (by omega)
theorem oAdd (hx:E.op x=some (.int .i64 a)) (hy:E.op y=some (.int .i64 b)) (hr : -9223372036854775808≤a+b∧a+b≤9223372036854775807) (h:O M rest ((d,.int .i64 (a+b)) :: E) D H) (hN:Nat.blt d c.N=true:=by rfl):O M (⟨some d,.binOp .add t x y t',ty,pos,af,none⟩ :: rest) E D H:=
 oAddW hx hy (by rw [wrap_in hr];exact h) hN
theorem oSub (hx:E.op x=some (.int .i64 a)) (hy:E.op y=some (.int .i64 b)) (hr : -9223372036854775808≤a-b∧a-b≤9223372036854775807) (h:O M rest ((d,.int .i64 (a-b)) :: E) D H) (hN:Nat.blt d c.N=true:=by rfl):O M (⟨some d,.binOp .sub t x y t',ty,pos,af,none⟩ :: rest) E D H:=
 oSubW hx hy (by rw [wrap_in hr];exact h) hN
theorem oSucc {n:Nat}(hx:E.op x=some (.int .i64 (n:Int))) (hy:E.op y=some (.int .i64 1)) (hr:n≤9223372036854775806) (h:O M rest ((d,.int .i64 ((n+1:Nat):Int)) :: E) D H) (hN:Nat.blt d c.N=true:=by rfl):O M (⟨some d,.binOp .add t x y t',ty,pos,af,none⟩ :: rest) E D H:=
 oAdd hx hy (by omega) (by simpa using h) hN
theorem oRem (hx:E.op x=some (.int k a)) (hy:E.op y=some (.int k b)) (hr:b≠0) (h:O M rest ((d,.int k (a.tmod b)) :: E) D H) (hN:Nat.blt d c.N=true:=by rfl):O M (⟨some d,.binOp .rem t x y t',ty,pos,af,none⟩ :: rest) E D H:=
 oAri _ hx hy (fun P w=>by simp [binOp,Op.intDiv,hr]) h hN
end
section
variable {s r : ByteArray}
theorem toList_eq (s r:ByteArray):(s.toList == r.toList)=decide (s=r):=by
 rw [Bool.eq_iff_iff]
 simp only [beq_iff_eq,decide_eq_true_eq]
 constructor
 · intro h
   rw [ByteArray.toList_eq,ByteArray.toList_eq] at h
   cases s;cases r;simp_all [Array.toList_inj]
 · rintro rfl;rfl
theorem oStr {op:BinOp}(p:Bool) (hx:E.op x=some (.string s)) (hy:E.op y=some (.string r)) (hr:∀ P w,(binOp op t (.string s) (.string r)).run P w=.ok (.bool p) w) (k:O M rest ((d,.bool p) :: E) D H) (hN:Nat.blt d c.N=true:=by rfl):O M (⟨some d,.binOp op t x y t',ty,pos,af,none⟩ :: rest) E D H:=
 oC _ rfl hN (fun u w ha hw=>by
  have:(eqGuard op t x y (.string s) (.string r)).run c.P w=.ok () w:=by unfold eqGuard;split <;> simp
  simp [execOp,ha.op hx,ha.op hy,this,hr]) k
theorem oSEq (hx:E.op x=some (.string s)) (hy:E.op y=some (.string r)) (k:O M rest ((d,.bool (decide (s=r))) :: E) D H) (hN:Nat.blt d c.N=true:=by rfl):O M (⟨some d,.binOp .eql t x y t',ty,pos,af,none⟩ :: rest) E D H:=
 oStr _ hx hy (fun P w=>by simp [binOp,Op.stringOp,toList_eq]) k hN
theorem oSNe (hx:E.op x=some (.string s)) (hy:E.op y=some (.string r)) (k:O M rest ((d,.bool (decide (¬ s=r))) :: E) D H) (hN:Nat.blt d c.N=true:=by rfl):O M (⟨some d,.binOp .neq t x y t',ty,pos,af,none⟩ :: rest) E D H:=
 oStr _ hx hy (fun P w=>by simp [binOp,Op.stringOp,toList_eq]) k hN
end
end Go.Proofs.YtpmdhkjbhjgoaaaGreatK


/-
  Lists of cells: what is read, set, cut and built, as relations whose proofs spell the outcome.
-/
namespace Go.Proofs.YtpmdhkjbhjgoaaaGreatK
open Go.RowKit
section
variable {α : Type}
inductive SetAt:List α→Nat→α→List α→Prop
  | here {c v:α}{cs:List α} : SetAt (c :: cs) 0 v (v :: cs)
  | there {c v:α}{cs ds:List α}{n:Nat}(h:SetAt cs n v ds):SetAt (c :: cs) (n+1) v (c :: ds)
theorem SetAt.spec {cs ds:List α}{n:Nat}{v:α}(h:SetAt cs n v ds):n<cs.length∧cs.set n v=ds:=by
 induction h with
 | here=>simp
 | there _ ih=>simp [ih.1,ih.2]
inductive SubL:List α→Nat→Nat→List α→Prop
  | done {cs:List α} : SubL cs 0 0 []
  | take {c:α}{cs ds:List α}{n:Nat}(h:SubL cs 0 n ds):SubL (c :: cs) 0 (n+1) (c :: ds)
  | drop {c:α}{cs ds:List α}{i n:Nat}(h:SubL cs i n ds):SubL (c :: cs) (i+1) n ds
theorem SubL.spec {cs ds:List α}{i n:Nat}(h:SubL cs i n ds):(cs.drop i).take n=ds∧ds.length=n:=by
 induction h with
 | done=>simp
 | take _ ih=>simp [ih.1,ih.2];simpa using ih.1
 | drop _ ih=>simpa using ih
inductive PutL:List α→Nat→List α→List α→Prop
  | done {cs:List α} : PutL cs 0 [] cs
  | put {c v:α}{cs vs ds:List α}(h:PutL cs 0 vs ds):PutL (c :: cs) 0 (v :: vs) (v :: ds)
  | skip {c:α}{cs vs ds:List α}{n:Nat}(h:PutL cs n vs ds):PutL (c :: cs) (n+1) vs (c :: ds)
theorem PutL.len {cs vs ds:List α}{n:Nat}(h:PutL cs n vs ds):n+vs.length≤cs.length∧ds.length=cs.length:=by
 induction h with
 | done=>simp
 | put _ ih=>simp;omega
 | skip _ ih=>simp;omega
theorem PutL.step {cs vs ds:List α}{v:α}{n:Nat}(h:PutL cs n (v :: vs) ds):PutL (cs.set n v) (n+1) vs ds:=by
 generalize he:v :: vs=us at h
 induction h with
 | done=>cases he
 | put h ih=>
  injection he with e1 e2
  subst e1 e2
  exact .skip h
 | skip h ih=>exact .skip (ih he)
theorem PutL.nil {cs ds:List α}{n:Nat}(h:PutL cs n [] ds):cs=ds:=by
 generalize he:([]:List α)=us at h
 induction h with
 | done=>rfl
 | put h ih=>cases he
 | skip h ih=>rw [ih he]
theorem PutL.fold {off:Nat} : ∀ {vs cs ds:List α}(k:Nat),PutL cs (off+k) vs ds→(vs.zipIdx k).foldl (fun (cs:Array α) (p:α×Nat)=>cs.setIfInBounds (off+p.2) p.1) cs.toArray=ds.toArray
 | [],cs,ds,k,h=>by rw [h.nil];rfl
 | v :: vs,cs,ds,k,h=>by
  rw [List.zipIdx_cons,List.foldl_cons]
  simp only [List.setIfInBounds_toArray]
  exact PutL.fold (k+1) h.step
end
inductive CellsOf:Value→List Value→Prop
  | agg {vs:List Value} : CellsOf (.agg vs.toArray) vs
  | one {v:Value}(h:v.cells=#[v]):CellsOf v [v]
theorem CellsOf.spec {v:Value}{vs:List Value}(h:CellsOf v vs):v.cells=vs.toArray:=by
 cases h with
 | agg=>rfl
 | one h=>exact h
inductive Built (place:Nat→Option (Nat×Nat)):List Value→List (Nat×Value)→List Value→Prop
  | nil {cs:List Value} : Built place cs [] cs
  | cons {cs ds es vs:List Value}{i off s:Nat}{v:Value}{rest:List (Nat×Value)}(h:place i=some (off,s)) (hc:CellsOf v vs) (hl:vs.length=s) (hp:PutL cs off vs ds) (k:Built place ds rest es):Built place cs ((i,v) :: rest) es
theorem Built.spec {place:Nat→Option (Nat×Nat)}{cs es:List Value}{ps:List (Nat×Value)}(h:Built place cs ps es):Instr.fill place cs.toArray ps=some es.toArray:=by
 induction h with
 | nil=>rfl
 | @cons cs ds es vs i off s v rest h hc hl hp k ih=>
  have h1:=hc.spec
  have h2:=hp.len
  rw [Instr.fill,h]
  simp only []
  rw [if_neg (by rw [h1];simp;omega),h1]
  have h3:=PutL.fold (off:=off) 0 (by simpa using hp)
  rw [show vs.toArray.zipIdx=(vs.zipIdx 0).toArray by simp,List.foldl_toArray']
  · exact h3 ▸ ih
  · simp
inductive Parts (E:Env):List (Nat×Operand)→List (Nat×Value)→Prop
  | nil:Parts E [] []
  | cons {i:Nat}{x:Operand}{v:Value}{ps:List (Nat×Operand)}{vs:List (Nat×Value)}(h:E.op x=some v) (k:Parts E ps vs):Parts E ((i,x) :: ps) ((i,v) :: vs)
theorem Parts.spec {E:Env}{a:Act}(ha:Fits E a) {ps:List (Nat×Operand)}{vs:List (Nat×Value)}(h:Parts E ps vs):ps.map (fun p=>(p.1,a.eval p.2))=vs:=by
 induction h with
 | nil=>rfl
 | cons h _ ih=>simp [ha.op h,ih]
end Go.Proofs.YtpmdhkjbhjgoaaaGreatK


/-
  The walk's rules for memory: fields, elements, loads, stores, new variables, rows that grow, maps.
-/
namespace Go.Proofs.YtpmdhkjbhjgoaaaGreatK
open Go.RowKit
section
variable {c : Cx} {M : Md c} {d : Nat} {ty : TypeId} {pos : String} {af : Array Edge} {rest : List Oper} {E : Env} {D : List Deferred} {H H' H'' : List Res} {v : Value} {x y z : Operand} {k : IntKind} {t t' : TypeId}

def scalT (P:Program) (t:TypeId):Bool:=match P.underlying t with
  | some (.struct _)=>false
  | some (.array _ _)=>false
  | some _=>true
  | none=>false
def aggN (P:Program) (t:TypeId):Option Nat:=match P.underlying t with
  | some (.struct _)=>(P.info? t).map (·.size)
  | some (.array _ _)=>(P.info? t).map (·.size)
  | _=>none
def fplace (P:Program) (s:TypeId) (j:Nat):Option Nat:=match P.underlying s with
  | some (.struct fs)=>match fs[j]? with
    | some f=>match P.info? f.type with
      | some i=>bif Nat.beq i.size 0 then none else some f.offset
      | none=>none
    | none=>none
  | _=>none
def elemT (P:Program) (t:TypeId):Option (TypeId×Nat):=match P.underlying t with
  | some (.slice e)=>(P.info? e).map fun i=>(e,i.size)
  | _=>none
theorem run_isAgg_s {P:Program}{t:TypeId}(h:scalT P t=true) (w:World):(isAgg t).run P w=.ok false w:=by
 unfold scalT at h
 unfold isAgg
 cases hu:P.underlying t with
 | none=>rw [hu] at h;cases h
 | some u=>
  rw [hu] at h
  rw [Sem.run_bind,run_underlying hu w]
  cases u <;> simp_all
theorem run_isAgg_a {P:Program}{t:TypeId}{n:Nat}(h:aggN P t=some n) (w:World):(isAgg t).run P w=.ok true w∧(sizeOf t).run P w=.ok n w:=by
 unfold aggN at h
 unfold isAgg
 cases hu:P.underlying t with
 | none=>rw [hu] at h;cases h
 | some u=>
  rw [hu] at h
  rw [Sem.run_bind,run_underlying hu w]
  cases u <;> simp only [reduceCtorEq,Option.map_eq_some_iff] at h
  all_goals
   obtain ⟨i,hi,rfl⟩:=h
   exact ⟨by simp,by simp [sizeOf,typeInfo,hi]⟩
theorem run_fieldAt {P:Program}{s:TypeId}{j n:Nat}(h:fplace P s j=some n) (a:Addr) (w:World):(Instr.fieldAt s (.pointer (some a)) j).run P w=.ok (.pointer (some (a.add n))) w:=by
 unfold fplace at h
 cases hu:P.underlying s with
 | none=>rw [hu] at h;cases h
 | some u=>
  rw [hu] at h
  cases u with
  | struct fs=>
   simp only [] at h
   cases hf:fs[j]? with
   | none=>rw [hf] at h;cases h
   | some f=>
    rw [hf] at h
    simp only [] at h
    cases hi:P.info? f.type with
    | none=>rw [hi] at h;cases h
    | some i=>
     rw [hi] at h
     simp only [] at h
     cases hb:Nat.beq i.size 0 with
     | true=>rw [hb] at h;cases h
     | false=>
      rw [hb] at h
      injection h with h
      subst h
      have hs:i.size≠0:=by intro e;rw [e] at hb;cases hb
      simp [Instr.fieldAt,Instr.sureAddr,run_underlying hu,hf,fieldPlace,sizeOf,typeInfo,hi,hs]
  | _=>cases h
theorem run_elemT {P:Program}{t e:TypeId}{n:Nat}(h:elemT P t=some (e,n)):P.underlying t=some (.slice e)∧∃ i,P.info? e=some i∧i.size=n:=by
 unfold elemT at h
 cases hu:P.underlying t with
 | none=>rw [hu] at h;cases h
 | some u=>
  rw [hu] at h
  cases u <;> simp only [reduceCtorEq,Option.map_eq_some_iff,Prod.mk.injEq] at h
  obtain ⟨i,hi,rfl,rfl⟩:=h
  exact ⟨rfl,i,hi,rfl⟩
theorem add_at (b i j:Nat):(⟨b,i,none⟩:Addr).add j=⟨b,i+j,none⟩:=by unfold Addr.add;split <;> simp_all

@[irreducible] def adr (e:Addr) (k:Nat):Addr:=e.add k
theorem adr_add (e:Addr) (k j:Nat):(adr e k).add j=adr e (k+j):=by unfold adr;exact Addr.add_add _ _ _
@[irreducible] def elt (g i s k:Nat):Addr:=⟨g,i * s+k,none⟩
theorem elt_add (g i s k j:Nat):(elt g i s k).add j=elt g i s (k+j):=by unfold elt;rw [add_at,Nat.add_assoc]
theorem oPtr {a:Addr}(hx:E.op x=some (.pointer (some a))) (h:O M rest ((d,.pointer (some a)) :: E) D H) (hN:Nat.blt d c.N=true:=by rfl):O M (⟨some d,.nilCheck x,ty,pos,af,none⟩ :: rest) E D H:=
 oC _ rfl hN (fun u w ha hw=>by simp [execOp,ha.op hx]) h
theorem oFld {b i j n m:Nat}(hx:E.op x=some (.pointer (some ⟨b,i,none⟩))) (hf:fplace c.P t j=some n) (hm:i+n=m) (h:O M rest ((d,.pointer (some ⟨b,m,none⟩)) :: E) D H) (hN:Nat.blt d c.N=true:=by rfl):O M (⟨some d,.fieldAddr t x j,ty,pos,af,none⟩ :: rest) E D H:=
 oC _ rfl hN (fun u w ha hw=>by simp [execOp,ha.op hx,run_fieldAt hf,add_at,hm]) h
theorem oFldX {e:Addr}{i j n m:Nat}(hx:E.op x=some (.pointer (some (adr e i)))) (hf:fplace c.P t j=some n) (hm:i+n=m) (h:O M rest ((d,.pointer (some (adr e m))) :: E) D H) (hN:Nat.blt d c.N=true:=by rfl):O M (⟨some d,.fieldAddr t x j,ty,pos,af,none⟩ :: rest) E D H:=
 oC _ rfl hN (fun u w ha hw=>by simp [execOp,ha.op hx,run_fieldAt hf,adr_add,hm]) h
theorem oFldR {g i s j l n m:Nat}(hx:E.op x=some (.pointer (some (elt g i s l)))) (hf:fplace c.P t j=some n) (hm:l+n=m) (h:O M rest ((d,.pointer (some (elt g i s m))) :: E) D H) (hN:Nat.blt d c.N=true:=by rfl):O M (⟨some d,.fieldAddr t x j,ty,pos,af,none⟩ :: rest) E D H:=
 oC _ rfl hN (fun u w ha hw=>by simp [execOp,ha.op hx,run_fieldAt hf,elt_add,hm]) h

theorem oLd {b i:Nat}{tb:TypeId}{cs:List Value}(hx:E.op x=some (.pointer (some ⟨b,i,none⟩))) (hp:Pick H (blk b tb cs) H') (hv:cs[i]?=some v) (hs:scalT c.P t=true) (h:O M rest ((d,v) :: E) D H) (hN:Nat.blt d c.N=true:=by rfl):O M (⟨some d,.load t x,ty,pos,af,none⟩ :: rest) E D H:=
 oC _ rfl hN (fun u w ha hw=>by
  have hc:=hw.cell hp i hv
  simp [execOp,ha.op hx,Instr.loadAt,Instr.sureAddr,loadVar,run_isAgg_s hs,hc]) h
theorem oLdA {b i n:Nat}{tb:TypeId}{cs vs:List Value}(hx:E.op x=some (.pointer (some ⟨b,i,none⟩))) (hp:Pick H (blk b tb cs) H') (hs:aggN c.P t=some n) (hv':SubL cs i n vs) (h:O M rest ((d,.agg vs.toArray) :: E) D H) (hN:Nat.blt d c.N=true:=by rfl):O M (⟨some d,.load t x,ty,pos,af,none⟩ :: rest) E D H:=
 oC _ rfl hN (fun u w ha hw=>by
  obtain ⟨hv,hl⟩:=hv'.spec
  have h1:=run_isAgg_a hs w
  have h2:=run_loadCells_list (P:=c.P) w ⟨b,i,none⟩ vs (fun j u hu=>by
   rw [add_at]
   refine hw.cell hp (i+j) ?_
   rw [← hv,List.getElem?_take,List.getElem?_drop] at hu
   split at hu
   · exact hu
   · cases hu)
  rw [hl] at h2
  simp [execOp,ha.op hx,Instr.loadAt,Instr.sureAddr,loadVar,h1.1,h1.2,h2]) h

theorem oLdX {e:Addr}{i:Nat}{cs:List Value}(hx:E.op x=some (.pointer (some (adr e i)))) (hc:∀ j u,cs[j]?=some u→c.B.e.cell? (adr e j)=some u) (hv:cs[i]?=some v) (hs:scalT c.P t=true) (h:O M rest ((d,v) :: E) D H) (hN:Nat.blt d c.N=true:=by rfl):O M (⟨some d,.load t x,ty,pos,af,none⟩ :: rest) E D H:=
 oC _ rfl hN (fun u w ha hw=>by
  have hc:=hw.ext (hc i v hv)
  simp [execOp,ha.op hx,Instr.loadAt,Instr.sureAddr,loadVar,run_isAgg_s hs,hc]) h
theorem oLdXA {e:Addr}{i n:Nat}{cs vs:List Value}(hx:E.op x=some (.pointer (some (adr e i)))) (hc:∀ j u,cs[j]?=some u→c.B.e.cell? (adr e j)=some u) (hs:aggN c.P t=some n) (hv':SubL cs i n vs) (h:O M rest ((d,.agg vs.toArray) :: E) D H) (hN:Nat.blt d c.N=true:=by rfl):O M (⟨some d,.load t x,ty,pos,af,none⟩ :: rest) E D H:=
 oC _ rfl hN (fun u w ha hw=>by
  obtain ⟨hv,hl⟩:=hv'.spec
  have h1:=run_isAgg_a hs w
  have h2:=run_loadCells_list (P:=c.P) w (adr e i) vs (fun j u hu=>by
   rw [adr_add]
   refine hw.ext (hc (i+j) u ?_)
   rw [← hv,List.getElem?_take,List.getElem?_drop] at hu
   split at hu
   · exact hu
   · cases hu)
  rw [hl] at h2
  simp [execOp,ha.op hx,Instr.loadAt,Instr.sureAddr,loadVar,h1.1,h1.2,h2]) h
theorem run_indexAt {P:Program}{t e:TypeId}{s:Nat}(ht:elemT P t=some (e,s)) (b:Addr) (n cp i:Nat) (hi:i<n) (k:IntKind) (w:World):(Instr.indexAt t (.slice (some b) n cp) (.int k (i:Int))).run P w=.ok (.pointer (some (b.add (i * s)))) w:=by
 obtain ⟨h1,inf,h2,rfl⟩:=run_elemT ht
 simp [Instr.indexAt,asIntOf,run_underlying h1,sizeOf,typeInfo,h2,hi]
theorem oIdx {α:Type}{kd:Kd α}{A:Option Addr}{xs:List α}{i:Nat}{n cp:Nat}{e:TypeId}{s:Nat}(hx:E.op x=some (.slice A n cp)) (hy:E.op y=some (.int k (i:Int))) (hC:kd.C c.B.e A xs) (hn:xs.length=n) (hi:i<n) (ht:elemT c.P t=some (e,s)) (hsz:kd.sz=s)
 (h:∀ e' u cs,xs[i]?=some u→kd.K c.B.e u cs→(∀ j v,cs[j]?=some v→c.B.e.cell? (adr e' j)=some v)→O M rest ((d,.pointer (some (adr e' 0))) :: E) D H) (hN:Nat.blt d c.N=true:=by rfl):O M (⟨some d,.indexAddr t x y,ty,pos,af,none⟩ :: rest) E D H:=by
 subst hn hsz
 obtain ⟨_,hC⟩:=hC
 obtain ⟨ad,rfl,hc⟩:=hC (by omega)
 obtain ⟨cs,hK,hcell⟩:=hc i _ (List.getElem?_eq_getElem hi)
 refine oC (.pointer (some (adr (ad.add (i * kd.sz)) 0))) rfl hN (fun u w ha hw=>?_) (h (ad.add (i * kd.sz)) _ cs (List.getElem?_eq_getElem hi) hK (fun j v hv=>?_))
 · have e1:adr (ad.add (i * kd.sz)) 0=ad.add (i * kd.sz):=by unfold adr;rfl
   simp [execOp,ha.op hx,ha.op hy,run_indexAt ht ad _ cp i hi k w,e1]
 · have e1:adr (ad.add (i * kd.sz)) j=ad.add (i * kd.sz+j):=by unfold adr;exact Addr.add_add _ _ _
   rw [e1];exact hcell j v hv
theorem oLenS {A:Option Addr}{n cp:Nat}{e:TypeId}{s:Nat}(hx:E.op x=some (.slice A n cp)) (ht:elemT c.P t=some (e,s)) (h:O M rest ((d,.int .i64 (n:Int)) :: E) D H) (hN:Nat.blt d c.N=true:=by rfl):O M (⟨some d,.call { callee:=.builtin .len,args:=#[x],argTypes:=#[t] },ty,pos,af,none⟩ :: rest) E D H:=
 oC _ rfl hN (fun u w ha hw=>by
  obtain ⟨h1,_⟩:=run_elemT ht
  simp [execOp,resolve,ha.op hx,invoke,builtin,Builtin.len_,run_underlying h1,goInt]) h
theorem oLenStr {s:ByteArray}(hx:E.op x=some (.string s)) (ht:c.P.underlying t=some .string) (h:O M rest ((d,.int .i64 (s.size:Int)) :: E) D H) (hN:Nat.blt d c.N=true:=by rfl):O M (⟨some d,.call { callee:=.builtin .len,args:=#[x],argTypes:=#[t] },ty,pos,af,none⟩ :: rest) E D H:=
 oC _ rfl hN (fun u w ha hw=>by
  simp [execOp,resolve,ha.op hx,invoke,builtin,Builtin.len_,run_underlying ht,goInt]) h
inductive GetAt:List Value→Nat→Value→Prop
  | here {v:Value}{cs:List Value} : GetAt (v :: cs) 0 v
  | there {c v:Value}{cs:List Value}{n:Nat}(h:GetAt cs n v):GetAt (c :: cs) (n+1) v
theorem GetAt.spec {cs:List Value}{n:Nat}{v:Value}(h:GetAt cs n v):cs[n]?=some v:=by
 induction h with
 | here=>rfl
 | there _ ih=>simpa using ih
theorem oExt {vs:List Value}{j:Nat}(hx:E.op x=some (.tuple vs.toArray)) (hv:GetAt vs j v) (h:O M rest ((d,v) :: E) D H) (hN:Nat.blt d c.N=true:=by rfl):O M (⟨some d,.extract x j,ty,pos,af,none⟩ :: rest) E D H:=
 oC _ rfl hN (fun u w ha hw=>by simp [execOp,ha.op hx,Instr.extract,hv.spec]) h
def placeS (P:Program) (t:TypeId) (i:Nat):Option (Nat×Nat):=match P.underlying t with
  | some (.struct fs)=>(fs[i]?).map fun f=>(f.offset,P.cellsOf f.type)
  | _=>none
def allS (P:Program) (t:TypeId):Bool:=match P.underlying t with
  | some (.struct fs)=>fs.toList.all fun f=>(P.info? f.type).isSome
  | _=>false
theorem run_places {P:Program} : ∀ (l:List Field) (w:World),(l.all fun f=>(P.info? f.type).isSome)=true→Sem.run P (l.mapM fun (f:Field)=>Prod.mk f.offset <$> sizeOf f.type) w=.ok (l.map fun f=>(f.offset,P.cellsOf f.type)) w
 | [],w,h=>by simp
 | f :: l,w,h=>by
  simp only [List.all_cons,Bool.and_eq_true] at h
  obtain ⟨i,hi⟩:=Option.isSome_iff_exists.1 h.1
  have ih:=run_places l w h.2
  rw [List.mapM_cons]
  have h1:Sem.run P (Prod.mk f.offset <$> sizeOf f.type) w=.ok (f.offset,P.cellsOf f.type) w:=by simp [sizeOf,typeInfo,hi,Program.cellsOf]
  simp only [Sem.run_bind,h1,Result.andThen_ok,ih,Sem.run_pure,List.map_cons]
theorem run_build {P:Program}{t:TypeId}{zs us:List Value}{vs:List (Nat×Value)}(hz:((P.info? t).map (·.zero))=some (some (.agg zs.toArray))) (ha:allS P t=true) (hb:Built (placeS P t) zs vs us) (w:World):(Instr.build t vs.toArray).run P w=.ok (.agg us.toArray) w:=by
 obtain ⟨i,hi,hz⟩:=Option.map_eq_some_iff.1 hz
 unfold allS at ha
 cases hu:P.underlying t with
 | none=>rw [hu] at ha;cases ha
 | some un=>
  rw [hu] at ha
  cases un <;> simp only [Bool.false_eq_true] at ha
  rename_i fs
  have hp:Sem.run P (fs.mapM fun (f:Field)=>Prod.mk f.offset <$> sizeOf f.type) w=.ok ((fs.toList.map fun f=>(f.offset,P.cellsOf f.type)).toArray) w:=by
   rw [Array.mapM_eq_mapM_toList]
   simp [run_places fs.toList w ha]
  have he:placeS P t=fun x=>Option.map (fun f=>(f.offset,P.cellsOf f.type)) fs[x]?:=by
   funext i
   simp [placeS,hu]
  have hf:=hb.spec
  rw [he] at hf
  simp only [Instr.build,Sem.run_bind,zeroValue,typeInfo,Sem.run_pure]
  simp [hi,hz,run_underlying hu,Value.cells,hp]
  rw [hf]
  simp
theorem oBuild {ps:Array (Nat×Operand)}{vs:List (Nat×Value)}{zs us:List Value}(hx:Parts E ps.toList vs) (hz:((c.P.info? t).map (·.zero))=some (some (.agg zs.toArray))) (ha:allS c.P t=true) (hb:Built (placeS c.P t) zs vs us) (h:O M rest ((d,.agg us.toArray) :: E) D H) (hN:Nat.blt d c.N=true:=by rfl):O M (⟨some d,.build t ps,ty,pos,af,none⟩ :: rest) E D H:=
 oC _ rfl hN (fun u w hf hw=>by
  have h2:(ps.map fun (i,x)=>(i,u.eval x))=vs.toArray:=by
   apply Array.toList_inj.1
   simpa using hx.spec hf
  simp only [execOp,Sem.run_bind,h2,run_build hz ha hb w,Result.andThen_ok,Sem.run_pure]) h
end
end Go.Proofs.YtpmdhkjbhjgoaaaGreatK


/-
  The walk's rules for operations that turn the world: new variables, stores, rows, maps, calls; and how a function is entered and left.
-/
namespace Go.Proofs.YtpmdhkjbhjgoaaaGreatK
open Go.RowKit
section
variable {c : Cx} {M : Me c} {d : Nat} {dst : Option Nat} {ty : TypeId} {pos : String} {af : Array Edge} {rest : List Oper} {E : Env} {D : List Deferred} {H H' H'' : List Res} {v : Value} {x y z : Operand} {k : IntKind} {t t' : TypeId}
variable {B : Base} {w w' : World} {Φ Φ' Φ'' : List Res}

theorem oEff {op:Op}(hp:plain op=true) (hN:Nat.blt d c.N=true) (hy:∀ a w,Fits E a→St c.B H w→∃ v w' H',(execOp a.eval ⟨some d,op,ty,pos,af,none⟩).run c.P w=.ok (.value v) w'∧St c.B H' w'∧O M.toMd rest ((d,v) :: E) D H') :
 O M.toMd (⟨some d,op,ty,pos,af,none⟩ :: rest) E D H:=by
 intro a w ha hw
 obtain ⟨v,w',H',h1,h2,h3⟩:=hy a w ha.fit hw
 exact M.eff _ _ _ _ v w' rfl hp h1 (h3 _ _ (ha.put hN) h2)
theorem oEffs {op:Op}(hp:plain op=true) (hy:∀ a w,Fits E a→St c.B H w→∃ w' H',(execOp a.eval ⟨none,op,ty,pos,af,none⟩).run c.P w=.ok .skip w'∧St c.B H' w'∧O M.toMd rest E D H') :
 O M.toMd (⟨none,op,ty,pos,af,none⟩ :: rest) E D H:=by
 intro a w ha hw
 obtain ⟨w',H',h1,h2,h3⟩:=hy a w ha.fit hw
 exact M.effs _ _ _ _ w' rfl hp h1 (h3 _ _ ha.put_none h2)

theorem St.upd' {r r':Res}(h:St B Φ w) (hu:Pick Φ r Φ') (hc:Chg w w' r.fp) (hq:r'.q w') (hf:∀ k,r'.fp k→r.fp k∨w.heap.size≤k):St B (r' :: Φ') w':=
 (h.perm hu.perm).upd .here hc hq hf
theorem oAlloc {zv:Value}{cs:List Value}(hz:((c.P.info? t).map (·.zero))=some (some zv)) (hcs:CellsOf zv cs) (h:∀ b,O M.toMd rest ((d,.pointer (some ⟨b,0,none⟩)) :: E) D (blk b t cs :: H)) (hN:Nat.blt d c.N=true:=by rfl):O M.toMd (⟨some d,.alloc t,ty,pos,af,none⟩ :: rest) E D H:=
 oEff rfl hN fun a w ha hw=>by
  obtain ⟨i,hi,hz⟩:=Option.map_eq_some_iff.1 hz
  refine ⟨_,w.alloc (.cells zv.cells t),_,?_,?_,h w.heap.size⟩
  · simp [execOp,Instr.alloc,zeroValue,typeInfo,hi,hz,newVar,newRow]
  · rw [hcs.spec];exact hw.alloc (.cells cs.toArray t)
theorem oBox {cs:List Value}(hx:E.op x=some v) (hcs:CellsOf v cs) (h:∀ b,O M.toMd rest ((d,.pointer (some ⟨b,0,none⟩)) :: E) D (blk b t cs :: H)) (hN:Nat.blt d c.N=true:=by rfl):O M.toMd (⟨some d,.box t x,ty,pos,af,none⟩ :: rest) E D H:=
 oEff rfl hN fun a w ha hw=>by
  refine ⟨_,w.alloc (.cells v.cells t),_,?_,?_,h w.heap.size⟩
  · simp [execOp,Instr.box,newVar,newRow,ha.op hx]
  · rw [hcs.spec];exact hw.alloc (.cells cs.toArray t)
theorem run_store1 {P:Program}{b i:Nat}{t tb:TypeId}{cs:List Value}{v:Value}(hb:w.heap[b]?=some (.cells cs.toArray tb (0,0))) (hi:i<cs.length) (hv:v.cells=#[v]) (h1:v.oneCell'=true) (hs:(P.info? t).map (·.size)=some 1) :
 (Instr.storeAt t (.pointer (some ⟨b,i,none⟩)) v).run P w=.ok () (w.setCell ⟨b,i,none⟩ v):=by
 obtain ⟨inf,hi',hs⟩:=Option.map_eq_some_iff.1 hs
 have hc:w.cell? ⟨b,i,none⟩=some cs[i]:=by rw [cell_of hb];simp [hi]
 have hf:w.frozen? ⟨b,i,none⟩=false:=frozen_of hb
 have hst:(storeCells ⟨b,i,none⟩ [v]).run P w=.ok () (w.setCell ⟨b,i,none⟩ v):=by
  cases v <;> simp_all [storeCells,store,Sem.run,Value.oneCell',Addr.add,Sem.run_bind]
 simp [Instr.storeAt,Instr.sureAddr,storeVar,sizeOf,typeInfo,hi',hs,hv,hst]
theorem oSt {b i:Nat}{tb:TypeId}{cs cs':List Value}(hx:E.op x=some (.pointer (some ⟨b,i,none⟩))) (hy:E.op y=some v) (hv:v.cells=#[v]) (h1:v.oneCell'=true) (hs:(c.P.info? t).map (·.size)=some 1) (hp:Pick H (blk b tb cs) H') (hcs':SetAt cs i v cs')
 (h:O M.toMd rest E D (blk b tb cs' :: H')):O M.toMd (⟨none,.store t x y,ty,pos,af,none⟩ :: rest) E D H:=
 oEffs rfl fun a w ha hw=>by
  obtain ⟨hi,hcs⟩:=hcs'.spec
  subst hcs
  have hb:w.heap[b]?=some (.cells cs.toArray tb (0,0)):=hw.get hp
  refine ⟨w.setCell ⟨b,i,none⟩ v,blk b tb (cs.set i v) :: H',?_,hw.upd' hp (Chg.setCell w ⟨b,i,none⟩ v) (set_heap hb) (fun k hk=>.inl hk),h⟩
  simp [execOp,ha.op hx,ha.op hy,run_store1 hb hi hv h1 hs]
theorem oStA {b:Nat}{tb:TypeId}{cs vs:List Value}(hx:E.op x=some (.pointer (some ⟨b,0,none⟩))) (hy:E.op y=some (.agg vs.toArray)) (h1:vs.all (·.oneCell')=true) (hs:(c.P.info? t).map (·.size)=some vs.length) (hp:Pick H (blk b tb cs) H') (hl:cs.length=vs.length)
 (h:O M.toMd rest E D (blk b tb vs :: H')):O M.toMd (⟨none,.store t x y,ty,pos,af,none⟩ :: rest) E D H:=
 oEffs rfl fun a w ha hw=>by
  have hb:w.heap[b]?=some (.cells cs.toArray tb (0,0)):=hw.get hp
  have hrun:=run_storeVar_row (P:=c.P) w b tb t cs.toArray vs.toArray hb (by simpa using hs) (by simpa using hl) (by simpa using h1)
  have hc:Chg w (w.setRow b vs.toArray) (fun k=>k=b):=⟨rfl,rfl,rfl,by simp [World.setRow],fun k _ hn=>by rw [World.setRow];simp only [Array.getElem?_modify];rw [if_neg (fun h=>hn h.symm)]⟩
  refine ⟨w.setRow b vs.toArray,blk b tb vs :: H',?_,hw.upd' hp hc ?_ (fun k hk=>.inl hk),h⟩
  · simp [execOp,ha.op hx,ha.op hy,Instr.storeAt,Instr.sureAddr,hrun]
  · show (w.setRow b vs.toArray).heap[b]?=_
    rw [World.setRow];simp only [Array.getElem?_modify,if_true,hb,Option.map_some]

def Cat {α:Type}(kd:Kd α) (w:World):List α→List Value→Prop
  | [],cs=>cs=[]
  | x :: xs,cs=>∃ a rest,cs=a++rest∧kd.K w x a∧Cat kd w xs rest
theorem Cat.len {α:Type}{kd:Kd α}{w:World} : ∀ {xs:List α}{cs:List Value},Cat kd w xs cs→cs.length=xs.length * kd.sz
 | [],cs,h=>by rw [h];simp
 | x :: xs,cs,⟨a,rest,e,hK,hR⟩=>by rw [e,List.length_append,kd.K_len hK,hR.len,List.length_cons,Nat.succ_mul];omega
theorem Cat.at {α:Type}{kd:Kd α}{w:World} : ∀ {xs:List α}{cs:List Value},Cat kd w xs cs→∀ j x,xs[j]?=some x→∃ a,kd.K w x a∧∀ i u,a[i]?=some u→cs[j * kd.sz+i]?=some u
 | [],_,_,j,x,hj=>by simp at hj
 | y :: xs,cs,⟨a,rest,e,hK,hR⟩,0,x,hj=>by
  obtain rfl:y=x:=by simpa using hj
  refine ⟨a,hK,fun i u hu=>?_⟩
  have hi:i<a.length:=(List.getElem?_eq_some_iff.1 hu).1
  rw [e,Nat.zero_mul,Nat.zero_add,List.getElem?_append_left hi,hu]
 | y :: xs,cs,⟨a,rest,e,hK,hR⟩,j+1,x,hj=>by
  obtain ⟨c2,h1,h2⟩:=Cat.at hR j x (by simpa using hj)
  refine ⟨c2,h1,fun i u hu=>?_⟩
  have hl:=kd.K_len hK
  rw [e,List.getElem?_append_right (by rw [hl,Nat.succ_mul];omega),hl,show (j+1) * kd.sz+i-kd.sz=j * kd.sz+i by rw [Nat.succ_mul];omega]
  exact h2 i u hu
theorem Cat.app {α:Type}{kd:Kd α}{w:World} : ∀ {xs ys:List α}{cs ds:List Value},Cat kd w xs cs→Cat kd w ys ds→Cat kd w (xs++ys) (cs++ds)
 | [],ys,cs,ds,h,k=>by rw [h];simpa using k
 | x :: xs,ys,cs,ds,⟨a,rest,e,hK,hR⟩,k=>⟨a,rest++ds,by rw [e,List.append_assoc],hK,hR.app k⟩
theorem Cat.one {α:Type}{kd:Kd α}{w:World}{x:α}{a:List Value}(h:kd.K w x a):Cat kd w [x] a:=⟨a,[],by simp,h,rfl⟩
theorem Cat.ones {α:Type}{kd:Kd α}{w:World} : ∀ {xs:List α}{cs:List Value},Cat kd w xs cs→∀ u ∈ cs,u.oneCell'=true
 | [],cs,h=>by rw [h];simp
 | x :: xs,cs,⟨a,rest,e,hK,hR⟩=>by
  intro u hu
  rw [e] at hu
  rcases List.mem_append.1 hu with h | h
  · exact kd.K_one hK u h
  · exact hR.ones u h
theorem Cat.take {α:Type}{kd:Kd α}{w:World} : ∀ {xs:List α}{cs:List Value}(n:Nat),Cat kd w xs cs→Cat kd w (xs.take n) (cs.take (n * kd.sz))
 | [],cs,n,h=>by rw [h];simp [Cat]
 | x :: xs,cs,0,h=>by simp [Cat]
 | x :: xs,cs,n+1,⟨a,rest,e,hK,hR⟩=>by
  refine ⟨a,rest.take (n * kd.sz),?_,hK,hR.take n⟩
  have hl:=kd.K_len hK
  rw [e,List.take_append,List.take_of_length_le (by rw [hl,Nat.succ_mul];omega),hl,show (n+1) * kd.sz-kd.sz=n * kd.sz by rw [Nat.succ_mul];omega]
theorem Cat.grow {α:Type}{kd:Kd α}{w w':World}(g:Grow w w'):∀ {xs:List α}{cs:List Value},Cat kd w xs cs→Cat kd w' xs cs
 | [],cs,h=>h
 | x :: xs,cs,⟨a,rest,e,hK,hR⟩=>⟨a,rest,e,kd.K_grow g hK,Cat.grow g hR⟩
def row {α:Type}(kd:Kd α) (W:World) (e:TypeId) (v:Value) (xs:List α):Res where
  fp k:=v.ownBlock=some k
  q w:=∃ cs,w.ownsRow 0 e kd.sz v xs.length cs∧Cat kd W xs cs
  inb w h k hk:=by obtain ⟨cs,ho,_⟩:=h;exact (ho.lt k hk).2
  st w w' h hk:=by
    obtain ⟨cs,ho,hr⟩:=h
    refine ⟨cs,?_,hr⟩
    obtain ⟨h1,h2⟩:=ho
    refine ⟨h1,?_⟩
    rcases h2 with h2 | ⟨g,cap,cur,rfl,hg,hh,r⟩
    · exact .inl h2
    · exact .inr ⟨g,cap,cur,rfl,hg,(hk g (by simp [Value.ownBlock])).trans hh,r⟩
theorem St.nilrow {α:Type}(kd:Kd α) (W:World) (e:TypeId) (h:St B Φ w):St B (row kd W e (.slice none 0 0) [] :: Φ) w:=
 h.add (Chg.refl _ _) ⟨[],World.ownsRow_nil _ _ _ _,rfl⟩ (fun k hk=>by simp [row,Value.ownBlock] at hk)
theorem Leads.nilrow {α:Type}{kd:Kd α}{W:World}{e:TypeId} : Leads B Φ (row kd W e (.slice none 0 0) [] :: Φ):=fun _ h=>h.nilrow kd W e
theorem row_C {α:Type}{kd:Kd α}{W:World}{e:TypeId}{A:Option Addr}{n cp:Nat}{xs:List α}(h:(row kd W e (.slice A n cp) xs).q w) (g:Grow W w):n=xs.length∧n≤cp∧kd.C w A xs∧(0<n→∃ b,A=some ⟨b,0,none⟩):=by
 obtain ⟨cs,⟨hl,ho⟩,hr⟩:=h
 rcases ho with ⟨e1,e2⟩ | ⟨b,cap,cur,e1,_,hh,h1,h2,h3,h4⟩
 · injection e1 with e1 e3 e4
   subst e1 e3 e4
   have:xs=[]:=List.eq_nil_of_length_eq_zero e2
   subst this
   exact ⟨rfl,Nat.le_refl _,Kd.C_nil _ _ _,fun h=>absurd h (by omega)⟩
 · injection e1 with e1 e3 e4
   subst e1 e3 e4
   have hm:maxLen=9223372036854775807:=rfl
   refine ⟨rfl,h1,⟨by omega,fun _=>⟨_,rfl,fun j x hx=>?_⟩⟩,fun _=>⟨b,rfl⟩⟩
   obtain ⟨a,hK,hc⟩:=hr.at j x hx
   refine ⟨a,kd.K_grow g hK,fun i u hu=>?_⟩
   have:=hc i u hu
   rw [add_at,Nat.zero_add]
   unfold World.cell?
   rw [hh]
   simp only [Option.isSome_none,Bool.false_eq_true,if_false]
   rw [← h4,List.getElem?_take] at this
   split at this
   · simpa using this
   · cases this
theorem oIdxR {α:Type}{kd:Kd α}{W:World}{e e':TypeId}{A:Option Addr}{n cp i s:Nat}{xs:List α}(hx:E.op x=some (.slice A n cp)) (hy:E.op y=some (.int k (i:Int))) (hp:Pick H (row kd W e (.slice A n cp) xs) H') (hi:i<n) (ht:elemT c.P t=some (e',s)) (hsz:kd.sz=s) {N:Md c}
 (h:∀ g,A=some ⟨g,0,none⟩→O N rest ((d,.pointer (some (elt g i s 0))) :: E) D H) (hN:Nat.blt d c.N=true:=by rfl):O N (⟨some d,.indexAddr t x y,ty,pos,af,none⟩ :: rest) E D H:=by
 intro a w ha hw
 subst hsz
 obtain ⟨cs,⟨hl,ho⟩,hr⟩:(row kd W e (.slice A n cp) xs).q w:=hw.get hp
 rcases ho with ⟨e1,e2⟩ | ⟨b,cap,cur,e1,_⟩
 · injection e1 with e1 e3 e4;omega
 · injection e1 with e1 e3 e4
   subst e1 e3 e4
   refine oC (.pointer (some (elt b i kd.sz 0))) rfl hN (fun u w ha hw=>?_) (h b rfl) a w ha hw
   have e1:elt b i kd.sz 0=(⟨b,0,none⟩:Addr).add (i * kd.sz):=by rw [add_at];unfold elt;simp
   simp [execOp,ha.op hx,ha.op hy,run_indexAt ht ⟨b,0,none⟩ _ cp i hi k w,e1]
theorem oLdR {α:Type}{kd:Kd α}{W:World}{e:TypeId}{g n cp i j s:Nat}{xs:List α}(hx:E.op x=some (.pointer (some (elt g i s j)))) (hp:Pick H (row kd W e (.slice (some ⟨g,0,none⟩) n cp) xs) H') (hi:i<xs.length) (hsz:kd.sz=s) (hs:scalT c.P t=true) {N:Md c}
 (h:∀ u cs,xs[i]?=some u→kd.K W u cs→∃ v,cs[j]?=some v∧O N rest ((d,v) :: E) D H) (hN:Nat.blt d c.N=true:=by rfl):O N (⟨some d,.load t x,ty,pos,af,none⟩ :: rest) E D H:=by
 intro a w ha hw
 subst hsz
 obtain ⟨cs0,ho,hr⟩:(row kd W e (.slice (some ⟨g,0,none⟩) n cp) xs).q w:=hw.get hp
 obtain ⟨cs,hK,hc⟩:=hr.at i _ (List.getElem?_eq_getElem hi)
 obtain ⟨v,hv,hO⟩:=h _ cs (List.getElem?_eq_getElem hi) hK
 have hcell:=ho.cells (g:=g) rfl _ v (hc j v hv)
 rw [add_at,Nat.zero_add] at hcell
 refine N.calm _ _ _ _ v rfl rfl ?_ (hO _ _ (ha.put hN) hw)
 have e1:elt g i kd.sz j=⟨g,i * kd.sz+j,none⟩:=by unfold elt;rfl
 simp [execOp,ha.fit.op hx,Instr.loadAt,Instr.sureAddr,loadVar,run_isAgg_s hs,e1,hcell]
theorem oLdR1 {α:Type}{enc:α→Value}{h1:∀ x,(enc x).oneCell'=true}{W:World}{e:TypeId}{g n cp i:Nat}{xs:List α}(hx:E.op x=some (.pointer (some (elt g i 1 0)))) (hp:Pick H (row (Kd.scalar enc h1) W e (.slice (some ⟨g,0,none⟩) n cp) xs) H') (hi:i<xs.length) (hs:scalT c.P t=true) {N:Md c}
 (h:∀ u,xs[i]?=some u→O N rest ((d,enc u) :: E) D H) (hN:Nat.blt d c.N=true:=by rfl):O N (⟨some d,.load t x,ty,pos,af,none⟩ :: rest) E D H:=
 oLdR hx hp hi rfl hs (fun u cs hu hK=>by obtain rfl:=hK;exact ⟨_,rfl,h u hu⟩) hN
end
end Go.Proofs.YtpmdhkjbhjgoaaaGreatK


/-
  The walk's rules: rows that are made, grown and written; maps; calls; how a function is entered and left.
-/
namespace Go.Proofs.YtpmdhkjbhjgoaaaGreatK
open Go.RowKit
section
variable {c : Cx} {M : Me c} {d : Nat} {dst : Option Nat} {ty : TypeId} {pos : String} {af : Array Edge} {rest : List Oper} {E : Env} {D : List Deferred} {H H' H'' : List Res} {v : Value} {x y z : Operand} {k : IntKind} {t t' : TypeId}
variable {B : Base} {w w' : World} {Φ Φ' Φ'' Ψ : List Res} {P : Program}

theorem oBuildSlice {len:Nat}{ps:Array (Nat×Operand)}{vs:List (Nat×Value)}{zs cs:List Value}{e:TypeId}{s:Nat}{zv:Value}(hx:Parts E ps.toList vs) (ht:elemT c.P t=some (e,s)) (hz:((c.P.info? e).map (·.zero))=some (some zv))
 (hsm:Nat.ble (len * s) 16777216=true) (h0:Nat.beq (len * s) 0=false) (hzs:((Array.range (len * s)).map (zv.cells[· % zv.cells.size]!)).toList=zs) (hf:Built (fun i=>some (i * s,s)) zs vs cs)
 (h:∀ b,O M.toMd rest ((d,.slice (some ⟨b,0,none⟩) len len) :: E) D (blk b e cs :: H)) (hN:Nat.blt d c.N=true:=by rfl):O M.toMd (⟨some d,.buildSlice t len ps,ty,pos,af,none⟩ :: rest) E D H:=
 oEff rfl hN fun a w ha hw=>by
  have hsm:len * s≤16777216:=Nat.le_of_ble_eq_true hsm
  have h0:len * s≠0:=by intro e;rw [e] at h0;cases h0
  obtain ⟨ht1,inf,hi1,hs⟩:=run_elemT ht
  obtain ⟨inf',hi2,hz⟩:=Option.map_eq_some_iff.1 hz
  have he:inf'=inf:=by rw [hi1] at hi2;exact (Option.some.inj hi2).symm
  subst he
  refine ⟨_,w.alloc (.cells cs.toArray e),_,?_,by simpa using hw.alloc (.cells cs.toArray e),h w.heap.size⟩
  have h3:=hx.spec ha
  have hf:=hf.spec
  have hzs:(Array.range (len * s)).map (zv.cells[· % zv.cells.size]!)=zs.toArray:=by rw [← hzs]
  rw [← hzs,← h3] at hf
  simp only [execOp,Sem.run_bind,Instr.buildSlice,run_underlying ht1,Result.andThen_ok,sizeOf,typeInfo,zeroValue]
  simp [hi1,hs,hz,h0,hf,newRow,show ¬ (16777216<len * s) by omega]
theorem oBuildSlice1 {e:TypeId}{s:Nat}{zv:Value}{cs:List Value}(hx:E.op x=some v) (ht:elemT c.P t=some (e,s)) (hz:((c.P.info? e).map (·.zero))=some (some zv)) (hsm:Nat.ble s 16777216=true) (h0:Nat.beq s 0=false) (hc:CellsOf v cs) (hl:cs.length=s)
 (h:∀ b,O M.toMd rest ((d,.slice (some ⟨b,0,none⟩) 1 1) :: E) D (blk b e cs :: H)) (hN:Nat.blt d c.N=true:=by rfl):O M.toMd (⟨some d,.buildSlice t 1 #[(0,x)],ty,pos,af,none⟩ :: rest) E D H:=by
 refine oBuildSlice (zs:=((Array.range (1 * s)).map (zv.cells[· % zv.cells.size]!)).toList) (.cons hx .nil) ht hz (by simpa using hsm) (by simpa using h0) rfl ?_ h hN
 refine Built.cons (off:=0) (s:=s) (by simp) hc hl (ds:=cs) ?_ .nil
 have key:∀ (cs ds:List Value),cs.length=ds.length→PutL ds 0 cs cs:=by
  intro cs
  induction cs with
  | nil=>intro ds h;cases ds with
   | nil=>exact .done
   | cons=>simp at h
  | cons u cs ih=>
   intro ds h
   cases ds with
   | nil=>simp at h
   | cons d ds=>exact .put (ih ds (by simpa using h))
 exact key cs _ (by simp [hl])
def elemI (P:Program) (t:TypeId):Option (TypeId×Value×Nat×Nat):=match P.underlying t with
  | some (.slice e)=>match P.info? e with
    | some i=>match i.zero with
      | some z=>bif Nat.beq z.cells.size i.size && Nat.blt 0 i.size then some (e,z,i.size,i.bytes) else none
      | none=>none
    | none=>none
  | _=>none
theorem elemI_spec {e:TypeId}{zv:Value}{s by_:Nat}(h:elemI P t=some (e,zv,s,by_)):P.underlying t=some (.slice e)∧∃ i,P.info? e=some i∧i.zero=some zv∧i.size=s∧i.bytes=by_∧zv.cells.size=s∧0<s:=by
 unfold elemI at h
 cases hu:P.underlying t with
 | none=>rw [hu] at h;cases h
 | some u=>
  rw [hu] at h
  cases u with
  | slice e'=>
   simp only [] at h
   cases hi:P.info? e' with
   | none=>rw [hi] at h;cases h
   | some i=>
    rw [hi] at h
    simp only [] at h
    cases hz:i.zero with
    | none=>rw [hz] at h;cases h
    | some z=>
     rw [hz] at h
     simp only [] at h
     cases hb:(Nat.beq z.cells.size i.size && Nat.blt 0 i.size) with
     | false=>rw [hb] at h;cases h
     | true=>
      rw [hb] at h
      simp only [cond_true,Option.some.injEq,Prod.mk.injEq] at h
      obtain ⟨rfl,rfl,rfl,rfl⟩:=h
      simp only [Bool.and_eq_true,Nat.beq_eq,Nat.blt_eq] at hb
      exact ⟨rfl,i,hi,hz,rfl,rfl,hb.1,hb.2⟩
  | _=>cases h
theorem oApp1 {α:Type}{kd:Kd α}{W:World}{e tb:TypeId}{zv:Value}{s by_ b cp:Nat}{xs:List α}{news:List Value}(u:α) (hx:E.op x=some v) (hy:E.op y=some (.slice (some ⟨b,0,none⟩) 1 cp)) (ht:elemI c.P t=some (e,zv,s,by_)) (hsz:kd.sz=s)
 (hp:Pick H (row kd W e v xs) H') (hpb:Pick H' (blk b tb news) H'') (hK:kd.K W u news) (hl:xs.length+1≤1000000000) (hby:Nat.ble by_ 140000=true)
 (h:∀ g cp',O M.toMd rest ((d,.slice (some ⟨g,0,none⟩) (xs.length+1) cp') :: E) D (row kd W e (.slice (some ⟨g,0,none⟩) (xs.length+1) cp') (xs++[u]) :: H'')) (hN:Nat.blt d c.N=true:=by rfl) :
 O M.toMd (⟨some d,.call { callee:=.builtin .append,args:=#[x,y],argTypes:=#[t,t] },ty,pos,af,none⟩ :: rest) E D H:=
 oEff rfl hN fun a w ha hw=>by
  have hbb:w.heap[b]?=some (.cells news.toArray tb (0,0)):=(hw.perm hp.perm).drop.get hpb
  have hb2:by_≤140000:=Nat.le_of_ble_eq_true hby
  have hml:maxLen=9223372036854775807:=rfl
  subst hsz
  obtain ⟨ht1,i0,hi,hz0,hz1,hz2,hzs,hsp⟩:=elemI_spec ht
  obtain ⟨cs,ho,hr⟩:(row kd W e v xs).q w:=hw.get hp
  have hcat:Cat kd W [u] news:=Cat.one hK
  have hlb:(xs.length+1) * by_≤140737488355328:=Nat.le_trans (Nat.mul_le_mul hl hb2) (by decide)
  obtain ⟨v',w',hrun,hown,hgr,_,hat⟩:=run_append_own_at (P:=c.P) (w:=w) 0 t ty e i0 zv kd.sz by_ ht1 hi hz0 hz1 hz2 hzs hsp v xs.length cs ho ⟨b,0,none⟩ 1 cp news (by rw [hcat.len];rfl) (fun j u hu=>by
   rw [add_at,Nat.zero_add,cell_of hbb];exact hu) hcat.ones (by omega) hlb (Nat.zero_le _)
  have hown0:=hown
  obtain ⟨_,ho2⟩:=hown
  rcases ho2 with ⟨_,e2⟩ | ⟨g,cap,cur,rfl,_⟩
  · omega
  · refine ⟨_,w',_,?_,?_,h g cap⟩
    · simp [execOp,resolve,invoke,builtin,ha.op hx,ha.op hy,hrun]
    · have hup : St c.B (row kd W e (.slice (some ⟨g, 0, none⟩) (xs.length + 1) cap) (xs ++ [u]) :: H') w' := by
       refine hw.upd' hp ((Chg.of_grown hgr).mono (fun k hk=>hk.symm)) ⟨cs++news,by rw [List.length_append];exact hown0,hr.app hcat⟩ ?_
       intro k hk
       have hk:(Value.slice (some ⟨g,0,none⟩) (xs.length+1) cap).ownBlock=some k:=hk
       rcases hat with h1 | h1
       · exact .inl (show v.ownBlock=some k from h1 ▸ hk)
       · right;rw [h1] at hk;have:=Option.some.inj hk;omega
      exact (hup.perm ((hpb.perm.cons _).trans (List.Perm.swap _ _ _))).drop
theorem Cat.reps {α:Type}{kd:Kd α}{W:World}{u:α}{z:Value}(hK:kd.K W u [z]):∀ n,Cat kd W (List.replicate n u) (List.replicate n z)
 | 0=>rfl
 | n+1=>⟨[z],List.replicate n z,rfl,hK,Cat.reps hK n⟩
theorem oMake {α:Type}{kd:Kd α}{W:World}{e:TypeId}{zv zc:Value}{by_ n:Nat}(u:α) (hx:E.op x=some (.int .i64 (n:Int))) (hx':E.op y=some (.int .i64 (n:Int))) (ht:elemI c.P t=some (e,zv,1,by_)) (hsz:kd.sz=1) (hzc:zv.cells=#[zc]) (hK:kd.K W u [zc]) (hl:n≤1000000000) (hby:Nat.ble by_ 140000=true)
 (h:∀ g,O M.toMd rest ((d,.slice (some ⟨g,0,none⟩) n n) :: E) D (row kd W e (.slice (some ⟨g,0,none⟩) n n) (List.replicate n u) :: H)) (hN:Nat.blt d c.N=true:=by rfl) :
 O M.toMd (⟨some d,.makeSlice t x y,ty,pos,af,none⟩ :: rest) E D H:=
 oEff rfl hN fun a w ha hw=>by
  obtain ⟨ht1,i0,hi,hz0,hz1,hz2,hzs,hsp⟩:=elemI_spec ht
  have hb2:by_≤140000:=Nat.le_of_ble_eq_true hby
  have hlb:i0.bytes * n≤281474976710656:=by
   rw [hz2,Nat.mul_comm]
   exact Nat.le_trans (Nat.mul_le_mul hl hb2) (by decide)
  have hml:maxLen=9223372036854775807:=rfl
  obtain ⟨w',hrun,hown,hgr⟩:=run_make_full w 0 t e i0 zv 1 ht1 hi hz0 hz1 .i64 .i64 n hlb (by omega) (Nat.zero_le _)
  refine ⟨_,w',_,?_,?_,h w.heap.size⟩
  · simp [execOp,ha.op hx,ha.op hx',hrun]
  · have hc : (madeCells zv.cells (n * 1)).toList = List.replicate n zc := by
     rw [hzc]
     apply List.ext_getElem?
     intro j
     by_cases hj:j<n
     · simp [madeCells,List.getElem?_replicate,List.getElem?_range,hj,Nat.mod_one]
     · simp [madeCells,List.getElem?_replicate,List.getElem?_eq_none,Nat.not_lt.1 hj,hj]
    refine hw.add ((Chg.of_grown hgr).mono (fun k hk=>by cases hk)) ⟨List.replicate n zc,?_,Cat.reps hK n⟩ ?_
    · rw [List.length_replicate,hsz,← hc];exact hown
    · intro k hk
      have hk:some w.heap.size=some k:=hk
      injection hk with hk;omega
def goodF (P:Program) (g:FuncId):Bool:=match P.funcs[g]? with
  | some fn=>fn.name != "runtime.NumGoroutine" && fn.body.isSome
  | none=>false
theorem run_callFunc {g:FuncId}(h:goodF P g=true) (args:Array Value) (w:World):(callFunc g args).run P w=.ok (.enter g args) w:=by
 unfold goodF at h
 cases hf:P.funcs[g]? with
 | none=>rw [hf] at h;cases h
 | some fn=>
  rw [hf] at h
  simp only [Bool.and_eq_true,bne_iff_ne,ne_eq] at h
  cases hb:fn.body with
  | none=>rw [hb] at h;simp at h
  | some body=>simp [callFunc,hf,h.1,hb]
def Ret {ι:Type}(B:Base) (inv:ι→Prop) (val:ι→Value) (post:ι→List Res) (e:Ending) (w:World):Prop:=∃ i,inv i∧e=.returned (val i)∧St B (post i) w
theorem frame {ι:Type}{inv:ι→Prop}{val:ι→Value}{post:ι→List Res}{g:FuncId}{args:Array Value}(hS:St B Φ w) (hs:Split Φ Ψ Φ') (h:∀ B',Grow B.e B'.e→St B' Ψ w→CallsIn Fence.wide 0 P g args w (Ret B' inv val post)) :
 CallsIn Fence.wide 0 P g args w (Ret B inv val (fun i=>post i++Φ')):=by
 have hS':=hS.perm hs.perm
 refine (h (B.call w Ψ) hS'.egrow hS'.lend).mono ?_
 rintro e w' ⟨i,hi,he,hw⟩
 exact ⟨i,hi,he,hS'.give hw⟩
theorem oCallV {ι:Type}{inv:ι→Prop}{val:ι→Value}{post:ι→List Res}{f:Operand}{args:Array Operand}{ats:Array TypeId}{g:FuncId}{fst cap:Array Value}{vs:List Value}{az:Array Value}(hf:E.op f=some (.func (.func g) fst cap)) (hargs:E.ops args.toList=some vs) (has:fst++vs.toArray++cap=az) (hg:goodF c.P g=true)
 (hc:∀ w,St c.B H w→CallsIn Fence.wide 0 c.P g az w (Ret c.B inv val post)) (h:∀ i,inv i→O M.toMd rest ((d,val i) :: E) D (post i)) (hN:Nat.blt d c.N=true:=by rfl) :
 O M.toMd (⟨some d,.call { callee:=.value f,args:=args,argTypes:=ats },ty,pos,af,none⟩ :: rest) E D H:=by
 intro a w ha hw
 refine M.enter _ _ _ _ g az w rfl rfl ?_ ((hc w hw).mono ?_)
 · have h1 : args.map a.eval = vs.toArray := by
    apply Array.toList_inj.1
    simpa using ha.fit.ops hargs
   subst has
   simp only [execOp,resolve,Sem.run_bind,ha.fit.op hf,h1,Deferred.ofValue,Sem.run_pure,Result.andThen_ok,invoke,run_callFunc hg]
 · rintro e w' ⟨i,hi,rfl,hw'⟩
   exact ⟨val i,rfl,h i hi _ _ (ha.put hN) hw'⟩
theorem oCall {ι:Type}{inv:ι→Prop}{val:ι→Value}{post:ι→List Res}{args:Array Operand}{ats:Array TypeId}{g:FuncId}{vs:List Value}(hargs:E.ops args.toList=some vs) (hg:goodF c.P g=true)
 (hc:∀ w,St c.B H w→CallsIn Fence.wide 0 c.P g vs.toArray w (Ret c.B inv val post)) (h:∀ i,inv i→O M.toMd rest ((d,val i) :: E) D (post i)) (hN:Nat.blt d c.N=true:=by rfl) :
 O M.toMd (⟨some d,.call { callee:=.value (.func g),args:=args,argTypes:=ats },ty,pos,af,none⟩ :: rest) E D H:=
 oCallV rfl hargs (by simp) hg hc h hN

inductive ResR (P:Program) (E:Env) (H:List Res):ResultVar→Value→Prop
  | tmp {t:Tmp}{v:Value}(h:E.find t=some v):ResR P E H (.tmp t) v
  | cell {a b:Nat}{t tb:TypeId}{v:Value}{H':List Res}(h:E.find a=some (.pointer (some ⟨b,0,none⟩))) (hp:Pick H (blk b tb [v]) H') (hs:scalT P t=true):ResR P E H (.cell a t) v
  | agg {a b n:Nat}{t tb:TypeId}{vs:List Value}{H':List Res}(h:E.find a=some (.pointer (some ⟨b,0,none⟩))) (hp:Pick H (blk b tb vs) H') (hs:aggN P t=some n) (hl:vs.length=n):ResR P E H (.cell a t) (.agg vs.toArray)
inductive ResL (P:Program) (E:Env) (H:List Res):List ResultVar→List Value→Prop
  | nil:ResL P E H [] []
  | cons {r:ResultVar}{v:Value}{rs:List ResultVar}{vs:List Value}(h:ResR P E H r v) (k:ResL P E H rs vs):ResL P E H (r :: rs) (v :: vs)
def resVal:List Value→Value
  | [v]=>v
  | vs=>.tuple vs.toArray
def fin (P:Program) (rs:List ResultVar) (R:Value→List Res→Prop):Post
  | .ret,E,D,H=>D=[]∧∃ vs,ResL P E H rs vs∧R (resVal vs) H
  | .normal,E,D,H=>D=[]∧∃ vs,ResL P E H rs vs∧R (resVal vs) H
  | _,_,_,_=>False
def resV (tmps:Array Value):ResultVar→Sem Value
  | .tmp t=>pure (tmps.getD t undef)
  | .cell a t=>do loadVar t (← asAddr (tmps.getD a undef))
theorem results_eq (fn:Func) (tmps:Array Value):results fn tmps=(do let vs ← fn.results.mapM (resV tmps);pure (if h:vs.size=1 then vs[0] else .tuple vs)):=rfl
theorem ResR.run {P:Program}{E:Env}{H:List Res}{r:ResultVar}{v:Value}(h:ResR P E H r v) {a:Act}(ha:Fits E a) (hw:St B H w):(resV a.tmps r).run P w=.ok v w:=by
 cases h with
 | tmp h=>simp [resV,ha _ _ h]
 | cell h hp hs=>
  have hc:=hw.cell hp 0 rfl
  show (Sem.run P (do loadVar _ (← asAddr (a.tmps.getD _ undef))) w)=_
  rw [ha _ _ h]
  simp [asAddr,loadVar,run_isAgg_s hs,hc]
 | @agg a' b n t tb vs H' h hp hs hl=>
  have h1:=run_isAgg_a hs w
  have h2:=run_loadCells_list (P:=P) w ⟨b,0,none⟩ vs (fun j u hu=>by
   rw [add_at,Nat.zero_add];exact hw.cell hp j hu)
  rw [hl] at h2
  show (Sem.run P (do loadVar _ (← asAddr (a.tmps.getD _ undef))) w)=_
  rw [ha _ _ h]
  simp [asAddr,loadVar,h1.1,h1.2,h2]
theorem ResL.run {P:Program}{E:Env}{H:List Res}{rs:List ResultVar}{vs:List Value}(h:ResL P E H rs vs) {a:Act}(ha:Fits E a) (hw:St B H w):(rs.mapM (resV a.tmps)).run P w=.ok vs w:=by
 induction h with
 | nil=>simp
 | cons h k ih=>simp [h.run ha hw,ih]
theorem ResL.results {P:Program}{E:Env}{H:List Res}{fn:Func}{vs:List Value}(h:ResL P E H fn.results.toList vs) {a:Act}(ha:Fits E a) (hw:St B H w):(results fn a.tmps).run P w=.ok (resVal vs) w:=by
  rw [results_eq]
  have h1:=h.run ha hw
  have h2:(fn.results.mapM (resV a.tmps)).run P w=.ok vs.toArray w:=by
    rw [Array.mapM_eq_mapM_toList];simp [h1]
  simp only [Sem.run_bind,h2,Result.andThen_ok]
  match vs with
  | []=>simp [resVal]
  | [v]=>simp [resVal]
  | v :: u :: vs=>simp [resVal]
theorem enter {ι:Type}{inv:ι→Prop}{val:ι→Value}{post:ι→List Res}{f:FuncId}{fn:Func}{body:Code}{args:List Value}(hf:P.funcs[f]?=some fn) (hb:fn.body=some body) (hl:Nat.ble args.length fn.ntmps=true) (hS:St B Ψ w)
 (h:W ⟨P,Fence.wide,fn.ntmps,B,fun _=>trivial,rfl,fun h=>h⟩ body (fin P fn.results.toList (fun v H=>∃ i,inv i∧v=val i∧Leads B H (post i))) ((args.zipIdx).map fun p=>(p.2,p.1)) [] Ψ) :
 CallsIn Fence.wide 0 P f args.toArray w (Ret B inv val post):=by
 refine callsIn_of_wp hf hb trivial (wpIn_mono (h _ w (Ok.enter fn.ntmps args (Nat.le_of_ble_eq_true hl)) hS) ?_) rfl
 rintro e a w' ⟨E,D,H,h1,h2,h3,_⟩
 have key:D=[]→(∃ vs,ResL P E H fn.results.toList vs∧∃ i,inv i∧resVal vs=val i∧Leads B H (post i))→a.defers=[]∧∃ v,(results fn a.tmps).run P w'=.ok v w'∧Ret B inv val post (.returned v) w':=by
  rintro hD ⟨vs,hr,i,hi,hv,hsp⟩
  exact ⟨h1.dfr.trans hD,_,hr.results h1.fit h2,i,hi,by rw [hv],hsp _ h2⟩
 cases e with
 | normal=>exact key h3.1 h3.2
 | ret=>exact key h3.1 h3.2
 | _=>exact h3.elim
end
end Go.Proofs.YtpmdhkjbhjgoaaaGreatK


/-
  The walk's rules: ways out of a piece of code; pointers against nil; maps; stores into rows; a slice's beginning; methods of an interface's value.
-/
namespace Go.Proofs.YtpmdhkjbhjgoaaaGreatK
open Go.RowKit
section
variable {K : Env → List Deferred → List Res → Prop} {Q : Post} {E : Env} {D : List Deferred} {H : List Res} {id i : Nat}
theorem thn_n (h:K E D H):thn K Q .normal E D H:=h
theorem thn_r (h:Q .ret E D H):thn K Q .ret E D H:=h
theorem thn_x (h:Q (.exit i) E D H):thn K Q (.exit i) E D H:=h
theorem blk_n (h:Q .normal E D H):inBlk id Q .normal E D H:=h
theorem blk_r (h:Q .ret E D H):inBlk id Q .ret E D H:=h
theorem blk_x (h:Q .normal E D H):inBlk id Q (.exit id) E D H:=by
 show (bif Nat.beq id id then Q .normal E D H else Q (.exit id) E D H)
 rw [Nat.beq_refl];exact h
theorem blk_y (hi:Nat.beq i id=false) (h:Q (.exit i) E D H):inBlk id Q (.exit i) E D H:=by
 show (bif Nat.beq i id then Q .normal E D H else Q (.exit i) E D H)
 rw [hi];exact h
theorem fin_n {P:Program}{rs:List ResultVar}{R:Value→List Res→Prop}(h:D=[]∧∃ vs,ResL P E H rs vs∧R (resVal vs) H):fin P rs R .normal E D H:=h
theorem fin_r {P:Program}{rs:List ResultVar}{R:Value→List Res→Prop}(h:D=[]∧∃ vs,ResL P E H rs vs∧R (resVal vs) H):fin P rs R .ret E D H:=h
end
section
variable {c : Cx} {N : Md c} {M : Me c} {d : Nat} {ty : TypeId} {pos : String} {af : Array Edge} {rest : List Oper} {E : Env} {D : List Deferred} {H H' H'' : List Res} {v : Value} {x y z : Operand} {k : IntKind} {t t' : TypeId}
variable {B : Base} {w w' : World} {Φ Φ' Φ'' Ψ : List Res} {P : Program}
def isPtr (P:Program) (t:TypeId):Bool:=match P.underlying t with
  | some (.pointer _)=>true
  | _=>false
theorem run_ptrEq {t:TypeId}(ht:isPtr P t=true) (A:Option Addr) (w:World):(Op.equal t (.pointer A) (.pointer none)).run P w=.ok (decide (A=none)) w:=by
 unfold isPtr at ht
 cases hu:P.underlying t with
 | none=>rw [hu] at ht;cases ht
 | some u=>
  rw [hu] at ht
  cases u <;> simp only [reduceCtorEq,Bool.false_eq_true] at ht
  simp only [Op.equal,Op.maxDepth]
  rw [Op.equalIn.eq_def]
  cases A <;> simp [run_underlying hu]
theorem oEqlP {A:Option Addr}(hx:E.op x=some (.pointer A)) (hy:E.op y=some (.pointer none)) (ht:isPtr c.P t=true) (h:O N rest ((d,.bool (decide (A=none))) :: E) D H) (hN:Nat.blt d c.N=true:=by rfl):O N (⟨some d,.binOp .eql t x y t',ty,pos,af,none⟩ :: rest) E D H:=
 oC _ rfl hN (fun a w ha hw=>by
  have h1:(eqGuard .eql t x y (.pointer A) (.pointer none)).run c.P w=.ok () w:=by unfold eqGuard;simp
  have h2:(binOp .eql t (.pointer A) (.pointer none)).run c.P w=.ok (.bool (decide (A=none))) w:=by simp [binOp,run_ptrEq ht]
  simp [execOp,ha.op hx,ha.op hy,h1,h2]) h
theorem oNeqP {A:Option Addr}(hx:E.op x=some (.pointer A)) (hy:E.op y=some (.pointer none)) (ht:isPtr c.P t=true) (h:O N rest ((d,.bool (decide (¬ A=none))) :: E) D H) (hN:Nat.blt d c.N=true:=by rfl):O N (⟨some d,.binOp .neq t x y t',ty,pos,af,none⟩ :: rest) E D H:=
 oC _ rfl hN (fun a w ha hw=>by
  have h1:(eqGuard .neq t x y (.pointer A) (.pointer none)).run c.P w=.ok () w:=by unfold eqGuard;simp
  have h2:(binOp .neq t (.pointer A) (.pointer none)).run c.P w=.ok (.bool (decide (¬ A=none))) w:=by simp [binOp,run_ptrEq ht]
  simp [execOp,ha.op hx,ha.op hy,h1,h2]) h

def isBool (P:Program) (t:TypeId):Bool:=match P.underlying t with
  | some .bool=>true
  | _=>false
theorem run_boolEq {t:TypeId}(ht:isBool P t=true) (p q:Bool) (w:World):(Op.equal t (.bool p) (.bool q)).run P w=.ok (p == q) w:=by
 unfold isBool at ht
 cases hu:P.underlying t with
 | none=>rw [hu] at ht;cases ht
 | some u=>
  rw [hu] at ht
  cases u <;> simp only [reduceCtorEq,Bool.false_eq_true] at ht
  simp only [Op.equal,Op.maxDepth]
  rw [Op.equalIn.eq_def]
  simp [run_underlying hu]
theorem oNeqBool {p q:Bool}(hx:E.op x=some (.bool p)) (hy:E.op y=some (.bool q)) (ht:isBool c.P t=true) (h:O N rest ((d,.bool (decide (¬ p=q))) :: E) D H) (hN:Nat.blt d c.N=true:=by rfl):O N (⟨some d,.binOp .neq t x y t',ty,pos,af,none⟩ :: rest) E D H:=
 oC _ rfl hN (fun a w ha hw=>by
  have h1:(eqGuard .neq t x y (.bool p) (.bool q)).run c.P w=.ok () w:=by unfold eqGuard;simp
  have h2:(binOp .neq t (.bool p) (.bool q)).run c.P w=.ok (.bool (decide (¬ p=q))) w:=by
   simp [binOp,run_boolEq ht];cases p <;> cases q <;> rfl
  simp only [execOp,ha.op hx,ha.op hy,Sem.run_bind,h1,Result.andThen_ok,h2,Sem.run_pure]) h

section
variable {κ β : Type} [DecidableEq κ] {enc : κ → Value} {ev : β → Value} {kd : TypeDesc}
end
end
end Go.Proofs.YtpmdhkjbhjgoaaaGreatK


/-
  The walk's rules: stores into rows, a row's beginning, methods of an interface's value, other operations.
-/
namespace Go.Proofs.YtpmdhkjbhjgoaaaGreatK
open Go.RowKit
section
variable {c : Cx} {N : Md c} {M : Me c} {d : Nat} {ty : TypeId} {pos : String} {af : Array Edge} {rest : List Oper} {E : Env} {D : List Deferred} {H H' H'' : List Res} {v : Value} {x y z : Operand} {k : IntKind} {t t' : TypeId}
variable {B : Base} {w w' : World} {Φ Φ' Φ'' Ψ : List Res} {P : Program}

theorem Cat.scal {α:Type}{enc:α→Value}{h1:∀ x,(enc x).oneCell'=true}{W:World} : ∀ {xs:List α}{cs:List Value},Cat (Kd.scalar enc h1) W xs cs↔cs=xs.map enc
 | [],cs=>Iff.rfl
 | x :: xs,cs=>by
  constructor
  · rintro ⟨a,rest,rfl,rfl,hR⟩
    rw [Cat.scal.1 hR];rfl
  · rintro rfl
    exact ⟨[enc x],xs.map enc,rfl,rfl,Cat.scal.2 rfl⟩
theorem oStR {α:Type}{enc:α→Value}{h1:∀ x,(enc x).oneCell'=true}{W:World}{e:TypeId}{g n cp i:Nat}{xs:List α}(u:α) (hx:E.op x=some (.pointer (some (elt g i 1 0)))) (hy:E.op y=some (enc u)) (hv:(enc u).cells=#[enc u]) (hs:(c.P.info? t).map (·.size)=some 1)
 (hp:Pick H (row (Kd.scalar enc h1) W e (.slice (some ⟨g,0,none⟩) n cp) xs) H') (hi:i<xs.length)
 (h:O M.toMd rest E D (row (Kd.scalar enc h1) W e (.slice (some ⟨g,0,none⟩) n cp) (xs.set i u) :: H')):O M.toMd (⟨none,.store t x y,ty,pos,af,none⟩ :: rest) E D H:=
 oEffs rfl fun a w ha hw=>by
  obtain ⟨cs,ho,hr⟩:(row (Kd.scalar enc h1) W e (.slice (some ⟨g,0,none⟩) n cp) xs).q w:=hw.get hp
  have hcs:=Cat.scal.1 hr
  obtain ⟨hl,ho⟩:=ho
  rcases ho with ⟨e1,_⟩ | ⟨g',cap,cur,e1,_,hb,g2,g3,g4,g5⟩
  · injection e1 with e1 _ _;cases e1
  · injection e1 with e1 e2 e3
    injection e1 with e1;injection e1 with e1 _ _
    subst e1 e2 e3
    have hs1:(Kd.scalar enc h1).sz=1:=rfl
    rw [hs1] at g4 g5 hl
    have e1:elt g i 1 0=⟨g,i,none⟩:=by unfold elt;simp
    have hb':w.heap[g]?=some (.cells cur.toList.toArray e (0,0)):=by simpa using hb
    have hic:i<cur.toList.length:=by simp;omega
    have hrun:=run_store1 (P:=c.P) (t:=t) hb' hic hv (h1 u) hs
    refine ⟨w.setCell ⟨g,i,none⟩ (enc u),row (Kd.scalar enc h1) W e (.slice (some ⟨g,0,none⟩) xs.length cp) (xs.set i u) :: H',?_,hw.upd' hp ((Chg.setCell w ⟨g,i,none⟩ (enc u)).mono (fun k hk=>by subst hk;rfl)) ⟨(xs.set i u).map enc,?_,Cat.scal.2 rfl⟩ (fun k hk=>.inl hk),h⟩
    · simp [execOp,ha.op hx,ha.op hy,e1,hrun]
    · refine ⟨by simp [hs1],.inr ⟨g,cp,(cur.toList.set i (enc u)).toArray,by simp,Nat.zero_le _,set_heap hb',by simpa using g2,g3,by simp [hs1];omega,?_⟩⟩
      rw [hs1,List.length_set]
      show (cur.toList.set i (enc u)).take _=_
      rw [List.take_set,g5,hcs,List.map_set]
theorem oSliceTo {α:Type}{kd:Kd α}{W:World}{e e':TypeId}{A:Option Addr}{n cp m s:Nat}{xs:List α}(hx:E.op x=some (.slice A n cp)) (hy:E.op y=some (.int k (m:Int))) (hm:m≤n) (ht:elemT c.P t=some (e',s))
 (hp:Pick H (row kd W e (.slice A n cp) xs) H') (h:O M.toMd rest ((d,.slice A m cp) :: E) D (row kd W e (.slice A m cp) (xs.take m) :: H')) (hN:Nat.blt d c.N=true:=by rfl):O M.toMd (⟨some d,.slice t x none (some y) none,ty,pos,af,none⟩ :: rest) E D H:=
 oEff rfl hN fun a w ha hw=>by
  obtain ⟨cs,⟨hl,ho⟩,hr⟩:(row kd W e (.slice A n cp) xs).q w:=hw.get hp
  obtain ⟨h1,inf,h2,_⟩:=run_elemT ht
  have hmc:m≤cp:=by
   rcases ho with ⟨e1,e2⟩ | ⟨g,cap,cur,e1,_,hb,g2,_⟩
   · injection e1 with _ e1 e2;omega
   · injection e1 with _ e1 e2;omega
  refine ⟨_,w,_,?_,?_,h⟩
  · cases A <;> simp [execOp,ha.op hx,ha.op hy,Instr.sliceAt,Instr.slice,run_underlying h1,Instr.sliceBounds,Instr.sliceBound,asIntOf,hmc,sizeOf,typeInfo,h2,Addr.add]
  · refine hw.upd' hp (Chg.refl _ _) ?_ (fun k hk=>.inl (by cases A <;> exact hk))
    rcases ho with ⟨e1,e2⟩ | ⟨g,cap,cur,e1,g1,hb,g2,g3,g4,g5⟩
    · have hx0:xs=[]:=List.eq_nil_of_length_eq_zero e2
      injection e1 with e1 e3 e4
      subst e1 e3 e4 hx0
      obtain rfl:m=0:=by omega
      exact ⟨[],World.ownsRow_nil _ _ _ _,rfl⟩
    · injection e1 with e1 e3 e4
      subst e1 e3 e4
      refine ⟨cs.take (m * kd.sz),⟨?_,.inr ⟨g,cp,cur,?_,g1,hb,?_,g3,g4,?_⟩⟩,hr.take m⟩
      · rw [List.length_take,List.length_take,hl,Nat.min_eq_left hm,Nat.min_eq_left (Nat.mul_le_mul_right _ hm)]
      · rw [List.length_take,Nat.min_eq_left hm]
      · rw [List.length_take,Nat.min_eq_left hm];exact hmc
      · rw [List.length_take,Nat.min_eq_left hm,← g5,List.take_take,Nat.min_eq_left (Nat.mul_le_mul_right _ hm)]
end
end Go.Proofs.YtpmdhkjbhjgoaaaGreatK


/-
  A region that draws its order, once more: what is copied out of slots at any time; what only looks, in some order; then the others, one behind the other.
-/
namespace Go.Proofs.YtpmdhkjbhjgoaaaGreatK
open Go.RowKit
section
variable {P : Program} {ops : Array Oper} {md : Region.Mode} {w : World}
def sinkB' (md:Region.Mode) (ops:Array Oper) (l0:Array Bool) (n:Nat):Bool:=
  (List.range n).all fun i=>l0.getD i true || (List.range (n+1)).any fun j=>decide (i<j) && Region.waitsFor md ops j i && !(l0.getD j false)
theorem tail_waits' {n:Nat}{l0 listed:Array Bool}(hl:∀ i,listed.getD i true=false→l0.getD i true=false) (hs:sinkB' md ops l0 n=true) (hc:Region.chainB md ops n=true) (hn:n<ops.size) (inv:HeadInv md ops n listed) :
 ∀ (d i:Nat),n-i=d→i<n→listed.getD i true=false→∀ t,n≤t→t ∉ Region.ready md ops listed:=by
 intro d
 induction d using Nat.strongRecOn with
 | _ d ih=>
  intro i hd hi hun t ht hr
  obtain ⟨_,ot,hot,hall⟩:=mem_ready.1 hr
  have htlt:t<ops.size:=(Array.getElem?_eq_some_iff.1 hot).1
  by_cases htn:t=n
  · subst htn
    have h1:=List.all_eq_true.1 hs i (List.mem_range.2 hi)
    rw [hl i hun,Bool.false_or] at h1
    obtain ⟨j,hj,hj2⟩:=List.any_eq_true.1 h1
    simp only [Bool.and_eq_true,decide_eq_true_eq] at hj2
    obtain ⟨oj,hoj,e,he,hb,hon⟩:=Region.waitsFor_spec hj2.1.2
    have hjle:j≤t:=by have:=List.mem_range.1 hj;omega
    by_cases hjt:j=t
    · subst hjt
      have:oj=ot:=Option.some.inj (hoj.symm.trans hot)
      subst this
      have h2:=hall e he hb
      rw [hon,getD_both hun] at h2
      cases h2
    · cases hlj:listed.getD j false with
      | true=>
       have h2:=inv.closed j oj hoj hlj e he hb
       rw [hon,getD_both hun] at h2
       cases h2
      | false=>
       have hjs:j<listed.size:=by rw [inv.size];omega
       exact ih (t-j) (by omega) j rfl (by omega) (getD_in hjs hlj) t (Nat.le_refl _) hr
  · have h1:=List.all_eq_true.1 hc t (List.mem_range.2 htlt)
    simp only [Bool.or_eq_true,decide_eq_true_eq] at h1
    rcases h1 with h1 | h1
    · omega
    · obtain ⟨o',ho',e,he,hb,hon⟩:=Region.waitsFor_spec h1
      have:o'=ot:=Option.some.inj (ho'.symm.trans hot)
      subst this
      have h2:=hall e he hb
      rw [hon,getD_both (inv.tail (t-1) (by omega) (by omega))] at h2
      cases h2
theorem wpAnyL_first' {n i:Nat}{oi:Oper}{v:Value}{l0:Array Bool}{L:Array Bool→Act→Prop}(hi:ops[i]?=some oi) (hsel:∀ (j:Nat) (o:Oper) cs b,ops[j]?=some o→o.op≠.select cs b)
 (hs:sinkB' md ops l0 n=true) (hc:Region.chainB md ops n=true) (hn:n<ops.size) (hin:i<n)
 (hdone:∀ listed a,L listed a→∀ j ∈ Region.ready md ops listed,n≤j) :
 ∀ (f:Nat) (listed:Array Bool) (a:Act),(∀ i,listed.getD i true=false→l0.getD i true=false)→HeadInv md ops n listed→
  (∀ j oj,ops[j]?=some oj→j≠i→listed.getD j true=false→(∀ e ∈ oj.after,Region.binds md e=true→e.on≠i)→oi.apart ops oj=true)→
  i ∈ Region.ready md ops listed→YieldsAt P ops w oi v a→
  wpAnyL P md ops w n L f (listed.setIfInBounds i true) (a.put oi.dst v)→wpAnyL P md ops w n L (f+1) listed a:=by
 intro f
 induction f with
 | zero=>
  intro listed a hl inv _ hr hy H
  have hun:=(mem_ready.1 hr).1
  refine ⟨fun h=>(by rw [h] at hr;cases hr),fun j hj=>?_⟩
  have hjn:j<n:=by
   rcases Nat.lt_or_ge j n with h | h
   · exact h
   · exact absurd hj (tail_waits' hl hs hc hn inv _ i rfl hin hun j h)
  refine ⟨hjn,?_⟩
  by_cases hji:j=i
  · subst hji;exact hy.stOp hi H
  · have:=hdone _ _ H j (ready_mono hj hji)
    omega
 | succ f ih=>
  intro listed a hl inv hfree hr hy H
  have hun:=(mem_ready.1 hr).1
  refine ⟨fun h=>(by rw [h] at hr;cases hr),fun j hj=>?_⟩
  have hjn:j<n:=by
   rcases Nat.lt_or_ge j n with h | h
   · exact h
   · exact absurd hj (tail_waits' hl hs hc hn inv _ i rfl hin hun j h)
  refine ⟨hjn,?_⟩
  by_cases hji:j=i
  · subst hji;exact hy.stOp hi H
  · have h1:=(H.2 j (ready_mono hj hji)).2
    obtain ⟨hjun,oj,hoj,hall⟩:=mem_ready.1 hj
    have hnot:∀ e ∈ oj.after,Region.binds md e=true→e.on≠i:=fun e he hb heq=>by
     have h1:=hall e he hb
     rw [heq,getD_both hun] at h1
     cases h1
    have h2:=stOp_put hoj (hfree j oj hoj hji hjun hnot) (fun cs b=>hsel i oi cs b hi) (fun cs b=>hsel j oj cs b hoj) hy h1
    have hfree' : ∀ k ok, ops[k]? = some ok → k ≠ i → (listed.setIfInBounds j true).getD k true = false →
     (∀ e ∈ ok.after,Region.binds md e=true→e.on≠i)→oi.apart ops ok=true:=fun k ok hk hki hun hno=>by
     refine hfree k ok hk hki ?_ hno
     by_cases hjk:j=k
     · subst hjk;exact hjun
     · rw [getD_set_ne true hjk] at hun;exact hun
    have hl':∀ k,(listed.setIfInBounds j true).getD k true=false→l0.getD k true=false:=fun k hk=>by
     by_cases hjk:j=k
     · subst hjk;exact hl j hjun
     · rw [getD_set_ne true hjk] at hk;exact hl k hk
    refine stOp_mono (fun a' h3=>ih (listed.setIfInBounds j true) a' hl' (inv.set hj hjn) hfree' (ready_mono hr (Ne.symm hji)) h3.1 ?_) h2
    rw [Array.setIfInBounds_comm _ _ hji]
    exact h3.2
def lexG (md:Region.Mode) (ops:Array Oper) (n:Nat):List Nat→Array Bool→Bool
  | [],listed=>Region.seqB md ops (ops.size-n) n listed
  | k :: ks,listed=>decide (k<n) && (Region.ready md ops listed).contains k && Region.free md ops listed k && lexG md ops n ks (listed.setIfInBounds k true)
theorem wpAnyL_lexG {n:Nat}{l0:Array Bool}{Lq:Act→Prop}(hsel:Region.noSelect ops=true) (hs:sinkB' md ops l0 n=true) (hc:Region.chainB md ops n=true) (hn:n<ops.size) :
 ∀ (ks:List Nat) (l:List Oper) (listed:Array Bool) (a:Act),ks.mapM (fun k=>ops[k]?)=some l→(∀ i,listed.getD i true=false→l0.getD i true=false)→HeadInv md ops n listed→
 lexG md ops n ks listed=true→wpStill P ops w Lq l a→
 wpAnyL P md ops w n (fun listed' a'=>Region.seqB md ops (ops.size-n) n listed'=true∧Lq a') ks.length listed a
 | [],l,listed,a,hk,hl,inv,hB,h=>by
  simp at hk
  subst hk
  exact ⟨hB,h⟩
 | k :: ks,l,listed,a,hk,hl,inv,hB,h=>by
  rw [List.mapM_cons] at hk
  cases h0:ops[k]? with
  | none=>rw [h0] at hk;simp at hk
  | some o=>
   rw [h0] at hk
   cases hks:ks.mapM (fun k=>ops[k]?) with
   | none=>rw [hks] at hk;simp at hk
   | some l'=>
    rw [hks] at hk
    simp at hk
    subst hk
    simp only [lexG,Bool.and_eq_true,decide_eq_true_eq] at hB
    obtain ⟨⟨⟨hkn,hr⟩,hf⟩,hB'⟩:=hB
    have hr':k ∈ Region.ready md ops listed:=by simpa using hr
    have hst:stOp P ops w k (wpStill P ops w Lq l') a:=by unfold stOp;simp only [h0];exact h
    obtain ⟨v,hy,hK⟩:=yieldsAt_of_stOp h0 hst
    have hl':∀ i,(listed.setIfInBounds k true).getD i true=false→l0.getD i true=false:=fun i hi=>by
     by_cases hjk:k=i
     · subst hjk;exact hl k (mem_ready.1 hr').1
     · rw [getD_set_ne true hjk] at hi;exact hl i hi
    exact wpAnyL_first' h0 (Region.noSelect_spec hsel) hs hc hn hkn (fun listed' a' hL=>seqB_ready hL.1) ks.length listed a hl inv (Region.free_spec h0 hf) hr' hy
     (wpAnyL_lexG hsel hs hc hn ks l' _ _ hks hl' (inv.set hr' hkn) hB' hK)
def preB (md:Region.Mode) (ops:Array Oper) (n:Nat):List Nat→Array Bool→Option (Array Bool)
  | [],listed=>some listed
  | k :: ks,listed=>match ops[k]? with
    | some ⟨some _,.move _,_,_,_,none⟩=>bif decide (k<n) && (Region.ready md ops listed).contains k && Region.free md ops listed k then preB md ops n ks (listed.setIfInBounds k true) else none
    | _=>none
def preE (ops:Array Oper):List Nat→Env→Option Env
  | [],E=>some E
  | k :: ks,E=>match ops[k]? with
    | some ⟨some d,.move x,_,_,_,none⟩=>match E.op x with
      | some v=>preE ops ks ((d,v) :: E)
      | none=>none
    | _=>none
theorem pre_take {n:Nat}{Q':Exit→Act→World→Prop}(hsel:Region.noSelect ops=true) (hQ:∀ c a w,¬ Q' (.panic c) a w) {N:Nat}{D:List Deferred}(hN:ops.all (fun o=>o.dst.all fun d=>Nat.blt d N)=true):∀ (ks:List Nat) (listed l1:Array Bool) (E E':Env) (a:Act) (f:Nat),Ok N E D a→preB md ops n ks listed=some l1→preE ops ks E=some E'→HeadInv md ops n listed→
 (∀ a',Ok N E' D a'→HeadInv md ops n l1→wpAny P md ops Q' f l1 a' w)→wpAny P md ops Q' (ks.length+f) listed a w
 | [],listed,l1,E,E',a,f,ha,hb,he,inv,h=>by
  simp only [preB,Option.some.injEq] at hb
  simp only [preE,Option.some.injEq] at he
  subst hb he
  rw [List.length_nil,Nat.zero_add]
  exact h a ha inv
 | k :: ks,listed,l1,E,E',a,f,ha,hb,he,inv,h=>by
  simp only [preB] at hb
  simp only [preE] at he
  split at hb
  · rename_i d x ty pos af hk
    rw [hk] at he
    simp only [] at he
    split at he
    · rename_i v hv
      cases hcond:(decide (k<n) && (Region.ready md ops listed).contains k && Region.free md ops listed k) with
      | false=>rw [hcond] at hb;cases hb
      | true=>
       rw [hcond] at hb
       simp only [cond_true] at hb
       simp only [Bool.and_eq_true,decide_eq_true_eq] at hcond
       obtain ⟨⟨hkn,hr⟩,hf⟩:=hcond
       have hr':k ∈ Region.ready md ops listed:=by simpa using hr
       have hd:Nat.blt d N=true:=by
        have hm:=Array.all_eq_true.1 hN k (Array.getElem?_eq_some_iff.1 hk).1
        rw [Array.getElem?_eq_getElem (Array.getElem?_eq_some_iff.1 hk).1] at hk
        rw [Option.some.inj hk] at hm
        simpa using hm
       rw [List.length_cons,show ks.length+1+f=(ks.length+f)+1 by omega]
       refine wpAny_take (v:=v) hk hsel hf hr (fun c a w h=>(hQ c _ _ h).elim) (.inl ⟨rfl,fun w=>by simp [execOp,ha.fit.op hv]⟩) ?_
       exact pre_take hsel hQ hN ks _ l1 _ E' _ f (ha.put hd) hb he (inv.set hr' hkn) h
    · cases he
  · cases hb
end
section
variable {c : Cx} {Q : Post} {E E' : Env} {D : List Deferred} {H : List Res}
def drawB (ops:Array Oper) (N:Nat) (ps ks:List Nat) (n:Nat):Bool:=
  Region.noSelect ops && decide (n<ops.size) && ops.all (fun o=>o.dst.all fun d=>Nat.blt d N) && Nat.beq (ps.length+ks.length) n && Region.chainB .any ops n &&
    match preB .any ops n ps (Array.replicate ops.size false) with
    | some l1=>sinkB' .any ops l1 n && lexG .any ops n ks l1
    | none=>false
theorem wDraw2 (hF:c.F=Fence.wide) (hm:c.P.follows .mixedOrders=true) {id:Nat}{l hd:List Oper}(ps ks:List Nat) (n:Nat) (hB:drawB l.toArray c.N ps ks n=true) (hE:preE l.toArray ps E=some E') (hk:ks.mapM (fun k=>l[k]?)=some hd) {tl:List Oper}(htl:l.drop n=tl)
 (h:∀ w0,O (Md.head c l.toArray w0 tl Q) hd E' D H):W c (.region id l.toArray true) Q E D H:=by
 subst htl
 intro a w ha hw
 rw [hF]
 refine wpIn_wide.2 ?_
 refine wp_region_any hm ?_
 simp only [drawB,Bool.and_eq_true,decide_eq_true_eq,Nat.beq_eq] at hB
 obtain ⟨⟨⟨⟨⟨hsel,hn⟩,hN⟩,hlen⟩,hc⟩,hB⟩:=hB
 split at hB
 · rename_i l1 hl1
   simp only [Bool.and_eq_true] at hB
   obtain ⟨hs,hlex⟩:=hB
   have inv0:HeadInv .any l.toArray n (Array.replicate l.toArray.size false):=
    ⟨by simp,fun j oj _ hl=>(by rw [getD_replicate_false] at hl;cases hl),fun t _ ht=>getD_in (by simpa using ht) (getD_replicate_false _ _)⟩
   have hn':n<l.length:=by simpa using hn
   have htot:l.toArray.size=ps.length+(ks.length+(l.toArray.size-n)):=by omega
   have hgo:wpAny c.P .any l.toArray (lift c Q) (ps.length+(ks.length+(l.toArray.size-n))) (Array.replicate l.toArray.size false) a w.drew:=by
    refine pre_take (D:=D) hsel (fun c a w ⟨E,D,H,h1,h2,h3,h4⟩=>h4) hN ps _ l1 E E' a (ks.length+(l.toArray.size-n)) ha hl1 hE inv0 (fun a' ha' inv1=>?_)
    have hks:ks.mapM (fun k=>l.toArray[k]?)=some hd:=by simpa using hk
    have H1:=wpAnyL_lexG (md:=.any) (w:=w.drew) (Lq:=fun a'=>wpList c.P l.toArray (lift c Q) (l.drop n) a' w.drew) hsel hs hc hn ks hd l1 a' hks (fun i hi=>hi) inv1 hlex (h w.drew a' w.drew ha' hw.drew rfl)
    refine wpAny_of_head (Q':=lift c Q) (g:=l.toArray.size-n) (fun listed a' hL=>?_) _ _ _ H1
    have hdl:(l.drop n).length=l.toArray.size-n:=by simp
    have:=wpAny_of_seq (md:=.any) (Q':=lift c Q) (l.drop n) n listed a' w.drew (fun j=>by simp [List.getElem?_drop]) (by rw [hdl];exact hL.1) hL.2
    rwa [hdl] at this
   rw [htot]
   rw [← htot] at hgo ⊢
   exact hgo
 · cases hB
end
end Go.Proofs.YtpmdhkjbhjgoaaaGreatK


/-
  A region that draws its order, with a new variable that waits for nothing amid what only looks: it may be drawn at any time ahead of the store.
-/
namespace Go.Proofs.YtpmdhkjbhjgoaaaGreatK
open Go.RowKit
section
def Stab (P:Program) {α:Type}(s:Sem α):Prop:=∀ (w:World) (o:Obj) (v:α) (w':World),s.run P w=.ok v w'→w'=w∧s.run P (w.alloc o)=.ok v (w.alloc o)
variable {P : Program}
theorem Stab.pure {α:Type}(a:α):Stab P (Pure.pure a:Sem α):=fun w o v w' h=>by
 simp only [Sem.run_pure,Result.ok.injEq] at h ⊢
 exact ⟨h.2.symm,h.1,trivial⟩
theorem Stab.halt {α:Type}(x:Halt):Stab P (Sem.halt x:Sem α):=fun w o v w' h=>by
 simp [Sem.run] at h
theorem Stab.bind {α β:Type}{s:Sem α}{f:α→Sem β}(h:Stab P s) (hf:∀ a,Stab P (f a)):Stab P (s >>= f):=fun w o v w' hr=>by
 rw [Sem.run_bind] at hr ⊢
 cases hs:s.run P w with
 | halt x w1=>rw [hs] at hr;simp [Result.andThen] at hr
 | ok a w1=>
  rw [hs,Result.andThen_ok] at hr
  obtain ⟨rfl,h2⟩:=h w o a w1 hs
  rw [h2,Result.andThen_ok]
  exact hf a _ o v w' hr
theorem alloc_old (w:World) (o:Obj) {b:Nat}{x:Obj}(h:w.heap[b]?=some x):(w.alloc o).heap[b]?=some x:=by
 have hb:b<w.heap.size:=(Array.getElem?_eq_some_iff.1 h).1
 show (w.heap.push o)[b]?=_
 rw [Array.getElem?_push_lt hb,← h,Array.getElem?_eq_getElem hb]
theorem seen_none {p:Program}{w:World}{a:Addr}{u:TypeId}{k:Addr}{at_:Bool}(h:w.heap[a.block]?=none) {r} : w.seen p a u k at_≠.ok r:=by
 unfold World.seen
 rw [h]
 intro hr
 simp only [bind,Except.bind,throw,throwThe,MonadExceptOf.throw,pure,Except.pure] at hr
 repeat' split at hr
 all_goals first | cases hr | skip
 all_goals (repeat' split at hr) 
 all_goals first | cases hr | skip
theorem viewLoad_alloc {p:Program}{w:World}{a:Addr}{u:TypeId}{k:Addr}{at_:Bool}{r} (h:w.viewLoad p a u k at_=.ok r) (o:Obj):(w.alloc o).viewLoad p a u k at_=.ok r:=by
 cases hb:w.heap[a.block]? with
 | none=>
  unfold World.viewLoad at h
  cases hs:w.seen p a u k at_ with
  | ok x=>exact (seen_none hb hs).elim
  | error e=>rw [hs] at h;simp [bind,Except.bind] at h
 | some x=>
  rw [← h]
  unfold World.viewLoad World.seen
  rw [alloc_old w o hb,hb]
theorem Stab.load (a:Addr):Stab P (Go.load a):=fun w o v w' h=>by
 simp only [Go.load,Sem.run] at h ⊢
 cases hc:w.cell? a with
 | some u=>
  rw [hc] at h
  simp only [Result.ok.injEq] at h
  obtain ⟨rfl,rfl⟩:=h
  have:(w.alloc o).cell? a=some u:=by
   unfold World.cell? at hc ⊢
   cases hb:w.heap[a.block]? with
   | none=>rw [hb] at hc;cases hc
   | some x=>rw [alloc_old w o hb];rw [hb] at hc;exact hc
  rw [this]
  exact ⟨rfl,rfl⟩
 | none=>
  rw [hc] at h
  simp only [] at h
  split at h
  · rename_i v1 l1 hf
    simp only [Sem.run,Result.ok.injEq] at h
    obtain ⟨rfl,rfl⟩:=h
    unfold World.farLoad at hf
    cases hb:w.heap[a.block]? with
    | none=>rw [hb] at hf;cases hf
    | some x=>
     have hc':(w.alloc o).cell? a=none:=by
      unfold World.cell? at hc ⊢
      rw [alloc_old w o hb];rw [hb] at hc;exact hc
     rw [hc']
     refine ⟨rfl,?_⟩
     have hf':(w.alloc o).farLoad P a (Mode.plain == .atomic)=.ok (v1,l1):=by
      unfold World.farLoad
      rw [alloc_old w o hb]
      rw [hb] at hf
      cases x with
      | view at1 u=>
       simp only [] at hf ⊢
       cases hvl:w.viewLoad P at1 u a (Mode.plain == .atomic) with
       | ok r=>rw [viewLoad_alloc hvl o];rw [hvl] at hf;exact hf
       | error e=>rw [hvl] at hf;cases hf
      | _=>simp at hf
     rw [hf']
  · cases h
theorem Stab.program:Stab P Go.program:=fun w o v w' h=>by
 simp only [Go.program,Sem.run,Result.ok.injEq] at h ⊢
 exact ⟨h.2.symm,h.1,trivial⟩
theorem Stab.stuck {α:Type}(s:String):Stab P (Go.stuck s:Sem α):=Stab.halt _
theorem Stab.unsupported {α:Type}(s:Unsupported):Stab P (Go.unsupported s:Sem α):=Stab.halt _
theorem Stab.never {α:Type}{s:Sem α}(h:∀ w v w',s.run P w≠.ok v w'):Stab P s:=fun w o v w' hr=>(h w v w' hr).elim
theorem Stab.typeInfo (t:TypeId):Stab P (Go.typeInfo t):=by
 unfold Go.typeInfo
 refine .bind .program fun p=>?_
 split
 · exact .pure _
 · exact .stuck _
theorem Stab.underlying (t:TypeId):Stab P (Go.underlying t):=by
 unfold Go.underlying
 refine .bind .program fun p=>?_
 split
 · exact .pure _
 · exact .stuck _
theorem Stab.sizeOf (t:TypeId):Stab P (Go.sizeOf t):=.bind (.typeInfo t) fun _=>.pure _
theorem Stab.isAgg (t:TypeId):Stab P (Go.isAgg t):=by
 unfold Go.isAgg
 refine .bind (.underlying t) fun p=>?_
 split <;> exact .pure _
theorem Stab.loadCellsFrom (a:Addr):∀ (n i:Nat) (acc:Array Value),Stab P (Go.loadCellsFrom a i n acc)
 | 0,_,_=>.pure _
 | n+1,i,acc=>.bind (.load _) fun _=>Stab.loadCellsFrom a n _ _
theorem Stab.loadVar (t:TypeId) (a:Addr):Stab P (Go.loadVar t a):=by
 unfold Go.loadVar
 refine .bind (.isAgg t) fun b=>?_
 split
 · exact .bind (.sizeOf t) fun n=>.bind (.loadCellsFrom a _ _ _) fun _=>.pure _
 · exact .load _
theorem Stab.sureAddr (v:Value):Stab P (Instr.sureAddr v):=by
 unfold Instr.sureAddr
 split
 · exact .pure _
 · exact .stuck _
theorem Stab.asIntOf (v:Value):Stab P (Go.asIntOf v):=by
 unfold Go.asIntOf
 split
 · exact .pure _
 · exact .unsupported _
 · exact .stuck _
theorem runtimePanic_bounds {α:Type}(x y:Int) (s:Bool) (c:BoundsCode) (w:World) (v:α) (w':World):(Go.runtimePanic (.bounds x y s c):Sem α).run P w≠.ok v w':=by
 simp [Go.runtimePanic,Go.program,Sem.run,Sem.run_bind,goPanic,Result.andThen]
theorem never_bind {α β:Type}{s:Sem α}{f:α→Sem β}(hf:∀ a w v w',(f a).run P w≠.ok v w') (w:World) (v:β) (w':World):(s >>= f).run P w≠.ok v w':=by
 rw [Sem.run_bind]
 cases s.run P w with
 | halt x w1=>simp [Result.andThen]
 | ok a w1=>exact hf a w1 v w'
theorem Stab.boundsPanic {α:Type}(k:IntKind) (x y:Int) (c:BoundsCode):Stab P (Go.boundsPanic k x y c:Sem α):=.never fun w v w'=>by
 unfold Go.boundsPanic
 split
 · exact never_bind (fun a w v w'=>runtimePanic_bounds _ _ _ _ _ _ _) w v w'
 · exact never_bind (fun a w v w'=>runtimePanic_bounds _ _ _ _ _ _ _) w v w'
theorem Stab.indexAt (t:TypeId) (x i:Value):Stab P (Instr.indexAt t x i):=by
 unfold Instr.indexAt
 repeat' (first | exact Stab.pure _ | exact Stab.stuck _ | exact Stab.unsupported _ | exact Stab.boundsPanic _ _ _ _ | exact Stab.sizeOf _ | exact Stab.underlying _ | exact Stab.sureAddr _ | exact Stab.asIntOf _ | exact Stab.loadVar _ _ | exact Stab.typeInfo _ | refine Stab.bind ?_ (fun _=>?_) | split | dsimp only)
theorem Stab.loadAt (t:TypeId) (x:Value):Stab P (Instr.loadAt t x):=by
 unfold Instr.loadAt
 repeat' (first | exact Stab.pure _ | exact Stab.stuck _ | exact Stab.unsupported _ | exact Stab.boundsPanic _ _ _ _ | exact Stab.sizeOf _ | exact Stab.underlying _ | exact Stab.sureAddr _ | exact Stab.asIntOf _ | exact Stab.loadVar _ _ | exact Stab.typeInfo _ | refine Stab.bind ?_ (fun _=>?_) | split | dsimp only)
theorem Stab.extract (t:Value) (i:Nat):Stab P (Instr.extract t i):=by
 unfold Instr.extract
 repeat' (first | exact Stab.pure _ | exact Stab.stuck _ | exact Stab.unsupported _ | exact Stab.boundsPanic _ _ _ _ | exact Stab.sizeOf _ | exact Stab.underlying _ | exact Stab.sureAddr _ | exact Stab.asIntOf _ | exact Stab.loadVar _ _ | exact Stab.typeInfo _ | refine Stab.bind ?_ (fun _=>?_) | split | dsimp only)
def fieldB (P:Program) (s:TypeId) (j:Nat):Bool:=match P.underlying s with
  | some (.struct fs)=>match fs[j]? with
    | some f=>match P.info? f.type with
      | some i=>!(Nat.beq i.size 0)
      | none=>false
    | none=>false
  | _=>false
theorem Stab.fieldAt {s:TypeId}{j:Nat}(h:fieldB P s j=true) (x:Value):Stab P (Instr.fieldAt s x j):=by
 intro w o v w'
 unfold fieldB at h
 split at h
 · rename_i fs hu
   split at h
   · rename_i f hf
     split at h
     · rename_i i hi
       have hsz:i.size≠0:=by intro h0;rw [h0] at h;simp at h
       cases x with
       | pointer a=>
        cases a with
        | none=>simp [Instr.fieldAt,run_underlying hu,hf,Instr.sureAddr,stuck,Sem.run,Result.andThen,Sem.run_bind]
        | some a=>
         simp [Instr.fieldAt,run_underlying hu,hf,Instr.sureAddr,fieldPlace,Go.sizeOf,Go.typeInfo,hi,hsz]
         rintro rfl rfl;exact ⟨rfl,rfl⟩
       | _=>simp [Instr.fieldAt,run_underlying hu,hf,Instr.sureAddr,stuck,Sem.run,Result.andThen,Sem.run_bind]
     · cases h
   · cases h
 · cases h
end
section
variable {P : Program} {ops ops' : Array Oper} {md : Region.Mode} {w w1 : World} {n dn g : Nat} {on : Oper} {v : Value} {Q' : Exit → Act → World → Prop}
end
section
variable {c : Cx} {Q : Post} {E E' : Env} {D : List Deferred} {H : List Res}
end
end Go.Proofs.YtpmdhkjbhjgoaaaGreatK


/-
  Rows that are only read from now on; calls that read what the walk owns.
-/
namespace Go.Proofs.YtpmdhkjbhjgoaaaGreatK
open Go.RowKit
section
variable {c : Cx} {N : Md c} {M : Me c} {d : Nat} {ty : TypeId} {pos : String} {af : Array Edge} {rest : List Oper} {E : Env} {D : List Deferred} {H H' H'' : List Res} {v : Value} {x y z : Operand} {k : IntKind} {t t' : TypeId}
variable {B : Base} {w w' : World} {Φ Φ' Φ'' Ψ : List Res} {P : Program} {α : Type} {kd : Kd α} {W : World} {S : Nat → Prop} {A : Option Addr} {xs : List α}

theorem frame' {ι:Type}{inv:ι→Prop}{val:ι→Value}{post:ι→List Res}{g:FuncId}{args:Array Value}(hS:St B Φ w) (hs:Split Φ Ψ Φ') (h:∀ B',Grow B.e B'.e→(∀ r Φ'',Pick Φ' r Φ''→r.q B'.e)→St B' Ψ w→CallsIn Fence.wide 0 P g args w (Ret B' inv val post)) :
 CallsIn Fence.wide 0 P g args w (Ret B inv val (fun i=>post i++Φ')):=by
 have hS':=hS.perm hs.perm
 refine (h (B.call w Ψ) hS'.egrow (fun r Φ'' hp=>?_) hS'.lend).mono ?_
 · obtain ⟨h1,h2⟩:=(Sep.all _ _ _).1 hS'.sep
   refine r.st w _ (h1 r (List.mem_append_right _ hp.mem)).1 (fun k hk=>?_)
   rw [Base.e_heap,if_neg]
   · rfl
   · rintro ⟨s,hs,hsk⟩
     exact (List.pairwise_append.1 h2).2.2 s hs r hp.mem k hsk hk
 · rintro e w' ⟨i,hi,he,hw⟩
   exact ⟨i,hi,he,hS'.give hw⟩
def rdr (W:World) (S:Nat→Prop) (kd:Kd α) (A:Option Addr) (xs:List α):Res where
  fp:=S
  q w:=(∀ k,S k→k<w.heap.size)∧∀ w',Grow W w'→(∀ k,S k→w'.heap[k]?=w.heap[k]?)→kd.C w' A xs
  inb w h k hk:=h.1 k hk
  st w w' h hk:=⟨fun k hs=>by
    have h1:=h.1 k hs
    have h2:=hk k hs
    rw [Array.getElem?_eq_getElem h1] at h2
    exact (Array.getElem?_eq_some_iff.1 h2).1,fun w2 g h2=>h.2 w2 g (fun k hs=>(h2 k hs).trans (hk k hs))⟩
theorem rdr_C (h:(rdr W S kd A xs).q w) (g:Grow W w):kd.C w A xs:=h.2 w g (fun _ _=>rfl)
theorem row_rdr {W0 W:World}{e:TypeId}{n cp:Nat}(hp:Pick Φ (row kd W0 e (.slice A n cp) xs) Φ') (hg:∀ w x cs,kd.K W0 x cs→kd.K w x cs):Leads B Φ (rdr W (fun k=>(Value.slice A n cp).ownBlock=some k) kd A xs :: Φ'):=fun w h=>
  (h.perm hp.perm).conv .here (fun hq=>⟨fun k hk=>(row kd W0 e (.slice A n cp) xs).inb w hq k hk,fun w' _ hs=>by
    have hq':=(row kd W0 e (.slice A n cp) xs).st w w' hq hs
    obtain ⟨cs,ho,hr⟩:=hq'
    have hr':Cat kd w' xs cs:=by
      clear ho hq hp
      induction xs generalizing cs with
      | nil=>exact hr
      | cons x xs ih=>obtain ⟨a,rest,e,hK,hR⟩:=hr;exact ⟨a,rest,e,hg _ _ _ hK,ih rest hR⟩
    exact (row_C (kd:=kd) (W:=w') (e:=e) (n:=n) (cp:=cp) ⟨cs,ho,hr'⟩ (Grow.refl _)).2.2.1⟩) (fun k hk=>hk)
@[irreducible] def elx (a:Addr) (i s k:Nat):Addr:=a.add (i * s+k)
theorem elx_add (a:Addr) (i s k j:Nat):(elx a i s k).add j=elx a i s (k+j):=by unfold elx;rw [Addr.add_add,Nat.add_assoc]
theorem oFldD {g:Addr}{i s j l n m:Nat}(hx:E.op x=some (.pointer (some (elx g i s l)))) (hf:fplace c.P t j=some n) (hm:l+n=m) (h:O N rest ((d,.pointer (some (elx g i s m))) :: E) D H) (hN:Nat.blt d c.N=true:=by rfl):O N (⟨some d,.fieldAddr t x j,ty,pos,af,none⟩ :: rest) E D H:=
 oC _ rfl hN (fun u w ha hw=>by simp [execOp,ha.op hx,run_fieldAt hf,elx_add,hm]) h
end
end Go.Proofs.YtpmdhkjbhjgoaaaGreatK


/-
  What came in, opened by its kind: a reading of an argument's cells gives a value of the kind, and what is well-formed of it.
-/
namespace Go.Proofs.YtpmdhkjbhjgoaaaGreatK
open Go.RowKit Go.ChangeShapes Go.WideShapes
variable {P : Program}

structure Opens (P:Program) (t:TypeId) {α:Type}(d:Kd α) (V:α→Prop):Prop where
  get:∀ {H:Type}(enc:TypeId×Value→H) (w:World) (base:Nat) (held:Bool) (fuel:Nat) (cs:List Value) (x:DataW H×List MemPlace),DataW.trod enc P w base (fun _=>true) held fuel t cs=some x→∃ a,d.K w a cs∧V a

theorem Opens.weak {t:TypeId}{α:Type}{d:Kd α}{V V':α→Prop}(h:Opens P t d V) (hv:∀ a,V a→V' a):Opens P t d V':=⟨fun enc w base held fuel cs x hx=>by
 obtain ⟨a,hK,hV⟩:=h.get enc w base held fuel cs x hx
 exact ⟨a,hK,hv a hV⟩⟩
theorem opens_int {t:TypeId}{k:IntKind}(ht:P.underlying t=some (.int k)):Opens P t (Kd.int k) (fun n=>(Lit.int k n).wf=true):=by
 constructor
 intro H enc w base held fuel cs x h
 cases fuel with
 | zero=>simp [DataW.trod] at h
 | succ n=>
  unfold DataW.trod at h
  rw [ht] at h
  split at h <;> simp_all
  rename_i k' n' _
  obtain ⟨⟨rfl,hw⟩,_⟩:=h
  exact ⟨n',rfl,hw⟩
theorem opens_i64 {t:TypeId}(ht:P.underlying t=some (.int .i64)):Opens P t (Kd.int .i64) in64:=(opens_int ht).weak (fun n h=>by
 simp only [Lit.wf,Bool.and_eq_true,decide_eq_true_eq] at h
 exact ⟨h.1,h.2⟩)
theorem opens_bool {t:TypeId}(ht:P.underlying t=some .bool):Opens P t Kd.bool (fun _=>True):=by
 constructor
 intro H enc w base held fuel cs x h
 cases fuel with
 | zero=>simp [DataW.trod] at h
 | succ n=>
  unfold DataW.trod at h
  rw [ht] at h
  split at h <;> simp_all
  rename_i b _
  cases b <;> simp [Kd.bool,Kd.scalar]
theorem opens_string {t:TypeId}(ht:P.underlying t=some .string):Opens P t Kd.string (fun s=>s.size≤maxLen):=by
 constructor
 intro H enc w base held fuel cs x h
 cases fuel with
 | zero=>simp [DataW.trod] at h
 | succ n=>
  unfold DataW.trod at h
  rw [ht] at h
  split at h <;> simp_all
  exact ⟨_,rfl,h.1⟩
theorem list_of {α:Type}{Q:Nat→α→Prop} : ∀ (m:Nat),(∀ i,i<m→∃ y,Q i y)→∃ ys:List α,ys.length=m∧∀ i y,ys[i]?=some y→Q i y
 | 0,_=>⟨[],rfl,fun i y h=>by simp at h⟩
 | m+1,h=>by
  obtain ⟨ys,hl,hy⟩:=list_of m (fun i hi=>h i (by omega))
  obtain ⟨y,hq⟩:=h m (by omega)
  refine ⟨ys++[y],by simp [hl],fun i z hz=>?_⟩
  rcases Nat.lt_or_ge i ys.length with hi | hi
  · rw [List.getElem?_append_left hi] at hz;exact hy i z hz
  · rw [List.getElem?_append_right hi] at hz
    have:i=m:=by
     have:=(List.getElem?_eq_some_iff.1 hz).1
     simp at this;omega
    subst this
    rw [hl] at hz
    simp at hz
    subst hz
    exact hq
theorem opens_slice {t e:TypeId}{α:Type}{d:Kd α}{V:α→Prop}(ht:P.underlying t=some (.slice e)) (hc:P.cellsOf e=d.sz) (he:Opens P e d V):Opens P t (Kd.slice d) (fun xs=>xs.length≤maxLen∧∀ x ∈ xs,V x):=by
 constructor
 intro H enc w base held fuel cs x h
 rcases Go.Deep.open_slice ht h with ⟨rfl,_⟩ | ⟨a,len,cap,m,n,D,Pl,rfl,hb,hl,hm,hmm,rfl,hx⟩
 · exact ⟨[],⟨none,0,rfl,Nat.le_refl _,Kd.C_nil _ _ _⟩,by simp,by simp⟩
 · simp only [if_true] at hmm
   subst hmm
   have each:∀ i,i<m→∃ y:α,(∃ c,c.length=d.sz∧d.K w y c∧∀ j u,c[j]?=some u→w.cell? (a.add (i * d.sz+j))=some u)∧V y:=by
    intro i hi
    obtain ⟨cs',h1,h2⟩:=hx i hi
    obtain ⟨y,hK,hV⟩:=he.get enc w base held n cs' _ h2
    obtain ⟨_,h3,h4⟩:=World.cells?_some h1
    refine ⟨y,⟨cs',d.K_len hK,hK,fun j u hu=>?_⟩,hV⟩
    have hj:j<P.cellsOf e:=by rw [← h3];exact (List.getElem?_eq_some_iff.1 hu).1
    have:=h4 j hj
    rw [Go.Deep.add_add,hc,hu] at this
    exact this
   obtain ⟨ys,hlen,hy⟩:=list_of m each
   have hml:maxLen=9223372036854775807:=rfl
   have htl:(ys.take len).length=len:=by rw [List.length_take];omega
   refine ⟨ys.take len,⟨some a,m,by rw [htl],by omega,by omega,fun _=>⟨a,rfl,fun j p hj=>?_⟩⟩,by omega,fun z hz=>?_⟩
   · have hj2 : ys[j]? = some p := by
      have hjl:=(List.getElem?_eq_some_iff.1 hj).1
      rw [List.getElem?_take] at hj;split at hj
      · exact hj
      · cases hj
     obtain ⟨c,_,h1,h2⟩:=(hy j p hj2).1
     exact ⟨c,h1,h2⟩
   · obtain ⟨j,hj⟩:=List.getElem?_of_mem (List.mem_of_mem_take hz)
     exact (hy j z hj).2

structure OpensF (P:Program) (fs:List Field) (o tot:Nat) {α:Type}(d:Kd α) (V:α→Prop):Prop where
  get:∀ {H:Type}(enc:TypeId×Value→H) (w:World) (base:Nat) (held:Bool) (fuel:Nat) (cs:List Value),cs.length=tot→
    (∀ f ∈ fs,∃ x,DataW.trod enc P w base (fun _=>true) held fuel f.type ((cs.drop f.offset).take (P.cellsOf f.type))=some x)→∃ a,d.K w a (cs.drop o)∧V a
theorem opensF_one {f:Field}{o tot:Nat}{α:Type}{d:Kd α}{V:α→Prop}(h:Opens P f.type d V) (ho:f.offset=o) (ht:o+P.cellsOf f.type=tot):OpensF P [f] o tot d V:=by
 constructor
 intro H enc w base held fuel cs hl hf
 obtain ⟨x,hx⟩:=hf f (by simp)
 rw [ho,List.take_of_length_le (by simp;omega)] at hx
 exact h.get enc w base held fuel _ x hx
theorem opensF_cons {f:Field}{fs:List Field}{o tot:Nat}{α β:Type}{d:Kd α}{V:α→Prop}{d':Kd β}{V':β→Prop}(h:Opens P f.type d V) (ho:f.offset=o) (hs:OpensF P fs (o+P.cellsOf f.type) tot d' V') :
 OpensF P (f :: fs) o tot (Kd.pair d d') (fun p=>V p.1∧V' p.2):=by
 constructor
 intro H enc w base held fuel cs hl hf
 obtain ⟨x,hx⟩:=hf f (by simp)
 obtain ⟨a,hK,hV⟩:=h.get enc w base held fuel _ x hx
 obtain ⟨b,hK',hV'⟩:=hs.get enc w base held fuel cs hl (fun g hg=>hf g (List.mem_cons_of_mem _ hg))
 refine ⟨(a,b),⟨_,_,?_,hK,hK'⟩,hV,hV'⟩
 rw [ho,← List.drop_drop,List.take_append_drop]
theorem opens_struct {t:TypeId}{fs:Array Field}{α β:Type}{d:Kd α}{V:α→Prop}{g:β→α}(b:α→β) (hb:∀ a,g (b a)=a) (ht:P.underlying t=some (.struct fs)) (h:OpensF P fs.toList 0 (P.cellsOf t) d V):Opens P t (Kd.iso d g) (fun x=>V (g x)):=by
 constructor
 intro H enc w base held fuel cs x hx
 obtain ⟨xs,m,_,rfl,hl,hlen,hf⟩:=DataW.trod_struct ht hx
 obtain ⟨a,hK,hV⟩:=h.get enc w base held m cs hl (fun f hfm=>by
  obtain ⟨i,hi⟩:=List.getElem?_of_mem hfm
  have h1:=hf i f (by simpa using hi)
  have hlt:i<xs.length:=by
   have:=(List.getElem?_eq_some_iff.1 hi).1
   rw [hlen];simpa using this
  rw [List.getElem?_eq_getElem hlt] at h1
  exact ⟨_,h1⟩)
 exact ⟨b a,by show d.K w (g (b a)) cs;rw [hb];exact hK,by show V (g (b a));rw [hb];exact hV⟩
theorem law_of {P:Program}{f:FuncId}{args:Array Value}{W:World}(h:CallsIn Fence.wide 0 P f args W (Ret (Base.at W) (fun _:Unit=>True) (fun _=>.bool true) (fun _=>[]))):Calls P f args W (fun e w'=>e=.returned (.bool true)∧Below W.heap.size W w'):=
 Calls.mono (callsIn_wide.1 h) (by rintro e w' ⟨_,_,rfl,hS⟩;exact ⟨rfl,Base.at_below hS.ok⟩)
end Go.Proofs.YtpmdhkjbhjgoaaaGreatK
namespace Go.Proofs.YtpmdhkjbhjgoaaaGreatK
open Go.RowKit
/-! ### said short -/
theorem J {α:Sort _}{a:α} : a=a:=rfl
theorem ZP {P:Prop}(h:P:=by repeat constructor):P:=h
theorem ZQ {P:Prop}(h:P:=by repeat' constructor):P:=h
theorem ZK {P:Prop}(h:P:=by kernel_rfl):P:=h
theorem ZO {P:Prop}(h:P:=by omega):P:=h
theorem cv {E E':Env}(h:Cov E E':=by repeat (first | exact trivial | refine And.intro rfl ?_)):Cov E E':=h
theorem Lh {B:Base}{H H':List Res}(h:Has H H':=by repeat' constructor):Leads B H H':=Leads.has h
theorem wC {P Q1 Q0:Prop}(k1:Q1) (k0:Q0) (h:Q1→Q0→P:=by intro a b;first | exact wCond rfl a b | exact wCondB rfl a b):P:=h k1 k0
theorem fi1 {P:Program}{E:Env}{H:List Res}{t:Tmp}{v:Value}{K:List Value→Prop}(h:E.find t=some v) (k:K [v]):([]:List Deferred)=[]∧∃ vs,ResL P E H [.tmp t] vs∧K vs:=⟨rfl,_,.cons (.tmp h) .nil,k⟩
theorem ZI {P Q:Prop}(k:Q) (h:Q→P:=by intro a;exact ⟨rfl,_,(ResL.cons (by first | exact ResR.cell rfl (by repeat constructor) rfl | exact ResR.agg rfl (by repeat constructor) rfl rfl) ResL.nil),a⟩):P:=h k
theorem ZI2 {P Q:Prop}(k:Q) (h:Q→P:=by intro a;exact ⟨rfl,_,(ResL.cons (by first | exact ResR.cell rfl (by repeat constructor) rfl | exact ResR.agg rfl (by repeat constructor) rfl rfl) (ResL.cons (ResR.tmp rfl) ResL.nil)),a⟩):P:=h k
theorem ZX {F S P Q:Prop}(f:F) (s:S) (k:Q) (h:F→S→Q→P:=by intro f s a;refine enter f rfl rfl s ?_;simp only [List.zipIdx_cons,List.zipIdx_nil,List.map_cons,List.map_nil,Nat.reduceAdd,Nat.zero_add];exact a):P:=h f s k
theorem Zld {P Q:Prop}(k:Q) (h:Q→P:=by intro a;exact oLd rfl (by repeat constructor) rfl rfl a):P:=h k
theorem Zla {P Q:Prop}(k:Q) (h:Q→P:=by intro a;exact oLdA rfl (by repeat constructor) rfl (by repeat constructor) a):P:=h k
theorem Zst {P Q:Prop}(k:Q) (h:Q→P:=by intro a;exact oSt rfl rfl rfl rfl rfl (by repeat constructor) (by repeat constructor) a):P:=h k
theorem Zsa {P Q:Prop}(k:Q) (h:Q→P:=by intro a;exact oStA rfl rfl rfl rfl (by repeat constructor) (by rfl) a):P:=h k
theorem Zsu {P Q:Prop}(k:Q) (h:Q→P:=by intro a;exact oSucc rfl rfl (by omega) a):P:=h k
theorem Zfi {P Q:Prop}(k:Q) (h:Q→P:=by intro a;first | exact oField rfl rfl rfl (by repeat constructor) a | exact oFieldA rfl rfl rfl (by repeat constructor) a):P:=h k
theorem Zno {P Q:Prop}(k:Q) (h:Q→P:=by intro a;first | exact oNot rfl a | exact oNotB rfl a):P:=h k
theorem Zlx {P Q S:Prop}(c:S) (k:Q) (h:S→Q→P:=by intro c a;first | exact oLdX rfl c rfl rfl a | exact oLdXA rfl c rfl (by repeat constructor) a):P:=h c k
structure TT (n:Nat):Prop where
  mk ::
theorem ZT (n:Nat):TT n:=⟨⟩
section
variable {c : Cx} {M : Md c} {l : List Oper} {E : Env} {D : List Deferred} {H : List Res}
theorem oSplitT {t:Nat}{p:Prop} [Decidable p] (_:TT t) (hf:E.find t=some (.bool (decide p))) (k1:p→O M l ((t,.bool true) :: E) D H) (k0:¬ p→O M l ((t,.bool false) :: E) D H):O M l E D H:=oSplit hf k1 k0
theorem oSplitBT {t:Nat}{p:Bool}(_:TT t) (hf:E.find t=some (.bool p)) (k1:p=true→O M l ((t,.bool true) :: E) D H) (k0:p=false→O M l ((t,.bool false) :: E) D H):O M l E D H:=oSplitB hf k1 k0
end
theorem ZS {P T Q1 Q0:Prop}(t:T) (k1:Q1) (k0:Q0) (h:T→Q1→Q0→P:=by intro t a b;first | exact oSplitT t rfl a b | exact oSplitBT t rfl a b):P:=h t k1 k0
theorem ZY {P Q S:Prop}(x:S) (k:Q) (h:S→Q→P:=by intro x a;first | exact wCondT rfl a | exact wCondTd x rfl a | exact wCondTb x rfl a | exact wCondF rfl a | exact wCondFd x rfl a | exact wCondFb x rfl a):P:=h x k
section
variable {c : Cx} {M : Me c} {d : Nat} {ty : TypeId} {pos : String} {af : Array Edge} {rest : List Oper} {E : Env} {D : List Deferred} {H Ψ Φ' : List Res}
theorem ZC {ι:Type}{inv:ι→Prop}{val:ι→Value}{post:ι→List Res}{args:Array Operand}{ats:Array TypeId}{g:FuncId}{vs:List Value}
 (hargs:E.ops args.toList=some vs) (hs:Split H Ψ Φ') (hc:∀ w B',Grow c.B.e B'.e→St B' Ψ w→CallsIn Fence.wide 0 c.P g vs.toArray w (Ret B' inv val post)) (h:∀ i,inv i→O M.toMd rest ((d,val i) :: E) D (post i++Φ'))
 (hg:goodF c.P g=true:=by kernel_rfl) (hN:Nat.blt d c.N=true:=by rfl) :
 O M.toMd (⟨some d,.call { callee:=.value (.func g),args:=args,argTypes:=ats },ty,pos,af,none⟩ :: rest) E D H:=
 oCall hargs hg (fun w hS=>frame hS hs (fun B' hB hS'=>hc w B' hB hS')) h hN
theorem ZD {ι:Type}{inv:ι→Prop}{val:ι→Value}{post:ι→List Res}{args:Array Operand}{ats:Array TypeId}{g:FuncId}{vs:List Value}
 (hargs:E.ops args.toList=some vs) (hc:∀ w B',Grow c.B.e B'.e→(∀ r Φ'',Pick H r Φ''→r.q B'.e)→St B' [] w→CallsIn Fence.wide 0 c.P g vs.toArray w (Ret B' inv val post)) (h:∀ i,inv i→O M.toMd rest ((d,val i) :: E) D (post i++H))
 (hg:goodF c.P g=true:=by kernel_rfl) (hN:Nat.blt d c.N=true:=by rfl) :
 O M.toMd (⟨some d,.call { callee:=.value (.func g),args:=args,argTypes:=ats },ty,pos,af,none⟩ :: rest) E D H:=
 oCall hargs hg (fun w hS=>frame' hS .nil (fun B' hB hR hS'=>hc w B' hB hR hS')) h hN
end
section
variable {c : Cx} {M : Md c} {d : Nat} {ty t : TypeId} {pos : String} {af : Array Edge} {rest : List Oper} {E : Env} {D : List Deferred} {H : List Res} {x : Operand}
theorem zFX {e:Addr}{i j n m:Nat}(_:TT n) (_:TT m) (h:O M rest ((d,.pointer (some (adr e m))) :: E) D H) (hx:E.op x=some (.pointer (some (adr e i))):=by rfl) (hf:fplace c.P t j=some n:=by rfl) (hm:i+n=m:=by rfl) (hN:Nat.blt d c.N=true:=by rfl):O M (⟨some d,.fieldAddr t x j,ty,pos,af,none⟩ :: rest) E D H:=oFldX (n:=n) hx hf hm h hN
theorem zFR {g i s j l n m:Nat}(_:TT n) (_:TT m) (h:O M rest ((d,.pointer (some (elt g i s m))) :: E) D H) (hx:E.op x=some (.pointer (some (elt g i s l))):=by rfl) (hf:fplace c.P t j=some n:=by rfl) (hm:l+n=m:=by rfl) (hN:Nat.blt d c.N=true:=by rfl):O M (⟨some d,.fieldAddr t x j,ty,pos,af,none⟩ :: rest) E D H:=oFldR (n:=n) hx hf hm h hN
theorem zFD {g:Addr}{i s j l n m:Nat}(_:TT n) (_:TT m) (h:O M rest ((d,.pointer (some (elx g i s m))) :: E) D H) (hx:E.op x=some (.pointer (some (elx g i s l))):=by rfl) (hf:fplace c.P t j=some n:=by rfl) (hm:l+n=m:=by rfl) (hN:Nat.blt d c.N=true:=by rfl):O M (⟨some d,.fieldAddr t x j,ty,pos,af,none⟩ :: rest) E D H:=oFldD (n:=n) hx hf hm h hN
end
theorem ZF {P T1 T2 Q:Prop}(n:T1) (m:T2) (k:Q) (h:T1→T2→Q→P:=by intro n m a;first | exact zFX n m a | exact zFR n m a | exact zFD n m a):P:=h n m k
def Za:=@thn_n
def Zb:=@thn_x
def Zc:=@thn_r
def Zd:=@blk_n
def Ze:=@blk_x
def Zf:=@blk_r
def Zg:=@blk_y
def Zh:=@wSeq
def Zi:=@wRegion'
def Zj:=@wSkip
def Zk:=@wBlock
def Zl:=@wRet
def Zm:=@wExit
def Zn:=@oNil
def Zo:=@oMove
def Zp:=@oAssign
def Zq:=@oWant
def Zr:=@oSkip
def Zs:=@oSkipU
def Zt:=@oPickT
def Zu:=@oPickF
def Zv:=@oLenS
def Zw:=@fin_r
def Zx:=@oLss
def Zy:=@oEql
def Zz:=@oFld
def Z0:=@oNeq
def Z1:=@oGtr
def Z2:=@oGeq
def Z3:=@oPtr
def ZR:=@oIdxR
def ZC0:=@oCall
def ZR1:=@oLdR1
def ZS0:=@oSet
end Go.Proofs.YtpmdhkjbhjgoaaaGreatK
/-
  A range over a function: what an iterator owes, a call of yield, the loop, and how a function with such loops is left.
-/
namespace Go.Proofs.YtpmdhkjbhjgoaaaGreatK
open Go.RowKit

def bun (Ψ:List Res):Res where
  fp k:=∃ r ∈ Ψ,r.fp k
  q w:=(∀ r ∈ Ψ,r.q w)∧Ψ.Pairwise (fun (r s:Res)=>∀ k:Nat,r.fp k→¬ s.fp k)
  inb w h k hk:=by obtain ⟨r,hr,hk⟩:=hk;exact r.inb w (h.1 r hr) k hk
  st w w' h hk:=⟨fun r hr=>r.st w w' (h.1 r hr) (fun k hf=>hk k ⟨r,hr,hf⟩),h.2⟩
section
variable {B : Base} {w w' : World} {Φ Φ' Ψ Fr : List Res}
theorem St.pack (h:St B (Ψ++Φ) w):St B (bun Ψ :: Φ) w:=by
 obtain ⟨h1,h2⟩:=(Sep.all _ _ _).1 h.sep
 obtain ⟨p1,p2,p3⟩:=List.pairwise_append.1 h2
 refine ⟨h.ok,(Sep.all _ _ _).2 ⟨fun r hr=>?_,List.pairwise_cons.2 ⟨fun s hs k hk=>?_,p2⟩⟩⟩
 · rcases List.mem_cons.1 hr with rfl | hr
   · refine ⟨⟨fun r hr=>(h1 r (List.mem_append_left _ hr)).1,p1⟩,fun k hk=>?_⟩
     obtain ⟨r,hr,hk⟩:=hk
     exact (h1 r (List.mem_append_left _ hr)).2 k hk
   · exact h1 r (List.mem_append_right _ hr)
 · obtain ⟨r,hr,hk⟩:=hk
   exact p3 r hr s hs k hk
theorem St.unpack (h:St B (bun Ψ :: Φ) w):St B (Ψ++Φ) w:=by
 obtain ⟨h1,h2⟩:=(Sep.all _ _ _).1 h.sep
 obtain ⟨p1,p2⟩:=List.pairwise_cons.1 h2
 have hb:=h1 _ List.mem_cons_self
 refine ⟨h.ok,(Sep.all _ _ _).2 ⟨fun r hr=>?_,List.pairwise_append.2 ⟨hb.1.2,p2,fun r hr s hs k hk=>p1 s hs k ⟨r,hr,hk⟩⟩⟩⟩
 rcases List.mem_append.1 hr with hr | hr
 · exact ⟨hb.1.1 r hr,fun k hk=>hb.2 k ⟨r,hr,hk⟩⟩
 · exact h1 r (List.mem_cons_of_mem _ hr)

def YEnd (B:Base) (j:Nat) (A Ax:Nat→Res→Prop) (Fr:List Res):Ending→World→Prop:=
  Ret B (fun i:Bool×Res=>if i.1=true then A (j+1) i.2 else Ax (j+1) i.2) (fun i=>.bool i.1) (fun i=>i.2 :: Fr)
def IterC (P:Program) (g:Nat) (lb:Array Value) (B:Base) (xs:List (List Value)) (Fr0:List Res):Prop:=
  ∀ (l:Nat) (A Ax:Nat→Res→Prop) (r0:Res) (W:World),
    (∀ (j:Nat) (hj:j<xs.length) (r:Res) (Fr:List Res) (W1:World),A j r→St B (r :: Fr) W1→YieldAt Fence.wide 0 P l (xs[j]).toArray W1 (YEnd B j A Ax Fr))→
    A 0 r0→St B (r0 :: Fr0) W→
    CallsIn Fence.wide 0 P g (#[.func (.yield l) #[] #[]]++lb) W (Ret B (fun r:Res=>A xs.length r∨∃ j,j<xs.length∧Ax (j+1) r) (fun _=>.tuple #[]) (fun r=>r :: Fr0))
end

section
variable {c : Cx} {Q : Post} {ops : Array Oper} {d : Nat} {ty : TypeId} {pos : String} {af : Array Edge} {rest : List Oper} {E : Env} {D : List Deferred} {H H' : List Res} {f : Operand}
theorem oYield {ι:Type}{inv:ι→Prop}{val:ι→Value}{post:ι→List Res}{args:Array Operand}{ats:Array TypeId}{l:Nat}{vs:List Value}(hF:c.F=Fence.wide) (hf:E.op f=some (.func (.yield l) #[] #[])) (hargs:E.ops args.toList=some vs)
 (hy:∀ w,St c.B H w→YieldAt Fence.wide 0 c.P l vs.toArray w (Ret c.B inv val post)) (h:∀ i,inv i→O (Me.list c ops Q).toMd rest ((d,val i) :: E) D (post i)) (hN:Nat.blt d c.N=true:=by rfl) :
 O (Me.list c ops Q).toMd (⟨some d,.call { callee:=.value f,args:=args,argTypes:=ats },ty,pos,af,none⟩ :: rest) E D H:=by
 intro a w ha hw
 obtain ⟨fn,tmps,assign,body,hr,hR⟩:=hy w hw
 have h1:args.map a.eval=vs.toArray:=by
  apply Array.toList_inj.1
  simpa using ha.fit.ops hargs
 show wpListIn _ _ _ _ _ _ _ _
 simp only [wpListIn]
 rw [if_pos (show Region.wanted ⟨some d,.call { callee:=.value f,args:=args,argTypes:=ats },ty,pos,af,none⟩ (yielded ops a.tmps)=true from rfl)]
 refine ⟨fun f _=>c.fn f,?_⟩
 rw [semAt_plain' _ _ _ rfl]
 simp only [execOp,resolve,Sem.run_bind,ha.fit.op hf,h1,Deferred.ofValue,Sem.run_pure,Result.andThen_ok,invoke,List.append_toArray,List.nil_append,Array.empty_append,List.append_nil,Array.append_empty]
 rw [hr]
 rw [hF]
 refine ⟨fun h=>by simp [Fence.wide] at h,hR.mono ?_⟩
 rintro e w' ⟨i,hi,rfl,hw'⟩
 have:=h i hi _ _ (ha.put hN) hw'
 rw [← hF]
 exact this

def Cx.round (c:Cx) (l:Nat) (B':Base):Cx:=⟨c.P,Fence.wide.inRound l,c.N,B',fun _=>trivial,rfl,fun h=>h.inRound l⟩
def hand:List Tmp→List Value→Env→Env
  | p :: ps,v :: vs,E=>hand ps vs ((p,v) :: E)
  | _,_,E=>E
theorem hand_ok {N:Nat}{D:List Deferred} : ∀ {ps:List Tmp}{vs:List Value}{E:Env}{a:Act},ps.all (fun p=>Nat.blt p N)=true→Ok N E D a→
 Ok N (hand ps vs E) D { a with tmps:=(ps.zip vs).foldl (fun t p=>t.setIfInBounds p.1 p.2) a.tmps }
 | [],_,E,a,_,h=>by simpa [hand] using h
 | p :: ps,[],E,a,_,h=>by simpa [hand] using h
 | p :: ps,v :: vs,E,a,hN,h=>by
  simp only [List.all_cons,Bool.and_eq_true] at hN
  exact hand_ok hN.2 (a:=a.put (some p) v) (h.put hN.1)
def mark (D:Nat):Deferred:={ target:=.collected D,args:=#[] }
abbrev mres (D:Nat):Res:=ob D (.deferred (some []))
@[reducible] def rq {ι κ:Type}(B:Base) (R:Res) (inv:ι→Prop) (Hi:ι→List Res) (inx:Code→κ→Prop) (Hx:Code→κ→List Res):Post
  | .normal,_,_,H=>∃ i,inv i∧Leads B H (R :: Hi i)
  | .ret,_,_,H=>∃ k,inx .ret k∧Leads B H (R :: Hx .ret k)
  | .exit id,_,_,H=>∃ k,inx (.exit id) k∧Leads B H (R :: Hx (.exit id) k)
  | .goto t,_,_,H=>∃ k,inx (.goto t) k∧Leads B H (R :: Hx (.goto t) k)
  | _,_,_,_=>False
@[reducible] def aq (c:Cx) (body:Code) (R1 R2:Res) (Q:Post):Post
  | .normal,E,D,H=>D=[]∧∃ H2,Pick H R1 H2∧W c body Q E [] (R2 :: H2)
  | _,_,_,_=>False
theorem wRange {g:Operand}{ps:Array Tmp}{assign body:Code}{gf:Nat}{lb:Array Value}{xs:List (List Value)}{Fr0:List Res}(hF:c.F=Fence.wide) (hg:E.op g=some (.func (.func gf) #[] lb)) (hgood:goodF c.P gf=true)
 (hit:IterC c.P gf lb c.B xs Fr0) (hps:∀ x ∈ xs,x.length=ps.size) (hN:ps.toList.all (fun p=>Nat.blt p c.N)=true)
 {ι κ:Type}(inv:Nat→ι→Prop) (Hi:ι→List Res) (inx:Code→κ→Prop) (Hx:Code→κ→List Res) (i0:ι) (h0:inv 0 i0) (hH:Leads c.B H (Hi i0++Fr0))
 (hround:∀ (l:Nat) (B':Base) (R1 R2:Res) (j:Nat) (hj:j<xs.length) (i:ι),Grow c.B.e B'.e→inv j i→
  W (c.round l B') assign (aq (c.round l B') body R1 R2 (rq B' R2 (inv (j+1)) Hi inx Hx)) (hand ps.toList xs[j] E) [] (R1 :: Hi i))
 (hdone:∀ (i:ι) (D':Nat),inv xs.length i→Q .normal E (mark D' :: D) (mres D' :: (Hi i++Fr0)))
 (hstop:∀ (x:Code) (k:κ) (D':Nat),inx x k→W c x Q E (mark D' :: D) (mres D' :: (Hx x k++Fr0))):W c (.rangeFunc g ps assign body) Q E D H:=by
 intro a w ha hw
 have hw0:St c.B (Hi i0++Fr0) w:=hH w hw
 rw [hF]
 refine wpIn_rangeFunc ?_
 intro fn _
 obtain ⟨W1,hW1⟩:∃ W1,(w.alloc (.deferred (some []))).alloc (.loop { state:=.ready,pending:=none,fn,tmps:=a.tmps,params:=ps,assign,body,defers:=w.heap.size })=W1:=⟨_,rfl⟩
 refine ⟨w.heap.size+1,[mark w.heap.size],W1,{ target:=.fn (.func gf) lb,args:=#[.func (.yield (w.heap.size+1)) #[] #[]] },W1,gf,
  #[.func (.yield (w.heap.size+1)) #[] #[]]++lb,W1,by rw [← hW1];exact run_enterLoop_outer _ _ _ _ _,?_,fun _ _=>trivial,?_,fun h=>by simp [Fence.wide] at h,?_⟩
 · simp only [resolve,ha.fit.op hg]
   simp [go_sem]
 · simp [invoke,go_sem,run_callFunc hgood]
 · have hS1:=(hw0.alloc (.deferred (some []))).alloc (.loop { state:=.ready,pending:=none,fn,tmps:=a.tmps,params:=ps,assign,body,defers:=w.heap.size })
   rw [World.size_alloc,hW1] at hS1
   clear hW1
   generalize hD:w.heap.size=D' at hS1 ⊢
   generalize hl:D'+1=l at hS1 ⊢
   have hS2:St c.B (bun (ob l (.loop { state:=.ready,pending:=none,fn,tmps:=a.tmps,params:=ps,assign,body,defers:=D' }) :: mres D' :: Hi i0) :: Fr0) W1:=St.pack (Ψ:=ob l (.loop { state:=.ready,pending:=none,fn,tmps:=a.tmps,params:=ps,assign,body,defers:=D' }) :: mres D' :: Hi i0) hS1
   refine (hit l (fun j r=>∃ i,r=bun (ob l (.loop { state:=.ready,pending:=none,fn,tmps:=a.tmps,params:=ps,assign,body,defers:=D' }) :: mres D' :: Hi i)∧inv j i)
    (fun j r=>∃ x k,r=bun (ob l (.loop { state:=.done,pending:=some x,fn,tmps:=a.tmps,params:=ps,assign,body,defers:=D' }) :: mres D' :: Hx x k)∧inx x k) _ _ ?_ ⟨i0,rfl,h0⟩ hS2).mono ?_
   · rintro j hj r Fr W1 ⟨i,rfl,hi⟩ hSt
     have hS0:St c.B ((ob l (.loop { state:=.ready,pending:=none,fn,tmps:=a.tmps,params:=ps,assign,body,defers:=D' }) :: Hi i)++(mres D' :: Fr)) W1:=hSt.unpack.perm (.cons _ List.perm_middle.symm)
     have hl1:W1.heap[l]?=some (.loop { state:=.ready,pending:=none,fn,tmps:=a.tmps,params:=ps,assign,body,defers:=D' }):=hS0.get .here
     refine ⟨fn,_,assign,body,run_yield (P:=c.P) (args:=xs[j].toArray) hl1 (by simpa using hps _ (List.getElem_mem hj)),roundIn_of_wpIn trivial ?_⟩
     have hOk:Ok c.N (hand ps.toList xs[j] E) [] { tmps:=(ps.zip xs[j].toArray).foldl (fun t (p,v)=>t.setIfInBounds p v) a.tmps,defers:=[] }:=by
      have:=hand_ok (vs:=xs[j]) hN (a:={ a with defers:=[] }) (E:=E) (D:=[]) ⟨ha.size,ha.fit,rfl⟩
      rw [← Array.foldl_toList,Array.toList_zip]
      exact this
     refine wpIn_mono (hround l (c.B.call W1 _) (ob l _) (ob l (.loop { state:=.busy,pending:=none,fn,tmps:=a.tmps,params:=ps,assign,body,defers:=D' })) j hj i hS0.egrow hi _ W1 hOk hS0.lend) ?_
     rintro e a1 Wa ⟨E1,D1,H1,h1,h2,h3,_⟩
     cases e with
     | normal=>
      obtain ⟨rfl,H2,hp,hW⟩:=h3
      have h2':=St.perm h2 hp.perm
      have hla:Wa.heap[l]?=some (.loop { state:=.ready,pending:=none,fn,tmps:=a.tmps,params:=ps,assign,body,defers:=D' }):=h2'.get .here
      refine ⟨_,run_beginRound hla rfl,?_⟩
      refine wpIn_mono (hW a1 _ h1 (h2'.put (o':=.loop { state:=.busy,pending:=none,fn,tmps:=a.tmps,params:=ps,assign,body,defers:=D' }) .here)) ?_
      have fin : ∀ (jump : Option Code) (Ψ' : List Res) (W3 : World), St (c.B.call W1 (ob l (.loop { state := .ready, pending := none, fn, tmps := a.tmps, params := ps, assign, body, defers := D' }) :: Hi i)) (ob l (.loop { state := .busy, pending := none, fn, tmps := a.tmps, params := ps, assign, body, defers := D' }) :: Ψ') W3 →
       ∃ v w',(Instr.endRound l jump).run c.P W3=.ok v w'∧v=.bool jump.isNone∧St c.B (bun (ob l (.loop { state:=if jump.isNone then .ready else .done,pending:=jump,fn,tmps:=a.tmps,params:=ps,assign,body,defers:=D' }) :: mres D' :: Ψ') :: Fr) w':=fun jump Ψ' W3 h3=>by
       have h3':=hS0.give h3
       have hl3:W3.heap[l]?=some (.loop { state:=.busy,pending:=none,fn,tmps:=a.tmps,params:=ps,assign,body,defers:=D' }):=h3'.get .here
       have h4:=(h3'.put (o':=.loop { state:=if jump.isNone then .ready else .done,pending:=jump,fn,tmps:=a.tmps,params:=ps,assign,body,defers:=D' }) .here).perm (.cons _ List.perm_middle)
       exact ⟨_,_,run_endRound jump hl3,rfl,St.pack (Ψ:=ob l _ :: mres D' :: Ψ') h4⟩
      rintro e a3 W3 ⟨E3,D3,H3,k1,k2,k3,_⟩
      cases e with
      | normal=>obtain ⟨i',hi',hL⟩:=k3;obtain ⟨v,w',hr,rfl,h4⟩:=fin none _ W3 (hL _ k2);exact ⟨_,_,hr,(true,_),⟨i',rfl,hi'⟩,rfl,h4⟩
      | ret=>obtain ⟨k,hk,hL⟩:=k3;obtain ⟨v,w',hr,rfl,h4⟩:=fin (some .ret) _ W3 (hL _ k2);exact ⟨_,_,hr,(false,_),⟨_,k,rfl,hk⟩,rfl,h4⟩
      | exit id=>obtain ⟨k,hk,hL⟩:=k3;obtain ⟨v,w',hr,rfl,h4⟩:=fin (some (.exit id)) _ W3 (hL _ k2);exact ⟨_,_,hr,(false,_),⟨_,k,rfl,hk⟩,rfl,h4⟩
      | goto t=>obtain ⟨k,hk,hL⟩:=k3;obtain ⟨v,w',hr,rfl,h4⟩:=fin (some (.goto t)) _ W3 (hL _ k2);exact ⟨_,_,hr,(false,_),⟨_,k,rfl,hk⟩,rfl,h4⟩
      | panic ch=>exact k3.elim
      | outgrown=>exact k3.elim
     | exit id=>exact h3.elim
     | goto t=>exact h3.elim
     | ret=>exact h3.elim
     | panic ch=>exact h3.elim
     | outgrown=>exact h3.elim
   · rintro e W2 ⟨r,hr,rfl,h2⟩
     have hOk:Ok c.N E (mark D' :: D) { a with defers:=mark D' :: a.defers }:=⟨ha.size,ha.fit,by show mark D' :: a.defers=_;rw [ha.dfr]⟩
     rcases hr with ⟨i,rfl,hi⟩ | ⟨j,hj,x,k,rfl,hk⟩
     · have h3:=h2.unpack
       have hl2:W2.heap[l]?=some (.loop { state:=.ready,pending:=none,fn,tmps:=a.tmps,params:=ps,assign,body,defers:=D' }):=h3.get .here
       exact ⟨none,_,run_endLoop hl2 (by simp),E,_,_,hOk,(h3.put (o':=.loop { state:=.exhausted,pending:=none,fn,tmps:=a.tmps,params:=ps,assign,body,defers:=D' }) .here).drop,hdone i D' hi,trivial⟩
     · have h3:=h2.unpack
       have hl2:W2.heap[l]?=some (.loop { state:=.done,pending:=some x,fn,tmps:=a.tmps,params:=ps,assign,body,defers:=D' }):=h3.get .here
       have:=hstop x k D' hk _ _ hOk (h3.put (o':=.loop { state:=.exhausted,pending:=some x,fn,tmps:=a.tmps,params:=ps,assign,body,defers:=D' }) .here).drop
       rw [hF] at this
       exact ⟨some x,_,run_endLoop hl2 (by simp),this⟩

theorem leaves_marks {P:Program}{B:Base}{Ψ:List Res}{fn:Func}{tmps:Array Value}{R:Ending→World→Prop} : ∀ (Ds:List Nat) (w:World),St B (Ds.map mres++Ψ) w→
 (∀ w',St B Ψ w'→∃ v,(results fn tmps).run P w'=.ok v w'∧R (.returned v) w')→LeavesInM Fence.wide 0 P fn tmps R (Ds.map mark) .returning w
 | [],w,h,hr=>hr w h
 | D :: Ds,w,h,hr=>by
  have h':St B (ob D (.deferred (some [])) :: (Ds.map mres++Ψ)) w:=h
  have hD:w.heap[D]?=some (.deferred (some [])):=h'.get .here
  exact ⟨by simp,.inl ⟨D,_,rfl,run_takeDeferred hD,leaves_marks Ds _ (h'.put (o':=.deferred none) .here).drop hr⟩⟩
def finM (P:Program) (rs:List ResultVar) (R:Value→List Res→Prop):Post
  | .ret,E,D,H=>∃ (Ds:List Nat) (H':List Res),D=Ds.map mark∧(∀ B,Leads B H (Ds.map mres++H'))∧∃ vs,ResL P E H' rs vs∧R (resVal vs) H'
  | .normal,E,D,H=>∃ (Ds:List Nat) (H':List Res),D=Ds.map mark∧(∀ B,Leads B H (Ds.map mres++H'))∧∃ vs,ResL P E H' rs vs∧R (resVal vs) H'
  | _,_,_,_=>False
theorem enterM {P:Program}{B:Base}{Ψ:List Res}{w:World}{ι:Type}{inv:ι→Prop}{val:ι→Value}{post:ι→List Res}{f:FuncId}{fn:Func}{body:Code}{args:List Value}(hf:P.funcs[f]?=some fn) (hb:fn.body=some body) (hl:Nat.ble args.length fn.ntmps=true) (hS:St B Ψ w)
 (h:W ⟨P,Fence.wide,fn.ntmps,B,fun _=>trivial,rfl,fun h=>h⟩ body (finM P fn.results.toList (fun v H=>∃ i,inv i∧v=val i∧Leads B H (post i))) ((args.zipIdx).map fun p=>(p.2,p.1)) [] Ψ) :
 CallsIn Fence.wide 0 P f args.toArray w (Ret B inv val post):=by
 refine callsIn_of_wp_marks hf hb trivial (wpIn_mono (h _ w (Ok.enter fn.ntmps args (Nat.le_of_ble_eq_true hl)) hS) ?_) rfl
 rintro e a w' ⟨E,D,H,h1,h2,h3,_⟩
 have key:(∃ (Ds:List Nat) (H':List Res),D=Ds.map mark∧(∀ B,Leads B H (Ds.map mres++H'))∧∃ vs,ResL P E H' fn.results.toList vs∧∃ i,inv i∧resVal vs=val i∧Leads B H' (post i))→LeavesInM Fence.wide 0 P fn a.tmps (Ret B inv val post) a.defers .returning w':=by
  rintro ⟨Ds,H',hD,hs,vs,hr,i,hi,hv,hL⟩
  rw [h1.dfr,hD]
  exact leaves_marks Ds w' (hs _ _ h2) (fun w2 h=>⟨_,hr.results h1.fit h,i,hi,by rw [hv],hL _ h⟩)
 cases e with
 | normal=>exact key h3
 | ret=>exact key h3
 | _=>exact h3.elim
theorem aq_n {body:Code}{R1 R2:Res}{H2:List Res}(hp:Pick H R1 H2) (h:W c body Q E [] (R2 :: H2)):aq c body R1 R2 Q .normal E [] H:=⟨rfl,_,hp,h⟩
theorem rq_n {ι κ:Type}{B:Base}{R:Res}{inv:ι→Prop}{Hi:ι→List Res}{inx:Code→κ→Prop}{Hx:Code→κ→List Res}(h:∃ i,inv i∧Leads B H (R :: Hi i)):rq B R inv Hi inx Hx .normal E D H:=h
theorem rq_r {ι κ:Type}{B:Base}{R:Res}{inv:ι→Prop}{Hi:ι→List Res}{inx:Code→κ→Prop}{Hx:Code→κ→List Res}(h:∃ k,inx .ret k∧Leads B H (R :: Hx .ret k)):rq B R inv Hi inx Hx .ret E D H:=h
theorem finM_r {P:Program}{rs:List ResultVar}{R:Value→List Res→Prop}{Ds:List Nat}{vs:List Value}(hD:D=Ds.map mark) (hs:Split H (Ds.map mres) H') (hr:ResL P E H' rs vs) (h:R (resVal vs) H'):finM P rs R .ret E D H:=⟨Ds,H',hD,fun _ _ hS=>hS.perm hs.perm,vs,hr,h⟩
end
section
variable {c : Cx} {N : Md c} {d : Nat} {ty : TypeId} {pos : String} {af : Array Edge} {rest : List Oper} {E : Env} {D : List Deferred} {H : List Res}
theorem oMakeFunc {n:Nat}{cap:Array Operand}{vs:List Value}(hc:E.ops cap.toList=some vs) (h:O N rest ((d,.func (.func n) #[] vs.toArray) :: E) D H) (hN:Nat.blt d c.N=true:=by rfl):O N (⟨some d,.makeFunc (.func n) #[] cap,ty,pos,af,none⟩ :: rest) E D H:=
 oC _ rfl hN (fun u w ha hw=>by
  have h1:cap.map u.eval=vs.toArray:=by
   apply Array.toList_inj.1
   simpa using ha.ops hc
  simp [execOp,h1,Instr.makeFunc]) h
end
abbrev marksR (Ds:List Nat):Res:=bun (Ds.map mres)
theorem marks_nil {B:Base}{Φ:List Res} : Leads B Φ (marksR [] :: Φ):=fun w h=>St.pack (Ψ:=[]) h
theorem marks_push {B:Base}{Φ Φ' Φ'':List Res}{D':Nat}{Ds:List Nat}(h1:Pick Φ (mres D') Φ') (h2:Pick Φ' (marksR Ds) Φ''):Leads B Φ (marksR (D' :: Ds) :: Φ''):=fun w h=>by
 have h3:St B (marksR Ds :: mres D' :: Φ'') w:=h.perm (h1.perm.trans ((h2.perm.cons _).trans (List.Perm.swap _ _ _)))
 exact St.pack (Ψ:=(D' :: Ds).map mres) (h3.unpack.perm List.perm_middle)
theorem finMb_r {P:Program}{rs:List ResultVar}{R:Value→List Res→Prop}{E:Env}{D:List Deferred}{H H':List Res}{Ds:List Nat}{vs:List Value}(hD:D=Ds.map mark) (hp:Pick H (marksR Ds) H') (hr:ResL P E H' rs vs) (h:R (resVal vs) H'):finM P rs R .ret E D H:=⟨Ds,H',hD,fun _ _ hS=>(hS.perm hp.perm).unpack,vs,hr,h⟩
section
variable {c : Cx} {Q : Post} {E : Env} {D : List Deferred} {H : List Res} {x : Code}
theorem wLoopM {ι:Type}(Ei:ι→Env) (Hi:ι→List Res) (inv:ι→Prop) (μ:ι→Nat) (i0:ι) (h0:inv i0) (hE:Cov E (Ei i0)) (Ds0:List Nat) (hD:D=Ds0.map mark) (hH:Leads c.B H (marksR Ds0 :: Hi i0))
 (round:∀ i Ds,inv i→W c x (thn (fun E' D' H'=>∃ Ds',D'=Ds'.map mark∧∃ i',inv i'∧μ i'<μ i∧Cov E' (Ei i')∧Leads c.B H' (marksR Ds' :: Hi i')) Q) (Ei i) (Ds.map mark) (marksR Ds :: Hi i)):W c (.loop x) Q E D H:=by
 have key:∀ m i Ds a w,μ i<m→inv i→Ok c.N (Ei i) (Ds.map mark) a→St c.B (marksR Ds :: Hi i) w→Code.roundsIn c.F 0 c.P x (lift c Q) m a w:=by
  intro m
  induction m with
  | zero=>intro i Ds a w h;omega
  | succ m ih=>
   intro i Ds a w hm hi ha hw
   rw [roundsIn_succ]
   refine wpIn_mono (round i Ds hi a w ha hw) ?_
   rintro e a' w' ⟨E',D',H',h1,h2,h3⟩
   cases e with
   | normal=>
    obtain ⟨⟨Ds',rfl,i',hi',hlt,hcov,hsp⟩,_⟩:=h3
    exact ih i' Ds' a' w' (by omega) hi' (h1.cov hcov) (hsp _ h2)
   | _=>exact ⟨E',D',H',h1,h2,h3⟩
 intro a w ha hw
 subst hD
 exact wpIn_loop_rounds (μ i0+1) (key _ i0 Ds0 a w (Nat.lt_succ_self _) h0 (ha.cov hE) (hH _ hw))
end
end Go.Proofs.YtpmdhkjbhjgoaaaGreatK


/-
  What the walk has built, as data that are read from now on (seal); rows of raw cells; append of a whole slice.
-/
namespace Go.Proofs.YtpmdhkjbhjgoaaaGreatK
open Go.RowKit
section
variable {c : Cx} {N : Md c} {M : Me c} {d : Nat} {ty : TypeId} {pos : String} {af : Array Edge} {rest : List Oper} {E : Env} {D : List Deferred} {H H' H'' : List Res} {v : Value} {x y z : Operand} {k : IntKind} {t t' : TypeId}
variable {B : Base} {w w' : World} {Φ Φ' Φ'' Ψ : List Res} {P : Program} {α : Type} {kd : Kd α} {W : World} {S : Nat → Prop} {A : Option Addr} {xs : List α}
theorem oConv (hL:Leads c.B H H') (h:O N rest E D H'):O N rest E D H:=fun a w ha hw=>h a w ha (hL w hw)
theorem Has.refl:∀ (H:List Res),Has H H
 | []=>.nil
 | r :: H=>.cons .here (Has.refl H)
theorem C_blk {b:Nat}{tb:TypeId}{cs:List Value}(h:(blk b tb cs).q w) (hl:xs.length≤9223372036854775807) (hc:Cat kd w xs cs):kd.C w (some ⟨b,0,none⟩) xs:=by
 refine ⟨hl,fun _=>⟨_,rfl,fun j u hj=>?_⟩⟩
 obtain ⟨a,hK,ha⟩:=hc.at j u hj
 refine ⟨a,hK,fun i v hv=>?_⟩
 rw [add_at,Nat.zero_add,cell_of h]
 exact ha i v hv
def kRaw (n:Nat):Kd (List Value) where
  sz:=n
  K _ x cs:=cs=x∧x.length=n∧∀ u ∈ x,u.oneCell'=true
  K_len h:=by rw [h.1];exact h.2.1
  K_one h u hu:=by rw [h.1] at hu;exact h.2.2 u hu
  K_grow _ h:=h
def Raws (kd:Kd α) (W:World):List α→List (List Value)→Prop
  | [],rs=>rs=[]
  | x :: xs,rs=>∃ r rest,rs=r :: rest∧kd.K W x r∧Raws kd W xs rest
theorem Raws.length:∀ {xs:List α}{rs:List (List Value)},Raws kd W xs rs→rs.length=xs.length
 | [],rs,h=>by rw [show rs=[] from h];rfl
 | x :: xs,rs,⟨r,rest,e,_,h⟩=>by rw [e,List.length_cons,List.length_cons,Raws.length h]
theorem Raws.app:∀ {xs ys:List α}{rs qs:List (List Value)},Raws kd W xs rs→Raws kd W ys qs→Raws kd W (xs++ys) (rs++qs)
 | [],ys,rs,qs,h,k=>by rw [h];exact k
 | x :: xs,ys,rs,qs,⟨r,rest,e,hK,h⟩,k=>⟨r,rest++qs,by rw [e];rfl,hK,h.app k⟩
theorem Raws.one {u:α}{r:List Value}(h:kd.K W u r):Raws kd W [u] [r]:=⟨r,[],rfl,h,rfl⟩
theorem Raws.grow (g:Grow W w):∀ {xs:List α}{rs:List (List Value)},Raws kd W xs rs→Raws kd w xs rs
 | [],rs,h=>h
 | x :: xs,rs,⟨r,rest,e,hK,h⟩=>⟨r,rest,e,kd.K_grow g hK,Raws.grow g h⟩
theorem cat_raws:∀ {xs:List α}{rs:List (List Value)}{cs:List Value}{n:Nat},Raws kd W xs rs→Cat (kRaw n) w rs cs→Cat kd W xs cs
 | [],rs,cs,n,h,k=>by rw [h] at k;exact k
 | x :: xs,rs,cs,n,⟨r,rest,e,hK,h⟩,k=>by
  rw [e] at k
  obtain ⟨a,cr,e2,hR,k2⟩:=k
  exact ⟨a,cr,e2,by rw [hR.1];exact hK,cat_raws h k2⟩
theorem rawrow {e:TypeId}{n cp m:Nat}{rs:List (List Value)}(h:(row (kRaw m) W e (.slice A n cp) rs).q w) (hm:kd.sz=m) (hR:Raws kd w xs rs):kd.C w A xs:=by
 obtain ⟨cs,ho,hr⟩:=h
 have hq:(row kd w e (.slice A n cp) xs).q w:=⟨cs,by rw [← hR.length,hm];exact ho,cat_raws hR hr⟩
 exact (row_C hq (Grow.refl _)).2.2.1
theorem row_len {e:TypeId}{n cp:Nat}(h:(row kd W e (.slice A n cp) xs).q w):n=xs.length∧n≤cp:=by
 obtain ⟨cs,⟨hl,ho⟩,hr⟩:=h
 rcases ho with ⟨e1,e2⟩ | ⟨b,cap,cur,e1,_,hh,h1,h2,h3,h4⟩
 · injection e1 with e1 e3 e4;omega
 · injection e1 with e1 e3 e4;omega
inductive AppL {α:Type} : List α→List α→List α→Prop
  | nil {es} : AppL [] es es
  | cons {x cs es r} : AppL cs es r→AppL (x :: cs) es (x :: r)
theorem AppL.spec {α:Type}{cs es r:List α}(h:AppL cs es r):r=cs++es:=by
 induction h with
 | nil=>rfl
 | cons _ ih=>rw [ih];rfl
inductive Fulls (s:Nat):Nat→List (Nat×Value)→List Value→Prop
  | nil {i:Nat} : Fulls s i [] []
  | cons {i:Nat}{v:Value}{cs es ds:List Value}{r:List (Nat×Value)} : CellsOf v cs→cs.length=s→Fulls s (i+1) r es→AppL cs es ds→Fulls s i ((i,v) :: r) ds
theorem putL_at {α:Type}{vs:List α} : ∀ (off:Nat) (cs:List α),off+vs.length≤cs.length→PutL cs off vs (cs.take off++vs++cs.drop (off+vs.length))
 | 0,cs,h=>by
  have key:∀ (vs cs:List α),vs.length≤cs.length→PutL cs 0 vs (vs++cs.drop vs.length):=by
   intro vs
   induction vs with
   | nil=>intro cs h;exact .done
   | cons v vs ih=>
    intro cs h
    cases cs with
    | nil=>simp at h
    | cons c cs=>exact .put (ih cs (by simpa using h))
  simpa using key vs cs (by simpa using h)
 | off+1,cs,h=>by
  cases cs with
  | nil=>simp at h
  | cons c cs=>
   have:=putL_at (vs:=vs) off cs (by simp at h;omega)
   have e:(c :: cs).take (off+1)++vs++(c :: cs).drop (off+1+vs.length)=c :: (cs.take off++vs++cs.drop (off+vs.length)):=by
    rw [List.take_succ_cons,show off+1+vs.length=(off+vs.length)+1 by omega,List.drop_succ_cons];rfl
   rw [e]
   exact .skip this
theorem Fulls.built {s:Nat} : ∀ {vs:List (Nat×Value)}{k:Nat}{es zs:List Value},Fulls s k vs es→zs.length=(k+vs.length) * s→Built (fun i=>some (i * s,s)) zs vs (zs.take (k * s)++es)∧es.length=vs.length * s
 | [],k,es,zs,h,hz=>by
  cases h
  rw [List.append_nil,List.take_of_length_le (by rw [hz];simp)]
  exact ⟨.nil,by simp⟩
 | (i,v) :: r,k,ds,zs,h,hz=>by
  cases h with
  | cons hc hl hr ha=>
   rename_i cs es
   have hz':zs.length=i * s+s+r.length * s:=by rw [hz,List.length_cons];simp [Nat.add_mul];omega
   have hp:=putL_at (vs:=cs) (i * s) zs (by rw [hz',hl];omega)
   have hln:(zs.take (i * s)++cs++zs.drop (i * s+cs.length)).length=(i+1+r.length) * s:=by
    rw [List.length_append,List.length_append,List.length_take,List.length_drop,hz',hl];simp [Nat.add_mul];omega
   obtain ⟨h1,h2⟩:=Fulls.built hr hln
   have e:(zs.take (i * s)++cs++zs.drop (i * s+cs.length)).take ((i+1) * s)=zs.take (i * s)++cs:=by
    rw [List.take_append_of_le_length (by rw [List.length_append,List.length_take,hz',hl];simp [Nat.add_mul];omega),List.take_of_length_le]
    rw [List.length_append,List.length_take,hz',hl];simp [Nat.add_mul];omega
   rw [e] at h1
   rw [ha.spec]
   refine ⟨.cons (off:=i * s) (s:=s) rfl hc hl hp (by rw [← List.append_assoc];exact h1),?_⟩
   rw [List.length_append,hl,h2,List.length_cons,Nat.succ_mul];omega
theorem oBuildSliceF {len:Nat}{ps:Array (Nat×Operand)}{vs:List (Nat×Value)}{cs:List Value}{e:TypeId}{s:Nat}{zv:Value}(hx:Parts E ps.toList vs) (ht:elemT c.P t=some (e,s)) (hz:((c.P.info? e).map (·.zero))=some (some zv))
 (hsm:Nat.ble (len * s) 16777216=true) (h0:Nat.beq (len * s) 0=false) (hv:vs.length=len) (hf:Fulls s 0 vs cs)
 (h:∀ b,O M.toMd rest ((d,.slice (some ⟨b,0,none⟩) len len) :: E) D (blk b e cs :: H)) (hN:Nat.blt d c.N=true:=by rfl):O M.toMd (⟨some d,.buildSlice t len ps,ty,pos,af,none⟩ :: rest) E D H:=by
 subst hv
 have hb:=(hf.built (zs:=((Array.range (vs.length * s)).map (zv.cells[· % zv.cells.size]!)).toList) (by simp)).1
 rw [Nat.zero_mul,List.take_zero,List.nil_append] at hb
 exact oBuildSlice hx ht hz hsm h0 rfl hb h hN
def Src (kd:Kd α) (W w:World) (A:Option Addr) (ys:List α):Prop:=(0<ys.length→∃ ad,A=some ad)∧∀ ad,A=some ad→∃ news,Cat kd W ys news∧∀ j u,news[j]?=some u→w.cell? (ad.add j)=some u
theorem cat_of_cells {ad:Addr} : ∀ {ys:List α}(n:Nat),(∀ j x,ys[j]?=some x→∃ cs,kd.K W x cs∧∀ i u,cs[i]?=some u→w.cell? (ad.add ((n+j) * kd.sz+i))=some u)→∃ news,Cat kd W ys news∧∀ j u,news[j]?=some u→w.cell? (ad.add (n * kd.sz+j))=some u
 | [],n,_=>⟨[],rfl,fun j u h=>by simp at h⟩
 | x :: ys,n,h=>by
  obtain ⟨a,hK,ha⟩:=h 0 x rfl
  obtain ⟨news,h1,h2⟩:=cat_of_cells (ad:=ad) (ys:=ys) (n+1) (fun j y hj=>by
   obtain ⟨cs,k1,k2⟩:=h (j+1) y (by simpa using hj)
   exact ⟨cs,k1,fun i u hu=>by rw [show n+1+j=n+(j+1) by omega];exact k2 i u hu⟩)
  refine ⟨a++news,⟨a,news,rfl,hK,h1⟩,fun j u hj=>?_⟩
  have hl:=kd.K_len hK
  rcases Nat.lt_or_ge j a.length with hj' | hj'
  · rw [List.getElem?_append_left hj'] at hj
    exact ha j u hj
  · rw [List.getElem?_append_right hj'] at hj
    have:=h2 _ u hj
    rwa [show (n+1) * kd.sz+(j-a.length)=n * kd.sz+j by rw [Nat.succ_mul];omega] at this
theorem src_C (hC:kd.C W A xs) (g:Grow W w):Src kd W w A xs:=by
 refine ⟨fun h0=>?_,?_⟩
 · obtain ⟨ad,e,_⟩:=hC.2 h0;exact ⟨ad,e⟩
 · rintro ad rfl
   by_cases h0:0<xs.length
   · obtain ⟨ad',e,h⟩:=hC.2 h0
     injection e with e
     subst e
     obtain ⟨news,h1,h2⟩:=cat_of_cells (W:=W) (w:=w) (ad:=ad) (ys:=xs) (kd:=kd) 0 (fun j x hj=>by
      obtain ⟨cs,k1,k2⟩:=h j x hj
      exact ⟨cs,k1,fun i u hu=>by rw [Nat.zero_add];exact g _ _ (k2 i u hu)⟩)
     exact ⟨news,h1,fun j u hj=>by have:=h2 j u hj;rwa [Nat.zero_mul,Nat.zero_add] at this⟩
   · have:xs=[]:=List.eq_nil_of_length_eq_zero (by omega)
     subst this
     exact ⟨[],rfl,fun j u hj=>by simp at hj⟩
theorem src_row {e:TypeId}{n cp:Nat}(h:(row kd W e (.slice A n cp) xs).q w):Src kd W w A xs:=by
 obtain ⟨cs,ho,hr⟩:=h
 refine ⟨fun h0=>?_,?_⟩
 · obtain ⟨hl,ho⟩:=ho
   rcases ho with ⟨e1,e2⟩ | ⟨b,cap,cur,e1,_⟩
   · omega
   · injection e1 with e1;exact ⟨_,e1⟩
 · rintro ad rfl
   refine ⟨cs,hr,fun j u hj=>?_⟩
   have ho':=ho
   obtain ⟨hl,ho⟩:=ho
   rcases ho with ⟨e1,e2⟩ | ⟨b,cap,cur,e1,_⟩
   · injection e1 with e1;cases e1
   · injection e1 with e1
     injection e1 with e1
     subst e1
     exact ho'.cells (g:=b) rfl j u hj
theorem oAppA {e:TypeId}{zv:Value}{s by_ m cp:Nat}{ys:List α}(hx:E.op x=some v) (hy:E.op y=some (.slice A m cp)) (ht:elemI c.P t=some (e,zv,s,by_)) (hsz:kd.sz=s)
 (hp:Pick H (row kd W e v xs) H') (hm:ys.length=m) (hsrc:∀ w,St c.B H w→Src kd W w A ys) (hl:xs.length+m≤1000000000) (hby:Nat.ble by_ 140000=true)
 (h:∀ A' cp',xs.length+m≤cp'→O M.toMd rest ((d,.slice A' (xs.length+m) cp') :: E) D (row kd W e (.slice A' (xs.length+m) cp') (xs++ys) :: H')) (hN:Nat.blt d c.N=true:=by rfl) :
 O M.toMd (⟨some d,.call { callee:=.builtin .append,args:=#[x,y],argTypes:=#[t,t] },ty,pos,af,none⟩ :: rest) E D H:=
 oEff rfl hN fun a w ha hw=>by
  have hb2:by_≤140000:=Nat.le_of_ble_eq_true hby
  have hml:maxLen=9223372036854775807:=rfl
  subst hsz
  obtain ⟨ht1,i0,hi,hz0,hz1,hz2,hzs,hsp⟩:=elemI_spec ht
  obtain ⟨cs,ho,hr⟩:(row kd W e v xs).q w:=hw.get hp
  have hlb:(xs.length+m) * by_≤140737488355328:=Nat.le_trans (Nat.mul_le_mul hl hb2) (by decide)
  obtain ⟨hs1,hs2⟩:=hsrc w hw
  cases A with
  | none=>
   have hm0:ys=[]:=by
    cases ys with
    | nil=>rfl
    | cons y ys=>obtain ⟨_,h⟩:=hs1 (by simp);cases h
   subst hm0
   simp only [List.length_nil] at hm
   subst hm
   obtain ⟨A',n',cp',rfl,e1,e2⟩:∃ A' n' cp',v=.slice A' n' cp'∧n'=xs.length∧n'≤cp':=by
    obtain ⟨hl,ho⟩:=ho
    rcases ho with ⟨rfl,e2⟩ | ⟨b,cap,cur,rfl,_,hh,h1,_⟩
    · exact ⟨_,_,_,rfl,e2.symm,Nat.le_refl _⟩
    · exact ⟨_,_,_,rfl,rfl,h1⟩
   subst e1
   refine ⟨.slice A' (xs.length+0) cp',w,_,?_,?_,h A' cp' (by omega)⟩
   · have hrun : (Builtin.append_ #[t, t] ty #[.slice A' xs.length cp', .slice none 0 cp]).run c.P w = .ok (.slice A' (xs.length + 0) cp') w := by
      cases A' <;> simp [Builtin.append_,run_underlying ht1,sizeOf,typeInfo,hi,Builtin.lenOf,Builtin.firstCells,loadCells,loadCellsFrom,e2,storeCells]
     simp [execOp,resolve,invoke,builtin,ha.op hx,ha.op hy,hrun]
   · refine hw.upd' hp (Chg.refl _ _) ?_ (fun k hk=>.inl hk)
     rw [List.append_nil,Nat.add_zero]
     exact ⟨cs,ho,hr⟩
  | some ad=>
   obtain ⟨news,hcat,hnews⟩:=hs2 ad rfl
   obtain ⟨v',w',hrun,hown,hgr,hnil,hat⟩:=run_append_own_at (P:=c.P) (w:=w) 0 t ty e i0 zv kd.sz by_ ht1 hi hz0 hz1 hz2 hzs hsp v xs.length cs ho ad m cp news (by rw [hcat.len,hm]) hnews hcat.ones (by omega) hlb (Nat.zero_le _)
   obtain ⟨A',cp',rfl,hcp⟩:∃ A' cp',v'=.slice A' (xs.length+m) cp'∧xs.length+m≤cp':=by
    obtain ⟨_,ho2⟩:=hown
    rcases ho2 with ⟨rfl,e2⟩ | ⟨g,cap,cur,rfl,_,_,h1,_⟩
    · exact ⟨_,_,by rw [e2],by omega⟩
    · exact ⟨_,_,rfl,h1⟩
   refine ⟨_,w',_,?_,?_,h A' cp' hcp⟩
   · simp [execOp,resolve,invoke,builtin,ha.op hx,ha.op hy,hrun]
   · refine hw.upd' hp ((Chg.of_grown hgr).mono (fun k hk=>hk.symm)) ⟨cs++news,by rw [List.length_append,hm];exact hown,hr.app hcat⟩ ?_
     intro k hk
     have hk:(Value.slice A' (xs.length+m) cp').ownBlock=some k:=hk
     rcases hat with h1 | h1
     · exact .inl (show v.ownBlock=some k from h1 ▸ hk)
     · right;rw [h1] at hk;have:=Option.some.inj hk;omega
theorem K_at {x:α}{cs:List Value}(h:kd.K W x cs):kd.K (Base.at W).e x cs:=by rw [Base.at_e];exact h
theorem okWide_aggL {r:Reach}{base:Nat}{fs:Array Field}{v:Value}(hu:P.underlying t=some (.struct fs)) (h:Value.okWide P w r base t v):∃ cs:List Value,v=.agg cs.toArray:=by
 unfold Value.okWide at h
 rw [hu] at h
 obtain ⟨cs,rfl,_⟩:=h
 exact ⟨cs.toList,by simp⟩
end
end Go.Proofs.YtpmdhkjbhjgoaaaGreatK


/-
  What is frozen for the rest of a body; bundles of rows (a slice of slices of one's own).
-/
namespace Go.Proofs.YtpmdhkjbhjgoaaaGreatK
open Go.RowKit
@[reducible] def Cx.base (c:Cx) (B':Base):Cx:=⟨c.P,c.F,c.N,B',c.fn,c.dp,c.call⟩
section
variable {c : Cx} {Q : Post} {x : Code} {E : Env} {D : List Deferred} {H H' Ψ Φ : List Res}
theorem wFreeze (Ψ:List Res) (hs:Split H Ψ Φ) (h:∀ B',Grow c.B.e B'.e→(∀ r Φ'',Pick Ψ r Φ''→r.q B'.e)→W (c.base B') x (fun e E D H'=>Q e E D (H'++Ψ)) E D Φ):W c x Q E D H:=by
 intro a w ha hw
 have hS:St c.B (Φ++Ψ) w:=(hw.perm hs.perm).swap
 have hq:∀ r Φ'',Pick Ψ r Φ''→r.q (c.B.call w Φ).e:=fun r Φ'' hp=>by
  obtain ⟨h1,h2⟩:=(Sep.all _ _ _).1 hS.sep
  refine r.st w _ (h1 r (List.mem_append_right _ hp.mem)).1 (fun k hk=>?_)
  rw [Base.e_heap,if_neg]
  · rfl
  · rintro ⟨s,hs,hsk⟩
    exact (List.pairwise_append.1 h2).2.2 s hs r hp.mem k hsk hk
 refine wpIn_mono (h (c.B.call w Φ) hS.egrow hq a w ha hS.lend) ?_
 rintro e a' w' ⟨E',D',H',h1,h2,h3,h4⟩
 exact ⟨E',D',H'++Ψ,h1,hS.give h2,h3,h4⟩
end
section
variable {B : Base} {Φ Φ' Ψ : List Res} {r r' : Res} {i : Nat}
end
abbrev Hdr:=Option Addr×Nat×Nat
abbrev hV (h:Hdr):Value:=.slice h.1 h.2.1 h.2.2
def kHdr:Kd Hdr:=Kd.scalar hV (fun _=>rfl)
section
variable {α : Type} {kd : Kd α} {W : World} {ei eo : TypeId} {hs : List Hdr} {xss : List (List α)} {B : Base} {Φ Φ' Φ'' : List Res} {w : World}
def rws (kd:Kd α) (W:World) (ei:TypeId) (hs:List Hdr) (xss:List (List α)):List Res:=List.zipWith (fun h xs=>row kd W ei (hV h) xs) hs xss
theorem rws_at {i:Nat}{u:Hdr}{xs:List α}(hu:hs[i]?=some u) (hx:xss[i]?=some xs):(rws kd W ei hs xss)[i]?=some (row kd W ei (hV u) xs):=by
 unfold rws;rw [List.getElem?_zipWith,hu,hx]
theorem grid_C {A:Option Addr}{n cp:Nat}{W0:World}(h1:(row kHdr W0 eo (.slice A n cp) hs).q w) (h2:(bun (rws kd W ei hs xss)).q w) (hl:hs.length=xss.length) (g:Grow W w):(Kd.slice kd).C w A xss:=by
 have hn:∀ w' x cs,kHdr.K W0 x cs→kHdr.K w' x cs:=fun _ _ _ h=>h
 obtain ⟨cs,ho,hr⟩:=h1
 have hr':Cat kHdr w hs cs:=by
  clear ho hl h2
  induction hs generalizing cs with
  | nil=>exact hr
  | cons x xs ih=>obtain ⟨a,rest,e,hK,hR⟩:=hr;exact ⟨a,rest,e,hK,ih rest hR⟩
 obtain ⟨e1,e2,⟨hbig,hC⟩,_⟩:=row_C (kd:=kHdr) (W:=w) (e:=eo) (n:=n) (cp:=cp) (A:=A) ⟨cs,ho,hr'⟩ (Grow.refl _)
 refine ⟨by omega,fun h0=>?_⟩
 obtain ⟨ad,rfl,hc⟩:=hC (by omega)
 refine ⟨ad,rfl,fun j xs hj=>?_⟩
 have hjl:j<hs.length:=by rw [hl];exact (List.getElem?_eq_some_iff.1 hj).1
 obtain ⟨c,hK,hcell⟩:=hc j _ (List.getElem?_eq_getElem hjl)
 have hq:=h2.1 _ (List.mem_of_getElem? (rws_at (kd:=kd) (W:=W) (ei:=ei) (List.getElem?_eq_getElem hjl) hj))
 obtain ⟨f1,f2,f3,_⟩:=row_C hq g
 refine ⟨_,⟨hs[j].1,hs[j].2.2,rfl,by omega,f3⟩,fun i u hi=>?_⟩
 refine hcell i u ?_
 rw [show c=[hV hs[j]] from hK]
 rw [← f1] at hi
 exact hi
end
section
variable {c : Cx} {N : Md c} {M : Me c} {rest : List Oper} {E : Env} {D : List Deferred} {H H' H'' : List Res}
variable {α : Type} {kd : Kd α} {W : World} {ei : TypeId} {hs : List Hdr} {xss : List (List α)}
end
end Go.Proofs.YtpmdhkjbhjgoaaaGreatK


/-
  The builtin copy; more on bundles.
-/
namespace Go.Proofs.YtpmdhkjbhjgoaaaGreatK
open Go.RowKit
section
variable {c : Cx} {N : Md c} {M : Me c} {d : Nat} {ty : TypeId} {pos : String} {af : Array Edge} {rest : List Oper} {E : Env} {D : List Deferred} {H H' H'' : List Res} {v : Value} {x y z : Operand} {k : IntKind} {t t' : TypeId}
end
section
variable {α : Type} {kd : Kd α} {W : World} {ei : TypeId} {hs : List Hdr} {xss : List (List α)} {B : Base} {Φ Φ' Φ'' : List Res}
theorem bun_snoc {Ψ:List Res}{r:Res}(h1:Pick Φ r Φ') (h2:Pick Φ' (bun Ψ) Φ''):Leads B Φ (bun (Ψ++[r]) :: Φ''):=fun w h=>by
 have h3:St B (bun Ψ :: r :: Φ'') w:=h.perm (h1.perm.trans ((h2.perm.cons _).trans (List.Perm.swap _ _ _)))
 have h4:=h3.unpack
 exact St.pack (Ψ:=Ψ++[r]) (by rw [List.append_assoc];exact h4)
theorem rws_snoc {u:Hdr}{l:List α}(hl:hs.length=xss.length):rws kd W ei (hs++[u]) (xss++[l])=rws kd W ei hs xss++[row kd W ei (hV u) l]:=by
 unfold rws;rw [List.zipWith_append hl];rfl
theorem bun_nil:Leads B Φ (bun [] :: Φ):=fun w h=>St.pack (Ψ:=[]) h
end
section
variable {c : Cx} {N : Md c} {rest : List Oper} {E : Env} {D : List Deferred} {H H' H'' : List Res} {α : Type} {kd : Kd α} {W : World} {ei : TypeId} {hs : List Hdr} {xss : List (List α)}
theorem oSnoc {u:Hdr}{l:List α}(h1:Pick H (row kd W ei (hV u) l) H') (h2:Pick H' (bun (rws kd W ei hs xss)) H'') (hl:hs.length=xss.length) (h:O N rest E D (bun (rws kd W ei (hs++[u]) (xss++[l])) :: H'')):O N rest E D H:=
 oConv (bun_snoc h1 h2) (by rw [← rws_snoc hl];exact h)
end
end Go.Proofs.YtpmdhkjbhjgoaaaGreatK


/-
  The library's slices.Sort and slices.Compact at []int, as the walk meets them: out of the kit's contracts.
-/
namespace Go.Proofs.YtpmdhkjbhjgoaaaGreatK
open Go.RowKit Go.Shelf Go.Sort
section
variable {B : Base} {w : World} {P : Program} {ρ : Ren} {W : World} {e : TypeId} {A : Option Addr} {n cp : Nat} {zs : List Int}
theorem cat_scalar {α:Type}{enc:α→Value}{h1:∀ x,(enc x).oneCell'=true} : ∀ {xs:List α}{cs:List Value},Cat (Kd.scalar enc h1) W xs cs↔cs=xs.map enc
 | [],cs=>Iff.rfl
 | x :: xs,cs=>by
  constructor
  · rintro ⟨a,rest,e,hK,hR⟩
    rw [e,show a=[enc x] from hK,cat_scalar.1 hR];rfl
  · intro h
    exact ⟨[enc x],xs.map enc,h,rfl,cat_scalar.2 rfl⟩
theorem row_at {α:Type}{enc:α→Value}{h1:∀ x,(enc x).oneCell'=true}{xs:List α}(h:(row (Kd.scalar enc h1) W e (.slice A n cp) xs).q w) (h0:0<n) :
 n=xs.length∧∃ b cur,A=some ⟨b,0,none⟩∧w.heap[b]?=some (.cells cur e (0,0))∧n≤cp∧cp≤maxLen∧cur.size=cp∧cur.toList.take n=xs.map enc:=by
 obtain ⟨cs,⟨hl,ho⟩,hr⟩:=h
 have hcs:=cat_scalar.1 hr
 rcases ho with ⟨e1,e2⟩ | ⟨b,cap,cur,e1,_,hh,k1,k2,k3,k4⟩
 · injection e1 with e1 e3 e4;omega
 · injection e1 with e1 e3 e4
   subst e1 e3 e4
   have e5:(Kd.scalar enc h1).sz=1:=rfl
   rw [e5,Nat.mul_one] at k3 k4
   exact ⟨rfl,b,cur,rfl,hh,k1,k2,k3,by rw [k4,hcs]⟩
theorem row_mk {α:Type}{enc:α→Value}{h1:∀ x,(enc x).oneCell'=true}{xs:List α}{b:Nat}{cur:Array Value}(hh:w.heap[b]?=some (.cells cur e (0,0))) (hn:xs.length≤cp) (hm:cp≤maxLen) (hs:cur.size=cp) (ht:cur.toList.take xs.length=xs.map enc) :
 (row (Kd.scalar enc h1) W e (.slice (some ⟨b,0,none⟩) xs.length cp) xs).q w:=by
 have e5:(Kd.scalar enc h1).sz=1:=rfl
 exact ⟨xs.map enc,⟨by rw [e5,List.length_map,Nat.mul_one],.inr ⟨b,cp,cur,rfl,Nat.zero_le _,hh,hn,hm,by rw [e5,Nat.mul_one];exact hs,by rw [e5,Nat.mul_one];exact ht⟩⟩,cat_scalar.2 rfl⟩
theorem row_holds {zs:List Int}{b:Nat}{cur:Array Value}{m:Nat}(hh:w.heap[b]?=some (.cells cur e (0,0))) (ht:cur.toList.take m=zs.map (Value.int .i64)):Holds (Value.int .i64) w b 0 zs.toArray:=by
 intro j hj
 have hj':j<zs.length:=by simpa using hj
 have h1:(cur.toList.take m)[j]?=some (.int .i64 zs[j]):=by rw [ht];simp [hj']
 rw [List.getElem?_take] at h1
 split at h1
 · constructor
   · unfold World.cell?
     rw [hh]
     simp only [Option.isSome_none,Bool.false_eq_true,if_false,Nat.zero_add]
     rw [show (zs.toArray)[j]! = zs[j] by simp [hj']]
     simpa using h1
   · unfold World.frozen?
     rw [hh];simp
 · cases h1
theorem put_heap {b:Nat}{cur:Array Value}{q:Nat}{os:Array Obj}{zs:List Int}(hh:w.heap[b]?=some (.cells cur e (0,0))) :
 (grow (putRow (Value.int .i64) (Sort.ahead w q) b 0 zs.toArray) os).heap[b]?=some (.cells (putCells (Value.int .i64) 0 zs.toArray cur) e (0,0)):=by
 have hb:b<w.heap.size:=(Array.getElem?_eq_some_iff.1 hh).1
 show ((w.heap.modify b _)++os)[b]?=_
 rw [Array.getElem?_append_left (by simpa using hb),Array.getElem?_modify,if_pos rfl,hh]
 rfl
theorem put_chg {b:Nat}{q:Nat}{os:Array Obj}{zs:List Int}{S:Nat→Prop}(hS:S b):Chg w (grow (putRow (Value.int .i64) (Sort.ahead w q) b 0 zs.toArray) os) S:=by
 refine ⟨rfl,rfl,rfl,?_,fun k hk hn=>?_⟩
 · show w.heap.size≤((w.heap.modify b _)++os).size
   rw [Array.size_append,Array.size_modify];omega
 · show ((w.heap.modify b _)++os)[k]?=_
   rw [Array.getElem?_append_left (by simpa using hk),Array.getElem?_modify,if_neg (by rintro rfl;exact hn hS)]
theorem put_take {cur:Array Value}{zs:List Int}(h:zs.length≤cur.size):(putCells (Value.int .i64) 0 zs.toArray cur).toList.take zs.length=zs.map (Value.int .i64):=by
 apply List.ext_getElem?
 intro k
 rw [List.getElem?_take]
 split
 · rename_i hk
   have hk':k<cur.size:=by omega
   simp [putCells,hk,hk']
 · rename_i hk
   simp at hk
   simp [hk]
theorem rowI_put {zs zs':List Int}(hS:St B [row (Kd.int .i64) W e (.slice A n cp) zs] w) (h0:0<n) (hl:zs'.length=zs.length) (q:Nat) (os:Array Obj) :
 ∃ b,A=some ⟨b,0,none⟩∧St B [row (Kd.int .i64) W e (.slice A n cp) zs'] (grow (putRow (Value.int .i64) (Sort.ahead w q) b 0 zs'.toArray) os):=by
 obtain ⟨e1,b,cur,rfl,hh,k1,k2,k3,k4⟩:=row_at (hS.get .here) h0
 refine ⟨b,rfl,hS.upd' .here (put_chg rfl) ?_ (fun k hk=>.inl hk)⟩
 subst e1
 rw [← hl]
 exact row_mk (put_heap hh) (by omega) k2 (by simp [putCells,k3]) (put_take (by omega))
def leI (x y:Int):Bool:=decide (x≤y)
theorem sort_int (Ly:Lays.n189 P ρ) (hS:St B [row (Kd.int .i64) W e (.slice A n cp) zs] w) (hz:zs.length≤1000000000) :
 CallsIn Fence.wide 0 P (ρ.f 189) #[.slice A n cp] w (Ret B (fun _:Unit=>True) (fun _=>.tuple #[]) (fun _=>[row (Kd.int .i64) W e (.slice A n cp) (zs.mergeSort leI)])):=by
 refine callsIn_wide.2 ?_
 rcases Nat.eq_zero_or_pos n with rfl | h0
 · have hn:0=zs.length:=(row_len (hS.get .here)).1
   have:zs=[]:=List.eq_nil_of_length_eq_zero hn.symm
   subst this
   refine (Any.slices_Sort_int_none Ly A cp w).mono ?_
   rintro e' w' ⟨rfl,rfl⟩
   exact ⟨(),trivial,rfl,by simpa using hS⟩
 · obtain ⟨e1,b,cur,rfl,hh,k1,k2,k3,k4⟩:=row_at (hS.get .here) h0
   subst e1
   refine (Any.slices_Sort_int Ly b 0 cp zs w (row_holds hh k4) (Array.getElem?_eq_some_iff.1 hh).1 (by omega)).mono ?_
   rintro e' w' ⟨rfl,q,os,rfl⟩
   obtain ⟨b',hb,h⟩:=rowI_put (zs':=zs.mergeSort leI) hS h0 (by simp) q os
   injection hb with hb
   injection hb with hb
   subst hb
   exact ⟨(),trivial,rfl,h⟩
theorem rowI_cut {zs:List Int}{m:Nat}(hS:St B [row (Kd.int .i64) W e (.slice A n cp) zs] w) (hm:m≤n) (h0:0<m):St B [row (Kd.int .i64) W e (.slice A m cp) (zs.take m)] w:=by
  obtain ⟨e1,b,cur,rfl,hh,k1,k2,k3,k4⟩:=row_at (hS.get .here) (by omega)
  subst e1
  refine hS.conv .here (fun _=>?_) (fun k hk=>hk)
  have hl:(zs.take m).length=m:=by simp;omega
  have:=row_mk (enc:=Value.int .i64) (h1:=fun _=>rfl) (xs:=zs.take m) (W:=W) hh (by omega) k2 k3 (by rw [hl,List.map_take,← k4,List.take_take,Nat.min_eq_left hm])
  rw [hl] at this
  exact this
theorem compact_int (Ly:Lays2.n20 P ρ) (hS:St B [row (Kd.int .i64) W e (.slice A n cp) zs] w) (hz:zs.length≤1000000000) :
 CallsIn Fence.wide 0 P (ρ.f 20) #[.slice A n cp] w (Ret B (fun _:Unit=>True) (fun _=>.slice A (Lib.compact zs).length cp) (fun _=>[row (Kd.int .i64) W e (.slice A (Lib.compact zs).length cp) (Lib.compact zs)])):=by
 refine callsIn_wide.2 ?_
 rcases Nat.eq_zero_or_pos n with rfl | h0
 · have hn:0=zs.length:=(row_len (hS.get .here)).1
   have:zs=[]:=List.eq_nil_of_length_eq_zero hn.symm
   subst this
   refine (Any.slices_Compact_int_empty Ly A cp w).mono ?_
   rintro e' w' ⟨rfl,rfl⟩
   exact ⟨(),trivial,rfl,hS⟩
 · obtain ⟨e1,b,cur,rfl,hh,k1,k2,k3,k4⟩:=row_at (hS.get .here) h0
   subst e1
   refine (Any.slices_Compact_int Ly b 0 cp zs w (row_holds hh k4) (by omega) (by omega)).mono ?_
   rintro e' w' ⟨rfl,q,rfl⟩
   have hle:(Lib.compact zs).length≤zs.length:=by
    unfold Lib.compact Lib.compactUpTo
    rw [List.length_map]
    exact Nat.le_trans (List.length_filter_le _ _) (by simp)
   obtain ⟨b',hb,h⟩:=rowI_put (zs':=Lib.compact zs++List.replicate (zs.length-(Lib.compact zs).length) 0) hS h0 (by simp;omega) q #[]
   injection hb with hb
   injection hb with hb
   subst hb
   rw [grow_empty] at h
   have hpos:0<(Lib.compact zs).length:=by
    cases zs with
    | nil=>simp at h0
    | cons z zs=>
     unfold Lib.compact
     rw [List.length_cons]
     have key:∀ m,0<(Lib.compactUpTo (z :: zs).toArray (m+1)).length:=by
      intro m
      induction m with
      | zero=>rw [Lib.compactUpTo_succ,Lib.keeps_lt_one _ 0 (by omega)];simp
      | succ m ih=>rw [Lib.compactUpTo_succ,List.length_append];omega
     exact key _
   have h2:=rowI_cut h hle hpos
   rw [List.take_append_of_le_length (Nat.le_refl _),List.take_length] at h2
   exact ⟨(),trivial,rfl,h2⟩
theorem compactTo_spec {zs:List Int}(hs:zs.Pairwise (·≤·)):∀ m,m≤zs.length→(Lib.compactUpTo zs.toArray m).Pairwise (·<·)∧(∀ x,x ∈ Lib.compactUpTo zs.toArray m↔∃ j,j<m∧zs[j]?=some x)
 | 0,_=>by refine ⟨by simp [Lib.compactUpTo],fun x=>by simp [Lib.compactUpTo]⟩
 | m+1,hm=>by
  obtain ⟨h1,h2⟩:=compactTo_spec hs m (by omega)
  have hml:m<zs.length:=by omega
  have hd:∀ j,j<zs.length→(zs.toArray)[j]! = zs[j]!:=fun j hj=>by simp [hj]
  have hg:zs[m]?=some zs[m]:=List.getElem?_eq_getElem hml
  have hmono:∀ i j (hi:i<zs.length) (hj:j<zs.length),i≤j→zs[i]≤zs[j]:=fun i j hi hj hij=>by
   rcases Nat.lt_or_ge i j with h | h
   · exact List.pairwise_iff_getElem.1 hs i j hi hj h
   · have:i=j:=by omega
     subst this;exact Int.le_refl _
  rw [Lib.compactUpTo_succ]
  have hdm:(zs.toArray)[m]! = zs[m]:=by simp [hml]
  cases hk:Lib.keeps zs.toArray m with
  | true=>
   simp only [if_true,hdm]
   refine ⟨List.pairwise_append.2 ⟨h1,by simp,fun x hx y hy=>?_⟩,fun x=>?_⟩
   · obtain ⟨j,hj,hjx⟩:=(h2 x).1 hx
     obtain ⟨hjl,rfl⟩:=List.getElem?_eq_some_iff.1 hjx
     rw [List.mem_singleton.1 hy]
     have hm0:0<m:=by omega
     have hne:¬ zs[m]=zs[m-1]:=fun e=>by
      have:Lib.keeps zs.toArray m=false:=Lib.keeps_neg hm0 (by rw [hdm,show (zs.toArray)[m-1]! = zs[m-1] by simp [show m-1<zs.length by omega]];exact e)
      rw [this] at hk;cases hk
     have a1:=hmono j (m-1) hjl (by omega) (by omega)
     have a2:=hmono (m-1) m (by omega) hml (by omega)
     omega
   · rw [List.mem_append,h2,List.mem_singleton]
     constructor
     · rintro (⟨j,hj,hx⟩ | rfl)
       · exact ⟨j,by omega,hx⟩
       · exact ⟨m,by omega,hg⟩
     · rintro ⟨j,hj,hx⟩
       rcases Nat.lt_or_ge j m with h | h
       · exact .inl ⟨j,h,hx⟩
       · have:j=m:=by omega
         subst this
         rw [hg] at hx
         exact .inr (Option.some.inj hx).symm
  | false=>
   simp only [Bool.false_eq_true,if_false,List.append_nil]
   refine ⟨h1,fun x=>?_⟩
   rw [h2]
   constructor
   · rintro ⟨j,hj,hx⟩;exact ⟨j,by omega,hx⟩
   · rintro ⟨j,hj,hx⟩
     rcases Nat.lt_or_ge j m with h | h
     · exact ⟨j,h,hx⟩
     · have:j=m:=by omega
       subst this
       have hm0:0<j:=by
        rcases Nat.eq_zero_or_pos j with h0 | h0
        · subst h0
          rw [Lib.keeps_lt_one _ 0 (by omega)] at hk;cases hk
        · exact h0
       have heq:zs[j]=zs[j-1]:=by
        apply Classical.byContradiction
        intro hne
        have:Lib.keeps zs.toArray j=true:=Lib.keeps_pos (by rw [hdm,show (zs.toArray)[j-1]! = zs[j-1] by simp [show j-1<zs.length by omega]];exact hne)
        rw [this] at hk;cases hk
       rw [hg] at hx
       refine ⟨j-1,by omega,?_⟩
       rw [List.getElem?_eq_getElem (by omega),← heq]
       exact hx
theorem sorted_spec (zs:List Int):(Lib.compact (zs.mergeSort leI)).Pairwise (·<·)∧∀ x,x ∈ Lib.compact (zs.mergeSort leI)↔x ∈ zs:=by
 have hs:(zs.mergeSort leI).Pairwise (·≤·):=by
  have:=List.pairwise_mergeSort (le:=leI) (by intro a b c;simp only [leI,decide_eq_true_eq];omega) (by intro a b;simp only [leI,Bool.or_eq_true,decide_eq_true_eq];omega) zs
  exact this.imp (fun h=>by simpa [leI] using h)
 obtain ⟨h1,h2⟩:=compactTo_spec hs _ (Nat.le_refl _)
 refine ⟨h1,fun x=>(h2 x).trans ?_⟩
 rw [← List.mem_mergeSort (le:=leI) (l:=zs),List.mem_iff_getElem?]
 constructor
 · rintro ⟨j,_,hx⟩;exact ⟨j,hx⟩
 · rintro ⟨j,hx⟩;exact ⟨j,(List.getElem?_eq_some_iff.1 hx).1,hx⟩
end
end Go.Proofs.YtpmdhkjbhjgoaaaGreatK


/-
  A region that draws its order, with late copies too: the tail is a list of places.
-/
namespace Go.Proofs.YtpmdhkjbhjgoaaaGreatK
open Go.RowKit
section
variable {P : Program} {ops : Array Oper} {md : Region.Mode} {w : World} {ts : List Nat}
def seqT (md:Region.Mode) (ops:Array Oper):List Nat→Array Bool→Bool
  | [],listed=>(Region.ready md ops listed).isEmpty
  | t :: ts,listed=>decide (Region.ready md ops listed=[t]) && seqT md ops ts (listed.setIfInBounds t true)
structure HI (md:Region.Mode) (ops:Array Oper) (ts:List Nat) (listed:Array Bool):Prop where
  size:listed.size=ops.size
  closed:∀ j oj,ops[j]?=some oj→listed.getD j false=true→∀ e ∈ oj.after,Region.binds md e=true→listed.getD e.on false=true
  tail:∀ t ∈ ts,listed.getD t true=false
theorem HI.set {i:Nat}{listed:Array Bool}(inv:HI md ops ts listed) (hi:i ∈ Region.ready md ops listed) (hin:i ∉ ts):HI md ops ts (listed.setIfInBounds i true):=by
 obtain ⟨_,oi,hoi,hall⟩:=mem_ready.1 hi
 refine ⟨by simp [inv.size],fun j oj hj hl e he hb=>?_,fun t ht=>by rw [getD_set_ne true (by rintro rfl;exact hin ht)];exact inv.tail t ht⟩
 by_cases hij:i=j
 · subst hij
   have:oj=oi:=Option.some.inj (hj.symm.trans hoi)
   subst this
   exact getD_set_true (hall e he hb)
 · rw [getD_set_ne false hij] at hl
   exact getD_set_true (inv.closed j oj hj hl e he hb)
end
section
variable {c : Cx} {Q : Post} {E E' : Env} {D : List Deferred} {H : List Res}
end
end Go.Proofs.YtpmdhkjbhjgoaaaGreatK


/-
  A region that draws its order, in whatever fence (in a round of a range over a function too): what only looks gives values; the tail is a list of places.
-/
namespace Go.Proofs.YtpmdhkjbhjgoaaaGreatK
open Go.RowKit
section
variable {F : Fence} {m : Nat} {P : Program} {ops : Array Oper} {md : Region.Mode} {w : World} {ts : List Nat}
def plainB (ops:Array Oper):Bool:=ops.all (fun o=>plain o.op)
theorem plain_at (h:plainB ops=true) {i:Nat}{o:Oper}(ho:ops[i]?=some o):plain o.op=true:=by
 obtain ⟨hi,he⟩:=Array.getElem?_eq_some_iff.1 ho
 have:=Array.all_eq_true.1 h i hi
 rw [he] at this;exact this
theorem wpAnyIn_of_seqT {Q':Exit→Act→World→Prop} : ∀ (ts:List Nat) (l:List Oper) (listed:Array Bool) (a:Act) (w:World),ts.mapM (fun t=>ops[t]?)=some l→seqT md ops ts listed=true→wpListIn F m P ops Q' l a w→wpAnyIn F m P md ops Q' ts.length listed a w
 | [],l,_,_,_,hl,hB,h=>by
  simp at hl;subst hl
  exact ⟨by simpa [seqT] using hB,h⟩
 | t :: ts,l,listed,a,w,hl,hB,h=>by
  rw [List.mapM_cons] at hl
  cases h0:ops[t]? with
  | none=>rw [h0] at hl;simp at hl
  | some o=>
   rw [h0] at hl
   cases hts:ts.mapM (fun t=>ops[t]?) with
   | none=>rw [hts] at hl;simp at hl
   | some l'=>
    rw [hts] at hl
    simp at hl
    subst hl
    simp only [seqT,Bool.and_eq_true,decide_eq_true_eq] at hB
    refine ⟨fun h1=>(by rw [hB.1] at h1;cases h1),fun i hi=>?_⟩
    rw [hB.1] at hi
    have hik:i=t:=by simpa using hi
    subst hik
    have hw:wpOpIn F m P ops Q' i (wpListIn F m P ops Q' l') a w:=by unfold wpOpIn;simp only [h0];exact h
    exact wpOpIn_mono (fun a' w' h'=>wpAnyIn_of_seqT ts l' _ a' w' hts hB.2 h') hw
end
section
variable {c : Cx} {Q : Post} {E E' : Env} {D : List Deferred} {H : List Res}
end
end Go.Proofs.YtpmdhkjbhjgoaaaGreatK


/-
  A region that draws its order, once more: what looks, at any time that the waits leave open; what turns the world (by a value), in its order; then the tail. What may look late is looked at again behind each turn.
-/
namespace Go.Proofs.YtpmdhkjbhjgoaaaGreatK
open Go.RowKit
section
variable {F : Fence} {m : Nat} {P : Program} {ops : Array Oper} {md : Region.Mode} {ts : List Nat} {listed : Array Bool}
def waitsP (md:Region.Mode) (ops:Array Oper):Nat→Nat→Nat→Bool
  | 0,j,i=>Region.waitsFor md ops j i
  | f+1,j,i=>Region.waitsFor md ops j i || (List.range ops.size).any fun k=>Region.waitsFor md ops j k && waitsP md ops f k i
abbrev Clo (md:Region.Mode) (ops:Array Oper) (listed:Array Bool):Prop:=∀ j oj,ops[j]?=some oj→listed.getD j false=true→∀ e ∈ oj.after,Region.binds md e=true→listed.getD e.on false=true
theorem waitsP_listed (cl:Clo md ops listed):∀ (f j i:Nat),listed.getD j false=true→waitsP md ops f j i=true→listed.getD i false=true:=by
 have one:∀ j i,listed.getD j false=true→Region.waitsFor md ops j i=true→listed.getD i false=true:=fun j i hj h=>by
  obtain ⟨oj,hoj,e,he,hb,rfl⟩:=Region.waitsFor_spec h
  exact cl j oj hoj hj e he hb
 intro f
 induction f with
 | zero=>exact one
 | succ f ih=>
  intro j i hj h
  simp only [waitsP,Bool.or_eq_true] at h
  rcases h with h | h
  · exact one j i hj h
  · obtain ⟨k,_,hk⟩:=List.any_eq_true.1 h
    simp only [Bool.and_eq_true] at hk
    exact ih k i (one j k hj hk.1) hk.2
theorem waitsP_ready (cl:Clo md ops listed) {f j i:Nat}(hj:j ∈ Region.ready md ops listed) (h:waitsP md ops f j i=true):listed.getD i false=true:=by
 obtain ⟨_,oj,hoj,hall⟩:=mem_ready.1 hj
 have one:∀ i,Region.waitsFor md ops j i=true→listed.getD i false=true:=fun i h=>by
  obtain ⟨o',ho',e,he,hb,rfl⟩:=Region.waitsFor_spec h
  have:o'=oj:=Option.some.inj (ho'.symm.trans hoj)
  subst this
  exact hall e he hb
 cases f with
 | zero=>exact one i h
 | succ f=>
  simp only [waitsP,Bool.or_eq_true] at h
  rcases h with h | h
  · exact one i h
  · obtain ⟨k,_,hk⟩:=List.any_eq_true.1 h
    simp only [Bool.and_eq_true] at hk
    exact waitsP_listed cl f k i (one k hk.1) hk.2
def lkA (P:Program) (ops:Array Oper) (A:Act) (w w':World) (i:Nat):Prop:=∃ o d,ops[i]?=some o∧o.dst=some d∧(execOp A.eval o).run P w=.ok (.value (A.tmps.getD d undef)) w'
def opTmps (o:Oper):List Nat:=o.op.operands.toList.filterMap fun | .tmp t=>some t | _=>none
def phB (ops:Array Oper) (ts:List Nat) (f:Nat):List Nat→List (List Nat×Nat)→List Nat→Bool
  | es,[],last=>(List.range ops.size).all fun i=>ts.contains i || last.contains i || es.any (fun e=>Nat.beq e i || waitsP .any ops f e i)
  | es,(ls,e) :: segs,last=>!(ts.contains e) && ((List.range ops.size).all fun i=>ts.contains i || ls.contains i || Nat.beq e i || es.any (fun e'=>Nat.beq e' i || waitsP .any ops f e' i) || waitsP .any ops f i e) && (ls.all fun i=>segs.all fun s=>!(Nat.beq i s.2)) && phB ops ts f (e :: es) segs last
variable {f : Nat}
structure Inv (ops:Array Oper) (ts:List Nat) (A:Act) (listed:Array Bool) (a:Act):Prop where
  hi:HI .any ops ts listed
  size:a.tmps.size=A.tmps.size
  dfr:a.defers=A.defers
  v1:∀ i o d,ops[i]?=some o→i ∉ ts→o.dst=some d→listed.getD i false=true→a.tmps.getD d undef=A.tmps.getD d undef
  v2:∀ t,(∀ i o,ops[i]?=some o→i ∉ ts→o.dst≠some t)→a.tmps.getD t undef=A.tmps.getD t undef
def cnt (ops:Array Oper) (ts:List Nat) (listed:Array Bool):Nat:=((List.range ops.size).filter fun i=>!(ts.contains i) && !(listed.getD i true)).length
theorem filter_one {l:List Nat}{p q:Nat→Bool}{i:Nat}(hn:l.Nodup) (hi:i ∈ l) (hp:p i=true) (hq:q i=false) (h:∀ j,j≠i→p j=q j):(l.filter q).length+1=(l.filter p).length:=by
 induction l with
 | nil=>cases hi
 | cons x l ih=>
  obtain ⟨hx,hn⟩:=List.nodup_cons.1 hn
  rw [List.filter_cons,List.filter_cons]
  by_cases e:x=i
  · subst e
    rw [hp,hq]
    have:l.filter q=l.filter p:=List.filter_congr (fun j hj=>(h j (by rintro rfl;exact hx hj)).symm)
    simp [this]
  · rw [h x e]
    have:=ih hn (by rcases List.mem_cons.1 hi with h | h;exact absurd h.symm e;exact h)
    cases q x <;> simp_all
theorem cnt_set {i:Nat}(hi:i<ops.size) (hs:listed.size=ops.size) (hit:i ∉ ts) (hun:listed.getD i true=false):cnt ops ts (listed.setIfInBounds i true)+1=cnt ops ts listed:=by
 unfold cnt
 refine filter_one List.nodup_range (List.mem_range.2 hi) (i:=i) ?_ ?_ (fun j hj=>?_)
 · simp [hit,hun]
 · have:(listed.setIfInBounds i true).getD i true=true:=by simp [hs,hi]
   simp [this]
 · rw [getD_set_ne true (Ne.symm hj)]
def doneL (ops:Array Oper) (ts:List Nat):Array Bool:=((List.range ops.size).map fun i=>!(ts.contains i)).toArray
end
end Go.Proofs.YtpmdhkjbhjgoaaaGreatK


/-
  The walk of such a region.
-/
namespace Go.Proofs.YtpmdhkjbhjgoaaaGreatK
open Go.RowKit
section
variable {P : Program} {ops : Array Oper} {a A : Act} {w w' w0 : World}
def isVal:Op→Bool
  | .move _ | .assign _ | .alloc _ | .box _ _ | .build _ _ | .buildSlice _ _ _ | .load _ _ | .binOp _ _ _ _ _ | .unOp _ _ _ | .fieldAddr _ _ _ | .field _ _ _ | .indexAddr _ _ _ | .index _ _ _ | .slice _ _ _ _ _ | .extract _ _ | .makeSlice _ _ _ | .makeFunc _ _ _ | .pick _ _ _ | .convert _ _ _ | .makeInterface _ _ | .lookup _ _ _ _ | .typeAssert _ _ _ _ | .nilCheck _=>true
  | .call { callee:=.builtin .append,.. }=>true
  | .call { callee:=.builtin .len,.. }=>true
  | _=>false
theorem val_of {s:Sem Value}{n:Next}(h:(do pure (Next.value (← s)):Sem Next).run P w=.ok n w'):∃ v,n=.value v:=by
 rw [Sem.run_bind] at h
 cases hs:s.run P w with
 | halt x w1=>rw [hs] at h;simp [Result.andThen] at h
 | ok v w1=>
  rw [hs,Result.andThen_ok,Sem.run_pure] at h
  injection h with h _
  exact ⟨v,h.symm⟩
theorem val_bind {α:Type}{P:Program}{w w':World}{n:Next}{s:Sem α}{f:α→Sem Next}(hf:∀ a w n w',(f a).run P w=.ok n w'→∃ v,n=.value v) (h:(s >>= f).run P w=.ok n w'):∃ v,n=.value v:=by
 rw [Sem.run_bind] at h
 cases hs:s.run P w with
 | halt x w1=>rw [hs] at h;simp [Result.andThen] at h
 | ok v w1=>rw [hs,Result.andThen_ok] at h;exact hf _ _ _ _ h
theorem nil_val {P:Program}{w w':World}{dst:Option Nat}{x:Operand}{ty:TypeId}{pos:String}{af:Array Edge}{g:Option (Nat×Bool)}{ρ:Operand→Value}{n:Next}(h:(execOp ρ ⟨dst,.nilCheck x,ty,pos,af,g⟩).run P w=.ok n w'):∃ v,n=.value v:=by
 have pv:∀ {u:Value}{n:Next}{w w':World},(Pure.pure (Next.value u):Sem Next).run P w=.ok n w'→∃ v,n=.value v:=fun h=>by
  rw [Sem.run_pure] at h;injection h with h _;exact ⟨_,h.symm⟩
 have rp:∀ {n:Next}{w w':World},(runtimePanic .nilDeref:Sem Next).run P w=.ok n w'→∃ v,n=.value v:=fun h=>by
  simp [go_sem] at h
 have h':=h
 simp only [execOp] at h'
 split at h'
 · exact rp h'
 · exact rp h'
 · exact rp h'
 · split at h'
   · exact rp h'
   · refine val_bind (fun a w n w' h=>?_) h'
     refine val_bind (fun a w n w' h=>?_) h
     split at h
     · refine val_bind (fun a w n w' h=>?_) h
       exact pv h
     · exact pv h
   · exact pv h'
 · exact pv h'
theorem val_run {o:Oper}(hv:isVal o.op=true) {ρ:Operand→Value}{n:Next}(h:(execOp ρ o).run P w=.ok n w'):∃ v,n=.value v:=by
 obtain ⟨dst,op,ty,pos,af,g⟩:=o
 have pv:∀ {u:Value},(Pure.pure (Next.value u):Sem Next).run P w=.ok n w'→∃ v,n=.value v:=fun h=>by
  rw [Sem.run_pure] at h;injection h with h _;exact ⟨_,h.symm⟩
 cases op <;> simp only [isVal,Bool.false_eq_true] at hv
 case call c=>
  obtain ⟨cal,args,ats⟩:=c
  cases cal with
  | builtin b=>
   cases b <;> simp only [Bool.false_eq_true] at hv
   all_goals
    simp only [execOp,resolve,Sem.run_bind,Sem.run_pure,Result.andThen_ok,invoke,builtin] at h
    first | exact val_of h | (rw [← Sem.run_bind] at h;exact val_of h) | skip
   all_goals
    revert h
    generalize Sem.run P _ w=r
    intro h
    cases r with
    | halt x w1=>simp [Result.andThen] at h
    | ok v w1=>simp only [Result.andThen_ok,Sem.run_pure,Result.ok.injEq] at h;exact ⟨v,h.1.symm⟩
  | _=>simp only [Bool.false_eq_true] at hv
 case pick cc x y=>
  have h':(do pure (Next.value (if ← asBool (ρ cc) then ρ x else ρ y)):Sem Next).run P w=.ok n w':=h
  rw [Sem.run_bind] at h'
  cases hs:(asBool (ρ cc)).run P w with
  | halt q w1=>rw [hs] at h';simp [Result.andThen] at h'
  | ok b w1=>
   rw [hs,Result.andThen_ok,Sem.run_pure] at h'
   injection h' with h' _
   exact ⟨_,h'.symm⟩
 case nilCheck x=>exact nil_val h
 all_goals first | exact pv h | exact val_of h
def lkX (P:Program) (ops:Array Oper) (w0:World) (K:Act→Prop):List Oper→Act→Prop
  | [],a=>K a
  | o :: rest,a=>if Region.wanted o (yielded ops a.tmps) then ∃ n,(execOp a.eval o).run P w0=.ok n w0∧∀ v,n=.value v→lkX P ops w0 K rest (a.put o.dst v) else lkX P ops w0 K rest (a.put o.dst undef)
def rnX (P:Program) (ops:Array Oper) (K:Act→World→Prop):List Oper→Act→World→Prop
  | [],a,w=>K a w
  | o :: rest,a,w=>if Region.wanted o (yielded ops a.tmps) then ∃ n w',(execOp a.eval o).run P w=.ok n w'∧∀ v,n=.value v→rnX P ops K rest (a.put o.dst v) w' else rnX P ops K rest (a.put o.dst undef) w
variable {c : Cx} {Q : Post} {E E' : Env} {D : List Deferred} {H : List Res}
def Md.lk (c:Cx) (ops:Array Oper) (w0:World) (K:Act→Prop):Md c where
  X:=fun l a w=>w=w0→lkX c.P ops w0 K l a
  ops:=ops
  calm o rest a w v hw hp hr hK:=by
    rintro rfl
    simp only [lkX,hw,if_true]
    exact ⟨_,hr,fun v' h=>by cases h;exact hK rfl⟩
  skip o rest a w hw hK:=by
    rintro rfl
    simp only [lkX,hw]
    exact hK rfl
  want dst op ty pos af g rest a w hw h:=by
    rintro rfl
    have h:=h rfl
    simp only [lkX] at h ⊢
    rw [if_pos hw]
    rw [if_pos (show Region.wanted { dst:=dst,op:=op,type:=ty,pos:=pos,after:=af,guard:=none } (yielded ops a.tmps)=true from rfl)] at h
    exact h
def Me.rn (c:Cx) (ops:Array Oper) (K:Act→World→Prop):Me c where
  X:=rnX c.P ops K
  ops:=ops
  calm o rest a w v hw hp hr hK:=by
    simp only [rnX,hw,if_true]
    exact ⟨_,_,hr,fun v' h=>by cases h;exact hK⟩
  skip o rest a w hw hK:=by simp only [rnX,hw];exact hK
  want dst op ty pos af g rest a w hw h:=by
    simp only [rnX] at h ⊢
    rw [if_pos hw]
    rw [if_pos (show Region.wanted { dst:=dst,op:=op,type:=ty,pos:=pos,after:=af,guard:=none } (yielded ops a.tmps)=true from rfl)] at h
    exact h
  eff o rest a w v w' hw hp hr hK:=by
    simp only [rnX,hw,if_true]
    exact ⟨_,_,hr,fun v' h=>by cases h;exact hK⟩
  effs o rest a w w' hw hp hr hK:=by
    simp only [rnX,hw,if_true]
    exact ⟨_,_,hr,fun v' h=>by cases h⟩
  enter o rest a w g args w1 hw hp hr hK:=by
    simp only [rnX,hw,if_true]
    exact ⟨_,_,hr,fun v' h=>by cases h⟩
def Again (c:Cx) (ops:Array Oper) (E:Env) (D:List Deferred) (H:List Res) (res:List Nat):Prop:=∀ a w,Ok c.N E D a→St c.B H w→∀ i ∈ res,lkA c.P ops a w w i
theorem Again.nil:Again c ops E D H []:=fun _ _ _ _ _ h=>by cases h
theorem Again.cons {i d:Nat}{v:Value}{res:List Nat}{op:Op}{ty:TypeId}{pos:String}{af:Array Edge}(ho:ops[i]?=some ⟨some d,op,ty,pos,af,none⟩) (hE:E.find d=some v) (hv:isVal op=true) (hN:Nat.blt d c.N=true) (h:∀ w0,O (Md.lk c ops w0 (fun a=>a.tmps.getD d undef=v)) [⟨some d,op,ty,pos,af,none⟩] E D H) (k:Again c ops E D H res):Again c ops E D H (i :: res):=by
 intro a w ha hw j hj
 rcases List.mem_cons.1 hj with rfl | hj
 · have h1:=h w a w ha hw rfl
   simp only [lkX] at h1
   rw [if_pos (show Region.wanted { dst:=some d,op:=op,type:=ty,pos:=pos,after:=af,guard:=none } (yielded ops a.tmps)=true from rfl)] at h1
   obtain ⟨n,hr,hk⟩:=h1
   obtain ⟨u,rfl⟩:=val_run (o:=⟨some d,op,ty,pos,af,none⟩) hv hr
   have h2:=hk u rfl
   have hd:d<a.tmps.size:=by rw [ha.size];simpa [Nat.blt_eq] using hN
   have h3:(a.put (some d) u).tmps.getD d undef=u:=by simp [Act.put,hd]
   refine ⟨_,d,ho,rfl,?_⟩
   rw [hr,ha.fit d v hE]
   congr 2
   rw [← h3];exact h2
 · exact k a w ha hw j hj
theorem oLkHas {d:Nat}{v:Value}(hE:E.find d=some v):O (Md.lk c ops w0 (fun a=>a.tmps.getD d undef=v)) [] E D H:=by
 rintro a w ha hw rfl
 exact ha.fit d v hE
end
end Go.Proofs.YtpmdhkjbhjgoaaaGreatK


/-
  Draws once more: turns of the world that may be calls.
-/
namespace Go.Proofs.YtpmdhkjbhjgoaaaGreatK
open Go.RowKit
def rnC (P:Program) (ops:Array Oper) (K:Act→World→Prop):List Oper→Act→World→Prop
  | [],a,w=>K a w
  | o :: rest, a, w => if Region.wanted o (yielded ops a.tmps) then ((∃ v w', (execOp a.eval o).run P w = .ok (.value v) w' ∧ rnC P ops K rest (a.put o.dst v) w') ∨ (∃ w', (execOp a.eval o).run P w = .ok .skip w' ∧ rnC P ops K rest (a.put o.dst undef) w') ∨
      (∃ g args w1,(execOp a.eval o).run P w=.ok (.enter g args) w1∧CallsIn Fence.wide 0 P g args w1 (fun e w2=>∃ v,e=.returned v∧rnC P ops K rest (a.put o.dst v) w2))) else rnC P ops K rest (a.put o.dst undef) w
section
variable {c : Cx} {Q : Post} {E E' : Env} {D : List Deferred} {H : List Res} {ops : Array Oper} {w0 : World}
def Me.rnC (c:Cx) (ops:Array Oper) (K:Act→World→Prop):Me c where
  X:=Go.Proofs.YtpmdhkjbhjgoaaaGreatK.rnC c.P ops K
  ops:=ops
  calm o rest a w v hw hp hr hK:=by
    simp only [Go.Proofs.YtpmdhkjbhjgoaaaGreatK.rnC,hw,if_true]
    exact .inl ⟨_,_,hr,hK⟩
  skip o rest a w hw hK:=by simp only [Go.Proofs.YtpmdhkjbhjgoaaaGreatK.rnC,hw];exact hK
  want dst op ty pos af g rest a w hw h:=by
    simp only [Go.Proofs.YtpmdhkjbhjgoaaaGreatK.rnC] at h ⊢
    rw [if_pos hw]
    rw [if_pos (show Region.wanted { dst:=dst,op:=op,type:=ty,pos:=pos,after:=af,guard:=none } (yielded ops a.tmps)=true from rfl)] at h
    exact h
  eff o rest a w v w' hw hp hr hK:=by
    simp only [Go.Proofs.YtpmdhkjbhjgoaaaGreatK.rnC,hw,if_true]
    exact .inl ⟨_,_,hr,hK⟩
  effs o rest a w w' hw hp hr hK:=by
    simp only [Go.Proofs.YtpmdhkjbhjgoaaaGreatK.rnC,hw,if_true]
    exact .inr (.inl ⟨_,hr,hK⟩)
  enter o rest a w g args w1 hw hp hr hK:=by
    simp only [Go.Proofs.YtpmdhkjbhjgoaaaGreatK.rnC,hw,if_true]
    exact .inr (.inr ⟨_,_,_,hr,hK⟩)
variable {ts : List Nat} {listed : Array Bool} {f : Nat}
end
end Go.Proofs.YtpmdhkjbhjgoaaaGreatK


/-
  A region that draws its order, in full: what looks (guards too), turns of the world that may be calls, what looks again, what looks anew behind a turn; then the tail.
-/
namespace Go.Proofs.YtpmdhkjbhjgoaaaGreatK
open Go.RowKit
section
variable {c : Cx} {Q : Post} {E E' : Env} {D : List Deferred} {H : List Res} {P : Program} {ops : Array Oper} {a A : Act} {w w' w0 : World}
def lkG (P:Program) (ops:Array Oper) (A:Act) (w:World) (i:Nat):Prop:=∃ o d,ops[i]?=some o∧o.dst=some d∧(if Region.wanted o (yielded ops A.tmps)=true then (execOp A.eval o).run P w=.ok (.value (A.tmps.getD d undef)) w else A.tmps.getD d undef=undef)
abbrev Segs:=List (Nat×List Nat×List Nat)
def segG (c:Cx) (ops:Array Oper) (Q:Post) (tl:List Oper):Segs→Act→World→Prop
  | [],a,w=>wpListIn c.F 0 c.P ops (lift c Q) tl a w
  | (e,res,nw) :: segs,a,w=>∃ o,ops[e]?=some o∧rnC c.P ops (fun a' w'=>(∀ i ∈ res,lkG c.P ops a' w' i)∧∃ l,nw.mapM (fun k=>ops[k]?)=some l∧lkX c.P ops w' (fun a''=>segG c ops Q tl segs a'' w') l a') [o] a w
theorem oLkSegG {tl:List Oper}{segs:Segs}(h:O (Me.rnC c ops (segG c ops Q tl segs)).toMd [] E D H):O (Md.lk c ops w0 (fun a=>segG c ops Q tl segs a w0)) [] E D H:=by
 rintro a w ha hw rfl
 exact h a w ha hw
theorem oSegG {tl:List Oper}{e:Nat}{res nw:List Nat}{segs:Segs}{o:Oper}(he:ops[e]?=some o) (h:O (Me.rnC c ops (fun a' w'=>(∀ i ∈ res,lkG c.P ops a' w' i)∧∃ l,nw.mapM (fun k=>ops[k]?)=some l∧lkX c.P ops w' (fun a''=>segG c ops Q tl segs a'' w') l a')).toMd [o] E D H):O (Me.rnC c ops (segG c ops Q tl ((e,res,nw) :: segs))).toMd [] E D H:=
 fun a w ha hw=>⟨o,he,h a w ha hw⟩
def AgainG (c:Cx) (ops:Array Oper) (E:Env) (D:List Deferred) (H:List Res) (res:List Nat):Prop:=∀ a w,Ok c.N E D a→St c.B H w→∀ i ∈ res,lkG c.P ops a w i
theorem AgainG.nil:AgainG c ops E D H []:=fun _ _ _ _ _ h=>by cases h
theorem AgainG.cons {i d:Nat}{v:Value}{res:List Nat}{op:Op}{ty:TypeId}{pos:String}{af:Array Edge}{g:Option (Nat×Bool)}(ho:ops[i]?=some ⟨some d,op,ty,pos,af,g⟩) (hE:E.find d=some v) (hv:isVal op=true) (hN:Nat.blt d c.N=true) (h:∀ w0,O (Md.lk c ops w0 (fun a=>a.tmps.getD d undef=v)) [⟨some d,op,ty,pos,af,g⟩] E D H) (k:AgainG c ops E D H res):AgainG c ops E D H (i :: res):=by
 intro a w ha hw j hj
 rcases List.mem_cons.1 hj with rfl | hj
 · have h1:=h w a w ha hw rfl
   simp only [lkX] at h1
   have hd:d<a.tmps.size:=by rw [ha.size];simpa [Nat.blt_eq] using hN
   have h3:∀ u,(a.put (some d) u).tmps.getD d undef=u:=fun u=>by simp [Act.put,hd]
   refine ⟨_,d,ho,rfl,?_⟩
   by_cases hwd:Region.wanted { dst:=some d,op:=op,type:=ty,pos:=pos,after:=af,guard:=g } (yielded ops a.tmps)=true
   · rw [if_pos hwd] at h1 ⊢
     obtain ⟨n,hr,hk⟩:=h1
     obtain ⟨u,rfl⟩:=val_run (o:=⟨some d,op,ty,pos,af,g⟩) hv hr
     have h2:=hk u rfl
     rw [hr,ha.fit d v hE]
     congr 2
     rw [← h3 u];exact h2
   · rw [if_neg hwd] at h1 ⊢
     rw [ha.fit d v hE,← h1,h3]
 · exact k a w ha hw j hj
theorem oAgainG {tl:List Oper}{res nw:List Nat}{segs:Segs}{l:List Oper}(hre:AgainG c ops E D H res) (hl:nw.mapM (fun k=>ops[k]?)=some l) (h:∀ w0,O (Md.lk c ops w0 (fun a''=>segG c ops Q tl segs a'' w0)) l E D H):O (Me.rnC c ops (fun a' w'=>(∀ i ∈ res,lkG c.P ops a' w' i)∧∃ l,nw.mapM (fun k=>ops[k]?)=some l∧lkX c.P ops w' (fun a''=>segG c ops Q tl segs a'' w') l a')).toMd [] E D H:=
 fun a w ha hw=>⟨hre a w ha hw,l,hl,h w a w ha hw rfl⟩
theorem oTailG {tl:List Oper}(h:O (Me.list c ops Q).toMd tl E D H):O (Md.lk c ops w0 (fun a=>segG c ops Q tl [] a w0)) [] E D H:=by
 rintro a w ha hw rfl
 exact h a w ha hw
def guardNe (ops:Array Oper) (o:Oper) (d:Nat):Bool:=match o.guard with
  | none=>true
  | some g=>match ops[g.1]? with
    | some og=>og.dst != some d
    | none=>true
theorem yielded_put {o:Oper}{d:Nat}{v:Value}(h:guardNe ops o d=true):Region.wanted o (yielded ops (a.put (some d) v).tmps)=Region.wanted o (yielded ops a.tmps):=by
 unfold Region.wanted
 unfold guardNe at h
 cases hg:o.guard with
 | none=>rfl
 | some g=>
  rw [hg] at h
  simp only at h ⊢
  congr 1
  unfold yielded
  cases hog:ops[g.1]? with
  | none=>simp
  | some og=>
   rw [hog] at h
   simp only [bne_iff_ne,ne_eq] at h
   simp only [Option.bind_some]
   cases hd:og.dst with
   | none=>simp
   | some d'=>
    have hne:d≠d':=by rintro rfl;exact h hd
    simp only [Option.bind_some,Act.put,Array.getElem?_setIfInBounds,if_neg hne]
def keepG (ops:Array Oper) (i j:Nat):Bool:=match ops[i]?,ops[j]? with
  | some o,some o'=>(match o'.dst with | some d=>!((opTmps o).contains d) && o.dst != some d && guardNe ops o d | none=>true)
  | _,_=>false
theorem lk_keepG {i j:Nat}{oj:Oper}{v:Value}(hk:keepG ops i j=true) (hj:ops[j]?=some oj) (hs:Region.noSelect ops=true) (h:lkG P ops a w i):lkG P ops (a.put oj.dst v) w i:=by
 obtain ⟨o,d,ho,hd,hr⟩:=h
 unfold keepG at hk
 rw [ho,hj] at hk
 simp only at hk
 cases hdj:oj.dst with
 | none=>exact ⟨o,d,ho,hd,hr⟩
 | some dj=>
  rw [hdj] at hk
  simp only [Bool.and_eq_true,bne_iff_ne,ne_eq] at hk
  have hne:dj≠d:=by rintro rfl;exact hk.1.2 hd
  refine ⟨o,d,ho,hd,?_⟩
  have e1:execOp (a.put (some dj) v).eval o=execOp a.eval o:=execOp_congr o (fun cs b=>Region.noSelect_spec hs i o cs b ho) (fun x hx=>Act.eval_put (fun d' hd' hxd=>by
   injection hd' with hd'
   subst hd' hxd
   have:dj ∈ opTmps o:=List.mem_filterMap.2 ⟨.tmp dj,by simpa using hx,rfl⟩
   have h1:=hk.1.1
   simp [this] at h1))
  have e2:(a.put (some dj) v).tmps.getD d undef=a.tmps.getD d undef:=by simp only [Act.put,Array.getD_eq_getD_getElem?,Array.getElem?_setIfInBounds,if_neg hne]
  rw [e1,e2,yielded_put hk.2];exact hr
theorem lk_selfG {i d:Nat}{o:Oper}{v:Value}(ho:ops[i]?=some o) (hd:o.dst=some d) (hn:(opTmps o).contains d=false) (hgn:guardNe ops o d=true) (hs:Region.noSelect ops=true) (hl:d<a.tmps.size) (hr:if Region.wanted o (yielded ops a.tmps)=true then (execOp a.eval o).run P w=.ok (.value v) w else v=undef):lkG P ops (a.put o.dst v) w i:=by
 refine ⟨o,d,ho,hd,?_⟩
 rw [hd]
 have e1:execOp (a.put (some d) v).eval o=execOp a.eval o:=execOp_congr o (fun cs b=>Region.noSelect_spec hs i o cs b ho) (fun x hx=>Act.eval_put (fun d' hd' hxd=>by
  injection hd' with hd'
  subst hd' hxd
  have:d ∈ opTmps o:=List.mem_filterMap.2 ⟨.tmp d,by simpa using hx,rfl⟩
  simp [this] at hn))
 have e2:(a.put (some d) v).tmps.getD d undef=v:=by simp [Act.put,hl]
 rw [e1,e2,yielded_put hgn];exact hr
def opG (ops:Array Oper) (N i:Nat):Bool:=match ops[i]? with
  | some o=>isVal o.op && (match o.dst with | some d=>Nat.blt d N && !((opTmps o).contains d) && guardNe ops o d | none=>false)
  | none=>false
theorem opG_spec {N i:Nat}(h:opG ops N i=true):∃ (o:Oper) (d:Nat),ops[i]?=some o∧o.dst=some d∧isVal o.op=true∧d<N∧(opTmps o).contains d=false∧guardNe ops o d=true:=by
 unfold opG at h
 split at h
 · rename_i o ho
   simp only [Bool.and_eq_true] at h
   obtain ⟨h1,h3⟩:=h
   split at h3
   · rename_i d hd
     simp only [Bool.and_eq_true,Nat.blt_eq] at h3
     exact ⟨o,d,ho,hd,h1,h3.1.1,by simpa using h3.1.2,h3.2⟩
   · cases h3
 · cases h
def orderG (ops:Array Oper) (N:Nat):List Nat→Bool
  | k :: ks=>opG ops N k && (ks.all fun j=>keepG ops k j) && orderG ops N ks
  | []=>true
theorem lk_canG {N:Nat}{K:Act→Prop}(hs:Region.noSelect ops=true) {w:World} : ∀ (ks:List Nat) (hd:List Oper) (done:List Nat) (a:Act),ks.mapM (fun k=>ops[k]?)=some hd→orderG ops N ks=true→a.tmps.size=N→(∀ i ∈ done,lkG c.P ops a w i)→(∀ i ∈ done,∀ j ∈ ks,keepG ops i j=true)→
 lkX c.P ops w K hd a→
 ∃ A,A.tmps.size=N∧A.defers=a.defers∧(∀ t,(∀ j ∈ ks,∀ o,ops[j]?=some o→o.dst≠some t)→A.tmps.getD t undef=a.tmps.getD t undef)∧(∀ i ∈ done++ks,lkG c.P ops A w i)∧K A
 | [],hd,done,a,hk,hB,hN,hdn,hkp,h=>by
  simp at hk;subst hk
  exact ⟨a,hN,rfl,fun _ _=>rfl,by simpa using hdn,h⟩
 | k :: ks,hd,done,a,hk,hB,hN,hdn,hkp,h=>by
  rw [List.mapM_cons] at hk
  simp only [orderG,Bool.and_eq_true] at hB
  obtain ⟨⟨h1,h2⟩,h4⟩:=hB
  obtain ⟨o,d,ho,hd',hv,hdN,hself,hgn⟩:=opG_spec h1
  rw [ho] at hk
  cases hks:ks.mapM (fun k=>ops[k]?) with
  | none=>rw [hks] at hk;simp at hk
  | some l'=>
   rw [hks] at hk
   simp at hk
   subst hk
   have hgo:∃ v,(if Region.wanted o (yielded ops a.tmps)=true then (execOp a.eval o).run c.P w=.ok (.value v) w else v=undef)∧lkX c.P ops w K l' (a.put o.dst v):=by
    simp only [lkX] at h
    by_cases hw:Region.wanted o (yielded ops a.tmps)=true
    · rw [if_pos hw] at h
      obtain ⟨n,hr,hkk⟩:=h
      obtain ⟨v,rfl⟩:=val_run hv hr
      exact ⟨v,by rw [if_pos hw];exact hr,hkk v rfl⟩
    · rw [if_neg hw] at h
      exact ⟨undef,by rw [if_neg hw],h⟩
   obtain ⟨v,hr,hkk⟩:=hgo
   obtain ⟨A,hA1,hA2,hA3,hA4,hA5⟩:=lk_canG hs ks l' (done++[k]) (a.put o.dst v) hks h4 (by rw [hd'];simpa [Act.put] using hN)
    (fun i hi=>by
     rcases List.mem_append.1 hi with hi | hi
     · exact lk_keepG (hkp i hi k List.mem_cons_self) ho hs (hdn i hi)
     · obtain rfl:=List.mem_singleton.1 hi
       exact lk_selfG (a:=a) ho hd' hself hgn hs (by omega) hr)
    (fun i hi=>by
     rcases List.mem_append.1 hi with hi | hi
     · exact fun j hj=>hkp i hi j (List.mem_cons_of_mem _ hj)
     · obtain rfl:=List.mem_singleton.1 hi
       exact fun j hj=>List.all_eq_true.1 h2 j hj)
    hkk
   refine ⟨A,hA1,by rw [hA2,hd'];rfl,fun t ht1=>?_,by rw [List.append_assoc] at hA4;exact hA4,hA5⟩
   rw [hA3 t (fun j hj=>ht1 j (List.mem_cons_of_mem _ hj))]
   have hne:d≠t:=by rintro rfl;exact ht1 k List.mem_cons_self o ho hd'
   rw [hd']
   simp only [Act.put,Array.getD_eq_getD_getElem?,Array.getElem?_setIfInBounds,if_neg hne]
variable {ts : List Nat} {listed : Array Bool} {f : Nat}
def statG (ops:Array Oper) (ts:List Nat) (f:Nat):Bool:=
  plainB ops && Region.noSelect ops && ts.all (fun t=>Nat.blt t ops.size) && (List.range ops.size).all (fun i=>match ops[i]? with
    | some o => o.after.all (fun e => !(Region.binds .any e) || Nat.blt e.on i) && (ts.contains i || ((match o.guard with | none => true | some g => !(ts.contains g.1) && waitsP .any ops f i g.1) && o.dst.isSome && (List.range ops.size).all (fun j => match ops[j]? with
        | some o'=>ts.contains j || ((Nat.beq i j || o'.dst != o.dst) && (opTmps o).all (fun t=>o'.dst != some t || waitsP .any ops f i j))
        | none=>true)))
    | none=>true) && ts.all (fun t=>(List.range ops.size).all fun i=>ts.contains i || waitsP .any ops f t i)
theorem stat_opG (hB:statG ops ts f=true) {i:Nat}{o:Oper}(ho:ops[i]?=some o) (hit:i ∉ ts):(∀ g,o.guard=some g→g.1 ∉ ts∧waitsP .any ops f i g.1=true)∧(∃ d,o.dst=some d)∧(∀ j o',ops[j]?=some o'→j ∉ ts→j≠i→o'.dst≠o.dst)∧(∀ t ∈ opTmps o,∀ j o',ops[j]?=some o'→j ∉ ts→o'.dst=some t→waitsP .any ops f i j=true):=by
 simp only [statG,Bool.and_eq_true] at hB
 have hi:=(Array.getElem?_eq_some_iff.1 ho).1
 have h1:=List.all_eq_true.1 hB.1.2 i (List.mem_range.2 hi)
 rw [ho] at h1
 simp only [Bool.and_eq_true,Bool.or_eq_true,Option.isSome_iff_exists] at h1
 rcases h1.2 with h2 | ⟨⟨h2,h3⟩,h4⟩
 · exact absurd (by simpa using h2) hit
 · refine ⟨fun g hg=>?_,h3,fun j o' ho' hjt hji=>?_,fun t ht j o' ho' hjt hd=>?_⟩
   · rw [hg] at h2
     simp only [Bool.and_eq_true] at h2
     exact ⟨by simpa using h2.1,h2.2⟩
   · have hj:=(Array.getElem?_eq_some_iff.1 ho').1
     have h5:=List.all_eq_true.1 h4 j (List.mem_range.2 hj)
     rw [ho'] at h5
     simp only [Bool.or_eq_true,Bool.and_eq_true,Nat.beq_eq,bne_iff_ne,ne_eq] at h5
     rcases h5 with h5 | ⟨h5,_⟩
     · exact absurd (by simpa using h5) hjt
     · rcases h5 with h5 | h5
       · exact absurd h5.symm hji
       · exact h5
   · have hj:=(Array.getElem?_eq_some_iff.1 ho').1
     have h5:=List.all_eq_true.1 h4 j (List.mem_range.2 hj)
     rw [ho'] at h5
     simp only [Bool.or_eq_true,Bool.and_eq_true] at h5
     rcases h5 with h5 | ⟨_,h5⟩
     · exact absurd (by simpa using h5) hjt
     · have h6:=List.all_eq_true.1 h5 t ht
       simp only [Bool.or_eq_true,bne_iff_ne,ne_eq] at h6
       rcases h6 with h6 | h6
       · exact absurd hd h6
       · exact h6
theorem inv_execG (hB:statG ops ts f=true) {A a:Act}(inv:Inv ops ts A listed a) {i:Nat}{o:Oper}(ho:ops[i]?=some o) (hit:i ∉ ts) (hr:i ∈ Region.ready .any ops listed):execOp a.eval o=execOp A.eval o:=by
 obtain ⟨_,_,_,h4⟩:=stat_opG hB ho hit
 have hsel:Region.noSelect ops=true:=by simp only [statG,Bool.and_eq_true] at hB;exact hB.1.1.1.2
 refine execOp_congr o (fun cs b=>Region.noSelect_spec hsel i o cs b ho) (fun x hx=>?_)
 cases x with
 | tmp t=>
  show a.tmps.getD t undef=A.tmps.getD t undef
  have ht:t ∈ opTmps o:=List.mem_filterMap.2 ⟨.tmp t,by simpa using hx,rfl⟩
  by_cases h:∃ j o',ops[j]?=some o'∧j ∉ ts∧o'.dst=some t
  · obtain ⟨j,o',ho',hjt,hd⟩:=h
    exact inv.v1 j o' t ho' hjt hd (waitsP_ready inv.hi.closed hr (h4 t ht j o' ho' hjt hd))
  · exact inv.v2 t (fun j o' ho' hjt hd=>h ⟨j,o',ho',hjt,hd⟩)
 | const v=>rfl
 | global g=>rfl
 | func g=>rfl
theorem get_eq {x y:Array Value}(hs:x.size=y.size) (d:Nat) (h:x.getD d undef=y.getD d undef):x[d]?=y[d]?:=by
 by_cases hl:d<x.size
 · have hl':d<y.size:=by omega
   rw [Array.getElem?_eq_getElem hl,Array.getElem?_eq_getElem hl']
   simp only [Array.getD_eq_getD_getElem?,Array.getElem?_eq_getElem hl,Array.getElem?_eq_getElem hl',Option.getD_some] at h
   rw [h]
 · rw [Array.getElem?_eq_none (by omega),Array.getElem?_eq_none (by omega)]
theorem put_same {x:Array Value}{d:Nat}(h:d<x.size):x.setIfInBounds d (x.getD d undef)=x:=by
 apply Array.ext_getElem?
 intro k
 rw [Array.getElem?_setIfInBounds]
 split
 · rename_i e;subst e
   simp [h]
 · rfl
theorem inv_wanted (hB:statG ops ts f=true) {A a:Act}(inv:Inv ops ts A listed a) {i:Nat}{o:Oper}(ho:ops[i]?=some o) (hit:i ∉ ts) (hr:i ∈ Region.ready .any ops listed):Region.wanted o (yielded ops a.tmps)=Region.wanted o (yielded ops A.tmps):=by
 obtain ⟨h1,_,_,_⟩:=stat_opG hB ho hit
 unfold Region.wanted
 cases hg:o.guard with
 | none=>rfl
 | some g=>
  obtain ⟨h2,h3⟩:=h1 g hg
  simp only
  congr 1
  unfold yielded
  cases hog:ops[g.1]? with
  | none=>rfl
  | some og=>
   simp only [Option.bind_some]
   cases hd:og.dst with
   | none=>rfl
   | some d=>
    have:=inv.v1 g.1 og d hog h2 hd (waitsP_ready inv.hi.closed hr h3)
    simp only [Option.bind_some]
    rw [get_eq inv.size d this]
theorem inv_turnG (hB:statG ops ts f=true) {A a:Act}(inv:Inv ops ts A listed a) {i d:Nat}{o:Oper}{v:Value}(ho:ops[i]?=some o) (hit:i ∉ ts) (hr:i ∈ Region.ready .any ops listed) (hd:o.dst=some d) (hdl:d<A.tmps.size):Inv ops ts (A.put o.dst v) (listed.setIfInBounds i true) (a.put o.dst v):=by
 obtain ⟨_,_,h3,_⟩:=stat_opG hB ho hit
 rw [hd]
 refine ⟨inv.hi.set hr hit,by simp [Act.put,inv.size],inv.dfr,fun j o' d' ho' hjt hd' hl=>?_,fun t ht=>?_⟩
 · by_cases hji:j=i
   · subst hji
     have:o'=o:=Option.some.inj (ho'.symm.trans ho)
     subst this
     have:d'=d:=Option.some.inj (hd'.symm.trans hd)
     subst this
     simp [Act.put,inv.size,hdl]
   · rw [getD_set_ne false (Ne.symm hji)] at hl
     have hne:d≠d':=by rintro rfl;exact h3 j o' ho' hjt hji (hd'.trans hd.symm)
     have:=inv.v1 j o' d' ho' hjt hd' hl
     simp only [Act.put,Array.getD_eq_getD_getElem?,Array.getElem?_setIfInBounds,if_neg hne] at this ⊢
     exact this
 · have hne:d≠t:=by rintro rfl;exact ht i o ho hit hd
   have:=inv.v2 t ht
   simp only [Act.put,Array.getD_eq_getD_getElem?,Array.getElem?_setIfInBounds,if_neg hne] at this ⊢
   exact this
theorem inv_putG (hB:statG ops ts f=true) {A a:Act}(inv:Inv ops ts A listed a) {i d:Nat}{o:Oper}(ho:ops[i]?=some o) (hit:i ∉ ts) (hr:i ∈ Region.ready .any ops listed) (hd:o.dst=some d) (hdl:d<A.tmps.size):Inv ops ts A (listed.setIfInBounds i true) (a.put o.dst (A.tmps.getD d undef)):=by
 have h:=inv_turnG (v:=A.tmps.getD d undef) hB inv ho hit hr hd hdl
 have e:A.put o.dst (A.tmps.getD d undef)=A:=by
  rw [hd]
  obtain ⟨At,Ad⟩:=A
  show Act.mk _ _=_
  congr 1
  exact put_same hdl
 rw [e] at h
 exact h
theorem step_valG (hB:statG ops ts f=true) {A a:Act}(inv:Inv ops ts A listed a) {Q':Exit→Act→World→Prop}{i:Nat}(hit:i ∉ ts) (hr:i ∈ Region.ready .any ops listed) {w:World}(hdl:∀ (i:Nat) (o:Oper) (d:Nat),ops[i]?=some o→o.dst=some d→d<A.tmps.size) (h:lkG c.P ops A w i) {K:Act→World→Prop}
 (hK:∀ a',Inv ops ts A (listed.setIfInBounds i true) a'→K a' w):wpOpIn c.F 0 c.P ops Q' i K a w:=by
 obtain ⟨o,d,ho,hd,hrun⟩:=h
 have hpl:plainB ops=true:=by simp only [statG,Bool.and_eq_true] at hB;exact hB.1.1.1.1
 unfold wpOpIn
 simp only [ho]
 have hp:=inv_putG hB inv ho hit hr hd (hdl i o d ho hd)
 rw [inv_wanted hB inv ho hit hr]
 by_cases hwd:Region.wanted o (yielded ops A.tmps)=true
 · rw [if_pos hwd] at hrun ⊢
   refine ⟨fun g _=>c.fn g,?_⟩
   rw [semAt_plain' _ _ _ (plain_at hpl ho),inv_execG hB inv ho hit hr,hrun]
   exact hK _ hp
 · rw [if_neg hwd] at hrun ⊢
   refine ⟨fun g _=>c.fn g,?_⟩
   rw [hrun] at hp
   exact hK _ hp
theorem step_turnG (hB:statG ops ts f=true) {A a:Act}(inv:Inv ops ts A listed a) {Q':Exit→Act→World→Prop}{i:Nat}{o:Oper}(ho:ops[i]?=some o) (hit:i ∉ ts) (hr:i ∈ Region.ready .any ops listed) {w:World}{K K':Act→World→Prop}(h:rnC c.P ops K [o] A w) (hK:∀ v w',K (A.put o.dst v) w'→K' (a.put o.dst v) w'):wpOpIn c.F 0 c.P ops Q' i K' a w:=by
 have hpl:plainB ops=true:=by simp only [statG,Bool.and_eq_true] at hB;exact hB.1.1.1.1
 simp only [rnC] at h
 unfold wpOpIn
 simp only [ho]
 rw [inv_wanted hB inv ho hit hr]
 by_cases hwd:Region.wanted o (yielded ops A.tmps)=true
 · rw [if_pos hwd] at h ⊢
   refine ⟨fun g _=>c.fn g,?_⟩
   rw [semAt_plain' _ _ _ (plain_at hpl ho),inv_execG hB inv ho hit hr]
   rcases h with ⟨v,w',h1,h2⟩ | ⟨w',h1,h2⟩ | ⟨g,args,w1,h1,h2⟩
   · rw [h1];exact hK _ _ h2
   · rw [h1];exact hK _ _ h2
   · rw [h1]
     refine ⟨fun h=>(by rw [c.dp] at h;cases h),c.call (h2.mono ?_)⟩
     rintro e w2 ⟨v,rfl,h3⟩
     exact hK _ _ h3
 · rw [if_neg hwd] at h ⊢
   exact ⟨fun g _=>c.fn g,hK _ _ h⟩
def phasesOfG:List Nat→Segs→List (List Nat×Nat)×List Nat
  | ls,[]=>([],ls)
  | ls,(e,res,nw) :: segs=>((ls,e) :: (phasesOfG (res++nw) segs).1,(phasesOfG (res++nw) segs).2)
theorem phasesOfG_e:∀ (ls:List Nat) (segs:Segs),(phasesOfG ls segs).1.map (·.2)=segs.map (·.1)
 | ls,[]=>rfl
 | ls,(e,res,nw) :: segs=>by
  show e :: (phasesOfG (res++nw) segs).1.map (·.2)=e :: segs.map (·.1)
  rw [phasesOfG_e (res++nw) segs]
def newB (ops:Array Oper) (N:Nat) (ts:List Nat) (f:Nat) (segs:Segs):Bool:=segs.all fun s=>orderG ops N s.2.2 && (s.2.1.all fun i=>s.2.2.all fun j=>keepG ops i j) && (s.2.2.all fun i=>!(ts.contains i) && waitsP .any ops f i s.1)
theorem phasesG (hB:statG ops ts f=true) {tl:List Oper}(htl:ts.mapM (fun t=>ops[t]?)=some tl) (hseq:seqT .any ops ts (doneL ops ts)=true) {M:Nat}(hdl:∀ (i:Nat) (o:Oper) (d:Nat),ops[i]?=some o→o.dst=some d→d<M) :
 ∀ (n:Nat) (segs:Segs) (ls es:List Nat) (listed:Array Bool) (A a:Act) (w:World),newB ops M ts f segs=true→cnt ops ts listed=n→A.tmps.size=M→Inv ops ts A listed a→(∀ i ∈ ls,lkG c.P ops A w i)→segG c ops Q tl segs A w→phB ops ts f es (phasesOfG ls segs).1 (phasesOfG ls segs).2=true→
  (∀ e ∈ es,listed.getD e false=true)→(∀ s ∈ segs,s.1<ops.size∧listed.getD s.1 true=false)→(segs.map (·.1)).Nodup→wpAnyIn c.F 0 c.P .any ops (lift c Q) (n+ts.length) listed a w:=by
 have hB':=hB
 simp only [statG,Bool.and_eq_true] at hB'
 intro n
 induction n with
 | zero=>
  intro segs ls es listed A a w hnb hc hM inv hl hcan hph hes hsegs hnd
  have hlist:∀ i,i<ops.size→i ∉ ts→listed.getD i true=true:=fun i hi hit=>by
   cases hv:listed.getD i true with
   | true=>rfl
   | false=>
    have hm:i ∈ (List.range ops.size).filter fun i=>!(ts.contains i) && !(listed.getD i true):=List.mem_filter.2 ⟨List.mem_range.2 hi,by simp [hit,hv]⟩
    unfold cnt at hc
    rw [List.eq_nil_of_length_eq_zero hc] at hm
    cases hm
  cases segs with
  | cons s segs=>
   obtain ⟨e,res,nw⟩:=s
   simp only [phasesOfG,phB,Bool.and_eq_true] at hph
   have h1:=hsegs (e,res,nw) List.mem_cons_self
   have h2:=hlist e h1.1 (by have:=hph.1.1.1;simpa using this)
   rw [h1.2] at h2;cases h2
  | nil=>
   have hL:listed=doneL ops ts:=by
    apply Array.ext
    · rw [inv.hi.size];simp [doneL]
    · intro i h1 h2
      have hi:i<ops.size:=by rw [← inv.hi.size];exact h1
      have e1:listed[i]=listed.getD i true:=by simp [h1]
      rw [e1]
      simp only [doneL,List.getElem_toArray,List.getElem_map,List.getElem_range]
      by_cases hit:i ∈ ts
      · rw [inv.hi.tail i hit];simp [hit]
      · rw [hlist i hi hit];simp [hit]
   have hA:a=A:=by
    obtain ⟨at_,ad⟩:=a
    obtain ⟨At,Ad⟩:=A
    have h1:=inv.dfr
    simp only at h1
    subst h1
    congr 1
    apply Array.ext
    · exact inv.size
    · intro t h1 h2
      have key:at_.getD t undef=At.getD t undef:=by
       by_cases h:∃ j o',ops[j]?=some o'∧j ∉ ts∧o'.dst=some t
       · obtain ⟨j,o',ho',hjt,hd⟩:=h
         exact inv.v1 j o' t ho' hjt hd (by
          have hj:=(Array.getElem?_eq_some_iff.1 ho').1
          have:=hlist j hj hjt
          simp [inv.hi.size,hj] at this ⊢
          exact this)
       · exact inv.v2 t (fun j o' ho' hjt hd=>h ⟨j,o',ho',hjt,hd⟩)
      simpa [h1,h2] using key
   subst hA
   rw [Nat.zero_add]
   exact wpAnyIn_of_seqT ts tl listed a w htl (by rw [hL];exact hseq) hcan
 | succ n ih=>
  intro segs ls es listed A a w hnb hc hM inv hl hcan hph hes hsegs hnd
  have hdl':∀ (i:Nat) (o:Oper) (d:Nat),ops[i]?=some o→o.dst=some d→d<A.tmps.size:=fun i o d h1 h2=>hM ▸ hdl i o d h1 h2
  rw [show n+1+ts.length=(n+ts.length)+1 by omega]
  have hne:Region.ready .any ops listed≠[]:=by
   have hex:∃ i,i<ops.size∧listed.getD i true=false:=by
    apply Classical.byContradiction
    intro h
    have:(List.range ops.size).filter (fun i=>!(ts.contains i) && !(listed.getD i true))=[]:=List.filter_eq_nil_iff.2 (fun i hi=>by
     have:=List.mem_range.1 hi
     cases hv:listed.getD i true with
     | true=>simp
     | false=>exact absurd ⟨i,this,hv⟩ h)
    unfold cnt at hc
    rw [this] at hc
    cases hc
   have hmin:∀ n i,i<n→i<ops.size→listed.getD i true=false→Region.ready .any ops listed≠[]:=by
    intro n
    induction n with
    | zero=>intro i hi;omega
    | succ n ihn=>
     intro i hin hi hun
     by_cases hlow:∃ k,k<i∧listed.getD k true=false
     · obtain ⟨k,hk,hku⟩:=hlow
       exact ihn k (by omega) (by omega) hku
     · intro hr
       have:i ∈ Region.ready .any ops listed:=mem_ready.2 ⟨hun,ops[i],Array.getElem?_eq_getElem hi,fun e he hb=>by
        have h1:=List.all_eq_true.1 hB'.1.2 i (List.mem_range.2 hi)
        rw [Array.getElem?_eq_getElem hi] at h1
        simp only [Bool.and_eq_true] at h1
        have h2:=Array.all_eq_true'.1 h1.1 e he
        rw [hb] at h2
        have h3:e.on<i:=by simpa [Nat.blt_eq] using h2
        have h4:listed.getD e.on true≠false:=fun h=>hlow ⟨e.on,h3,h⟩
        have h5:e.on<listed.size:=by rw [inv.hi.size];omega
        simp [h5] at h4 ⊢
        exact h4⟩
       rw [hr] at this;cases this
   obtain ⟨i,hi,hun⟩:=hex
   exact hmin (i+1) i (by omega) hi hun
  refine ⟨fun h=>absurd h hne,fun i hir=>?_⟩
  obtain ⟨hun,oi,hoi,_⟩:=mem_ready.1 hir
  have hi:=(Array.getElem?_eq_some_iff.1 hoi).1
  have hit:i ∉ ts:=fun h=>by
   have h1:=List.all_eq_true.1 hB'.2 i h
   have hz:cnt ops ts listed=0:=by
    unfold cnt
    rw [List.length_eq_zero_iff,List.filter_eq_nil_iff]
    intro k hk
    have h2:=List.all_eq_true.1 h1 k hk
    rw [Bool.or_eq_true] at h2
    rcases h2 with h2 | h2
    · simp only [h2];simp
    · have h3:=waitsP_ready inv.hi.closed hir h2
      have:listed.getD k true=true:=by
       have hk':=List.mem_range.1 hk
       simp [inv.hi.size,hk'] at h3 ⊢;exact h3
      rw [this];simp
   omega
  have hc':cnt ops ts (listed.setIfInBounds i true)=n:=by have:=cnt_set hi inv.hi.size hit hun;omega
  have hes':∀ es':List Nat,(∀ e ∈ es',listed.getD e false=true)→∀ e ∈ es',(listed.setIfInBounds i true).getD e false=true:=fun es' h e he=>getD_set_true (h e he)
  have nolist:¬ listed.getD i false=true:=fun h=>by rw [getD_both hun] at h;cases h
  have byes:es.any (fun e'=>Nat.beq e' i || waitsP .any ops f e' i)=true→False:=fun h=>by
   obtain ⟨e',he',h⟩:=List.any_eq_true.1 h
   simp only [Bool.or_eq_true,Nat.beq_eq] at h
   rcases h with rfl | h
   · exact nolist (hes _ he')
   · exact nolist (waitsP_listed inv.hi.closed f e' i (hes _ he') h)
  cases segs with
  | nil=>
   have h1:=List.all_eq_true.1 hph i (List.mem_range.2 hi)
   simp only [Bool.or_eq_true] at h1
   rcases h1 with (h1 | h1) | h1
   · exact absurd (by simpa using h1) hit
   · exact step_valG hB inv hit hir hdl' (hl i (by simpa [phasesOfG] using h1)) (fun a' inv'=>ih [] ls es _ A a' w hnb hc' hM inv' hl hcan hph (hes' es hes) (by simp) (by simp))
   · exact (byes h1).elim
  | cons s segs=>
   obtain ⟨e,res,nw⟩:=s
   have hph0:=hph
   simp only [phasesOfG,phB,Bool.and_eq_true] at hph
   have hse:=hsegs (e,res,nw) List.mem_cons_self
   obtain ⟨hnd1,hnd2⟩:=List.nodup_cons.1 hnd
   by_cases hie:i=e
   · subst hie
     obtain ⟨o,ho,hrn⟩:=hcan
     obtain ⟨_,⟨d,hd⟩,_⟩:=stat_opG hB ho hit
     have hsel:Region.noSelect ops=true:=hB'.1.1.1.2
     simp only [newB,List.all_cons,Bool.and_eq_true] at hnb
     obtain ⟨⟨⟨hn1,hn2⟩,hn3⟩,hnb'⟩:=hnb
     refine step_turnG hB inv ho hit hir hrn (fun v w' hk=>?_)
     obtain ⟨hre,l,hml,hlk⟩:=hk
     have hM':(A.put o.dst v).tmps.size=M:=by rw [hd];simpa [Act.put] using hM
     obtain ⟨A2,hA1,hA2,hA3,hA4,hA5⟩:=lk_canG (c:=c) hsel nw l res (A.put o.dst v) hml hn1 hM' hre (fun i hi j hj=>List.all_eq_true.1 (List.all_eq_true.1 hn2 i hi) j hj) hlk
     have inv1:=inv_turnG (v:=v) hB inv ho hit hir hd (hdl' i o d ho hd)
     have hnl:∀ j ∈ nw,j ∉ ts∧(listed.setIfInBounds i true).getD j false=true→False:=fun j hj hl=>by
      have h1:=List.all_eq_true.1 hn3 j hj
      simp only [Bool.and_eq_true] at h1
      by_cases hji:j=i
      · subst hji
        have:=waitsP_ready inv.hi.closed hir h1.2
        exact nolist this
      · have h2:listed.getD j false=true:=by rw [← getD_set_ne false (Ne.symm hji)];exact hl.2
        exact nolist (waitsP_listed inv.hi.closed f j i h2 h1.2)
     have inv2:Inv ops ts A2 (listed.setIfInBounds i true) (a.put o.dst v):=by
      refine ⟨inv1.hi,by rw [inv1.size,hA1,hM'],by rw [inv1.dfr,hA2],fun j o' d' ho' hjt hd' hl=>?_,fun t ht=>?_⟩
      · rw [inv1.v1 j o' d' ho' hjt hd' hl]
        refine (hA3 d' (fun k hk ok hok hdk=>?_)).symm
        have hkt:k ∉ ts:=by have h1:=List.all_eq_true.1 hn3 k hk;simp only [Bool.and_eq_true] at h1;simpa using h1.1
        by_cases hkj:k=j
        · subst hkj;exact hnl k hk ⟨hjt,hl⟩
        · exact (stat_opG hB ho' hjt).2.2.1 k ok hok hkt hkj (hdk.trans hd'.symm)
      · rw [inv1.v2 t ht]
        refine (hA3 t (fun k hk ok hok hdk=>?_)).symm
        have hkt:k ∉ ts:=by have h1:=List.all_eq_true.1 hn3 k hk;simp only [Bool.and_eq_true] at h1;simpa using h1.1
        exact ht k ok hok hkt hdk
     refine ih segs (res++nw) (i :: es) _ A2 _ w' hnb' hc' hA1 inv2 hA4 hA5 hph.2 (fun e he=>?_) (fun s hs=>?_) hnd2
     · rcases List.mem_cons.1 he with rfl | he
       · simp [inv.hi.size,hi]
       · exact getD_set_true (hes e he)
     · have:=hsegs s (List.mem_cons_of_mem _ hs)
       refine ⟨this.1,?_⟩
       rw [getD_set_ne true (by rintro rfl;exact hnd1 (List.mem_map.2 ⟨s,hs,rfl⟩))]
       exact this.2
   · have h1:=List.all_eq_true.1 hph.1.1.2 i (List.mem_range.2 hi)
     simp only [Bool.or_eq_true,Nat.beq_eq] at h1
     rcases h1 with (((h1 | h1) | h1) | h1) | h1
     · exact absurd (by simpa using h1) hit
     · refine step_valG hB inv hit hir hdl' (hl i (by simpa using h1)) (fun a' inv'=>ih ((e,res,nw) :: segs) ls es _ A a' w hnb hc' hM inv' hl hcan hph0 (hes' es hes) (fun s hs=>?_) hnd)
       have:=hsegs s hs
       refine ⟨this.1,?_⟩
       rcases List.mem_cons.1 hs with rfl | hs
       · rw [getD_set_ne true hie];exact this.2
       · by_cases hsi:i=s.1
         · have hm:s.1 ∈ (phasesOfG (res++nw) segs).1.map (·.2):=by rw [phasesOfG_e];exact List.mem_map.2 ⟨s,hs,rfl⟩
           obtain ⟨q,hq,hqe⟩:=List.mem_map.1 hm
           have h5:=List.all_eq_true.1 (List.all_eq_true.1 hph.1.2 i (by simpa using h1)) q hq
           rw [hsi,hqe] at h5
           simp at h5
         · rw [getD_set_ne true hsi];exact this.2
     · exact absurd h1.symm hie
     · exact (byes h1).elim
     · have:=waitsP_ready inv.hi.closed hir h1
       rw [getD_both hse.2] at this;cases this
def drawG (ops:Array Oper) (N:Nat) (ks:List Nat) (segs:Segs) (ts:List Nat) (f:Nat):Bool:=
  statG ops ts f && orderG ops N ks && newB ops N ts f segs && phB ops ts f [] (phasesOfG ks segs).1 (phasesOfG ks segs).2 && seqT .any ops ts (doneL ops ts) && ops.all (fun o=>o.dst.all fun d=>Nat.blt d N) &&
    ks.all (fun k=>!(ts.contains k)) && segs.all (fun s=>!(ts.contains s.1) && Nat.blt s.1 ops.size) && decide ((segs.map (·.1)).Nodup) && Nat.beq (cnt ops ts (Array.replicate ops.size false)+ts.length) ops.size
theorem wDrawG (hm:c.P.follows .mixedOrders=true) {id:Nat}{l hd tl:List Oper}(ks:List Nat) (segs:Segs) (ts:List Nat) (f:Nat) (hB:drawG l.toArray c.N ks segs ts f=true) (hk:ks.mapM (fun k=>l[k]?)=some hd) (htl:ts.mapM (fun k=>l[k]?)=some tl)
 (h:∀ w0,O (Md.lk c l.toArray w0 (fun a=>segG c l.toArray Q tl segs a w0)) hd E D H):W c (.region id l.toArray true) Q E D H:=by
 intro a w ha hw
 refine wpIn_region_any hm ?_
 simp only [drawG,Bool.and_eq_true,decide_eq_true_eq,Nat.beq_eq] at hB
 obtain ⟨⟨⟨⟨⟨⟨⟨⟨⟨hst,hor⟩,hnb⟩,hph⟩,hseq⟩,hN⟩,hkt⟩,hsg⟩,hnd⟩,hcnt⟩:=hB
 have hst':=hst
 simp only [statG,Bool.and_eq_true] at hst'
 have hsel:Region.noSelect l.toArray=true:=hst'.1.1.1.2
 have htr:=hst'.1.1.2
 have hks:ks.mapM (fun k=>l.toArray[k]?)=some hd:=by simpa using hk
 have htl':ts.mapM (fun k=>l.toArray[k]?)=some tl:=by simpa using htl
 obtain ⟨A,hA1,hA2,hA3,hA4,hA5⟩:=lk_canG (c:=c) hsel ks hd [] a hks hor ha.size (by simp) (by simp) (h w.drew a w.drew ha hw.drew rfl)
 rw [List.nil_append] at hA4
 have hdl:∀ (i:Nat) (o:Oper) (d:Nat),l.toArray[i]?=some o→o.dst=some d→d<c.N:=fun i o d ho hd=>by
  obtain ⟨hi,he⟩:=Array.getElem?_eq_some_iff.1 ho
  have h1:=Array.all_eq_true.1 hN i hi
  rw [he,hd] at h1
  simpa [Nat.blt_eq] using h1
 have inv:Inv l.toArray ts A (Array.replicate l.toArray.size false) a:=by
  refine ⟨⟨by simp,fun j oj _ hl=>(by rw [getD_replicate_false] at hl;cases hl),fun t ht=>getD_in (by have:=List.all_eq_true.1 htr t ht;simpa [Nat.blt_eq] using this) (getD_replicate_false _ _)⟩,by rw [hA1,ha.size],hA2.symm,fun i o d ho hit hd hl=>(by rw [getD_replicate_false] at hl;cases hl),fun t ht=>(hA3 t (fun j hj o ho hd=>?_)).symm⟩
  have:=List.all_eq_true.1 hkt j hj
  exact ht j o ho (by simpa using this) hd
 have hgo:=phasesG (c:=c) (Q:=Q) hst htl' hseq hdl _ segs ks [] (Array.replicate l.toArray.size false) A a w.drew hnb rfl hA1 inv hA4 hA5 hph (by simp) (fun s hs=>by
  have h2:=List.all_eq_true.1 hsg s hs
  simp only [Bool.and_eq_true,Nat.blt_eq] at h2
  exact ⟨h2.2,getD_in (by simpa using h2.2) (getD_replicate_false _ _)⟩) hnd
 rw [hcnt] at hgo
 exact hgo
end
end Go.Proofs.YtpmdhkjbhjgoaaaGreatK


/-
  Values of methods.
-/
namespace Go.Proofs.YtpmdhkjbhjgoaaaGreatK
open Go.RowKit
section
variable {c : Cx} {N : Md c} {d : Nat} {ty : TypeId} {pos : String} {af : Array Edge} {rest : List Oper} {E : Env} {D : List Deferred} {H : List Res}
theorem oMakeFuncB {n:Nat}{fst cap:Array Operand}{us vs:List Value}(hf:E.ops fst.toList=some us) (hc:E.ops cap.toList=some vs) (h:O N rest ((d,.func (.func n) us.toArray vs.toArray) :: E) D H) (hN:Nat.blt d c.N=true:=by rfl):O N (⟨some d,.makeFunc (.func n) fst cap,ty,pos,af,none⟩ :: rest) E D H:=
 oC _ rfl hN (fun u w ha hw=>by
  have h1:cap.map u.eval=vs.toArray:=by
   apply Array.toList_inj.1
   simpa using ha.ops hc
  have h2:fst.map u.eval=us.toArray:=by
   apply Array.toList_inj.1
   simpa using ha.ops hf
  simp [execOp,h1,h2,Instr.makeFunc]) h
end
end Go.Proofs.YtpmdhkjbhjgoaaaGreatK


/-
  min, max; addresses in arrays; arrays by value that come in.
-/
namespace Go.Proofs.YtpmdhkjbhjgoaaaGreatK
open Go.RowKit Go.ChangeShapes Go.WideShapes
section
variable {c : Cx} {M : Md c} {d : Nat} {ty : TypeId} {pos : String} {af : Array Edge} {rest : List Oper} {E : Env} {D : List Deferred} {H : List Res} {x y : Operand} {t t' : TypeId}
def arrT (P:Program) (t:TypeId):Option (Nat×Nat):=match P.underlying t with
  | some (.array n e)=>(P.info? e).map fun i=>(n,i.size)
  | _=>none
theorem oIdxA {b o i n s m:Nat}{k:IntKind}{z:Int}(hx:E.op x=some (.pointer (some ⟨b,o,none⟩))) (hy:E.op y=some (.int k z)) (hz:z=(i:Int)) (ht:arrT c.P t=some (n,s)) (hi:i<n) (hm:o+i * s=m) (h:O M rest ((d,.pointer (some ⟨b,m,none⟩)) :: E) D H) (hN:Nat.blt d c.N=true:=by rfl):O M (⟨some d,.indexAddr t x y,ty,pos,af,none⟩ :: rest) E D H:=
 oC _ rfl hN (fun u w ha hw=>by
  subst hz
  unfold arrT at ht
  cases hu:c.P.underlying t with
  | none=>rw [hu] at ht;cases ht
  | some ut=>
   rw [hu] at ht
   cases ut <;> simp only [Option.map_eq_some_iff,reduceCtorEq,false_and,exists_false] at ht
   case array n' e'=>
    obtain ⟨inf,h2,h3⟩:=ht
    injection h3 with h4 h5
    subst h4 h5
    have he:(⟨b,o,none⟩:Addr).add (i * inf.size)=⟨b,m,none⟩:=by rw [add_at,hm]
    simp [execOp,ha.op hx,ha.op hy,Instr.indexAt,asIntOf,run_underlying hu,Instr.sureAddr,sizeOf,typeInfo,h2,hi,he]) h
end
end Go.Proofs.YtpmdhkjbhjgoaaaGreatK
namespace Go.Proofs.YtpmdhkjbhjgoaaaGreatK
open Go.RowKit
theorem ap {P:Prop}(h:P:=by repeat (first | exact AppL.nil | apply AppL.cons)):P:=h
def Z4:=@oLkSegG
def Z5:=@oSegG
def Z6:=@oTailG
def Z8:=@AgainG.cons
def Z9:=@oLkHas
def ZG:=@oAgainG
theorem Zza {P Q:Prop}(k:Q) (h:Q→P:=by intro a;exact (Zn (Za (Zl (Zw (fi1 J a)))))):P:=h k
theorem Zzb {P Q:Prop}(k:Q) (h:Q→P:=by intro a;exact (Zp J (Zn (Za (Zl (Zc (Zw (fi1 J a)))))))):P:=h k
theorem Zzc {P Q:Prop}(k:Q) (h:Q→P:=by intro a;exact (Zp J (Zn (Za (Zl (Zf (Zc (Zc (Zf (Zc (Zw (fi1 J a)))))))))))):P:=h k
theorem Zzd {P Q:Prop}(k:Q) (h:Q→P:=by intro a;exact (Zp J (Zn (Za (Zl (Zf (Zc (Zw (fi1 J a))))))))):P:=h k
theorem Zze {P Q:Prop}(k:Q) (h:Q→P:=by intro a;exact (Zd (Za (Zi (Zsu a))))):P:=h k
theorem Zzf {P Q:Prop}(k:Q) (h:Q→P:=by intro a;exact (Zb (Zb (Ze (Za (Zh (Zi (Zp J (Zza a))))))))):P:=h k
theorem Zzg {P Q:Prop}(k:Q) (h:Q→P:=by intro a;exact (Zq J J (Zld a))):P:=h k
theorem Zzh {P Q:Prop}(k:Q) (h:Q→P:=by intro a;exact (Zp J (Zza a))):P:=h k
theorem Zzi {P Q:Prop}(k:Q) (h:Q→P:=by intro a;exact (Zh (Zi (Zo J a)))):P:=h k
theorem Zzj {P Q:Prop}(k:Q) (h:Q→P:=by intro a;exact (Zn (Za (Zl (Zc (Zf (Zc (Zc (Zf (Zc (Zw (fi1 J a)))))))))))):P:=h k
theorem Zzk {P Q:Prop}(k:Q) (h:Q→P:=by intro a;exact (Za (Zh (Zi (Zla a))))):P:=h k
theorem Zzl {P Q:Prop}(k:Q) (h:Q→P:=by intro a;exact (Zn (Za (Zl (Zf (Zc (Zw (ZI2 a)))))))):P:=h k
theorem Zzm {P Q:Prop}(k:Q) (h:Q→P:=by intro a;exact (Zi (Zp J (Zn (Za (Zl (Zf (Zf (Zc (Zf (Zc (Zw (fi1 J a))))))))))))):P:=h k
theorem Zzn {P Q:Prop}(k:Q) (h:Q→P:=by intro a;exact (Za (Zh (Zi (Zo J (Zo J a)))))):P:=h k
theorem Zzo {P Q:Prop}(k:Q) (h:Q→P:=by intro a;exact (Zr J J J J (Zr J J J J (Zr J J J J (Zu J J (Zzh a)))))):P:=h k
theorem Zzp {P Q:Prop}(k:Q) (h:Q→P:=by intro a;exact (Zn (Za (Zl (Zc (Zw (ZI2 a))))))):P:=h k
theorem Zzq {P Q:Prop}(k:Q) (h:Q→P:=by intro a;exact (Za (Zh (Zi (Zo J (Zzh a)))))):P:=h k
end Go.Proofs.YtpmdhkjbhjgoaaaGreatK
namespace Go.Proofs.YtpmdhkjbhjgoaaaGreatK
open Go.RowKit
structure Elm {α:Type}(kd:Kd α) (W:World) (A:Option Addr) (i:Nat) (u:α) (e:Addr) (cs:List Value):Prop where
  at_:∃ ad,A=some ad∧e=ad.add (i * kd.sz)
  K:kd.K W u cs
  cell:∀ j v,cs[j]?=some v→W.cell? (adr e j)=some v
theorem Kd.C.elm {α:Type}{kd:Kd α}{W:World}{A:Option Addr}{xs:List α}{i:Nat}{u:α}(hC:kd.C W A xs) (hu:xs[i]?=some u):∃ e cs,Elm kd W A i u e cs:=by
 obtain ⟨hi,rfl⟩:=List.getElem?_eq_some_iff.1 hu
 obtain ⟨_,hC⟩:=hC
 obtain ⟨ad,rfl,hc⟩:=hC (by omega)
 obtain ⟨cs,hK,hcell⟩:=hc i _ hu
 exact ⟨_,cs,⟨ad,rfl,rfl⟩,hK,fun j v hv=>by
  have e1:adr (ad.add (i * kd.sz)) j=ad.add (i * kd.sz+j):=by unfold adr;exact Addr.add_add _ _ _
  rw [e1];exact hcell j v hv⟩
section
variable {c : Cx} {M : Md c} {d : Nat} {ty t : TypeId} {pos : String} {af : Array Edge} {rest : List Oper} {E : Env} {D : List Deferred} {H : List Res} {x y : Operand}
theorem oIdxE {α:Type}{kd:Kd α}{k:IntKind}{A:Option Addr}{i:Nat}{n cp:Nat}{e:TypeId}{s:Nat}{u:α}{e':Addr}{cs:List Value}(hx:E.op x=some (.slice A n cp)) (hy:E.op y=some (.int k (i:Int))) (hE:Elm kd c.B.e A i u e' cs) (hi:i<n) (ht:elemT c.P t=some (e,s)) (hsz:kd.sz=s)
 (h:O M rest ((d,.pointer (some (adr e' 0))) :: E) D H) (hN:Nat.blt d c.N=true:=by rfl):O M (⟨some d,.indexAddr t x y,ty,pos,af,none⟩ :: rest) E D H:=by
 subst hsz
 obtain ⟨ad,rfl,rfl⟩:=hE.at_
 refine oC (.pointer (some (adr (ad.add (i * kd.sz)) 0))) rfl hN (fun u w ha hw=>?_) h
 have e1:adr (ad.add (i * kd.sz)) 0=ad.add (i * kd.sz):=by unfold adr;rfl
 simp [execOp,ha.op hx,ha.op hy,run_indexAt ht ad _ cp i hi k w,e1]
end
theorem row_Cs {α:Type}{enc:α→Value}{h1:∀ x,(enc x).oneCell'=true}{W w:World}{e:TypeId}{A:Option Addr}{n cp:Nat}{xs:List α}(h:(row (Kd.scalar enc h1) W e (.slice A n cp) xs).q w):(Kd.scalar enc h1).C w A xs:=by
 obtain ⟨cs,ho,hr⟩:=h
 exact (row_C (kd:=Kd.scalar enc h1) (W:=w) (e:=e) (n:=n) (cp:=cp) ⟨cs,ho,cat_scalar.2 (cat_scalar.1 hr)⟩ (Grow.refl _)).2.2.1
theorem blk_row {α:Type}{B:Base}{Φ Φ':List Res}{enc:α→Value}{h1:∀ x,(enc x).oneCell'=true}{W:World}{xs:List α}{e:TypeId}{b n:Nat}{cs:List Value}(hp:Pick Φ (blk b e cs) Φ') (hc:cs=xs.map enc) (hn:xs.length=n) (hm:n≤maxLen):Leads B Φ (row (Kd.scalar enc h1) W e (.slice (some ⟨b,0,none⟩) n n) xs :: Φ'):=fun w h=>
  (h.perm hp.perm).conv .here (fun hq=>by
    subst hn hc
    exact row_mk (cur:=(xs.map enc).toArray) hq (Nat.le_refl _) hm (by simp) (by rw [← List.length_map (f:=enc),List.take_length])) (fun k hk=>by
      have:some b=some k:=hk
      injection this with h;exact h.symm)
end Go.Proofs.YtpmdhkjbhjgoaaaGreatK
namespace Go.Proofs.YtpmdhkjbhjgoaaaGreatK
open Go.RowKit
section
variable {c : Cx} {M : Md c} {d : Nat} {ty : TypeId} {pos : String} {af : Array Edge} {rest : List Oper} {E : Env} {D : List Deferred} {H H' : List Res} {x y : Operand} {t t' : TypeId} {v : Value}
theorem oShr1 {a:Int}(hx:E.op x=some (.int .i64 a)) (hy:E.op y=some (.int .u64 1)) (h:O M rest ((d,.int .i64 (a / 2)) :: E) D H) (hN:Nat.blt d c.N=true:=by rfl):O M (⟨some d,.binOp .shr t x y t',ty,pos,af,none⟩ :: rest) E D H:=
 oC _ rfl hN (fun u w ha hw=>by
  have e1:a.fdiv 2=a / 2:=Int.fdiv_eq_ediv_of_nonneg _ (by decide)
  have e2:(2:Int) ^ min 1 (IntKind.bits .i64)=2:=by decide
  simp [execOp,ha.op hx,ha.op hy,run_eqGuard,binOp,Op.shift,e1,e2]) h
theorem and_one (a:Int):IntKind.i64.wrap ((BitVec.ofInt 64 a &&& BitVec.ofInt 64 1).toNat:Int)=a % 2:=by
 have e1:(BitVec.ofInt 64 a &&& BitVec.ofInt 64 1).toNat=(a % 2).toNat:=by
  rw [BitVec.toNat_and,show (BitVec.ofInt 64 1).toNat=1 from rfl,Nat.and_one_is_mod,BitVec.toNat_ofInt]
  omega
 rw [e1]
 have h0:=Int.emod_nonneg a (show (2:Int)≠0 by decide)
 have h1:=Int.emod_lt_of_pos a (show (0:Int)<2 by decide)
 rw [wrap_in (by unfold in64;omega)]
 omega
theorem oAnd1 {a:Int}(hx:E.op x=some (.int .i64 a)) (hy:E.op y=some (.int .i64 1)) (h:O M rest ((d,.int .i64 (a % 2)) :: E) D H) (hN:Nat.blt d c.N=true:=by rfl):O M (⟨some d,.binOp .and t x y t',ty,pos,af,none⟩ :: rest) E D H:=
 oAri _ hx hy (fun P w=>by
  have:=and_one a
  simp only [binOp,ne_eq,not_true_eq_false,ite_false,Op.intBits]
  show (Pure.pure (Value.int .i64 (IntKind.i64.wrap ((BitVec.ofInt 64 a &&& BitVec.ofInt 64 1).toNat:Int))):Sem Value).run P w=_
  rw [this];rfl) h hN
def byteAt (s:ByteArray) (i:Nat):Int:=((s[i]?).map fun b=>(b.toNat:Int)).getD 0
theorem byteAt_eq {s:ByteArray}{i:Nat}(h:i<s.size):byteAt s i=((s[i]'h).toNat:Int):=by
 unfold byteAt
 rw [getElem?_pos s i h];rfl
theorem oIndexStr {s:ByteArray}{k:IntKind}{i:Nat}(hx:E.op x=some (.string s)) (hy:E.op y=some (.int k (i:Int))) (ht:c.P.underlying t=some .string) (hi:i<s.size) (h:O M rest ((d,.int .u8 (byteAt s i)) :: E) D H) (hN:Nat.blt d c.N=true:=by rfl):O M (⟨some d,.index t x y,ty,pos,af,none⟩ :: rest) E D H:=
 oC _ rfl hN (fun u w ha hw=>by
  have e1:s[i]?=some (s[i]'hi):=getElem?_pos s i hi
  simp [execOp,ha.op hx,ha.op hy,Instr.index,asIntOf,run_underlying ht,e1,byteAt_eq hi]) h
theorem oIndexArr {cs:List Value}{k:IntKind}{i n:Nat}{v:Value}{z:Int}(hx:E.op x=some (.agg cs.toArray)) (hy:E.op y=some (.int k z)) (hz:z=(i:Int)) (ht:arrT c.P t=some (n,1)) (hs:((match c.P.underlying t with | some (.array _ e)=>scalT c.P e | _=>false))=true) (hi:i<n) (hv:cs[i]?=some v) (h:O M rest ((d,v) :: E) D H) (hN:Nat.blt d c.N=true:=by rfl):O M (⟨some d,.index t x y,ty,pos,af,none⟩ :: rest) E D H:=
 oC _ rfl hN (fun u w ha hw=>by
  subst hz
  unfold arrT at ht
  cases hu:c.P.underlying t with
  | none=>rw [hu] at ht;cases ht
  | some ut=>
   rw [hu] at ht hs
   cases ut <;> simp only [Option.map_eq_some_iff,reduceCtorEq,false_and,exists_false] at ht
   case array n' e'=>
    obtain ⟨inf,h2,h3⟩:=ht
    injection h3 with h4 h5
    subst h4
    have h6:=run_isAgg_s hs w
    simp [execOp,ha.op hx,ha.op hy,Instr.index,asIntOf,run_underlying hu,sizeOf,typeInfo,h2,h5,hi,part,h6,hv]) h
theorem oBuildArr {ps:Array (Nat×Operand)}{vs:List (Nat×Value)}{zs us:List Value}{n s:Nat}(hx:Parts E ps.toList vs) (hz:((c.P.info? t).map (·.zero))=some (some (.agg zs.toArray))) (ht:arrT c.P t=some (n,s)) (hb:Built (fun i=>some (i * s,s)) zs vs us) (h:O M rest ((d,.agg us.toArray) :: E) D H) (hN:Nat.blt d c.N=true:=by rfl):O M (⟨some d,.build t ps,ty,pos,af,none⟩ :: rest) E D H:=
 oC _ rfl hN (fun u w hf hw=>by
  have h2:(ps.map fun (i,x)=>(i,u.eval x))=vs.toArray:=by
   apply Array.toList_inj.1
   simpa using hx.spec hf
  obtain ⟨i,hi,hz⟩:=Option.map_eq_some_iff.1 hz
  unfold arrT at ht
  have key:(Instr.build t vs.toArray).run c.P w=.ok (.agg us.toArray) w:=by
   cases hu:c.P.underlying t with
   | none=>rw [hu] at ht;cases ht
   | some ut=>
    rw [hu] at ht
    cases ut <;> simp only [Option.map_eq_some_iff,reduceCtorEq,false_and,exists_false] at ht
    case array n' e'=>
     obtain ⟨inf,h3,h4⟩:=ht
     injection h4 with h5 h6
     have hbs:=hb.spec
     simp [Instr.build,zeroValue,typeInfo,hi,hz,run_underlying hu,sizeOf,h3,h6,Value.cells,hbs]
  simp only [execOp,Sem.run_bind,h2,key,Result.andThen_ok,Sem.run_pure]) h
theorem wCondTd {x' y':Code}{Q:Post}{D':List Deferred}{H':List Res}{o:Operand}{p:Prop} [Decidable p] (hp:p) (hc:E.op o=some (.bool (decide p))) (h:W c x' Q E D' H'):W c (.cond o x' y') Q E D' H':=wCondT (by rw [hc,decide_eq_true hp]) h
theorem wCondFd {x' y':Code}{Q:Post}{D':List Deferred}{H':List Res}{o:Operand}{p:Prop} [Decidable p] (hp:¬ p) (hc:E.op o=some (.bool (decide p))) (h:W c y' Q E D' H'):W c (.cond o x' y') Q E D' H':=wCondF (by rw [hc,decide_eq_false hp]) h
theorem wCondTb {x' y':Code}{Q:Post}{D':List Deferred}{H':List Res}{o:Operand}{b:Bool}(hp:b=true) (hc:E.op o=some (.bool b)) (h:W c x' Q E D' H'):W c (.cond o x' y') Q E D' H':=wCondT (by rw [hc,hp]) h
theorem wCondFb {x' y':Code}{Q:Post}{D':List Deferred}{H':List Res}{o:Operand}{b:Bool}(hp:b=false) (hc:E.op o=some (.bool b)) (h:W c y' Q E D' H'):W c (.cond o x' y') Q E D' H':=wCondF (by rw [hc,hp]) h
def nextV (s:ByteArray) (p:Nat):Value:=if p<s.size then .tuple #[.bool true,.int .i64 (p:Int),.int .i32 ((Utf8.decode s p).1:Int)] else .tuple #[.bool false]
def nextP (s:ByteArray) (p:Nat):Nat:=if p<s.size then p+(Utf8.decode s p).2 else p
theorem nextV_T {s:ByteArray}{p:Nat}(h:p<s.size) (ha:byteAt s p<128):nextV s p=.tuple #[.bool true,.int .i64 (p:Int),.int .i32 (byteAt s p)]:=by
 rw [byteAt_eq h] at *
 unfold nextV
 rw [if_pos h,decode_ascii s p h (by omega)]
theorem nextP_T {s:ByteArray}{p:Nat}(h:p<s.size) (ha:byteAt s p<128):nextP s p=p+1:=by
 rw [byteAt_eq h] at ha
 unfold nextP
 rw [if_pos h,decode_ascii s p h (by omega)]
theorem oRangeStr {M:Me c}{s:ByteArray}(hx:E.op x=some (.string s)) (ht:c.P.underlying t=some .string) (h:∀ b,O M.toMd rest ((d,.pointer (some ⟨b,0,none⟩)) :: E) D (ob b (.stringIter s 0) :: H)) (hN:Nat.blt d c.N=true:=by rfl):O M.toMd (⟨some d,.range t x,ty,pos,af,none⟩ :: rest) E D H:=
 oEff rfl hN fun a w ha hw=>by
  refine ⟨_,w.alloc (.stringIter s 0),_,?_,hw.alloc _,h w.heap.size⟩
  simp [execOp,ha.op hx,run_range_string w t s ht,World.iter]
theorem oNextStr {M:Me c}{s:ByteArray}{b p:Nat}(hx:E.op x=some (.pointer (some ⟨b,0,none⟩))) (hp:Pick H (ob b (.stringIter s p)) H') (h:O M.toMd rest ((d,nextV s p) :: E) D (ob b (.stringIter s (nextP s p)) :: H')) (hN:Nat.blt d c.N=true:=by rfl):O M.toMd (⟨some d,.next x true,ty,pos,af,none⟩ :: rest) E D H:=
 oEff rfl hN fun a w ha hw=>by
  have hb:w.heap[b]?=some (.stringIter s p):=hw.get hp
  by_cases hps:p<s.size
  · refine ⟨_,w.putObj b (.stringIter s (nextP s p)),ob b (.stringIter s (nextP s p)) :: H',?_,hw.upd' hp (Chg.putObj w b _) (World.putObj_heap_same (Array.getElem?_eq_some_iff.1 hb).1) (fun k hk=>.inl hk),h⟩
    simp [execOp,ha.op hx,Instr.next,getObj,setObj,Sem.run,hb,hps,nextV,nextP,goInt,World.putObj]
  · refine ⟨_,w,_,?_,?_,h⟩
    · simp [execOp,ha.op hx,Instr.next,getObj,Sem.run,hb,hps,nextV]
    · unfold nextP;rw [if_neg hps];exact hw.perm hp.perm
theorem oExtN {s:ByteArray}{p:Nat}(hx:E.op x=some (nextV s p)) (h:O M rest ((d,.bool (decide (p<s.size))) :: E) D H) (hN:Nat.blt d c.N=true:=by rfl):O M (⟨some d,.extract x 0,ty,pos,af,none⟩ :: rest) E D H:=
 oC _ rfl hN (fun u w ha hw=>by
  unfold nextV at hx
  by_cases hps:p<s.size
  · rw [if_pos hps] at hx;simp [execOp,ha.op hx,Instr.extract,hps]
  · rw [if_neg hps] at hx;simp [execOp,ha.op hx,Instr.extract,hps]) h
theorem oSliceArr {b o l m n s:Nat}{k k':IntKind}{z1 z2:Operand}(hx:E.op x=some (.pointer (some ⟨b,o,none⟩))) (hl:E.op z1=some (.int k (l:Int))) (hm:E.op z2=some (.int k' (m:Int))) (ht:arrT c.P t=some (n,s)) (h1:l<n) (h2:l≤m∧m≤n)
 (h:O M rest ((d,.slice (some ⟨b,o+l * s,none⟩) (m-l) (n-l)) :: E) D H) (hN:Nat.blt d c.N=true:=by rfl):O M (⟨some d,.slice t x (some z1) (some z2) none,ty,pos,af,none⟩ :: rest) E D H:=
 oC _ rfl hN (fun u w ha hw=>by
  unfold arrT at ht
  cases hu:c.P.underlying t with
  | none=>rw [hu] at ht;cases ht
  | some ut=>
   rw [hu] at ht
   cases ut <;> simp only [Option.map_eq_some_iff,reduceCtorEq,false_and,exists_false] at ht
   case array n' e'=>
    obtain ⟨inf,h3,h4⟩:=ht
    injection h4 with h5 h6
    subst h5
    have e1:¬ n'=l:=by omega
    simp [execOp,ha.op hx,ha.op hl,ha.op hm,Instr.sliceAt,run_underlying hu,Instr.sureAddr,Instr.sliceBounds,Instr.sliceBound,asIntOf,h2,sizeOf,typeInfo,h3,h6,e1,add_at]) h
theorem oIdxB {b o i n cp s m:Nat}{k:IntKind}{e:TypeId}(hx:E.op x=some (.slice (some ⟨b,o,none⟩) n cp)) (hy:E.op y=some (.int k (i:Int))) (ht:elemT c.P t=some (e,s)) (hi:i<n) (hm:o+i * s=m) (h:O M rest ((d,.pointer (some ⟨b,m,none⟩)) :: E) D H) (hN:Nat.blt d c.N=true:=by rfl):O M (⟨some d,.indexAddr t x y,ty,pos,af,none⟩ :: rest) E D H:=
 oC _ rfl hN (fun u w ha hw=>by
  have e1:(⟨b,o,none⟩:Addr).add (i * s)=⟨b,m,none⟩:=by rw [add_at,hm]
  simp [execOp,ha.op hx,ha.op hy,run_indexAt ht ⟨b,o,none⟩ n cp i hi k w,e1]) h
def runesL (s:ByteArray):List Int:=(List.range s.size).map (byteAt s)
def Asc (s:ByteArray):Prop:=∀ i,i<s.size→byteAt s i<128
theorem runes_from {s:ByteArray}(h:Asc s):∀ (bound i:Nat) (acc:Array Value),s.size≤bound+i→i≤s.size→Conv.runesFrom s bound i acc=acc++(((runesL s).drop i).map (Value.int .i32)).toArray
 | 0,i,acc,h1,h2=>by
  unfold Conv.runesFrom
  rw [List.drop_eq_nil_of_le (by simp [runesL];omega)];simp
 | bound+1,i,acc,h1,h2=>by
  unfold Conv.runesFrom
  by_cases hi:i<s.size
  · rw [if_pos hi]
    have ha:=h i hi
    have hb:=byteAt_eq hi
    rw [hb] at ha
    have hg:(runesL s)[i]?=some (byteAt s i):=by simp [runesL,hi]
    obtain ⟨hl,he⟩:=List.getElem?_eq_some_iff.1 hg
    rw [decode_ascii s i hi (by omega)]
    dsimp only
    rw [runes_from h bound (i+1) _ (by omega) (by omega),List.drop_eq_getElem_cons hl,he,hb]
    simp
  · rw [if_neg hi,List.drop_eq_nil_of_le (by simp [runesL];omega)];simp
theorem oConvRunes {M:Me c}{s:ByteArray}{e:TypeId}{W:World}(hx:E.op x=some (.string s)) (hs:c.P.underlying t=some .string) (hd:c.P.underlying t'=some (.slice e)) (he:c.P.underlying e=some (.int .i32)) (ha:Asc s) (hl:s.size≤1000000)
 (h:∀ b cp,O M.toMd rest ((d,.slice (some ⟨b,0,none⟩) s.size cp) :: E) D (row (Kd.int .i32) W e (.slice (some ⟨b,0,none⟩) s.size cp) (runesL s) :: H)) (hN:Nat.blt d c.N=true:=by rfl):O M.toMd (⟨some d,.convert t t' x,ty,pos,af,none⟩ :: rest) E D H:=
 oEff rfl hN fun a w hfa hw=>by
  have hrf:=runes_from ha s.size 0 #[] (by omega) (by omega)
  rw [List.drop_zero,Array.empty_append] at hrf
  have hsz:(Conv.runesFrom s s.size 0 #[]).size=s.size:=by rw [hrf];simp [runesL]
  have hr:=run_runes_of_string (P:=c.P) w t t' e s hs hd he (by rw [hsz];omega)
  rw [hsz] at hr
  have hge:=grownCap_ge w s.size 0 e
  have hle:=grownCap_le_maxLen w s.size 0 e (by have:maxLen=9223372036854775807:=rfl;omega)
  refine ⟨_,w.drew.alloc (.cells (Conv.runesFrom s s.size 0 #[]++Array.replicate (grownCap w s.size 0 e-s.size) (.int .i32 0)) e),_,?_,?_,h w.heap.size (grownCap w s.size 0 e)⟩
  · simp only [execOp,hfa.op hx,Sem.run_bind,hr];rfl
  · have hcl:(runesL s).length=s.size:=by simp [runesL]
    refine (hw.drew).add (Chg.alloc w.drew _ _) ?_ (fun k hk=>?_)
    · have:=row_mk (α:=Int) (enc:=Value.int .i32) (h1:=fun _=>rfl) (W:=W) (e:=e) (xs:=runesL s) (b:=w.heap.size) (cp:=grownCap w s.size 0 e) (w:=w.drew.alloc (.cells (Conv.runesFrom s s.size 0 #[]++Array.replicate (grownCap w s.size 0 e-s.size) (.int .i32 0)) e)) (World.alloc_heap_new w.drew _) (by rw [hcl];exact hge) hle (by rw [Array.size_append,hsz];simp;omega) (by rw [hrf,Array.toList_append,List.toList_toArray,List.take_append_of_le_length (by simp),← List.length_map (f:=Value.int .i32),List.take_length])
      rw [hcl] at this
      exact this
    · have:some w.heap.size=some k:=hk
      injection this with h;rw [← h];exact Nat.le_refl _
end
end Go.Proofs.YtpmdhkjbhjgoaaaGreatK
namespace Go.Proofs.YtpmdhkjbhjgoaaaGreatK
open Go.RowKit
section
variable {c : Cx} {M : Md c} {d : Nat} {ty : TypeId} {pos : String} {af : Array Edge} {rest : List Oper} {E : Env} {D : List Deferred} {H H' : List Res} {x y : Operand} {t t' : TypeId} {v : Value}
theorem oConvInt {k k':IntKind}{n m:Int}(hx:E.op x=some (.int k n)) (hs:(c.P.underlying t).isSome=true) (hd:c.P.underlying t'=some (.int k')) (hw:k'.wrap n=m) (h:O M rest ((d,.int k' m) :: E) D H) (hN:Nat.blt d c.N=true:=by rfl):O M (⟨some d,.convert t t' x,ty,pos,af,none⟩ :: rest) E D H:=
 oC _ rfl hN (fun u w ha hw'=>by
  obtain ⟨ut,hu⟩:=Option.isSome_iff_exists.1 hs
  subst hw
  simp [execOp,ha.op hx,convert,run_underlying hu,run_underlying hd,Conv.intToInt]) h
def bytesS (xs:List Int):ByteArray:=⟨(xs.map fun v=>UInt8.ofNat v.toNat).toArray⟩
theorem u8_ofNat (n:Nat) (h:n<256):(UInt8.ofNat n).toNat=n:=by
 show (BitVec.ofNat 8 n).toNat=n
 rw [BitVec.toNat_ofNat]
 exact Nat.mod_eq_of_lt h
end
end Go.Proofs.YtpmdhkjbhjgoaaaGreatK
namespace Go.Proofs.YtpmdhkjbhjgoaaaGreatD
set_option maxRecDepth 100000
set_option maxHeartbeats 4000000
open Go.RowKit Go.Proofs.YtpmdhkjbhjgoaaaGreatK

theorem wrap64 (z:Int):IntKind.i64.wrap z=if 9223372036854775808≤z % 18446744073709551616 then z % 18446744073709551616-18446744073709551616 else z % 18446744073709551616:=by
 simp [IntKind.wrap,IntKind.signed,IntKind.bits]
theorem in64_wrap (z:Int):in64 (IntKind.i64.wrap z):=by
 rw [wrap64]
 unfold in64
 split <;> omega
theorem wrap8 (z:Int):IntKind.u8.wrap z=z % 256:=by simp [IntKind.wrap,IntKind.signed,IntKind.bits]
theorem wrapU (z:Int):IntKind.u64.wrap z=z % 18446744073709551616:=by simp [IntKind.wrap,IntKind.signed,IntKind.bits]
def Byts (l:List Int):Prop:=∀ v ∈ l,0≤v∧v<256
theorem Byts.app {a b:List Int}(h:Byts a) (k:Byts b):Byts (a++b):=fun v hv=>(List.mem_append.1 hv).elim (h v) (k v)
theorem Byts.take {l:List Int}(h:Byts l) (n:Nat):Byts (l.take n):=fun v hv=>h v (List.mem_of_mem_take hv)
theorem Byts.drop {l:List Int}(h:Byts l) (n:Nat):Byts (l.drop n):=fun v hv=>h v (List.mem_of_mem_drop hv)
def bq (n:Int) (k:Nat):Int:=n / 256 ^ k % 256
theorem bq_in (n:Int) (k:Nat):0≤bq n k∧bq n k<256:=by
 unfold bq
 exact ⟨Int.emod_nonneg _ (by decide),Int.emod_lt_of_pos _ (by decide)⟩
def putL (n:Int) (w:Nat):List Int:=(List.range w).map (fun i=>bq n (w-1-i))
theorem putL_len (n:Int) (w:Nat):(putL n w).length=w:=by simp [putL]
theorem putL_byts (n:Int) (w:Nat):Byts (putL n w):=by
 intro v hv
 obtain ⟨i,_,rfl⟩:=List.mem_map.1 hv
 exact bq_in _ _
theorem putL_cons (n:Int) (w:Nat):putL n (w+1)=bq n w :: putL n w:=by
 unfold putL
 rw [List.range_succ_eq_map,List.map_cons,List.map_map]
 congr 1
 apply List.map_congr_left
 intro i hi
 show bq n (w+1-1-(i+1))=bq n (w-1-i)
 congr 1
 omega
theorem or_byte (n x:Int) (hx:0≤x∧x<256):IntKind.i64.wrap ((BitVec.ofInt 64 (IntKind.i64.wrap (n * 256)) ||| BitVec.ofInt 64 x).toNat:Int)=IntKind.i64.wrap (n * 256+x):=by
 have e1:(BitVec.ofInt 64 (IntKind.i64.wrap (n * 256))).toNat=(n % 72057594037927936).toNat <<< 8:=by
  rw [BitVec.toNat_ofInt,wrap64,Nat.shiftLeft_eq]
  split <;> omega
 have e2:(BitVec.ofInt 64 x).toNat=x.toNat:=by
  rw [BitVec.toNat_ofInt]
  omega
 rw [BitVec.toNat_or,e1,e2,← Nat.shiftLeft_add_eq_or_of_lt (show x.toNat<2 ^ 8 by omega),Nat.shiftLeft_eq,wrap64,wrap64]
 have h0:0≤n % 72057594037927936:=Int.emod_nonneg _ (by decide)
 have h3:(((n % 72057594037927936).toNat * 2 ^ 8+x.toNat:Nat):Int) % 18446744073709551616=(n * 256+x) % 18446744073709551616:=by omega
 rw [h3]
section
variable {c : Cx} {M : Md c} {d : Nat} {ty : TypeId} {pos : String} {af : Array Edge} {rest : List Oper} {E : Env} {D : List Deferred} {H H' : List Res} {x y : Operand} {t t' : TypeId} {v : Value}
theorem oShrN {a:Int}{k':IntKind}{b:Nat}(hx:E.op x=some (.int .i64 a)) (hy:E.op y=some (.int k' (b:Int))) (hb:b≤64) (h:O M rest ((d,.int .i64 (a / 2 ^ b)) :: E) D H) (hN:Nat.blt d c.N=true:=by rfl):O M (⟨some d,.binOp .shr t x y t',ty,pos,af,none⟩ :: rest) E D H:=
 oC _ rfl hN (fun u w ha hw=>by
  have e1:a.fdiv (2 ^ b)=a / 2 ^ b:=Int.fdiv_eq_ediv_of_nonneg _ (Int.pow_nonneg (by decide))
  have e2:min b (IntKind.bits .i64)=b:=Nat.min_eq_left hb
  have e3:¬ ((b:Nat):Int)<0:=by omega
  have e4:((b:Nat):Int).toNat=b:=Int.toNat_natCast b
  simp [execOp,ha.op hx,ha.op hy,run_eqGuard,binOp,Op.shift,e1,e2,e3,e4]) h
theorem oShlN {a:Int}{k':IntKind}{b:Nat}(hx:E.op x=some (.int .i64 a)) (hy:E.op y=some (.int k' (b:Int))) (hb:b≤64) (h:O M rest ((d,.int .i64 (IntKind.i64.wrap (a * 2 ^ b))) :: E) D H) (hN:Nat.blt d c.N=true:=by rfl):O M (⟨some d,.binOp .shl t x y t',ty,pos,af,none⟩ :: rest) E D H:=
 oC _ rfl hN (fun u w ha hw=>by
  have e2:min b (IntKind.bits .i64)=b:=Nat.min_eq_left hb
  have e3:¬ ((b:Nat):Int)<0:=by omega
  have e4:((b:Nat):Int).toNat=b:=Int.toNat_natCast b
  simp [execOp,ha.op hx,ha.op hy,run_eqGuard,binOp,Op.shift,e2,e3,e4]) h
theorem oOrB {n z:Int}(hx:E.op x=some (.int .i64 (IntKind.i64.wrap (n * 256)))) (hy:E.op y=some (.int .i64 z)) (hz:0≤z∧z<256) (h:O M rest ((d,.int .i64 (IntKind.i64.wrap (n * 256+z))) :: E) D H) (hN:Nat.blt d c.N=true:=by rfl):O M (⟨some d,.binOp .or t x y t',ty,pos,af,none⟩ :: rest) E D H:=
 oAri _ hx hy (fun P w=>by
  have:=or_byte n z hz
  simp only [binOp,ne_eq,not_true_eq_false,ite_false,Op.intBits]
  show (Pure.pure (Value.int .i64 (IntKind.i64.wrap ((BitVec.ofInt 64 (IntKind.i64.wrap (n * 256)) ||| BitVec.ofInt 64 z).toNat:Int))):Sem Value).run P w=_
  rw [this];rfl) h hN
end
end Go.Proofs.YtpmdhkjbhjgoaaaGreatD
namespace Go.Proofs.YtpmdhkjbhjgoaaaGreatK
open Go.RowKit

def stepL (F:Fence) (n:Nat) (P:Program) (ops:Array Oper) (Q:Exit→Act→World→Prop) (K:Act→World→Prop):List Oper→Act→World→Prop
  | [],a,w=>K a w
  | o :: rest,a,w=>
    if Region.wanted o (yielded ops a.tmps) then o.wpIn F n P a w (stepL F n P ops Q K rest) Q
    else (∀ f,o.about P w a.eval=some f→F.fn f)∧stepL F n P ops Q K rest (a.put o.dst undef) w
def Me.step (c:Cx) (ops:Array Oper) (Q:Post) (K:Act→World→Prop):Me c where
  X:=stepL c.F 0 c.P ops (lift c Q) K
  ops:=ops
  calm o rest a w v hw hp hr hK:=by
    simp only [stepL,hw,if_true]
    exact ⟨fun f _=>c.fn f,by rw [semAt_plain' _ _ _ hp,hr];exact hK⟩
  skip o rest a w hw hK:=by
    simp only [stepL,hw]
    exact ⟨fun f _=>c.fn f,hK⟩
  want dst op ty pos af g rest a w hw h:=by
    simp only [stepL] at h ⊢
    rw [if_pos hw]
    rw [if_pos (show Region.wanted { dst:=dst,op:=op,type:=ty,pos:=pos,after:=af,guard:=none } (yielded ops a.tmps)=true from rfl)] at h
    exact h
  eff o rest a w v w' hw hp hr hK:=by
    simp only [stepL]
    rw [if_pos (show Region.wanted o (yielded ops a.tmps)=true from hw)]
    exact ⟨fun f _=>c.fn f,by rw [semAt_plain' _ _ _ hp,hr];exact hK⟩
  effs o rest a w w' hw hp hr hK:=by
    simp only [stepL]
    rw [if_pos (show Region.wanted o (yielded ops a.tmps)=true from hw)]
    exact ⟨fun f _=>c.fn f,by rw [semAt_plain' _ _ _ hp,hr];exact hK⟩
  enter o rest a w g args w1 hw hp hr hK:=by
    simp only [stepL]
    rw [if_pos (show Region.wanted o (yielded ops a.tmps)=true from hw)]
    refine ⟨fun f _=>c.fn f,?_⟩
    rw [semAt_plain' _ _ _ hp,hr]
    refine ⟨fun h=>absurd h (by rw [c.dp];simp),(c.call hK).mono ?_⟩
    rintro e w2 ⟨v,rfl,hx⟩
    exact hx
inductive AllN (c:Cx) (ops:Array Oper) (Q:Post) (f:Nat) (listed:Array Bool) (E:Env) (D:List Deferred) (H:List Res):List Nat→Prop
  | nil:AllN c ops Q f listed E D H []
  | cons {i:Nat}{o:Oper}{rs:List Nat}(ho:ops[i]?=some o) (h:O (Me.step c ops Q (wpAnyIn c.F 0 c.P .any ops (lift c Q) f (listed.setIfInBounds i true))).toMd [o] E D H) (k:AllN c ops Q f listed E D H rs):AllN c ops Q f listed E D H (i :: rs)
section
variable {c : Cx} {Q : Post} {ops : Array Oper} {E : Env} {D : List Deferred} {H : List Res} {f : Nat} {listed : Array Bool}
theorem AllN.get {rs:List Nat}(h:AllN c ops Q f listed E D H rs):∀ i ∈ rs,∀ a w,Ok c.N E D a→St c.B H w→wpOpIn c.F 0 c.P ops (lift c Q) i (wpAnyIn c.F 0 c.P .any ops (lift c Q) f (listed.setIfInBounds i true)) a w:=by
 induction h with
 | nil=>intro i hi;cases hi
 | @cons j o rs ho h k ih=>
  intro i hi a w ha hw
  rcases List.mem_cons.1 hi with rfl | hi
  · have:=h a w ha hw
    simp only [Me.step,stepL] at this
    unfold wpOpIn
    rw [ho]
    exact this
  · exact ih i hi a w ha hw
end
section
variable {c : Cx} {N : Md c} {M : Me c} {d : Nat} {ty t t' : TypeId} {pos : String} {af : Array Edge} {rest : List Oper} {E : Env} {D : List Deferred} {H H' : List Res} {x y : Operand}
theorem oBuildSlice0 {α:Type}(kd:Kd α) (W:World) {e:TypeId}{s:Nat}(ht:elemT c.P t=some (e,s)) (h:∀ b,O M.toMd rest ((d,.slice (some ⟨b,0,none⟩) 0 0) :: E) D (row kd W e (.slice (some ⟨b,0,none⟩) 0 0) [] :: H)) (hN:Nat.blt d c.N=true:=by rfl):O M.toMd (⟨some d,.buildSlice t 0 #[],ty,pos,af,none⟩ :: rest) E D H:=
 oEff rfl hN fun a w ha hw=>by
  obtain ⟨ht1,inf,hi1,hs⟩:=run_elemT ht
  refine ⟨_,w.alloc (.cells #[] e),_,?_,?_,h w.heap.size⟩
  · simp [execOp,Instr.buildSlice,run_underlying ht1,sizeOf,typeInfo,hi1,hs,Instr.fill,newRow]
    rw [show Array.map (fun _=>(default:Value)) (Array.range 0)=#[] from Array.eq_empty_of_size_eq_zero (by simp)]
  · exact hw.add (Chg.alloc _ _ _) ⟨[], World.ownsRow_made w #[] 0 (Nat.zero_le _) (by decide) (by simp), rfl⟩ (fun k hk => by
     have hk:some w.heap.size=some k:=hk
     injection hk with hk;omega)
theorem oSliceV {k:IntKind}{A:Option Addr}{n cp m s:Nat}{e':TypeId}(hx:E.op x=some (.slice A n cp)) (hy:E.op y=some (.int k (m:Int))) (hm:m≤n) (hnc:n≤cp) (ht:elemT c.P t=some (e',s))
 (h:O N rest ((d,.slice (if cp=m then A else A.map (·.add (m * s))) (n-m) (cp-m)) :: E) D H) (hN:Nat.blt d c.N=true:=by rfl):O N (⟨some d,.slice t x (some y) none none,ty,pos,af,none⟩ :: rest) E D H:=
 oC _ rfl hN (fun a w ha hw=>by
  obtain ⟨h1,inf,h2,h3⟩:=run_elemT ht
  simp [execOp,ha.op hx,ha.op hy,Instr.sliceAt,Instr.slice,run_underlying h1,Instr.sliceBounds,Instr.sliceBound,asIntOf,hm,sizeOf,typeInfo,h2,h3]) h
end
end Go.Proofs.YtpmdhkjbhjgoaaaGreatK
namespace Go.Proofs.YtpmdhkjbhjgoaaaGreatK
open Go.RowKit
def ZA:=@AllN.cons
def ZB:=@AllN.nil
end Go.Proofs.YtpmdhkjbhjgoaaaGreatK
namespace Go.Proofs.YtpmdhkjbhjgoaaaGreatT
open Go.RowKit Go.Proofs.YtpmdhkjbhjgoaaaGreatK Go.ChangeShapes Go.WideShapes
structure ApiSymbol where
  fName:ByteArray
  fLocal:Bool
  fSort:Int
  fKind:Int
  fDef:Int
instance:Inhabited ApiSymbol:=⟨⟨ByteArray.empty,false,0,0,0⟩⟩
def kApiSymbol:Kd ApiSymbol:=Kd.iso (Kd.pair Kd.string (Kd.pair Kd.bool (Kd.pair (Kd.int .i64) (Kd.pair (Kd.int .i64) (Kd.int .i64))))) (fun x=>(x.fName,x.fLocal,x.fSort,x.fKind,x.fDef))
theorem kApiSymbol_open {w:World}{x:ApiSymbol}{cs:List Value}(h:kApiSymbol.K w x cs):cs=[.string x.fName,.bool x.fLocal,.int .i64 x.fSort,.int .i64 x.fKind,.int .i64 x.fDef]:=by
 obtain ⟨_,_,rfl,rfl,⟨_,_,rfl,rfl,⟨_,_,rfl,rfl,⟨_,_,rfl,rfl,rfl⟩⟩⟩⟩:=h
 exact rfl
theorem kApiSymbol_mk (w:World) (x:ApiSymbol):kApiSymbol.K w x [.string x.fName,.bool x.fLocal,.int .i64 x.fSort,.int .i64 x.fKind,.int .i64 x.fDef]:=⟨_,_,rfl,rfl,⟨_,_,rfl,rfl,⟨_,_,rfl,rfl,⟨_,_,rfl,rfl,rfl⟩⟩⟩⟩
def vApiSymbol (x:ApiSymbol):Prop:=x.fName.size≤maxLen∧True∧in64 x.fSort∧in64 x.fKind∧in64 x.fDef
set_option maxRecDepth 100000 in
theorem opApiSymbol:Opens Tryz.prog 44 kApiSymbol vApiSymbol:=Opens.weak (opens_struct (fun p=>(⟨p.1,p.2.1,p.2.2.1,p.2.2.2.1,p.2.2.2.2⟩:ApiSymbol)) (fun _=>rfl) Tryz.underlying44 (opensF_cons (opens_string rfl) rfl (opensF_cons (opens_bool rfl) rfl (opensF_cons (opens_i64 rfl) rfl (opensF_cons (opens_i64 rfl) rfl (opensF_one (opens_i64 rfl) rfl rfl)))))) (fun _ h=>h)
structure ApiLine where
  fAt:Int
  fLine:Int
instance:Inhabited ApiLine:=⟨⟨0,0⟩⟩
def kApiLine:Kd ApiLine:=Kd.iso (Kd.pair (Kd.int .i64) (Kd.int .i64)) (fun x=>(x.fAt,x.fLine))
theorem kApiLine_open {w:World}{x:ApiLine}{cs:List Value}(h:kApiLine.K w x cs):cs=[.int .i64 x.fAt,.int .i64 x.fLine]:=by
 obtain ⟨_,_,rfl,rfl,rfl⟩:=h
 exact rfl
theorem kApiLine_mk (w:World) (x:ApiLine):kApiLine.K w x [.int .i64 x.fAt,.int .i64 x.fLine]:=⟨_,_,rfl,rfl,rfl⟩
def vApiLine (x:ApiLine):Prop:=in64 x.fAt∧in64 x.fLine
set_option maxRecDepth 100000 in
theorem opApiLine:Opens Tryz.prog 107 kApiLine vApiLine:=Opens.weak (opens_struct (fun p=>(⟨p.1,p.2⟩:ApiLine)) (fun _=>rfl) Tryz.underlying107 (opensF_cons (opens_i64 rfl) rfl (opensF_one (opens_i64 rfl) rfl rfl))) (fun _ h=>h)
structure ApiInstr where
  fOp:Int
  fA:Int
  fB:Int
  fC:Int
  fN:Int
instance:Inhabited ApiInstr:=⟨⟨0,0,0,0,0⟩⟩
def kApiInstr:Kd ApiInstr:=Kd.iso (Kd.pair (Kd.int .i64) (Kd.pair (Kd.int .i64) (Kd.pair (Kd.int .i64) (Kd.pair (Kd.int .i64) (Kd.int .i64))))) (fun x=>(x.fOp,x.fA,x.fB,x.fC,x.fN))
theorem kApiInstr_open {w:World}{x:ApiInstr}{cs:List Value}(h:kApiInstr.K w x cs):cs=[.int .i64 x.fOp,.int .i64 x.fA,.int .i64 x.fB,.int .i64 x.fC,.int .i64 x.fN]:=by
 obtain ⟨_,_,rfl,rfl,⟨_,_,rfl,rfl,⟨_,_,rfl,rfl,⟨_,_,rfl,rfl,rfl⟩⟩⟩⟩:=h
 exact rfl
theorem kApiInstr_mk (w:World) (x:ApiInstr):kApiInstr.K w x [.int .i64 x.fOp,.int .i64 x.fA,.int .i64 x.fB,.int .i64 x.fC,.int .i64 x.fN]:=⟨_,_,rfl,rfl,⟨_,_,rfl,rfl,⟨_,_,rfl,rfl,⟨_,_,rfl,rfl,rfl⟩⟩⟩⟩
def vApiInstr (x:ApiInstr):Prop:=in64 x.fOp∧in64 x.fA∧in64 x.fB∧in64 x.fC∧in64 x.fN
set_option maxRecDepth 100000 in
theorem opApiInstr:Opens Tryz.prog 90 kApiInstr vApiInstr:=Opens.weak (opens_struct (fun p=>(⟨p.1,p.2.1,p.2.2.1,p.2.2.2.1,p.2.2.2.2⟩:ApiInstr)) (fun _=>rfl) Tryz.underlying90 (opensF_cons (opens_i64 rfl) rfl (opensF_cons (opens_i64 rfl) rfl (opensF_cons (opens_i64 rfl) rfl (opensF_cons (opens_i64 rfl) rfl (opensF_one (opens_i64 rfl) rfl rfl)))))) (fun _ h=>h)
structure ApiReloc where
  fAt:Int
  fSym:Int
  fWide:Bool
instance:Inhabited ApiReloc:=⟨⟨0,0,false⟩⟩
def kApiReloc:Kd ApiReloc:=Kd.iso (Kd.pair (Kd.int .i64) (Kd.pair (Kd.int .i64) Kd.bool)) (fun x=>(x.fAt,x.fSym,x.fWide))
theorem kApiReloc_open {w:World}{x:ApiReloc}{cs:List Value}(h:kApiReloc.K w x cs):cs=[.int .i64 x.fAt,.int .i64 x.fSym,.bool x.fWide]:=by
 obtain ⟨_,_,rfl,rfl,⟨_,_,rfl,rfl,rfl⟩⟩:=h
 exact rfl
theorem kApiReloc_mk (w:World) (x:ApiReloc):kApiReloc.K w x [.int .i64 x.fAt,.int .i64 x.fSym,.bool x.fWide]:=⟨_,_,rfl,rfl,⟨_,_,rfl,rfl,rfl⟩⟩
def vApiReloc (x:ApiReloc):Prop:=in64 x.fAt∧in64 x.fSym∧True
set_option maxRecDepth 100000 in
theorem opApiReloc:Opens Tryz.prog 92 kApiReloc vApiReloc:=Opens.weak (opens_struct (fun p=>(⟨p.1,p.2.1,p.2.2⟩:ApiReloc)) (fun _=>rfl) Tryz.underlying92 (opensF_cons (opens_i64 rfl) rfl (opensF_cons (opens_i64 rfl) rfl (opensF_one (opens_bool rfl) rfl rfl)))) (fun _ h=>h)
structure ApiFunc where
  fClass:Int
  fKinds:List Int
  fPad:Int
  fNosplit:Bool
  fFrom:Int
  fTo:Int
  fLines:List ApiLine
  fCode:List ApiInstr
  fRelocs:List ApiReloc
instance:Inhabited ApiFunc:=⟨⟨0,[],0,false,0,0,[],[],[]⟩⟩
def kApiFunc:Kd ApiFunc:=Kd.iso (Kd.pair (Kd.int .i64) (Kd.pair (Kd.slice (Kd.int .i64)) (Kd.pair (Kd.int .i64) (Kd.pair Kd.bool (Kd.pair (Kd.int .i64) (Kd.pair (Kd.int .i64) (Kd.pair (Kd.slice kApiLine) (Kd.pair (Kd.slice kApiInstr) (Kd.slice kApiReloc))))))))) (fun x=>(x.fClass,x.fKinds,x.fPad,x.fNosplit,x.fFrom,x.fTo,x.fLines,x.fCode,x.fRelocs))
theorem kApiFunc_open {w:World}{x:ApiFunc}{cs:List Value}(h:kApiFunc.K w x cs):∃ A0 c0 A1 c1 A2 c2 A3 c3,cs=[.int .i64 x.fClass,.slice A0 x.fKinds.length c0,.int .i64 x.fPad,.bool x.fNosplit,.int .i64 x.fFrom,.int .i64 x.fTo,.slice A1 x.fLines.length c1,.slice A2 x.fCode.length c2,.slice A3 x.fRelocs.length c3]∧x.fKinds.length≤c0∧(Kd.int .i64).C w A0 x.fKinds∧x.fLines.length≤c1∧kApiLine.C w A1 x.fLines∧x.fCode.length≤c2∧kApiInstr.C w A2 x.fCode∧x.fRelocs.length≤c3∧kApiReloc.C w A3 x.fRelocs:=by
 obtain ⟨_,_,rfl,rfl,⟨_,_,rfl,⟨A0,c0,rfl,l0,g0⟩,⟨_,_,rfl,rfl,⟨_,_,rfl,rfl,⟨_,_,rfl,rfl,⟨_,_,rfl,rfl,⟨_,_,rfl,⟨A1,c1,rfl,l1,g1⟩,⟨_,_,rfl,⟨A2,c2,rfl,l2,g2⟩,⟨A3,c3,rfl,l3,g3⟩⟩⟩⟩⟩⟩⟩⟩⟩:=h
 exact ⟨A0,c0,A1,c1,A2,c2,A3,c3,rfl,l0,g0,l1,g1,l2,g2,l3,g3⟩
theorem kApiFunc_mk (w:World) (x:ApiFunc) {A0 A1 A2 A3:Option Addr}{c0 c1 c2 c3:Nat}(l0:x.fKinds.length≤c0) (g0:(Kd.int .i64).C w A0 x.fKinds) (l1:x.fLines.length≤c1) (g1:kApiLine.C w A1 x.fLines) (l2:x.fCode.length≤c2) (g2:kApiInstr.C w A2 x.fCode) (l3:x.fRelocs.length≤c3) (g3:kApiReloc.C w A3 x.fRelocs):kApiFunc.K w x [.int .i64 x.fClass,.slice A0 x.fKinds.length c0,.int .i64 x.fPad,.bool x.fNosplit,.int .i64 x.fFrom,.int .i64 x.fTo,.slice A1 x.fLines.length c1,.slice A2 x.fCode.length c2,.slice A3 x.fRelocs.length c3]:=⟨_,_,rfl,rfl,⟨_,_,rfl,⟨A0,c0,rfl,l0,g0⟩,⟨_,_,rfl,rfl,⟨_,_,rfl,rfl,⟨_,_,rfl,rfl,⟨_,_,rfl,rfl,⟨_,_,rfl,⟨A1,c1,rfl,l1,g1⟩,⟨_,_,rfl,⟨A2,c2,rfl,l2,g2⟩,⟨A3,c3,rfl,l3,g3⟩⟩⟩⟩⟩⟩⟩⟩⟩
def vApiFunc (x:ApiFunc):Prop:=in64 x.fClass∧(x.fKinds.length≤maxLen∧∀ y ∈ x.fKinds,in64 y)∧in64 x.fPad∧True∧in64 x.fFrom∧in64 x.fTo∧(x.fLines.length≤maxLen∧∀ y ∈ x.fLines,vApiLine y)∧(x.fCode.length≤maxLen∧∀ y ∈ x.fCode,vApiInstr y)∧(x.fRelocs.length≤maxLen∧∀ y ∈ x.fRelocs,vApiReloc y)
set_option maxRecDepth 100000 in
theorem opApiFunc:Opens Tryz.prog 51 kApiFunc vApiFunc:=Opens.weak (opens_struct (fun p=>(⟨p.1,p.2.1,p.2.2.1,p.2.2.2.1,p.2.2.2.2.1,p.2.2.2.2.2.1,p.2.2.2.2.2.2.1,p.2.2.2.2.2.2.2.1,p.2.2.2.2.2.2.2.2⟩:ApiFunc)) (fun _=>rfl) Tryz.underlying51 (opensF_cons (opens_i64 rfl) rfl (opensF_cons (opens_slice rfl rfl (opens_i64 rfl)) rfl (opensF_cons (opens_i64 rfl) rfl (opensF_cons (opens_bool rfl) rfl (opensF_cons (opens_i64 rfl) rfl (opensF_cons (opens_i64 rfl) rfl (opensF_cons (opens_slice rfl rfl opApiLine) rfl (opensF_cons (opens_slice rfl rfl opApiInstr) rfl (opensF_one (opens_slice rfl rfl opApiReloc) rfl rfl)))))))))) (fun _ h=>h)
structure ApiData where
  fKind:Int
  fWords:List Int
  fRelocs:List ApiReloc
instance:Inhabited ApiData:=⟨⟨0,[],[]⟩⟩
def kApiData:Kd ApiData:=Kd.iso (Kd.pair (Kd.int .i64) (Kd.pair (Kd.slice (Kd.int .i64)) (Kd.slice kApiReloc))) (fun x=>(x.fKind,x.fWords,x.fRelocs))
theorem kApiData_open {w:World}{x:ApiData}{cs:List Value}(h:kApiData.K w x cs):∃ A0 c0 A1 c1,cs=[.int .i64 x.fKind,.slice A0 x.fWords.length c0,.slice A1 x.fRelocs.length c1]∧x.fWords.length≤c0∧(Kd.int .i64).C w A0 x.fWords∧x.fRelocs.length≤c1∧kApiReloc.C w A1 x.fRelocs:=by
 obtain ⟨_,_,rfl,rfl,⟨_,_,rfl,⟨A0,c0,rfl,l0,g0⟩,⟨A1,c1,rfl,l1,g1⟩⟩⟩:=h
 exact ⟨A0,c0,A1,c1,rfl,l0,g0,l1,g1⟩
theorem kApiData_mk (w:World) (x:ApiData) {A0 A1:Option Addr}{c0 c1:Nat}(l0:x.fWords.length≤c0) (g0:(Kd.int .i64).C w A0 x.fWords) (l1:x.fRelocs.length≤c1) (g1:kApiReloc.C w A1 x.fRelocs):kApiData.K w x [.int .i64 x.fKind,.slice A0 x.fWords.length c0,.slice A1 x.fRelocs.length c1]:=⟨_,_,rfl,rfl,⟨_,_,rfl,⟨A0,c0,rfl,l0,g0⟩,⟨A1,c1,rfl,l1,g1⟩⟩⟩
def vApiData (x:ApiData):Prop:=in64 x.fKind∧(x.fWords.length≤maxLen∧∀ y ∈ x.fWords,in64 y)∧(x.fRelocs.length≤maxLen∧∀ y ∈ x.fRelocs,vApiReloc y)
set_option maxRecDepth 100000 in
theorem opApiData:Opens Tryz.prog 55 kApiData vApiData:=Opens.weak (opens_struct (fun p=>(⟨p.1,p.2.1,p.2.2⟩:ApiData)) (fun _=>rfl) Tryz.underlying55 (opensF_cons (opens_i64 rfl) rfl (opensF_cons (opens_slice rfl rfl (opens_i64 rfl)) rfl (opensF_one (opens_slice rfl rfl opApiReloc) rfl rfl)))) (fun _ h=>h)
structure ApiObject where
  fSymbols:List ApiSymbol
  fFuncs:List ApiFunc
  fDatas:List ApiData
instance:Inhabited ApiObject:=⟨⟨[],[],[]⟩⟩
def kApiObject:Kd ApiObject:=Kd.iso (Kd.pair (Kd.slice kApiSymbol) (Kd.pair (Kd.slice kApiFunc) (Kd.slice kApiData))) (fun x=>(x.fSymbols,x.fFuncs,x.fDatas))
theorem kApiObject_open {w:World}{x:ApiObject}{cs:List Value}(h:kApiObject.K w x cs):∃ A0 c0 A1 c1 A2 c2,cs=[.slice A0 x.fSymbols.length c0,.slice A1 x.fFuncs.length c1,.slice A2 x.fDatas.length c2]∧x.fSymbols.length≤c0∧kApiSymbol.C w A0 x.fSymbols∧x.fFuncs.length≤c1∧kApiFunc.C w A1 x.fFuncs∧x.fDatas.length≤c2∧kApiData.C w A2 x.fDatas:=by
 obtain ⟨_,_,rfl,⟨A0,c0,rfl,l0,g0⟩,⟨_,_,rfl,⟨A1,c1,rfl,l1,g1⟩,⟨A2,c2,rfl,l2,g2⟩⟩⟩:=h
 exact ⟨A0,c0,A1,c1,A2,c2,rfl,l0,g0,l1,g1,l2,g2⟩
theorem kApiObject_mk (w:World) (x:ApiObject) {A0 A1 A2:Option Addr}{c0 c1 c2:Nat}(l0:x.fSymbols.length≤c0) (g0:kApiSymbol.C w A0 x.fSymbols) (l1:x.fFuncs.length≤c1) (g1:kApiFunc.C w A1 x.fFuncs) (l2:x.fDatas.length≤c2) (g2:kApiData.C w A2 x.fDatas):kApiObject.K w x [.slice A0 x.fSymbols.length c0,.slice A1 x.fFuncs.length c1,.slice A2 x.fDatas.length c2]:=⟨_,_,rfl,⟨A0,c0,rfl,l0,g0⟩,⟨_,_,rfl,⟨A1,c1,rfl,l1,g1⟩,⟨A2,c2,rfl,l2,g2⟩⟩⟩
def vApiObject (x:ApiObject):Prop:=(x.fSymbols.length≤maxLen∧∀ y ∈ x.fSymbols,vApiSymbol y)∧(x.fFuncs.length≤maxLen∧∀ y ∈ x.fFuncs,vApiFunc y)∧(x.fDatas.length≤maxLen∧∀ y ∈ x.fDatas,vApiData y)
set_option maxRecDepth 100000 in
theorem opApiObject:Opens Tryz.prog 26 kApiObject vApiObject:=Opens.weak (opens_struct (fun p=>(⟨p.1,p.2.1,p.2.2⟩:ApiObject)) (fun _=>rfl) Tryz.underlying26 (opensF_cons (opens_slice rfl rfl opApiSymbol) rfl (opensF_cons (opens_slice rfl rfl opApiFunc) rfl (opensF_one (opens_slice rfl rfl opApiData) rfl rfl)))) (fun _ h=>h)
end Go.Proofs.YtpmdhkjbhjgoaaaGreatT
namespace Go.Proofs.YtpmdhkjbhjgoaaaGreatK
open Go.RowKit Go.Proofs.YtpmdhkjbhjgoaaaGreatT
abbrev tT:=true
abbrev fF:=false
noncomputable abbrev CW:=CallsIn Fence.wide 0 Tryz.prog
end Go.Proofs.YtpmdhkjbhjgoaaaGreatK
namespace Go.Proofs.YtpmdhkjbhjgoaaaGreatD
set_option maxRecDepth 100000
set_option maxHeartbeats 4000000
open Go.RowKit Go.Proofs.YtpmdhkjbhjgoaaaGreatK Go.Proofs.YtpmdhkjbhjgoaaaGreatT

theorem setAt_of {α:Type} : ∀ {cs:List α}{n:Nat}{v:α},n<cs.length→SetAt cs n v (cs.set n v)
 | c :: cs,0,v,_=>.here
 | c :: cs,n+1,v,h=>.there (setAt_of (by simpa using h))
section
variable {c : Cx} {M : Md c} {d : Nat} {ty : TypeId} {pos : String} {af : Array Edge} {rest : List Oper} {E : Env} {D : List Deferred} {H H' : List Res} {x y : Operand} {t t' : TypeId} {v : Value}
theorem oSliceArF {b o l n s:Nat}{k:IntKind}{z:Int}{z1:Operand}(hx:E.op x=some (.pointer (some ⟨b,o,none⟩))) (hl:E.op z1=some (.int k z)) (hz:z=(l:Int)) (ht:arrT c.P t=some (n,s)) (h1:l<n)
 (h:O M rest ((d,.slice (some ⟨b,o+l * s,none⟩) (n-l) (n-l)) :: E) D H) (hN:Nat.blt d c.N=true:=by rfl):O M (⟨some d,.slice t x (some z1) none none,ty,pos,af,none⟩ :: rest) E D H:=
 oC _ rfl hN (fun u w ha hw=>by
  subst hz
  unfold arrT at ht
  cases hu:c.P.underlying t with
  | none=>rw [hu] at ht;cases ht
  | some ut=>
   rw [hu] at ht
   cases ut <;> simp only [Option.map_eq_some_iff,reduceCtorEq,false_and,exists_false] at ht
   case array n' e'=>
    obtain ⟨inf,h3,h4⟩:=ht
    injection h4 with h5 h6
    subst h5
    have e1:¬ n'=l:=by omega
    have e2:l≤n':=by omega
    simp [execOp,ha.op hx,ha.op hl,Instr.sliceAt,run_underlying hu,Instr.sureAddr,Instr.sliceBounds,Instr.sliceBound,asIntOf,e2,sizeOf,typeInfo,h3,h6,e1,add_at]) h
end
theorem C_part {W w:World}{b o:Nat}{tb:TypeId}{cs:List Value}{k:IntKind}{xs:List Int}(h:(blk b tb cs).q w) (hl:xs.length≤9223372036854775807) (hc:∀ (j:Nat) (x:Int),xs[j]?=some x→cs[o+j]?=some (.int k x)):(Kd.int k).C w (some ⟨b,o,none⟩) xs:=by
 refine ⟨hl,fun _=>⟨_,rfl,fun j u hj=>⟨[.int k u],rfl,fun i v hv=>?_⟩⟩⟩
 cases i with
 | zero=>
  have hv':Value.int k u=v:=by simpa using hv
  subst hv'
  have e:((⟨b,o,none⟩:Addr).add (j * (Kd.int k).sz+0))=⟨b,o+j,none⟩:=by rw [add_at];show (⟨b,o+(j * 1+0),none⟩:Addr)=_;rw [Nat.mul_one,Nat.add_zero]
  rw [e,cell_of h]
  exact hc j u hj
 | succ i=>simp at hv
theorem src_Cs {α:Type}{enc:α→Value}{h1:∀ x,(enc x).oneCell'=true}{W W' w:World}{A:Option Addr}{xs:List α}(hC:(Kd.scalar enc h1).C W' A xs) (g:Grow W' w):Src (Kd.scalar enc h1) W w A xs:=by
 obtain ⟨s1,s2⟩:=src_C hC g
 refine ⟨s1,fun ad e=>?_⟩
 obtain ⟨news,hc,hn⟩:=s2 ad e
 exact ⟨news,cat_scalar.2 (cat_scalar.1 hc),hn⟩
def putA (n:Int) (i:Nat):List Int:=(List.range 8).map (fun p=>if 7-p<i then bq n (7-p) else 0)
theorem putA_set (n:Int) {i:Nat}(hi:i<8):((putA n i).map (Value.int .u8)).set (7-i) (.int .u8 (bq n i))=(putA n (i+1)).map (Value.int .u8):=by
 apply List.ext_getElem?
 intro p
 rw [List.getElem?_set]
 have hlen:∀ j,((putA n j).map (Value.int .u8)).length=8:=fun j=>by simp [putA]
 by_cases hp:p<8
 · have hg:∀ j,((putA n j).map (Value.int .u8))[p]?=some (.int .u8 (if 7-p<j then bq n (7-p) else 0)):=fun j=>by simp [putA,hp]
   rw [hg,hg,hlen]
   by_cases e:7-i=p
   · rw [if_pos e,if_pos ZO,if_pos ZO,show 7-p=i by omega]
   · rw [if_neg e]
     by_cases h:7-p<i
     · rw [if_pos h,if_pos ZO]
     · rw [if_neg h,if_neg ZO]
 · rw [List.getElem?_eq_none (by rw [hlen];omega),List.getElem?_eq_none (by rw [hlen];omega)]
   split
   · rw [if_neg (by rw [hlen];omega)]
   · rfl
theorem putA_end (n:Int) {k:Nat}(hk:k≤8):∀ (j:Nat) (x:Int),(putL n k)[j]?=some x→((putA n 8).map (Value.int .u8))[(8-k)+j]?=some (.int .u8 x):=by
 intro j x hj
 have hjk:j<k:=by
  have:=(List.getElem?_eq_some_iff.1 hj).1
  rwa [putL_len] at this
 have e:(putL n k)[j]?=some (bq n (k-1-j)):=by simp [putL,hjk]
 rw [e] at hj
 obtain rfl:=Option.some.inj hj
 have h8:(8-k)+j<8:=by omega
 have hg:((putA n 8).map (Value.int .u8))[(8-k)+j]?=some (.int .u8 (if 7-((8-k)+j)<8 then bq n (7-((8-k)+j)) else 0)):=by simp [putA,h8]
 rw [hg,if_pos ZO,show 7-((8-k)+j)=k-1-j by omega]
theorem shr_byte (n:Int) (i:Nat):IntKind.u8.wrap (n / 2 ^ (8 * i))=bq n i:=by
 rw [wrap8]
 unfold bq
 rw [Int.pow_mul]
 rfl
theorem octet_Put {B:Base}{w:World}(hS:St B [] w) (A:Option Addr) (cp:Nat) (l:List Int) (hC:(Kd.int .u8).C B.e A l) (hl:l.length≤1000000) (n:Int) (k:Nat) (hk:1≤k∧k≤8) (W0:World) :
 CW 37 #[.slice A l.length cp,.int .i64 n,.int .i64 (k:Int)] w (Ret B (fun _:Option Addr×Nat=>True) (fun z=>.slice z.1 (l++putL n k).length z.2) (fun z=>[row (Kd.int .u8) W0 5 (.slice z.1 (l++putL n k).length z.2) (l++putL n k)])):=by
 have hpl:=putL_len n k
 refine ZX Tryz.func37 hS ?_
 refine Zh (Zi (Zp J (Zn (Za (Zh (Zi (oAlloc J ZP (fun b7=>?_))))))))
 refine Zn (Za (Zh (Zh (Zi (Zo J (Zn (Za (Zk (wLoop (ι:=Nat) (fun i=>[(0,.slice A l.length cp),(1,.int .i64 n),(2,.int .i64 (k:Int)),(7,.pointer (some ⟨b7,0,none⟩)),(10,.int .i64 (i:Int))]) (fun i=>[blk b7 124 ((putA n i).map (Value.int .u8))]) (fun i=>i≤8) (fun i=>8-i) 0 ?_ cv (Leads.has ZQ) ?_)))))))))
 exact Nat.zero_le _
 rintro i hi
 try dsimp only
 refine Zh (Zi (Zx J J (Zn (Za (Zh (wC (fun h11=>?_) (fun h11=>?_)))))))
 refine Zj (Za (Zh (Zk (Zh (Zi (Zo J (Zp J (Zn (Za (Zi (Zo J (oSub J J ZO ?_))))))))))))
 refine Zo J (Zo J ?_)
 refine oConvInt (m:=(i:Int)) rfl rfl rfl (by rw [wrapU];omega) ?_
 refine oMulW J J ?_
 refine ZS0 (t:=18) (v':=.int .u64 ((8 * i:Nat):Int)) rfl (by rw [wrapU];congr 1;omega) ?_
 refine oShrN J J ZO ?_
 refine oConvInt (m:=bq n i) J J J (shr_byte n i) (oIdxA (s:=1) (i:=7-i) (m:=7-i) J J ZO J ZO ZO ?_)
 refine oSt J J J J J ZP (setAt_of (by simp [putA];omega)) ?_
 rw [putA_set n ZO]
 refine Zn (Zze ?_)
 refine Zo J (Zn (Za ?_))
 exact ⟨rfl,i+1,by omega,by omega,cv,Lh⟩
 obtain rfl:i=8:=by omega
 refine Zm (Zb (Zb (Ze (Za (Zh (Zi (oBuildSlice0 (Kd.int .u8) W0 J (fun b23=>?_))))))))
 refine Zo J ?_
 refine oAppA (ys:=l) J J J J ZP J (fun w hw=>src_Cs hC (Base.grow hw.ok)) (by simp;omega) J (fun A25 c25 hc25=>?_)
 refine Zp J (Zn (Za (Zh (Zh (Zi (Zo J (Zx J J (Zo J (ZS (ZT 28) (fun h28=>?_) (fun h28=>?_))))))))))
 refine Zr J J J J (Zr J J J J (Zt J J (Zn (Za (wCondT J (Zh (Zi (Zo J (Zzb ?_)))))))))
 exact absurd h28 ZO
 refine Zq J J (Zo J (Zq J J (Z1 J J (Zu J J (Zn (Za (wC (fun h31=>?_) (fun h31=>?_))))))))
 refine Zh (Zi (Zo J (Zzb ?_)))
 exact absurd h31 ZO
 refine Zj (Za (Zh (Zi (Zo J (Zo J (oSub J J ZO ?_))))))
 refine oSliceArF (l:=8-k) J J ZO J ZO ?_
 refine oAppA (ys:=putL n k) rfl rfl rfl rfl ZP ZO (fun w hw=>src_Cs (W':=w) (w:=w) (C_part (W:=w) (xs:=putL n k) (o:=0+(8-k) * 1) (hw.get ZP) (by rw [putL_len];omega) (by rw [Nat.mul_one,Nat.zero_add];exact putA_end n hk.2)) (Grow.refl w)) (by simp;omega) rfl (fun A37 c37 hc37=>?_)
 rw [show ([]++l:List Int)=l from rfl,show l.length+(8-(8-k))=(l++putL n k).length by rw [List.length_append,hpl];omega]
 refine Zp J (Zza ?_)
 exact ⟨(A37,c37),trivial,rfl,Lh⟩
section
variable {c : Cx} {M : Md c} {d : Nat} {ty : TypeId} {pos : String} {af : Array Edge} {rest : List Oper} {E : Env} {D : List Deferred} {H H' : List Res} {x y : Operand} {t t' : TypeId} {v : Value}
end
theorem putL_at (n:Int) (k m:Nat) (h:m<k):(putL n k)[m]?=some (bq n (k-1-m)):=by simp [putL,h]
end Go.Proofs.YtpmdhkjbhjgoaaaGreatD
