/-
  Part 1 of the proof of LineInstrs: contracts of functions, and what follows from them; without conditions.
-/
import Derived.Below
import Derived.WalkKit
import Derived.KernelRfl
import Derived.RangeFuncRecord
import Derived.Laws.AppendOwn
import Derived.Maps.OwnIn
import Derived.Lib.Hide
import Derived.TacticsIn
import Derived.StillTail
import Derived.Calls
import Derived.BigFrameIn
import Derived.LoopNIn
import Derived.RangeFuncCalls
import Derived.IntWalk
import Derived.WideLaws
import Derived.Laws.Strings
import Derived.Laws.Tables
import Derived.Laws.OwnMore
import Derived.Laws.MakeOwn
import Derived.Laws.Cells
import Derived.Laws.Entries
import Derived.Maps.AppendAt
import Derived.DataElems
import Derived.Deep.Slices
import Derived.DataReads
import Derived.RangeFuncBound
import Derived.RangeFuncLeaves
import Derived.Laws.IdiomCopy
import Derived.Shelf.Sort.Plain
import Derived.Shelf.Slices.In.SortNone
import Derived.Shelf.Slices.CompactI
import Derived.OrdersIn
import Derived.OpenShut
import Derived.Laws.RangeAny
import Derived.Laws.IdiomStrings
import Derived.Shelf.Slices.In.CompactS
import Derived.Shelf.Slices.In.Reads
import Derived.Shelf.Strconv.Itoa3
import Derived.Shelf.Strings.Split
import Derived.Shelf.Strings.Prefix
import Derived.Shelf.Strings.OnBuilder
import Derived.Shelf.Strconv.Itoa4
import Derived.Shelf.Strconv.ParseIntPublic10
import Derived.Handed
import Derived.SizedLaws
import Derived.Shelf.Vars
import Derived.Stop.LaidErr
import Derived.Test.YtpmdhkjbhjgoaaaGreatDoorProg
import Derived.Shelf.Lays
import Derived.Shelf.LaysC
import Derived.Shelf.LaysM
import Derived.Shelf.Strings.BuilderX
set_option linter.unusedVariables false
set_option linter.unusedSimpArgs false
set_option linter.defProp false
/-
  The ground of the walks: how data lie (kinds), resources with footprints, and the state of a walk: what it owns, and what lies around it.
-/
namespace Go.Proofs.YtpmdhkjbhjgoaaaGreatDoorK
open Classical Go.RowKit

def Grow (w w':World):Prop:=∀ a v,w.cell? a=some v→w'.cell? a=some v
theorem Grow.refl (w:World):Grow w w:=fun _ _ h=>h
theorem Grow.trans {a b c:World}(h:Grow a b) (k:Grow b c):Grow a c:=fun x v hx=>k x v (h x v hx)

structure Base where
  w:World
  O:Nat→Prop
noncomputable def Base.e (B:Base):World:={ B.w with heap:=B.w.heap.mapIdx fun k o=>if B.O k then .deferred none else o }
structure Base.ok (B:Base) (w:World):Prop where
  os:w.os=B.w.os
  tape:w.tape=B.w.tape
  output:w.output=B.w.output
  size:B.w.heap.size≤w.heap.size
  block:∀ k,k<B.w.heap.size→¬ B.O k→w.heap[k]?=B.w.heap[k]?
def Base.mine (B:Base) (k:Nat):Prop:=B.O k∨B.w.heap.size≤k
def Base.at (w:World):Base:=⟨w,fun _=>False⟩

theorem Base.e_heap (B:Base) (k:Nat):B.e.heap[k]?=if B.O k then B.w.heap[k]?.map fun _=>.deferred none else B.w.heap[k]?:=by
 simp only [Base.e,Array.getElem?_mapIdx]
 split <;> cases B.w.heap[k]? <;> simp_all
theorem Base.grow {B:Base}{w:World}(h:B.ok w):Grow B.e w:=by
 intro a v hv
 unfold World.cell? at hv ⊢
 rw [B.e_heap] at hv
 by_cases ho:B.O a.block
 · rw [if_pos ho] at hv
   cases hb:B.w.heap[a.block]? <;> simp [hb] at hv
 · rw [if_neg ho] at hv
   by_cases hk:a.block<B.w.heap.size
   · rw [h.block _ hk ho];exact hv
   · rw [Array.getElem?_eq_none (by omega)] at hv;cases hv
theorem Base.at_e (w:World):(Base.at w).e=w:=by
 have h:(Base.at w).e.heap=w.heap:=by
  apply Array.ext_getElem?
  intro i
  rw [Base.e_heap,if_neg (show ¬ (Base.at w).O i from fun h=>h)]
  rfl
 show ({ w with heap:=(Base.at w).e.heap } : World)=w
 rw [h]
theorem Base.at_ok (w:World):(Base.at w).ok w:=⟨rfl,rfl,rfl,Nat.le_refl _,fun _ _ _=>rfl⟩
theorem Base.at_below {w w':World}(h:(Base.at w).ok w'):Below w.heap.size w w':=⟨h.os,h.tape,h.output,h.size,fun k hk=>h.block k hk (fun h=>h)⟩

structure Kd (α:Type) where
  sz:Nat
  K:World→α→List Value→Prop
  K_len:∀ {w x cs},K w x cs→cs.length=sz
  K_one:∀ {w x cs},K w x cs→∀ u ∈ cs,u.oneCell'=true
  K_grow:∀ {w w':World}{x cs},Grow w w'→K w x cs→K w' x cs
def Kd.C {α:Type}(d:Kd α) (w:World) (A:Option Addr) (xs:List α):Prop:=
  xs.length≤9223372036854775807∧(0<xs.length→∃ ad,A=some ad∧∀ j x,xs[j]?=some x→∃ c,d.K w x c∧∀ i u,c[i]?=some u→w.cell? (ad.add (j * d.sz+i))=some u)
namespace Kd
variable {α β : Type} {d : Kd α} {w w' : World} {A : Option Addr} {xs : List α}
theorem C_grow (g:Grow w w') (h:d.C w A xs):d.C w' A xs:=⟨h.1,fun hn=>by
 obtain ⟨ad,e,hc⟩:=h.2 hn
 exact ⟨ad,e,fun j x hx=>by
  obtain ⟨c,hK,hcell⟩:=hc j x hx
  exact ⟨c,d.K_grow g hK,fun i u hu=>g _ _ (hcell i u hu)⟩⟩⟩
theorem C_nil (d:Kd α) (w:World) (A:Option Addr):d.C w A []:=⟨by simp,fun h=>by simp at h⟩
def scalar (enc:α→Value) (h1:∀ x,(enc x).oneCell'=true):Kd α where
  sz:=1
  K:=fun _ x cs=>cs=[enc x]
  K_len:=fun h=>by rw [h];rfl
  K_one:=fun h u hu=>by
    rw [h] at hu
    rw [List.mem_singleton.1 hu]
    exact h1 _
  K_grow:=fun _ h=>h
def int (k:IntKind):Kd Int:=scalar (Value.int k) (fun _=>rfl)
def bool:Kd Bool:=scalar Value.bool (fun _=>rfl)
def string:Kd ByteArray:=scalar Value.string (fun _=>rfl)
def slice (d:Kd α):Kd (List α) where
  sz:=1
  K:=fun w xs cs=>∃ A c,cs=[.slice A xs.length c]∧xs.length≤c∧d.C w A xs
  K_len:=by
    rintro w x cs ⟨A,c,rfl,_⟩
    rfl
  K_one:=by
    rintro w x cs ⟨A,c,rfl,_⟩ u hu
    rw [List.mem_singleton.1 hu]
    rfl
  K_grow:=by
    rintro w w' x cs g ⟨A,c,rfl,hl,hC⟩
    exact ⟨A,c,rfl,hl,C_grow g hC⟩
def pair (a:Kd α) (b:Kd β):Kd (α×β) where
  sz:=a.sz+b.sz
  K:=fun w x cs=>∃ c1 c2,cs=c1++c2∧a.K w x.1 c1∧b.K w x.2 c2
  K_len:=by
    rintro w x cs ⟨c1,c2,rfl,h1,h2⟩
    rw [List.length_append,a.K_len h1,b.K_len h2]
  K_one:=by
    rintro w x cs ⟨c1,c2,rfl,h1,h2⟩ u hu
    rcases List.mem_append.1 hu with h | h
    · exact a.K_one h1 u h
    · exact b.K_one h2 u h
  K_grow:=by
    rintro w w' x cs g ⟨c1,c2,rfl,h1,h2⟩
    exact ⟨c1,c2,rfl,a.K_grow g h1,b.K_grow g h2⟩
def iso (d:Kd α) (f:β→α):Kd β where
  sz:=d.sz
  K:=fun w x cs=>d.K w (f x) cs
  K_len:=fun h=>d.K_len h
  K_one:=fun h=>d.K_one h
  K_grow:=fun g h=>d.K_grow g h
end Kd

structure Chg (w w':World) (S:Nat→Prop):Prop where
  os:w'.os=w.os
  tape:w'.tape=w.tape
  output:w'.output=w.output
  size:w.heap.size≤w'.heap.size
  block:∀ k,k<w.heap.size→¬ S k→w'.heap[k]?=w.heap[k]?
theorem Chg.refl (w:World) (S:Nat→Prop):Chg w w S:=⟨rfl,rfl,rfl,Nat.le_refl _,fun _ _ _=>rfl⟩
theorem Chg.trans {a b c:World}{S:Nat→Prop}(h:Chg a b S) (k:Chg b c S):Chg a c S:=
 ⟨k.os.trans h.os,k.tape.trans h.tape,k.output.trans h.output,Nat.le_trans h.size k.size,fun i hi hn=>(k.block i (Nat.lt_of_lt_of_le hi h.size) hn).trans (h.block i hi hn)⟩
theorem Chg.of_grown {w w':World}{row:Option Nat}(h:w.grownBy w' row):Chg w w' (fun k=>some k=row):=⟨h.os,h.tape,h.output,h.size,h.block⟩
theorem Chg.of_below {w w':World}(h:Below w.heap.size w w') (S:Nat→Prop):Chg w w' S:=⟨h.os,h.tape,h.output,h.size,fun k hk _=>h.block k hk⟩
theorem Chg.mono {w w':World}{S S':Nat→Prop}(h:Chg w w' S) (hs:∀ k,S k→S' k):Chg w w' S':=⟨h.os,h.tape,h.output,h.size,fun k hk hn=>h.block k hk (fun h'=>hn (hs k h'))⟩
theorem Chg.alloc (w:World) (o:Obj) (S:Nat→Prop):Chg w (w.alloc o) S:=⟨rfl,rfl,rfl,by simp,fun k hk _=>Below.heap_alloc _ _ _ hk⟩
theorem Chg.setCell (w:World) (a:Addr) (v:Value):Chg w (w.setCell a v) (fun k=>k=a.block):=⟨rfl,rfl,rfl,by simp [World.setCell],fun k _ hn=>Below.heap_setCell _ _ _ _ hn⟩
theorem Chg.putObj (w:World) (b:Nat) (o:Obj):Chg w (w.putObj b o) (fun k=>k=b):=⟨rfl,rfl,rfl,by simp,fun k _ hn=>World.putObj_heap_other hn⟩
theorem Chg.drew (w:World) (S:Nat→Prop):Chg w w.drew S:=⟨rfl,rfl,rfl,Nat.le_refl _,fun _ _ _=>rfl⟩

structure Res where
  fp:Nat→Prop
  q:World→Prop
  inb:∀ w,q w→∀ k,fp k→k<w.heap.size
  st:∀ w w',q w→(∀ k,fp k→w'.heap[k]?=w.heap[k]?)→q w'

def Sep (M:Nat→Prop) (w:World):List Res→Prop
  | []=>True
  | r :: Φ=>r.q w∧(∀ k,r.fp k→M k)∧(∀ s ∈ Φ,∀ k,r.fp k→¬ s.fp k)∧Sep M w Φ

structure St (B:Base) (Φ:List Res) (w:World):Prop where
  ok:B.ok w
  sep:Sep B.mine w Φ

inductive Upd:List Res→Res→Res→List Res→Prop
  | here {r r':Res}{Φ:List Res} : Upd (r :: Φ) r r' (r' :: Φ)
  | there {x r r':Res}{Φ Φ':List Res}(h:Upd Φ r r' Φ'):Upd (x :: Φ) r r' (x :: Φ')
inductive Pick:List Res→Res→List Res→Prop
  | here {r:Res}{Φ:List Res} : Pick (r :: Φ) r Φ
  | there {x r:Res}{Φ Φ':List Res}(h:Pick Φ r Φ'):Pick (x :: Φ) r (x :: Φ')
inductive Split:List Res→List Res→List Res→Prop
  | nil {Φ:List Res} : Split Φ [] Φ
  | cons {r:Res}{Ψ Φ Φ' Φ'':List Res}(h:Pick Φ r Φ') (k:Split Φ' Ψ Φ''):Split Φ (r :: Ψ) Φ''

inductive Has:List Res→List Res→Prop
  | nil {Φ:List Res} : Has Φ []
  | cons {r:Res}{Ψ Φ Φ':List Res}(h:Pick Φ r Φ') (k:Has Φ' Ψ):Has Φ (r :: Ψ)
theorem Has.split {Φ Ψ:List Res}(h:Has Φ Ψ):∃ Φ',Split Φ Ψ Φ':=by
 induction h with
 | nil=>exact ⟨_,.nil⟩
 | cons h _ ih=>obtain ⟨Φ',h'⟩:=ih;exact ⟨Φ',.cons h h'⟩

theorem Upd.mem {Φ Φ':List Res}{r r':Res}(h:Upd Φ r r' Φ'):r ∈ Φ:=by
 induction h with
 | here=>exact List.mem_cons_self
 | there _ ih=>exact List.mem_cons_of_mem _ ih
theorem Upd.from_ {Φ Φ':List Res}{r r':Res}(h:Upd Φ r r' Φ'):∀ s ∈ Φ',s=r'∨s ∈ Φ:=by
 induction h with
 | here=>exact fun s hs=>(List.mem_cons.1 hs).imp id (List.mem_cons_of_mem _)
 | there _ ih=>exact fun s hs=>(List.mem_cons.1 hs).elim (fun h=>.inr (h ▸ List.mem_cons_self)) (fun h=>(ih s h).imp id (List.mem_cons_of_mem _))
theorem Pick.mem {Φ Φ':List Res}{r:Res}(h:Pick Φ r Φ'):r ∈ Φ:=by
 induction h with
 | here=>exact List.mem_cons_self
 | there _ ih=>exact List.mem_cons_of_mem _ ih
theorem Pick.perm {Φ Φ':List Res}{r:Res}(hp:Pick Φ r Φ'):Φ.Perm (r :: Φ'):=by
 induction hp with
 | here=>exact .refl _
 | there _ ih=>exact (ih.cons _).trans (.swap _ _ _)
theorem Split.perm {Φ Ψ Φ':List Res}(h:Split Φ Ψ Φ'):Φ.Perm (Ψ++Φ'):=by
 induction h with
 | nil=>exact .refl _
 | cons hp _ ih=>exact hp.perm.trans (ih.cons _)

variable {M : Nat → Prop} {B : Base} {w w' : World} {Φ Φ' Ψ : List Res} {r r' : Res}

theorem Sep.get (h:Sep M w Φ) (hm:r ∈ Φ):r.q w∧∀ k,r.fp k→M k:=by
 induction Φ with
 | nil=>cases hm
 | cons x Φ ih=>
  obtain ⟨h1,h2,_,h4⟩:=h
  rcases List.mem_cons.1 hm with rfl | hm
  · exact ⟨h1,h2⟩
  · exact ih h4 hm
theorem Sep.keep (h:Sep M w Φ) {S:Nat→Prop}(hc:Chg w w' S) (hd:∀ s ∈ Φ,∀ k,S k→¬ s.fp k):Sep M w' Φ:=by
 induction Φ with
 | nil=>trivial
 | cons x Φ ih=>
  obtain ⟨h1,h2,h3,h4⟩:=h
  exact ⟨x.st w w' h1 (fun k hk=>hc.block k (x.inb w h1 k hk) (fun hs=>hd x List.mem_cons_self k hs hk)),h2,h3,ih h4 (fun s hs=>hd s (List.mem_cons_of_mem _ hs))⟩
theorem Sep.upd (h:Sep M w Φ) (hu:Upd Φ r r' Φ') (hn:∀ k,w.heap.size≤k→M k) (hc:Chg w w' r.fp) (hq:r'.q w') (hf:∀ k,r'.fp k→r.fp k∨w.heap.size≤k):Sep M w' Φ':=by
 induction hu with
 | @here r r' Φ=>
  obtain ⟨h1,h2,h3,h4⟩:=h
  refine ⟨hq,fun k hk=>?_,fun s hs k hk hsk=>?_,h4.keep hc h3⟩
  · rcases hf k hk with h | h
    · exact h2 k h
    · exact hn k h
  · rcases hf k hk with h | h
    · exact h3 s hs k h hsk
    · have:=s.inb w (h4.get hs).1 k hsk;omega
 | @there x r r' Φ Φ' hu ih=>
  obtain ⟨h1,h2,h3,h4⟩:=h
  refine ⟨x.st w w' h1 (fun k hk=>hc.block k (x.inb w h1 k hk) (h3 r hu.mem k hk)),h2,fun s hs k hk hsk=>?_,ih h4 hc hq hf⟩
  rcases hu.from_ s hs with rfl | hs'
  · rcases hf k hsk with h | h
    · exact h3 r hu.mem k hk h
    · have:=x.inb w h1 k hk;omega
  · exact h3 s hs' k hk hsk
theorem Sep.all (M:Nat→Prop) (w:World) (Φ:List Res):Sep M w Φ↔(∀ r ∈ Φ,r.q w∧∀ k,r.fp k→M k)∧Φ.Pairwise (fun r s=>∀ k,r.fp k→¬ s.fp k):=by
 induction Φ with
 | nil=>simp [Sep]
 | cons r Φ ih=>
  simp only [Sep,ih,List.mem_cons,List.pairwise_cons,forall_eq_or_imp]
  constructor
  · rintro ⟨a,b,c,d,e⟩;exact ⟨⟨⟨a,b⟩,d⟩,c,e⟩
  · rintro ⟨⟨⟨a,b⟩,d⟩,c,e⟩;exact ⟨a,b,c,d,e⟩
theorem St.perm (h:St B Φ w) (hp:Φ.Perm Φ'):St B Φ' w:=by
 refine ⟨h.ok,(Sep.all _ _ _).2 ?_⟩
 obtain ⟨h1,h2⟩:=(Sep.all _ _ _).1 h.sep
 exact ⟨fun r hr=>h1 r (hp.mem_iff.2 hr),(hp.pairwise_iff (fun {a b} hab k hb ha=>hab k ha hb)).1 h2⟩
theorem St.swap (h:St B (Φ++Ψ) w):St B (Ψ++Φ) w:=h.perm List.perm_append_comm
theorem St.tail (h:St B (Φ++Ψ) w):St B Ψ w:=by
 obtain ⟨h1,h2⟩:=(Sep.all _ _ _).1 h.sep
 exact ⟨h.ok,(Sep.all _ _ _).2 ⟨fun r hr=>h1 r (List.mem_append_right _ hr),(List.pairwise_append.1 h2).2.1⟩⟩
theorem St.head (h:St B (Φ++Ψ) w):St B Φ w:=h.swap.tail
theorem St.drop (h:St B (r :: Φ) w):St B Φ w:=⟨h.ok,h.sep.2.2.2⟩
theorem St.sub (h:St B Φ w) (hs:Split Φ Ψ Φ'):St B Ψ w:=(h.perm hs.perm).head
theorem St.has (h:St B Φ w) (hs:Has Φ Ψ):St B Ψ w:=by obtain ⟨_,hs⟩:=hs.split;exact h.sub hs
def Leads (B:Base) (Φ Ψ:List Res):Prop:=∀ w,St B Φ w→St B Ψ w
theorem Leads.has (h:Has Φ Ψ):Leads B Φ Ψ:=fun _ hS=>hS.has h
theorem Leads.trans {Ψ':List Res}(h:Leads B Φ Ψ) (k:Leads B Ψ Ψ'):Leads B Φ Ψ':=fun w hS=>k w (h w hS)
theorem St.get (h:St B Φ w) (hm:Pick Φ r Φ'):r.q w:=(h.sep.get hm.mem).1
theorem St.new (h:St B Φ w):∀ k,w.heap.size≤k→B.mine k:=fun k hk=>.inr (Nat.le_trans h.ok.size hk)
theorem Base.ok.chg {S:Nat→Prop}(h:B.ok w) (hc:Chg w w' S) (hS:∀ k,S k→B.mine k):B.ok w':=
 ⟨hc.os.trans h.os,hc.tape.trans h.tape,hc.output.trans h.output,Nat.le_trans h.size hc.size,fun k hk hn=>(hc.block k (Nat.lt_of_lt_of_le hk h.size) (fun hs=>by
  rcases hS k hs with h1 | h1
  · exact hn h1
  · omega)).trans (h.block k hk hn)⟩
theorem St.upd (h:St B Φ w) (hu:Upd Φ r r' Φ') (hc:Chg w w' r.fp) (hq:r'.q w') (hf:∀ k,r'.fp k→r.fp k∨w.heap.size≤k):St B Φ' w':=
 ⟨h.ok.chg hc (fun k hk=>(h.sep.get hu.mem).2 k hk),h.sep.upd hu h.new hc hq hf⟩
theorem St.keep (h:St B Φ w) (hc:Chg w w' (fun _=>False)):St B Φ w':=
 ⟨h.ok.chg hc (fun k hk=>hk.elim),h.sep.keep hc (fun _ _ _ hk=>hk.elim)⟩
theorem St.drew (h:St B Φ w):St B Φ w.drew:=h.keep (Chg.drew _ _)
theorem St.add (h:St B Φ w) (hc:Chg w w' (fun _=>False)) (hq:r.q w') (hf:∀ k,r.fp k→w.heap.size≤k):St B (r :: Φ) w':=by
 have hk:=h.keep hc
 refine ⟨hk.ok,hq,fun k hk'=>h.new k (hf k hk'),fun s hs k hrk hsk=>?_,hk.sep⟩
 have:=s.inb w (h.sep.get hs).1 k hsk
 have:=hf k hrk
 omega
theorem St.start (w:World):St (Base.at w) [] w:=⟨Base.at_ok w,trivial⟩
theorem St.conv (h:St B Φ w) (hu:Upd Φ r r' Φ') (hq:r.q w→r'.q w) (hf:∀ k,r'.fp k→r.fp k):St B Φ' w:=
  h.upd hu (Chg.refl _ _) (hq (h.sep.get hu.mem).1) (fun k hk=>.inl (hf k hk))

def Base.call (B:Base) (w:World) (Ψ:List Res):Base:=⟨w,fun k=>∃ r ∈ Ψ,r.fp k⟩
theorem St.lend (h:St B (Ψ++Φ) w):St (B.call w Ψ) Ψ w:=by
 refine ⟨⟨rfl,rfl,rfl,Nat.le_refl _,fun _ _ _=>rfl⟩,(Sep.all _ _ _).2 ?_⟩
 obtain ⟨h1,h2⟩:=(Sep.all _ _ _).1 h.head.sep
 exact ⟨fun r hr=>⟨(h1 r hr).1,fun k hk=>.inl ⟨r,hr,hk⟩⟩,h2⟩
theorem St.give {Ψ':List Res}(h:St B (Ψ++Φ) w) (h':St (B.call w Ψ) Ψ' w'):St B (Ψ'++Φ) w':=by
 have hs:=h.sep
 obtain ⟨h1,h2⟩:=(Sep.all _ _ _).1 hs
 have hpre:∀ k,(∃ r ∈ Ψ,r.fp k)→B.mine k∧k<w.heap.size:=by
  rintro k ⟨r,hr,hk⟩
  exact ⟨(h1 r (List.mem_append_left _ hr)).2 k hk,r.inb w (h1 r (List.mem_append_left _ hr)).1 k hk⟩
 have hc:Chg w w' (fun k=>∃ r ∈ Ψ,r.fp k):=⟨h'.ok.os,h'.ok.tape,h'.ok.output,h'.ok.size,h'.ok.block⟩
 have hok:B.ok w':=h.ok.chg hc (fun k hk=>(hpre k hk).1)
 have hdis:∀ s ∈ Φ,∀ k,(∃ r ∈ Ψ,r.fp k)→¬ s.fp k:=by
  rintro s hs' k ⟨r,hr,hk⟩ hsk
  exact (List.pairwise_append.1 h2).2.2 r hr s hs' k hk hsk
 have hΦ:Sep B.mine w' Φ:=(h.tail.sep).keep hc hdis
 obtain ⟨k1,k2⟩:=(Sep.all _ _ _).1 hΦ
 obtain ⟨g1,g2⟩:=(Sep.all _ _ _).1 h'.sep
 refine ⟨hok,(Sep.all _ _ _).2 ⟨fun r hr=>?_,List.pairwise_append.2 ⟨g2,k2,fun r hr s hs' k hk hsk=>?_⟩⟩⟩
 · rcases List.mem_append.1 hr with hr | hr
   · refine ⟨(g1 r hr).1,fun k hk=>?_⟩
     rcases (g1 r hr).2 k hk with h3 | h3
     · exact (hpre k h3).1
     · exact h.new k h3
   · exact k1 r hr
 · rcases (g1 r hr).2 k hk with h3 | h3
   · exact hdis s hs' k h3 hsk
   · have h4:=(h1 s (List.mem_append_right _ hs')).1
     have:=s.inb w h4 k hsk
     have h5:w.heap.size≤k:=h3
     omega
theorem St.egrow (h:St B (Ψ++Φ) w):Grow B.e (B.call w Ψ).e:=by
 intro a v hv
 obtain ⟨h1,_⟩:=(Sep.all _ _ _).1 h.head.sep
 have h0:B.e.heap[a.block]?=B.w.heap[a.block]?∧¬ B.O a.block∧a.block<B.w.heap.size:=by
  unfold World.cell? at hv
  rw [B.e_heap] at hv ⊢
  by_cases ho:B.O a.block
  · rw [if_pos ho] at hv
    cases hb:B.w.heap[a.block]? <;> simp [hb] at hv
  · rw [if_neg ho] at hv
    refine ⟨by rw [if_neg ho],ho,?_⟩
    by_cases hk:a.block<B.w.heap.size
    · exact hk
    · rw [Array.getElem?_eq_none (by omega)] at hv;cases hv
 obtain ⟨h0,ho,hk⟩:=h0
 have hno:¬ ∃ r ∈ Ψ,r.fp a.block:=by
  rintro ⟨r,hr,hf⟩
  rcases (h1 r hr).2 _ hf with h3 | h3
  · exact ho h3
  · omega
 have h3:(B.call w Ψ).e.heap[a.block]?=B.e.heap[a.block]?:=by
  rw [Base.e_heap,h0,if_neg (show ¬ (B.call w Ψ).O a.block from hno)]
  exact h.ok.block _ hk ho
 unfold World.cell? at hv ⊢
 rw [h3];exact hv

def ob (b:Nat) (o:Obj):Res where
  fp k:=k=b
  q w:=w.heap[b]?=some o
  inb w h k hk:=by subst hk;exact (Array.getElem?_eq_some_iff.1 h).1
  st w w' h hk:=(hk b rfl).trans h
abbrev blk (b:Nat) (t:TypeId) (cs:List Value):Res:=ob b (.cells cs.toArray t (0,0))
theorem St.alloc (h:St B Φ w) (o:Obj):St B (ob w.heap.size o :: Φ) (w.alloc o):=
 h.add (Chg.alloc w o _) (World.alloc_heap_new w o) (fun k hk=>by have:k=w.heap.size:=hk;omega)
theorem St.put (h:St B Φ w) {b:Nat}{o o':Obj}(hu:Upd Φ (ob b o) (ob b o') Φ'):St B Φ' (w.putObj b o'):=
 h.upd hu (Chg.putObj w b o') (World.putObj_heap_same (Array.getElem?_eq_some_iff.1 ((h.sep.get hu.mem).1:w.heap[b]?=some o)).1) (fun k hk=>.inl hk)
theorem cell_of {b i:Nat}{t:TypeId}{cs:List Value}{fz:Nat×Nat}(h:w.heap[b]?=some (.cells cs.toArray t fz)):w.cell? ⟨b,i,none⟩=cs[i]?:=by
 unfold World.cell?;simp [h]
theorem frozen_of {b i:Nat}{t:TypeId}{cs:Array Value}(h:w.heap[b]?=some (.cells cs t (0,0))):w.frozen? ⟨b,i,none⟩=false:=by
 unfold World.frozen?;simp [h]
theorem St.cell {b:Nat}{t:TypeId}{cs:List Value}(h:St B Φ w) (hm:Pick Φ (blk b t cs) Φ') (i:Nat) {v:Value}(hv:cs[i]?=some v):w.cell? ⟨b,i,none⟩=some v:=by
 rw [cell_of (h.get hm)];exact hv
theorem St.ext (h:St B Φ w) {a:Addr}{v:Value}(hc:B.e.cell? a=some v):w.cell? a=some v:=Base.grow h.ok a v hc
theorem set_heap {b i:Nat}{t:TypeId}{cs:List Value}{v:Value}(h:w.heap[b]?=some (.cells cs.toArray t (0,0))):(w.setCell ⟨b,i,none⟩ v).heap[b]?=some (.cells (cs.set i v).toArray t (0,0)):=by
 simp [World.setCell,Array.getElem?_modify,h]
theorem St.set {b:Nat}{t:TypeId}{cs:List Value}(h:St B Φ w) (i:Nat) (v:Value) (hu:Upd Φ (blk b t cs) (blk b t (cs.set i v)) Φ'):St B Φ' (w.setCell ⟨b,i,none⟩ v):=
 h.upd hu (Chg.setCell w ⟨b,i,none⟩ v) (set_heap (h.sep.get hu.mem).1) (fun k hk=>.inl hk)
end Go.Proofs.YtpmdhkjbhjgoaaaGreatDoorK


/-
  The walk over named slots: a state is a list of slots with values, the deferred calls, the resources; one rule for each form of code, and for each operation that leaves the world alone.
-/
namespace Go.Proofs.YtpmdhkjbhjgoaaaGreatDoorK
open Go.RowKit

abbrev Env:=List (Nat×Value)
def Env.find:Env→Nat→Option Value
  | [],_=>none
  | (k,v) :: E,t=>bif Nat.beq k t then some v else Env.find E t
def Env.op (E:Env):Operand→Option Value
  | .tmp t=>E.find t
  | .const v=>some v
  | .global g=>some (.pointer (some ⟨g,0,none⟩))
  | .func f=>some (.func (.func f) #[] #[])
def Env.ops (E:Env):List Operand→Option (List Value)
  | []=>some []
  | x :: xs=>match E.op x with
    | none=>none
    | some v=>match Env.ops E xs with
      | none=>none
      | some vs=>some (v :: vs)
def Fits (E:Env) (a:Act):Prop:=∀ t v,E.find t=some v→a.tmps.getD t undef=v
structure Ok (N:Nat) (E:Env) (D:List Deferred) (a:Act):Prop where
  size:a.tmps.size=N
  fit:Fits E a
  dfr:a.defers=D
theorem Fits.op {E:Env}{a:Act}(h:Fits E a) {x:Operand}{v:Value}(hx:E.op x=some v):a.eval x=v:=by
 cases x with
 | tmp t=>exact h t v hx
 | const u=>exact Option.some.inj hx
 | global g=>exact Option.some.inj hx
 | func f=>exact Option.some.inj hx
theorem Fits.ops {E:Env}{a:Act}(h:Fits E a):∀ {xs:List Operand}{vs:List Value},E.ops xs=some vs→xs.map a.eval=vs
 | [],vs,hx=>by simp only [Env.ops,Option.some.injEq] at hx;subst hx;rfl
 | x :: xs,vs,hx=>by
  simp only [Env.ops] at hx
  split at hx
  · cases hx
  · rename_i v hv
    split at hx
    · cases hx
    · rename_i us hus
      injection hx with hx
      subst hx
      simp [h.op hv,Fits.ops h hus]
theorem Env.find_cons (k t:Nat) (v:Value) (E:Env):Env.find ((k,v) :: E) t=if k=t then some v else E.find t:=by
 show (bif Nat.beq k t then some v else Env.find E t)=_
 by_cases h:k=t
 · subst h;simp
 · have:Nat.beq k t=false:=by cases hb:Nat.beq k t <;> simp_all [Nat.beq_eq]
   rw [this,if_neg h];rfl
theorem Ok.put {N:Nat}{E:Env}{D:List Deferred}{a:Act}(h:Ok N E D a) {d:Nat}{v:Value}(hd:Nat.blt d N=true):Ok N ((d,v) :: E) D (a.put (some d) v):=by
  have hd' : d < a.tmps.size := by have := h.size; have : d < N := by simpa [Nat.blt_eq] using hd
                                   omega
  refine ⟨by simpa [Act.put] using h.size,fun t u hu=>?_,h.dfr⟩
  rw [Env.find_cons] at hu
  simp only [Act.put,Array.getD_eq_getD_getElem?,Array.getElem?_setIfInBounds]
  split at hu
  · rename_i e;subst e;injection hu with hu;subst hu;simp [hd']
  · rename_i hne
    rw [if_neg hne]
    have:=h.fit t u hu
    rwa [Array.getD_eq_getD_getElem?] at this
theorem Ok.put_none {N:Nat}{E:Env}{D:List Deferred}{a:Act}(h:Ok N E D a) {v:Value} : Ok N E D (a.put none v):=h
def Cov (E:Env):Env→Prop
  | []=>True
  | (t,v) :: E'=>E.find t=some v∧Cov E E'
theorem Cov.find {E:Env} : ∀ {E':Env}{t:Nat}{v:Value},Cov E E'→E'.find t=some v→E.find t=some v
 | (k,u) :: E',t,v,h,hf=>by
  rw [Env.find_cons] at hf
  split at hf
  · rename_i e;subst e;injection hf with hf;subst hf;exact h.1
  · exact Cov.find h.2 hf
theorem Ok.cov {N:Nat}{E E':Env}{D:List Deferred}{a:Act}(h:Ok N E D a) (hc:Cov E E'):Ok N E' D a:=⟨h.size,fun t v hv=>h.fit t v (hc.find hv),h.dfr⟩
theorem Ok.enter (N:Nat) (args:List Value) (h:args.length≤N):Ok N ((args.zipIdx).map fun p=>(p.2,p.1)) [] { tmps:=args.toArray++Array.replicate (N-args.toArray.size) undef,defers:=[] }:=by
 refine ⟨by simp;omega,?_,rfl⟩
 have key:∀ (l:List Value) (k t:Nat) (v:Value),Env.find ((l.zipIdx k).map fun p=>(p.2,p.1)) t=some v→k≤t∧l[t-k]?=some v:=by
  intro l
  induction l with
  | nil=>intro k t v h;cases h
  | cons x l ih=>
   intro k t v h
   rw [List.zipIdx_cons,List.map_cons,Env.find_cons] at h
   split at h
   · rename_i e;subst e;injection h with h;subst h;simp
   · obtain ⟨h1,h2⟩:=ih _ _ _ h
     refine ⟨by omega,?_⟩
     have:t-k=(t-(k+1))+1:=by omega
     rw [this,List.getElem?_cons_succ];exact h2
 intro t v hv
 obtain ⟨_,h2⟩:=key args 0 t v hv
 have ht:t<args.length:=(List.getElem?_eq_some_iff.1 h2).1
 simp only [Array.getD_eq_getD_getElem?]
 rw [Array.getElem?_append_left (by simpa using ht)]
 simp at h2
 simp [h2]

structure Cx where
  P:Program
  F:Fence
  N:Nat
  B:Base
  fn:∀ f,F.fn f
  dp:F.depth.isSome=false
  call:∀ {g:FuncId}{args:Array Value}{w:World}{R:Ending→World→Prop},CallsIn Fence.wide 0 P g args w R→CallsIn F 0 P g args w R
abbrev Post:=Exit→Env→List Deferred→List Res→Prop
def okE:Exit→Prop
  | .panic _=>False
  | _=>True
def lift (c:Cx) (Q:Post):Exit→Act→World→Prop:=fun e a w=>∃ E D H,Ok c.N E D a∧St c.B H w∧Q e E D H∧okE e
def W (c:Cx) (x:Code) (Q:Post) (E:Env) (D:List Deferred) (H:List Res):Prop:=∀ a w,Ok c.N E D a→St c.B H w→x.wpIn c.F 0 c.P (lift c Q) a w
@[reducible] def thn (K:Env→List Deferred→List Res→Prop) (Q:Post):Post
  | .normal,E,D,H=>K E D H
  | e,E,D,H=>Q e E D H
@[reducible] def inBlk (id:Nat) (Q:Post):Post
  | .exit i,E,D,H=>bif Nat.beq i id then Q .normal E D H else Q (.exit i) E D H
  | e,E,D,H=>Q e E D H
theorem lift_mono {c:Cx}{Q Q':Post}(h:∀ e E D H,Q e E D H→Q' e E D H):∀ e a w,lift c Q e a w→lift c Q' e a w:=fun _ _ _ ⟨E,D,H,h1,h2,h3,h4⟩=>⟨E,D,H,h1,h2,h _ _ _ _ h3,h4⟩
section
variable {c : Cx} {Q Q' : Post} {E E' : Env} {D : List Deferred} {H H' : List Res} {x y : Code}
theorem wSeq (h:W c x (thn (W c y Q) Q) E D H):W c (x.seq y) Q E D H:=fun a w ha hw=>wpIn_seq (wpIn_mono (h a w ha hw) (by
 rintro e a w ⟨E,D,H,h1,h2,h3⟩
 cases e with
 | normal=>exact h3.1 a w h1 h2
 | _=>exact ⟨E,D,H,h1,h2,h3⟩))
theorem wSkip (h:Q .normal E D H):W c .skip Q E D H:=fun a w ha hw=>wpIn_skip ⟨E,D,H,ha,hw,h,trivial⟩
theorem wRet (h:Q .ret E D H):W c .ret Q E D H:=fun a w ha hw=>wpIn_ret ⟨E,D,H,ha,hw,h,trivial⟩
theorem wExit {id:Nat}(h:Q (.exit id) E D H):W c (.exit id) Q E D H:=fun a w ha hw=>wpIn_exit ⟨E,D,H,ha,hw,h,trivial⟩
theorem wCondT {o:Operand}(hc:E.op o=some (.bool true)) (h:W c x Q E D H):W c (.cond o x y) Q E D H:=fun a w ha hw=>wpIn_cond_true (ha.fit.op hc) (h a w ha hw)
theorem wCondF {o:Operand}(hc:E.op o=some (.bool false)) (h:W c y Q E D H):W c (.cond o x y) Q E D H:=fun a w ha hw=>wpIn_cond_false (ha.fit.op hc) (h a w ha hw)
theorem wCond {o:Operand}{p:Prop} [Decidable p] (hc:E.op o=some (.bool (decide p))) (h1:p→W c x Q E D H) (h0:¬ p→W c y Q E D H):W c (.cond o x y) Q E D H:=by
 intro a w ha hw
 by_cases hp:p
 · exact wpIn_cond_true (by rw [ha.fit.op hc];simp [hp]) (h1 hp a w ha hw)
 · exact wpIn_cond_false (by rw [ha.fit.op hc];simp [hp]) (h0 hp a w ha hw)
theorem wCondB {o:Operand}{p:Bool}(hc:E.op o=some (.bool p)) (h1:p=true→W c x Q E D H) (h0:p=false→W c y Q E D H):W c (.cond o x y) Q E D H:=by
 intro a w ha hw
 cases p
 · exact wpIn_cond_false (ha.fit.op hc) (h0 rfl a w ha hw)
 · exact wpIn_cond_true (ha.fit.op hc) (h1 rfl a w ha hw)
theorem wBlock {id:Nat}(h:W c x (inBlk id Q) E D H):W c (.block id x) Q E D H:=fun a w ha hw=>wpIn_block (wpIn_mono (h a w ha hw) (by
 rintro e a w ⟨E,D,H,h1,h2,h3⟩
 cases e with
 | exit i=>
  simp only [Exit.inBlock]
  by_cases hi:i=id
  · rw [if_pos hi]
    have:Nat.beq i id=true:=by simpa [Nat.beq_eq] using hi
    simp only [inBlk,this,cond_true] at h3
    exact ⟨E,D,H,h1,h2,h3.1,trivial⟩
  · rw [if_neg hi]
    have:Nat.beq i id=false:=by cases hb:Nat.beq i id <;> simp_all [Nat.beq_eq]
    simp only [inBlk,this,cond_false] at h3
    exact ⟨E,D,H,h1,h2,h3⟩
 | _=>exact ⟨E,D,H,h1,h2,h3⟩))
theorem wLoop {ι:Type}(Ei:ι→Env) (Hi:ι→List Res) (inv:ι→Prop) (μ:ι→Nat) (i0:ι) (h0:inv i0) (hE:Cov E (Ei i0)) (hH:Leads c.B H (Hi i0))
 (round:∀ i,inv i→W c x (thn (fun E' D' H'=>D'=D∧∃ i',inv i'∧μ i'<μ i∧Cov E' (Ei i')∧Leads c.B H' (Hi i')) Q) (Ei i) D (Hi i)):W c (.loop x) Q E D H:=by
 have key:∀ m i a w,μ i<m→inv i→Ok c.N (Ei i) D a→St c.B (Hi i) w→Code.roundsIn c.F 0 c.P x (lift c Q) m a w:=by
  intro m
  induction m with
  | zero=>intro i a w h;omega
  | succ m ih=>
   intro i a w hm hi ha hw
   rw [roundsIn_succ]
   refine wpIn_mono (round i hi a w ha hw) ?_
   rintro e a' w' ⟨E',D',H',h1,h2,h3⟩
   cases e with
   | normal=>
    obtain ⟨⟨rfl,i',hi',hlt,hcov,hsp⟩,_⟩:=h3
    exact ih i' a' w' (by omega) hi' (h1.cov hcov) (hsp _ h2)
   | _=>exact ⟨E',D',H',h1,h2,h3⟩
 intro a w ha hw
 exact wpIn_loop_rounds (μ i0+1) (key _ i0 a w (Nat.lt_succ_self _) h0 (ha.cov hE) (hH _ hw))
end

def plain:Op→Bool
  | .defer _=>false
  | _=>true
theorem semAt_plain' (F:Fence) (ρ:Operand→Value) (o:Oper) (h:plain o.op=true):o.semAt F.round ρ=execOp ρ o:=
 Oper.semAt_plain F ρ o (fun c hc=>by rw [hc] at h;simp [plain] at h)
structure Md (c:Cx) where
  X:List Oper→Act→World→Prop
  ops:Array Oper
  calm:∀ o rest a w v,Region.wanted o (yielded ops a.tmps)=true→plain o.op=true→(execOp a.eval o).run c.P w=.ok (.value v) w→X rest (a.put o.dst v) w→X (o :: rest) a w
  skip:∀ o rest a w,Region.wanted o (yielded ops a.tmps)=false→X rest (a.put o.dst undef) w→X (o :: rest) a w
  want:∀ (dst:Option Tmp) (op:Op) (ty:TypeId) (pos:String) (af:Array Edge) (g:Nat×Bool) rest (a:Act) w,Region.wanted ⟨dst,op,ty,pos,af,some g⟩ (yielded ops a.tmps)=true→X (⟨dst,op,ty,pos,af,none⟩ :: rest) a w→X (⟨dst,op,ty,pos,af,some g⟩ :: rest) a w
def O {c:Cx}(M:Md c) (l:List Oper) (E:Env) (D:List Deferred) (H:List Res):Prop:=∀ a w,Ok c.N E D a→St c.B H w→M.X l a w
def Md.list (c:Cx) (ops:Array Oper) (Q:Post):Md c where
  X:=wpListIn c.F 0 c.P ops (lift c Q)
  ops:=ops
  calm o rest a w v hw hp hr hK:=by
    simp only [wpListIn,hw,if_true]
    exact ⟨fun f _=>c.fn f,by rw [semAt_plain' _ _ _ hp,hr];exact hK⟩
  skip o rest a w hw hK:=by
    simp only [wpListIn,hw]
    exact ⟨fun f _=>c.fn f,hK⟩
  want dst op ty pos af g rest a w hw h:=by
    simp only [wpListIn] at h ⊢
    rw [if_pos hw]
    rw [if_pos (show Region.wanted { dst:=dst,op:=op,type:=ty,pos:=pos,after:=af,guard:=none } (yielded ops a.tmps)=true from rfl)] at h
    exact h
section
variable {c : Cx} {Q : Post} {E : Env} {D : List Deferred} {H : List Res}
theorem oNil {ops:Array Oper}(h:Q .normal E D H):O (Md.list c ops Q) [] E D H:=fun a w ha hw=>⟨E,D,H,ha,hw,h,trivial⟩
structure Me (c:Cx) extends Md c where
  eff:∀ o rest a w v w',Region.wanted o (yielded ops a.tmps)=true→plain o.op=true→(execOp a.eval o).run c.P w=.ok (.value v) w'→X rest (a.put o.dst v) w'→X (o :: rest) a w
  effs:∀ o rest a w w',Region.wanted o (yielded ops a.tmps)=true→plain o.op=true→(execOp a.eval o).run c.P w=.ok .skip w'→X rest (a.put o.dst undef) w'→X (o :: rest) a w
  enter:∀ o rest a w g args w1,Region.wanted o (yielded ops a.tmps)=true→plain o.op=true→(execOp a.eval o).run c.P w=.ok (.enter g args) w1→
    CallsIn Fence.wide 0 c.P g args w1 (fun e w2=>∃ v,e=.returned v∧X rest (a.put o.dst v) w2)→X (o :: rest) a w
def Me.list (c:Cx) (ops:Array Oper) (Q:Post):Me c where
  toMd:=Md.list c ops Q
  eff o rest a w v w' hw hp hr hK:=by
    show wpListIn _ _ _ _ _ _ _ _
    simp only [wpListIn]
    rw [if_pos (show Region.wanted o (yielded ops a.tmps)=true from hw)]
    exact ⟨fun f _=>c.fn f,by rw [semAt_plain' _ _ _ hp,hr];exact hK⟩
  effs o rest a w w' hw hp hr hK:=by
    show wpListIn _ _ _ _ _ _ _ _
    simp only [wpListIn]
    rw [if_pos (show Region.wanted o (yielded ops a.tmps)=true from hw)]
    exact ⟨fun f _=>c.fn f,by rw [semAt_plain' _ _ _ hp,hr];exact hK⟩
  enter o rest a w g args w1 hw hp hr hK:=by
    show wpListIn _ _ _ _ _ _ _ _
    simp only [wpListIn]
    rw [if_pos (show Region.wanted o (yielded ops a.tmps)=true from hw)]
    refine ⟨fun f _=>c.fn f,?_⟩
    rw [semAt_plain' _ _ _ hp,hr]
    refine ⟨fun h=>absurd h (by rw [c.dp];simp),(c.call hK).mono ?_⟩
    rintro e w2 ⟨v,rfl,hx⟩
    exact hx
def Me.tail (c:Cx) (ops:Array Oper) (Q:Post):Me c where
  X:=wpList c.P ops (lift c Q)
  ops:=ops
  calm o rest a w v hw hp hr hK:=by
    simp only [wpList,hw,if_true]
    exact .inl (by simp only [Oper.wp,hr];exact hK)
  skip o rest a w hw hK:=by simp only [wpList,hw];exact hK
  want dst op ty pos af g rest a w hw h:=by
    simp only [wpList] at h ⊢
    rw [if_pos hw]
    rw [if_pos (show Region.wanted { dst:=dst,op:=op,type:=ty,pos:=pos,after:=af,guard:=none } (yielded ops a.tmps)=true from rfl)] at h
    exact h
  eff o rest a w v w' hw hp hr hK:=by
    simp only [wpList,hw,if_true]
    exact .inl (by simp only [Oper.wp,hr];exact hK)
  effs o rest a w w' hw hp hr hK:=by
    simp only [wpList,hw,if_true]
    exact .inl (by simp only [Oper.wp,hr];exact hK)
  enter o rest a w g args w1 hw hp hr hK:=by
    simp only [wpList,hw,if_true]
    refine .inl ?_
    simp only [Oper.wp,hr]
    refine Calls.mono (callsIn_wide.1 hK) ?_
    rintro e w2 ⟨v,rfl,hx⟩
    exact hx
def Md.head (c:Cx) (ops:Array Oper) (w0:World) (tail:List Oper) (Q:Post):Md c where
  X:=fun l a w=>w=w0→wpStill c.P ops w0 (fun a'=>wpList c.P ops (lift c Q) tail a' w0) l a
  ops:=ops
  calm o rest a w v hw hp hr hK:=by
    rintro rfl
    simp only [wpStill,hw,if_true,Oper.still,hr,Oper.stillUpon]
    exact ⟨trivial,hK rfl⟩
  skip o rest a w hw hK:=by
    rintro rfl
    simp only [wpStill,hw]
    exact hK rfl
  want dst op ty pos af g rest a w hw h:=by
    rintro rfl
    have h:=h rfl
    simp only [wpStill] at h ⊢
    rw [if_pos hw]
    rw [if_pos (show Region.wanted { dst:=dst,op:=op,type:=ty,pos:=pos,after:=af,guard:=none } (yielded ops a.tmps)=true from rfl)] at h
    exact h
theorem wRegion' {id:Nat}{l:List Oper}(h:O (Me.list c l.toArray Q).toMd l E D H):W c (.region id l.toArray false) Q E D H:=fun a w ha hw=>wpIn_region_lit (h a w ha hw)
end
end Go.Proofs.YtpmdhkjbhjgoaaaGreatDoorK


/-
  The walk's rules for operations that leave the world alone.
-/
namespace Go.Proofs.YtpmdhkjbhjgoaaaGreatDoorK
open Go.RowKit
variable {c : Cx} {M : Md c} {d : Nat} {ty : TypeId} {pos : String} {af : Array Edge} {rest : List Oper} {E : Env} {D : List Deferred} {H H' : List Res} {v : Value} {x y z : Operand} {k : IntKind} {t t' : TypeId}

theorem oC {op:Op}(v:Value) (hp:plain op=true) (hN:Nat.blt d c.N=true) (hy:∀ a w,Fits E a→St c.B H w→(execOp a.eval ⟨some d,op,ty,pos,af,none⟩).run c.P w=.ok (.value v) w)
 (k:O M rest ((d,v) :: E) D H):O M (⟨some d,op,ty,pos,af,none⟩ :: rest) E D H:=
 fun a w ha hw=>M.calm _ _ _ _ v rfl hp (hy a w ha.fit hw) (k _ _ (ha.put hN) hw)

theorem bool_find {E:Env}{a:Act}(h:Fits E a) {t:Nat}{b:Bool}(hf:E.find t=some (.bool b)):a.tmps[t]?=some (.bool b):=by
 have:=h t _ hf
 rw [Array.getD_eq_getD_getElem?] at this
 cases hx:a.tmps[t]? with
 | none=>rw [hx] at this;simp [undef] at this
 | some u=>rw [hx] at this;simp at this;rw [this]
theorem yielded_of {E:Env}{a:Act}(h:Fits E a) {ops:Array Oper}{j t:Nat}{b:Bool}(hj:(ops[j]?).bind (·.dst)=some t) (hf:E.find t=some (.bool b)):yielded ops a.tmps j=some b:=by
 unfold yielded
 rw [hj]
 simp only [Option.bind_some,bool_find h hf]
theorem oSkip {op:Op}{j t:Nat}{b b':Bool}(hj:(M.ops[j]?).bind (·.dst)=some t) (hf:E.find t=some (.bool b)) (hb:(b == b')=false) (hN:Nat.blt d c.N=true)
 (k:O M rest ((d,undef) :: E) D H):O M (⟨some d,op,ty,pos,af,some (j,b')⟩ :: rest) E D H:=
 fun a w ha hw=>M.skip _ _ _ _ (by
  simp only [Region.wanted,yielded_of ha.fit hj hf]
  simpa using hb) (k _ _ (ha.put hN) hw)
theorem oWant {op:Op}{dst:Option Tmp}{j t:Nat}{b':Bool}(hj:(M.ops[j]?).bind (·.dst)=some t) (hf:E.find t=some (.bool b'))
 (k:O M (⟨dst,op,ty,pos,af,none⟩ :: rest) E D H):O M (⟨dst,op,ty,pos,af,some (j,b')⟩ :: rest) E D H:=
 fun a w ha hw=>M.want _ _ _ _ _ _ _ _ _ (by
  simp only [Region.wanted,yielded_of ha.fit hj hf]
  simp) (k a w ha hw)
theorem Ok.over {N:Nat}{a:Act}(h:Ok N E D a) {t:Nat}{v:Value}(hf:E.find t=some v):Ok N ((t,v) :: E) D a:=⟨h.size,fun s u hu=>by
 rw [Env.find_cons] at hu
 split at hu
 · rename_i e;subst e;injection hu with hu;subst hu;exact h.fit _ _ hf
 · exact h.fit _ _ hu,h.dfr⟩
theorem oSplit {l:List Oper}{t:Nat}{p:Prop} [Decidable p] (hf:E.find t=some (.bool (decide p))) (k1:p→O M l ((t,.bool true) :: E) D H) (k0:¬ p→O M l ((t,.bool false) :: E) D H):O M l E D H:=by
 intro a w ha hw
 by_cases hp:p
 · exact k1 hp a w (ha.over (by rw [hf];simp [hp])) hw
 · exact k0 hp a w (ha.over (by rw [hf];simp [hp])) hw
theorem oSplitB {l:List Oper}{t:Nat}{p:Bool}(hf:E.find t=some (.bool p)) (k1:p=true→O M l ((t,.bool true) :: E) D H) (k0:p=false→O M l ((t,.bool false) :: E) D H):O M l E D H:=by
 intro a w ha hw
 cases p
 · exact k0 rfl a w (ha.over hf) hw
 · exact k1 rfl a w (ha.over hf) hw
theorem oSet {l:List Oper}{t:Nat}{v':Value}(hf:E.find t=some v) (e:v=v') (k:O M l ((t,v') :: E) D H):O M l E D H:=fun a w ha hw=>k a w (ha.over (by rw [hf,e])) hw

theorem oMove (h:E.op x=some v) (k:O M rest ((d,v) :: E) D H) (hN:Nat.blt d c.N=true:=by rfl):O M (⟨some d,.move x,ty,pos,af,none⟩ :: rest) E D H:=
 oC v rfl hN (fun a w ha hw=>by simp [execOp,ha.op h]) k
theorem oAssign (h:E.op x=some v) (k:O M rest ((d,v) :: E) D H) (hN:Nat.blt d c.N=true:=by rfl):O M (⟨some d,.assign x,ty,pos,af,none⟩ :: rest) E D H:=
 oC v rfl hN (fun a w ha hw=>by simp [execOp,ha.op h]) k
theorem oPickT (hx:E.op x=some (.bool true)) (h:E.op y=some v) (k:O M rest ((d,v) :: E) D H) (hN:Nat.blt d c.N=true:=by rfl):O M (⟨some d,.pick x y z,ty,pos,af,none⟩ :: rest) E D H:=
 oC v rfl hN (fun a w ha hw=>by simp [execOp,ha.op hx,ha.op h,asBool]) k
theorem oPickF (hx:E.op x=some (.bool false)) (h:E.op z=some v) (k:O M rest ((d,v) :: E) D H) (hN:Nat.blt d c.N=true:=by rfl):O M (⟨some d,.pick x y z,ty,pos,af,none⟩ :: rest) E D H:=
 oC v rfl hN (fun a w ha hw=>by simp [execOp,ha.op hx,ha.op h,asBool]) k
theorem oNot {p:Prop} [Decidable p] (hx:E.op x=some (.bool (decide p))) (k:O M rest ((d,.bool (decide (¬ p))) :: E) D H) (hN:Nat.blt d c.N=true:=by rfl):O M (⟨some d,.unOp .not t x,ty,pos,af,none⟩ :: rest) E D H:=
 oC _ rfl hN (fun a w ha hw=>by simp [execOp,ha.op hx,Op.unary]) k
theorem oNotB {p:Bool}(hx:E.op x=some (.bool p)) (k:O M rest ((d,.bool (!p)) :: E) D H) (hN:Nat.blt d c.N=true:=by rfl):O M (⟨some d,.unOp .not t x,ty,pos,af,none⟩ :: rest) E D H:=
 oC _ rfl hN (fun a w ha hw=>by simp [execOp,ha.op hx,Op.unary]) k
theorem run_eqGuard (op:BinOp) (t:TypeId) (x y:Operand) (k k':IntKind) (a b:Int) (P:Program) (w:World):(eqGuard op t x y (.int k a) (.int k' b)).run P w=.ok () w:=by
 unfold eqGuard;split <;> simp
section
variable {a b : Int}
theorem oCmp {op:BinOp}(r:Bool) (hx:E.op x=some (.int k a)) (hy:E.op y=some (.int k b)) (hr:∀ P w,(binOp op t (.int k a) (.int k b)).run P w=.ok (.bool r) w) (k:O M rest ((d,.bool r) :: E) D H) (hN:Nat.blt d c.N=true:=by rfl):O M (⟨some d,.binOp op t x y t',ty,pos,af,none⟩ :: rest) E D H:=
 oC _ rfl hN (fun u w ha hw=>by simp [execOp,ha.op hx,ha.op hy,run_eqGuard,hr]) k
theorem oLss (hx:E.op x=some (.int k a)) (hy:E.op y=some (.int k b)) (k:O M rest ((d,.bool (decide (a<b))) :: E) D H) (hN:Nat.blt d c.N=true:=by rfl):O M (⟨some d,.binOp .lss t x y t',ty,pos,af,none⟩ :: rest) E D H:=
 oCmp _ hx hy (fun P w=>by simp [binOp,Op.intCmp]) k hN
theorem oLeq (hx:E.op x=some (.int k a)) (hy:E.op y=some (.int k b)) (k:O M rest ((d,.bool (decide (a≤b))) :: E) D H) (hN:Nat.blt d c.N=true:=by rfl):O M (⟨some d,.binOp .leq t x y t',ty,pos,af,none⟩ :: rest) E D H:=
 oCmp _ hx hy (fun P w=>by simp [binOp,Op.intCmp]) k hN
theorem oGtr (hx:E.op x=some (.int k a)) (hy:E.op y=some (.int k b)) (k:O M rest ((d,.bool (decide (b<a))) :: E) D H) (hN:Nat.blt d c.N=true:=by rfl):O M (⟨some d,.binOp .gtr t x y t',ty,pos,af,none⟩ :: rest) E D H:=
 oCmp _ hx hy (fun P w=>by simp [binOp,Op.intCmp]) k hN
theorem oGeq (hx:E.op x=some (.int k a)) (hy:E.op y=some (.int k b)) (k:O M rest ((d,.bool (decide (b≤a))) :: E) D H) (hN:Nat.blt d c.N=true:=by rfl):O M (⟨some d,.binOp .geq t x y t',ty,pos,af,none⟩ :: rest) E D H:=
 oCmp _ hx hy (fun P w=>by simp [binOp,Op.intCmp]) k hN
theorem oEql (hx:E.op x=some (.int k a)) (hy:E.op y=some (.int k b)) (k:O M rest ((d,.bool (decide (a=b))) :: E) D H) (hN:Nat.blt d c.N=true:=by rfl):O M (⟨some d,.binOp .eql t x y t',ty,pos,af,none⟩ :: rest) E D H:=
 oCmp _ hx hy (fun P w=>by simp [binOp,Op.intCmp];rfl) k hN
theorem oNeq (hx:E.op x=some (.int k a)) (hy:E.op y=some (.int k b)) (k:O M rest ((d,.bool (decide (¬ a=b))) :: E) D H) (hN:Nat.blt d c.N=true:=by rfl):O M (⟨some d,.binOp .neq t x y t',ty,pos,af,none⟩ :: rest) E D H:=
 oCmp _ hx hy (fun P w=>by simp [binOp,Op.intCmp,bne];rfl) k hN
theorem oAri {op:BinOp}(r:Int) (hx:E.op x=some (.int k a)) (hy:E.op y=some (.int k b)) (hr:∀ P w,(binOp op t (.int k a) (.int k b)).run P w=.ok (.int k r) w) (k:O M rest ((d,.int k r) :: E) D H) (hN:Nat.blt d c.N=true:=by rfl):O M (⟨some d,.binOp op t x y t',ty,pos,af,none⟩ :: rest) E D H:=
 oC _ rfl hN (fun u w ha hw=>by simp [execOp,ha.op hx,ha.op hy,run_eqGuard,hr]) k
theorem oAddW (hx:E.op x=some (.int k a)) (hy:E.op y=some (.int k b)) (h:O M rest ((d,.int k (k.wrap (a+b))) :: E) D H) (hN:Nat.blt d c.N=true:=by rfl):O M (⟨some d,.binOp .add t x y t',ty,pos,af,none⟩ :: rest) E D H:=
 oAri _ hx hy (fun P w=>by simp [binOp,Op.intArith]) h hN
theorem oSubW (hx:E.op x=some (.int k a)) (hy:E.op y=some (.int k b)) (h:O M rest ((d,.int k (k.wrap (a-b))) :: E) D H) (hN:Nat.blt d c.N=true:=by rfl):O M (⟨some d,.binOp .sub t x y t',ty,pos,af,none⟩ :: rest) E D H:=
 oAri _ hx hy (fun P w=>by simp [binOp,Op.intArith]) h hN
theorem oMulW (hx:E.op x=some (.int k a)) (hy:E.op y=some (.int k b)) (h:O M rest ((d,.int k (k.wrap (a * b))) :: E) D H) (hN:Nat.blt d c.N=true:=by rfl):O M (⟨some d,.binOp .mul t x y t',ty,pos,af,none⟩ :: rest) E D H:=
 oAri _ hx hy (fun P w=>by simp [binOp,Op.intArith]) h hN
def in64 (n:Int):Prop:=-9223372036854775808≤n∧n≤9223372036854775807
theorem wrap_in {n:Int}(h:in64 n):IntKind.i64.wrap n=n:=by
 obtain ⟨h1,h2⟩:=h
 exact IntWalk.i64_in n (by omega)
theorem oAdd (hx:E.op x=some (.int .i64 a)) (hy:E.op y=some (.int .i64 b)) (hr : -9223372036854775808≤a+b∧a+b≤9223372036854775807) (h:O M rest ((d,.int .i64 (a+b)) :: E) D H) (hN:Nat.blt d c.N=true:=by rfl):O M (⟨some d,.binOp .add t x y t',ty,pos,af,none⟩ :: rest) E D H:=
 oAddW hx hy (by rw [wrap_in hr];exact h) hN
theorem oSub (hx:E.op x=some (.int .i64 a)) (hy:E.op y=some (.int .i64 b)) (hr : -9223372036854775808≤a-b∧a-b≤9223372036854775807) (h:O M rest ((d,.int .i64 (a-b)) :: E) D H) (hN:Nat.blt d c.N=true:=by rfl):O M (⟨some d,.binOp .sub t x y t',ty,pos,af,none⟩ :: rest) E D H:=
 oSubW hx hy (by rw [wrap_in hr];exact h) hN
theorem oSucc {n:Nat}(hx:E.op x=some (.int .i64 (n:Int))) (hy:E.op y=some (.int .i64 1)) (hr:n≤9223372036854775806) (h:O M rest ((d,.int .i64 ((n+1:Nat):Int)) :: E) D H) (hN:Nat.blt d c.N=true:=by rfl):O M (⟨some d,.binOp .add t x y t',ty,pos,af,none⟩ :: rest) E D H:=
 oAdd hx hy (by omega) (by simpa using h) hN
theorem oQuo (hx:E.op x=some (.int .i64 a)) (hy:E.op y=some (.int .i64 b)) (hr:0<b∧-9223372036854775808≤a∧a≤9223372036854775807) (h:O M rest ((d,.int .i64 (a.tdiv b)) :: E) D H) (hN:Nat.blt d c.N=true:=by rfl):O M (⟨some d,.binOp .quo t x y t',ty,pos,af,none⟩ :: rest) E D H:=by
 obtain ⟨h0,h1,h2⟩:=hr
 have hw:IntKind.i64.wrap (a.tdiv b)=a.tdiv b:=by
  apply wrap_in
  have h5:(a.tdiv b).natAbs≤a.natAbs:=by rw [Int.natAbs_tdiv];exact Nat.div_le_self _ _
  unfold in64
  rcases Int.le_total 0 a with ha | ha
  · have:=Int.tdiv_nonneg ha (Int.le_of_lt h0);omega
  · have h6:=Int.tdiv_nonneg (show 0≤-a by omega) (Int.le_of_lt h0)
    rw [Int.neg_tdiv] at h6
    omega
 refine oAri _ hx hy (fun P w=>?_) h hN
 have hb:b≠0:=by omega
 simp [binOp,Op.intDiv,hb,hw]
theorem oRem (hx:E.op x=some (.int k a)) (hy:E.op y=some (.int k b)) (hr:b≠0) (h:O M rest ((d,.int k (a.tmod b)) :: E) D H) (hN:Nat.blt d c.N=true:=by rfl):O M (⟨some d,.binOp .rem t x y t',ty,pos,af,none⟩ :: rest) E D H:=
 oAri _ hx hy (fun P w=>by simp [binOp,Op.intDiv,hr]) h hN
end
section
variable {s r : ByteArray}
theorem toList_eq (s r:ByteArray):(s.toList == r.toList)=decide (s=r):=by
 rw [Bool.eq_iff_iff]
 simp only [beq_iff_eq,decide_eq_true_eq]
 constructor
 · intro h
   rw [ByteArray.toList_eq,ByteArray.toList_eq] at h
   cases s;cases r;simp_all [Array.toList_inj]
 · rintro rfl;rfl
theorem oStr {op:BinOp}(p:Bool) (hx:E.op x=some (.string s)) (hy:E.op y=some (.string r)) (hr:∀ P w,(binOp op t (.string s) (.string r)).run P w=.ok (.bool p) w) (k:O M rest ((d,.bool p) :: E) D H) (hN:Nat.blt d c.N=true:=by rfl):O M (⟨some d,.binOp op t x y t',ty,pos,af,none⟩ :: rest) E D H:=
 oC _ rfl hN (fun u w ha hw=>by
  have:(eqGuard op t x y (.string s) (.string r)).run c.P w=.ok () w:=by unfold eqGuard;split <;> simp
  simp [execOp,ha.op hx,ha.op hy,this,hr]) k
theorem oSEq (hx:E.op x=some (.string s)) (hy:E.op y=some (.string r)) (k:O M rest ((d,.bool (decide (s=r))) :: E) D H) (hN:Nat.blt d c.N=true:=by rfl):O M (⟨some d,.binOp .eql t x y t',ty,pos,af,none⟩ :: rest) E D H:=
 oStr _ hx hy (fun P w=>by simp [binOp,Op.stringOp,toList_eq]) k hN
theorem oSNe (hx:E.op x=some (.string s)) (hy:E.op y=some (.string r)) (k:O M rest ((d,.bool (decide (¬ s=r))) :: E) D H) (hN:Nat.blt d c.N=true:=by rfl):O M (⟨some d,.binOp .neq t x y t',ty,pos,af,none⟩ :: rest) E D H:=
 oStr _ hx hy (fun P w=>by simp [binOp,Op.stringOp,toList_eq]) k hN
end
end Go.Proofs.YtpmdhkjbhjgoaaaGreatDoorK


/-
  Lists of cells: what is read, set, cut and built, as relations whose proofs spell the outcome.
-/
namespace Go.Proofs.YtpmdhkjbhjgoaaaGreatDoorK
open Go.RowKit
section
variable {α : Type}
inductive SetAt:List α→Nat→α→List α→Prop
  | here {c v:α}{cs:List α} : SetAt (c :: cs) 0 v (v :: cs)
  | there {c v:α}{cs ds:List α}{n:Nat}(h:SetAt cs n v ds):SetAt (c :: cs) (n+1) v (c :: ds)
theorem SetAt.spec {cs ds:List α}{n:Nat}{v:α}(h:SetAt cs n v ds):n<cs.length∧cs.set n v=ds:=by
 induction h with
 | here=>simp
 | there _ ih=>simp [ih.1,ih.2]
inductive SubL:List α→Nat→Nat→List α→Prop
  | done {cs:List α} : SubL cs 0 0 []
  | take {c:α}{cs ds:List α}{n:Nat}(h:SubL cs 0 n ds):SubL (c :: cs) 0 (n+1) (c :: ds)
  | drop {c:α}{cs ds:List α}{i n:Nat}(h:SubL cs i n ds):SubL (c :: cs) (i+1) n ds
theorem SubL.spec {cs ds:List α}{i n:Nat}(h:SubL cs i n ds):(cs.drop i).take n=ds∧ds.length=n:=by
 induction h with
 | done=>simp
 | take _ ih=>simp [ih.1,ih.2];simpa using ih.1
 | drop _ ih=>simpa using ih
inductive PutL:List α→Nat→List α→List α→Prop
  | done {cs:List α} : PutL cs 0 [] cs
  | put {c v:α}{cs vs ds:List α}(h:PutL cs 0 vs ds):PutL (c :: cs) 0 (v :: vs) (v :: ds)
  | skip {c:α}{cs vs ds:List α}{n:Nat}(h:PutL cs n vs ds):PutL (c :: cs) (n+1) vs (c :: ds)
theorem PutL.len {cs vs ds:List α}{n:Nat}(h:PutL cs n vs ds):n+vs.length≤cs.length∧ds.length=cs.length:=by
 induction h with
 | done=>simp
 | put _ ih=>simp;omega
 | skip _ ih=>simp;omega
theorem PutL.step {cs vs ds:List α}{v:α}{n:Nat}(h:PutL cs n (v :: vs) ds):PutL (cs.set n v) (n+1) vs ds:=by
 generalize he:v :: vs=us at h
 induction h with
 | done=>cases he
 | put h ih=>
  injection he with e1 e2
  subst e1 e2
  exact .skip h
 | skip h ih=>exact .skip (ih he)
theorem PutL.nil {cs ds:List α}{n:Nat}(h:PutL cs n [] ds):cs=ds:=by
 generalize he:([]:List α)=us at h
 induction h with
 | done=>rfl
 | put h ih=>cases he
 | skip h ih=>rw [ih he]
theorem PutL.fold {off:Nat} : ∀ {vs cs ds:List α}(k:Nat),PutL cs (off+k) vs ds→(vs.zipIdx k).foldl (fun (cs:Array α) (p:α×Nat)=>cs.setIfInBounds (off+p.2) p.1) cs.toArray=ds.toArray
 | [],cs,ds,k,h=>by rw [h.nil];rfl
 | v :: vs,cs,ds,k,h=>by
  rw [List.zipIdx_cons,List.foldl_cons]
  simp only [List.setIfInBounds_toArray]
  exact PutL.fold (k+1) h.step
end
inductive CellsOf:Value→List Value→Prop
  | agg {vs:List Value} : CellsOf (.agg vs.toArray) vs
  | one {v:Value}(h:v.cells=#[v]):CellsOf v [v]
theorem CellsOf.spec {v:Value}{vs:List Value}(h:CellsOf v vs):v.cells=vs.toArray:=by
 cases h with
 | agg=>rfl
 | one h=>exact h
inductive Built (place:Nat→Option (Nat×Nat)):List Value→List (Nat×Value)→List Value→Prop
  | nil {cs:List Value} : Built place cs [] cs
  | cons {cs ds es vs:List Value}{i off s:Nat}{v:Value}{rest:List (Nat×Value)}(h:place i=some (off,s)) (hc:CellsOf v vs) (hl:vs.length=s) (hp:PutL cs off vs ds) (k:Built place ds rest es):Built place cs ((i,v) :: rest) es
theorem Built.spec {place:Nat→Option (Nat×Nat)}{cs es:List Value}{ps:List (Nat×Value)}(h:Built place cs ps es):Instr.fill place cs.toArray ps=some es.toArray:=by
 induction h with
 | nil=>rfl
 | @cons cs ds es vs i off s v rest h hc hl hp k ih=>
  have h1:=hc.spec
  have h2:=hp.len
  rw [Instr.fill,h]
  simp only []
  rw [if_neg (by rw [h1];simp;omega),h1]
  have h3:=PutL.fold (off:=off) 0 (by simpa using hp)
  rw [show vs.toArray.zipIdx=(vs.zipIdx 0).toArray by simp,List.foldl_toArray']
  · exact h3 ▸ ih
  · simp
inductive Parts (E:Env):List (Nat×Operand)→List (Nat×Value)→Prop
  | nil:Parts E [] []
  | cons {i:Nat}{x:Operand}{v:Value}{ps:List (Nat×Operand)}{vs:List (Nat×Value)}(h:E.op x=some v) (k:Parts E ps vs):Parts E ((i,x) :: ps) ((i,v) :: vs)
theorem Parts.spec {E:Env}{a:Act}(ha:Fits E a) {ps:List (Nat×Operand)}{vs:List (Nat×Value)}(h:Parts E ps vs):ps.map (fun p=>(p.1,a.eval p.2))=vs:=by
 induction h with
 | nil=>rfl
 | cons h _ ih=>simp [ha.op h,ih]
end Go.Proofs.YtpmdhkjbhjgoaaaGreatDoorK


/-
  The walk's rules for memory: fields, elements, loads, stores, new variables, rows that grow, maps.
-/
namespace Go.Proofs.YtpmdhkjbhjgoaaaGreatDoorK
open Go.RowKit
section
variable {c : Cx} {M : Md c} {d : Nat} {ty : TypeId} {pos : String} {af : Array Edge} {rest : List Oper} {E : Env} {D : List Deferred} {H H' H'' : List Res} {v : Value} {x y z : Operand} {k : IntKind} {t t' : TypeId}

def scalT (P:Program) (t:TypeId):Bool:=match P.underlying t with
  | some (.struct _)=>false
  | some (.array _ _)=>false
  | some _=>true
  | none=>false
def aggN (P:Program) (t:TypeId):Option Nat:=match P.underlying t with
  | some (.struct _)=>(P.info? t).map (·.size)
  | some (.array _ _)=>(P.info? t).map (·.size)
  | _=>none
def fplace (P:Program) (s:TypeId) (j:Nat):Option Nat:=match P.underlying s with
  | some (.struct fs)=>match fs[j]? with
    | some f=>match P.info? f.type with
      | some i=>bif Nat.beq i.size 0 then none else some f.offset
      | none=>none
    | none=>none
  | _=>none
def elemT (P:Program) (t:TypeId):Option (TypeId×Nat):=match P.underlying t with
  | some (.slice e)=>(P.info? e).map fun i=>(e,i.size)
  | _=>none
theorem run_isAgg_s {P:Program}{t:TypeId}(h:scalT P t=true) (w:World):(isAgg t).run P w=.ok false w:=by
 unfold scalT at h
 unfold isAgg
 cases hu:P.underlying t with
 | none=>rw [hu] at h;cases h
 | some u=>
  rw [hu] at h
  rw [Sem.run_bind,run_underlying hu w]
  cases u <;> simp_all
theorem run_isAgg_a {P:Program}{t:TypeId}{n:Nat}(h:aggN P t=some n) (w:World):(isAgg t).run P w=.ok true w∧(sizeOf t).run P w=.ok n w:=by
 unfold aggN at h
 unfold isAgg
 cases hu:P.underlying t with
 | none=>rw [hu] at h;cases h
 | some u=>
  rw [hu] at h
  rw [Sem.run_bind,run_underlying hu w]
  cases u <;> simp only [reduceCtorEq,Option.map_eq_some_iff] at h
  all_goals
   obtain ⟨i,hi,rfl⟩:=h
   exact ⟨by simp,by simp [sizeOf,typeInfo,hi]⟩
theorem run_fieldAt {P:Program}{s:TypeId}{j n:Nat}(h:fplace P s j=some n) (a:Addr) (w:World):(Instr.fieldAt s (.pointer (some a)) j).run P w=.ok (.pointer (some (a.add n))) w:=by
 unfold fplace at h
 cases hu:P.underlying s with
 | none=>rw [hu] at h;cases h
 | some u=>
  rw [hu] at h
  cases u with
  | struct fs=>
   simp only [] at h
   cases hf:fs[j]? with
   | none=>rw [hf] at h;cases h
   | some f=>
    rw [hf] at h
    simp only [] at h
    cases hi:P.info? f.type with
    | none=>rw [hi] at h;cases h
    | some i=>
     rw [hi] at h
     simp only [] at h
     cases hb:Nat.beq i.size 0 with
     | true=>rw [hb] at h;cases h
     | false=>
      rw [hb] at h
      injection h with h
      subst h
      have hs:i.size≠0:=by intro e;rw [e] at hb;cases hb
      simp [Instr.fieldAt,Instr.sureAddr,run_underlying hu,hf,fieldPlace,sizeOf,typeInfo,hi,hs]
  | _=>cases h
theorem run_elemT {P:Program}{t e:TypeId}{n:Nat}(h:elemT P t=some (e,n)):P.underlying t=some (.slice e)∧∃ i,P.info? e=some i∧i.size=n:=by
 unfold elemT at h
 cases hu:P.underlying t with
 | none=>rw [hu] at h;cases h
 | some u=>
  rw [hu] at h
  cases u <;> simp only [reduceCtorEq,Option.map_eq_some_iff,Prod.mk.injEq] at h
  obtain ⟨i,hi,rfl,rfl⟩:=h
  exact ⟨rfl,i,hi,rfl⟩
theorem add_at (b i j:Nat):(⟨b,i,none⟩:Addr).add j=⟨b,i+j,none⟩:=by unfold Addr.add;split <;> simp_all

@[irreducible] def adr (e:Addr) (k:Nat):Addr:=e.add k
theorem adr_add (e:Addr) (k j:Nat):(adr e k).add j=adr e (k+j):=by unfold adr;exact Addr.add_add _ _ _
@[irreducible] def elt (g i s k:Nat):Addr:=⟨g,i * s+k,none⟩
theorem elt_add (g i s k j:Nat):(elt g i s k).add j=elt g i s (k+j):=by unfold elt;rw [add_at,Nat.add_assoc]
theorem oPtr {a:Addr}(hx:E.op x=some (.pointer (some a))) (h:O M rest ((d,.pointer (some a)) :: E) D H) (hN:Nat.blt d c.N=true:=by rfl):O M (⟨some d,.nilCheck x,ty,pos,af,none⟩ :: rest) E D H:=
 oC _ rfl hN (fun u w ha hw=>by simp [execOp,ha.op hx]) h
theorem oFld {b i j n m:Nat}(hx:E.op x=some (.pointer (some ⟨b,i,none⟩))) (hf:fplace c.P t j=some n) (hm:i+n=m) (h:O M rest ((d,.pointer (some ⟨b,m,none⟩)) :: E) D H) (hN:Nat.blt d c.N=true:=by rfl):O M (⟨some d,.fieldAddr t x j,ty,pos,af,none⟩ :: rest) E D H:=
 oC _ rfl hN (fun u w ha hw=>by simp [execOp,ha.op hx,run_fieldAt hf,add_at,hm]) h
theorem oLd {b i:Nat}{tb:TypeId}{cs:List Value}(hx:E.op x=some (.pointer (some ⟨b,i,none⟩))) (hp:Pick H (blk b tb cs) H') (hv:cs[i]?=some v) (hs:scalT c.P t=true) (h:O M rest ((d,v) :: E) D H) (hN:Nat.blt d c.N=true:=by rfl):O M (⟨some d,.load t x,ty,pos,af,none⟩ :: rest) E D H:=
 oC _ rfl hN (fun u w ha hw=>by
  have hc:=hw.cell hp i hv
  simp [execOp,ha.op hx,Instr.loadAt,Instr.sureAddr,loadVar,run_isAgg_s hs,hc]) h
theorem oLdA {b i n:Nat}{tb:TypeId}{cs vs:List Value}(hx:E.op x=some (.pointer (some ⟨b,i,none⟩))) (hp:Pick H (blk b tb cs) H') (hs:aggN c.P t=some n) (hv':SubL cs i n vs) (h:O M rest ((d,.agg vs.toArray) :: E) D H) (hN:Nat.blt d c.N=true:=by rfl):O M (⟨some d,.load t x,ty,pos,af,none⟩ :: rest) E D H:=
 oC _ rfl hN (fun u w ha hw=>by
  obtain ⟨hv,hl⟩:=hv'.spec
  have h1:=run_isAgg_a hs w
  have h2:=run_loadCells_list (P:=c.P) w ⟨b,i,none⟩ vs (fun j u hu=>by
   rw [add_at]
   refine hw.cell hp (i+j) ?_
   rw [← hv,List.getElem?_take,List.getElem?_drop] at hu
   split at hu
   · exact hu
   · cases hu)
  rw [hl] at h2
  simp [execOp,ha.op hx,Instr.loadAt,Instr.sureAddr,loadVar,h1.1,h1.2,h2]) h

theorem oLdX {e:Addr}{i:Nat}{cs:List Value}(hx:E.op x=some (.pointer (some (adr e i)))) (hc:∀ j u,cs[j]?=some u→c.B.e.cell? (adr e j)=some u) (hv:cs[i]?=some v) (hs:scalT c.P t=true) (h:O M rest ((d,v) :: E) D H) (hN:Nat.blt d c.N=true:=by rfl):O M (⟨some d,.load t x,ty,pos,af,none⟩ :: rest) E D H:=
 oC _ rfl hN (fun u w ha hw=>by
  have hc:=hw.ext (hc i v hv)
  simp [execOp,ha.op hx,Instr.loadAt,Instr.sureAddr,loadVar,run_isAgg_s hs,hc]) h
theorem oLdXA {e:Addr}{i n:Nat}{cs vs:List Value}(hx:E.op x=some (.pointer (some (adr e i)))) (hc:∀ j u,cs[j]?=some u→c.B.e.cell? (adr e j)=some u) (hs:aggN c.P t=some n) (hv':SubL cs i n vs) (h:O M rest ((d,.agg vs.toArray) :: E) D H) (hN:Nat.blt d c.N=true:=by rfl):O M (⟨some d,.load t x,ty,pos,af,none⟩ :: rest) E D H:=
 oC _ rfl hN (fun u w ha hw=>by
  obtain ⟨hv,hl⟩:=hv'.spec
  have h1:=run_isAgg_a hs w
  have h2:=run_loadCells_list (P:=c.P) w (adr e i) vs (fun j u hu=>by
   rw [adr_add]
   refine hw.ext (hc (i+j) u ?_)
   rw [← hv,List.getElem?_take,List.getElem?_drop] at hu
   split at hu
   · exact hu
   · cases hu)
  rw [hl] at h2
  simp [execOp,ha.op hx,Instr.loadAt,Instr.sureAddr,loadVar,h1.1,h1.2,h2]) h
theorem run_indexAt {P:Program}{t e:TypeId}{s:Nat}(ht:elemT P t=some (e,s)) (b:Addr) (n cp i:Nat) (hi:i<n) (k:IntKind) (w:World):(Instr.indexAt t (.slice (some b) n cp) (.int k (i:Int))).run P w=.ok (.pointer (some (b.add (i * s)))) w:=by
 obtain ⟨h1,inf,h2,rfl⟩:=run_elemT ht
 simp [Instr.indexAt,asIntOf,run_underlying h1,sizeOf,typeInfo,h2,hi]
theorem oLenS {A:Option Addr}{n cp:Nat}{e:TypeId}{s:Nat}(hx:E.op x=some (.slice A n cp)) (ht:elemT c.P t=some (e,s)) (h:O M rest ((d,.int .i64 (n:Int)) :: E) D H) (hN:Nat.blt d c.N=true:=by rfl):O M (⟨some d,.call { callee:=.builtin .len,args:=#[x],argTypes:=#[t] },ty,pos,af,none⟩ :: rest) E D H:=
 oC _ rfl hN (fun u w ha hw=>by
  obtain ⟨h1,_⟩:=run_elemT ht
  simp [execOp,resolve,ha.op hx,invoke,builtin,Builtin.len_,run_underlying h1,goInt]) h
theorem oLenStr {s:ByteArray}(hx:E.op x=some (.string s)) (ht:c.P.underlying t=some .string) (h:O M rest ((d,.int .i64 (s.size:Int)) :: E) D H) (hN:Nat.blt d c.N=true:=by rfl):O M (⟨some d,.call { callee:=.builtin .len,args:=#[x],argTypes:=#[t] },ty,pos,af,none⟩ :: rest) E D H:=
 oC _ rfl hN (fun u w ha hw=>by
  simp [execOp,resolve,ha.op hx,invoke,builtin,Builtin.len_,run_underlying ht,goInt]) h
inductive GetAt:List Value→Nat→Value→Prop
  | here {v:Value}{cs:List Value} : GetAt (v :: cs) 0 v
  | there {c v:Value}{cs:List Value}{n:Nat}(h:GetAt cs n v):GetAt (c :: cs) (n+1) v
theorem GetAt.spec {cs:List Value}{n:Nat}{v:Value}(h:GetAt cs n v):cs[n]?=some v:=by
 induction h with
 | here=>rfl
 | there _ ih=>simpa using ih
theorem oExt {vs:List Value}{j:Nat}(hx:E.op x=some (.tuple vs.toArray)) (hv:GetAt vs j v) (h:O M rest ((d,v) :: E) D H) (hN:Nat.blt d c.N=true:=by rfl):O M (⟨some d,.extract x j,ty,pos,af,none⟩ :: rest) E D H:=
 oC _ rfl hN (fun u w ha hw=>by simp [execOp,ha.op hx,Instr.extract,hv.spec]) h
def placeS (P:Program) (t:TypeId) (i:Nat):Option (Nat×Nat):=match P.underlying t with
  | some (.struct fs)=>(fs[i]?).map fun f=>(f.offset,P.cellsOf f.type)
  | _=>none
def allS (P:Program) (t:TypeId):Bool:=match P.underlying t with
  | some (.struct fs)=>fs.toList.all fun f=>(P.info? f.type).isSome
  | _=>false
theorem run_places {P:Program} : ∀ (l:List Field) (w:World),(l.all fun f=>(P.info? f.type).isSome)=true→Sem.run P (l.mapM fun (f:Field)=>Prod.mk f.offset <$> sizeOf f.type) w=.ok (l.map fun f=>(f.offset,P.cellsOf f.type)) w
 | [],w,h=>by simp
 | f :: l,w,h=>by
  simp only [List.all_cons,Bool.and_eq_true] at h
  obtain ⟨i,hi⟩:=Option.isSome_iff_exists.1 h.1
  have ih:=run_places l w h.2
  rw [List.mapM_cons]
  have h1:Sem.run P (Prod.mk f.offset <$> sizeOf f.type) w=.ok (f.offset,P.cellsOf f.type) w:=by simp [sizeOf,typeInfo,hi,Program.cellsOf]
  simp only [Sem.run_bind,h1,Result.andThen_ok,ih,Sem.run_pure,List.map_cons]
theorem run_build {P:Program}{t:TypeId}{zs us:List Value}{vs:List (Nat×Value)}(hz:((P.info? t).map (·.zero))=some (some (.agg zs.toArray))) (ha:allS P t=true) (hb:Built (placeS P t) zs vs us) (w:World):(Instr.build t vs.toArray).run P w=.ok (.agg us.toArray) w:=by
 obtain ⟨i,hi,hz⟩:=Option.map_eq_some_iff.1 hz
 unfold allS at ha
 cases hu:P.underlying t with
 | none=>rw [hu] at ha;cases ha
 | some un=>
  rw [hu] at ha
  cases un <;> simp only [Bool.false_eq_true] at ha
  rename_i fs
  have hp:Sem.run P (fs.mapM fun (f:Field)=>Prod.mk f.offset <$> sizeOf f.type) w=.ok ((fs.toList.map fun f=>(f.offset,P.cellsOf f.type)).toArray) w:=by
   rw [Array.mapM_eq_mapM_toList]
   simp [run_places fs.toList w ha]
  have he:placeS P t=fun x=>Option.map (fun f=>(f.offset,P.cellsOf f.type)) fs[x]?:=by
   funext i
   simp [placeS,hu]
  have hf:=hb.spec
  rw [he] at hf
  simp only [Instr.build,Sem.run_bind,zeroValue,typeInfo,Sem.run_pure]
  simp [hi,hz,run_underlying hu,Value.cells,hp]
  rw [hf]
  simp
theorem oBuild {ps:Array (Nat×Operand)}{vs:List (Nat×Value)}{zs us:List Value}(hx:Parts E ps.toList vs) (hz:((c.P.info? t).map (·.zero))=some (some (.agg zs.toArray))) (ha:allS c.P t=true) (hb:Built (placeS c.P t) zs vs us) (h:O M rest ((d,.agg us.toArray) :: E) D H) (hN:Nat.blt d c.N=true:=by rfl):O M (⟨some d,.build t ps,ty,pos,af,none⟩ :: rest) E D H:=
 oC _ rfl hN (fun u w hf hw=>by
  have h2:(ps.map fun (i,x)=>(i,u.eval x))=vs.toArray:=by
   apply Array.toList_inj.1
   simpa using hx.spec hf
  simp only [execOp,Sem.run_bind,h2,run_build hz ha hb w,Result.andThen_ok,Sem.run_pure]) h
end
end Go.Proofs.YtpmdhkjbhjgoaaaGreatDoorK


/-
  The walk's rules for operations that turn the world: new variables, stores, rows, maps, calls; and how a function is entered and left.
-/
namespace Go.Proofs.YtpmdhkjbhjgoaaaGreatDoorK
open Go.RowKit
section
variable {c : Cx} {M : Me c} {d : Nat} {dst : Option Nat} {ty : TypeId} {pos : String} {af : Array Edge} {rest : List Oper} {E : Env} {D : List Deferred} {H H' H'' : List Res} {v : Value} {x y z : Operand} {k : IntKind} {t t' : TypeId}
variable {B : Base} {w w' : World} {Φ Φ' Φ'' : List Res}

theorem oEff {op:Op}(hp:plain op=true) (hN:Nat.blt d c.N=true) (hy:∀ a w,Fits E a→St c.B H w→∃ v w' H',(execOp a.eval ⟨some d,op,ty,pos,af,none⟩).run c.P w=.ok (.value v) w'∧St c.B H' w'∧O M.toMd rest ((d,v) :: E) D H') :
 O M.toMd (⟨some d,op,ty,pos,af,none⟩ :: rest) E D H:=by
 intro a w ha hw
 obtain ⟨v,w',H',h1,h2,h3⟩:=hy a w ha.fit hw
 exact M.eff _ _ _ _ v w' rfl hp h1 (h3 _ _ (ha.put hN) h2)
theorem oEffs {op:Op}(hp:plain op=true) (hy:∀ a w,Fits E a→St c.B H w→∃ w' H',(execOp a.eval ⟨none,op,ty,pos,af,none⟩).run c.P w=.ok .skip w'∧St c.B H' w'∧O M.toMd rest E D H') :
 O M.toMd (⟨none,op,ty,pos,af,none⟩ :: rest) E D H:=by
 intro a w ha hw
 obtain ⟨w',H',h1,h2,h3⟩:=hy a w ha.fit hw
 exact M.effs _ _ _ _ w' rfl hp h1 (h3 _ _ ha.put_none h2)

theorem St.upd' {r r':Res}(h:St B Φ w) (hu:Pick Φ r Φ') (hc:Chg w w' r.fp) (hq:r'.q w') (hf:∀ k,r'.fp k→r.fp k∨w.heap.size≤k):St B (r' :: Φ') w':=
 (h.perm hu.perm).upd .here hc hq hf
theorem oAlloc {zv:Value}{cs:List Value}(hz:((c.P.info? t).map (·.zero))=some (some zv)) (hcs:CellsOf zv cs) (h:∀ b,O M.toMd rest ((d,.pointer (some ⟨b,0,none⟩)) :: E) D (blk b t cs :: H)) (hN:Nat.blt d c.N=true:=by rfl):O M.toMd (⟨some d,.alloc t,ty,pos,af,none⟩ :: rest) E D H:=
 oEff rfl hN fun a w ha hw=>by
  obtain ⟨i,hi,hz⟩:=Option.map_eq_some_iff.1 hz
  refine ⟨_,w.alloc (.cells zv.cells t),_,?_,?_,h w.heap.size⟩
  · simp [execOp,Instr.alloc,zeroValue,typeInfo,hi,hz,newVar,newRow]
  · rw [hcs.spec];exact hw.alloc (.cells cs.toArray t)
theorem oBox {cs:List Value}(hx:E.op x=some v) (hcs:CellsOf v cs) (h:∀ b,O M.toMd rest ((d,.pointer (some ⟨b,0,none⟩)) :: E) D (blk b t cs :: H)) (hN:Nat.blt d c.N=true:=by rfl):O M.toMd (⟨some d,.box t x,ty,pos,af,none⟩ :: rest) E D H:=
 oEff rfl hN fun a w ha hw=>by
  refine ⟨_,w.alloc (.cells v.cells t),_,?_,?_,h w.heap.size⟩
  · simp [execOp,Instr.box,newVar,newRow,ha.op hx]
  · rw [hcs.spec];exact hw.alloc (.cells cs.toArray t)
theorem run_store1 {P:Program}{b i:Nat}{t tb:TypeId}{cs:List Value}{v:Value}(hb:w.heap[b]?=some (.cells cs.toArray tb (0,0))) (hi:i<cs.length) (hv:v.cells=#[v]) (h1:v.oneCell'=true) (hs:(P.info? t).map (·.size)=some 1) :
 (Instr.storeAt t (.pointer (some ⟨b,i,none⟩)) v).run P w=.ok () (w.setCell ⟨b,i,none⟩ v):=by
 obtain ⟨inf,hi',hs⟩:=Option.map_eq_some_iff.1 hs
 have hc:w.cell? ⟨b,i,none⟩=some cs[i]:=by rw [cell_of hb];simp [hi]
 have hf:w.frozen? ⟨b,i,none⟩=false:=frozen_of hb
 have hst:(storeCells ⟨b,i,none⟩ [v]).run P w=.ok () (w.setCell ⟨b,i,none⟩ v):=by
  cases v <;> simp_all [storeCells,store,Sem.run,Value.oneCell',Addr.add,Sem.run_bind]
 simp [Instr.storeAt,Instr.sureAddr,storeVar,sizeOf,typeInfo,hi',hs,hv,hst]
theorem oSt {b i:Nat}{tb:TypeId}{cs cs':List Value}(hx:E.op x=some (.pointer (some ⟨b,i,none⟩))) (hy:E.op y=some v) (hv:v.cells=#[v]) (h1:v.oneCell'=true) (hs:(c.P.info? t).map (·.size)=some 1) (hp:Pick H (blk b tb cs) H') (hcs':SetAt cs i v cs')
 (h:O M.toMd rest E D (blk b tb cs' :: H')):O M.toMd (⟨none,.store t x y,ty,pos,af,none⟩ :: rest) E D H:=
 oEffs rfl fun a w ha hw=>by
  obtain ⟨hi,hcs⟩:=hcs'.spec
  subst hcs
  have hb:w.heap[b]?=some (.cells cs.toArray tb (0,0)):=hw.get hp
  refine ⟨w.setCell ⟨b,i,none⟩ v,blk b tb (cs.set i v) :: H',?_,hw.upd' hp (Chg.setCell w ⟨b,i,none⟩ v) (set_heap hb) (fun k hk=>.inl hk),h⟩
  simp [execOp,ha.op hx,ha.op hy,run_store1 hb hi hv h1 hs]
theorem oStA {b:Nat}{tb:TypeId}{cs vs:List Value}(hx:E.op x=some (.pointer (some ⟨b,0,none⟩))) (hy:E.op y=some (.agg vs.toArray)) (h1:vs.all (·.oneCell')=true) (hs:(c.P.info? t).map (·.size)=some vs.length) (hp:Pick H (blk b tb cs) H') (hl:cs.length=vs.length)
 (h:O M.toMd rest E D (blk b tb vs :: H')):O M.toMd (⟨none,.store t x y,ty,pos,af,none⟩ :: rest) E D H:=
 oEffs rfl fun a w ha hw=>by
  have hb:w.heap[b]?=some (.cells cs.toArray tb (0,0)):=hw.get hp
  have hrun:=run_storeVar_row (P:=c.P) w b tb t cs.toArray vs.toArray hb (by simpa using hs) (by simpa using hl) (by simpa using h1)
  have hc:Chg w (w.setRow b vs.toArray) (fun k=>k=b):=⟨rfl,rfl,rfl,by simp [World.setRow],fun k _ hn=>by rw [World.setRow];simp only [Array.getElem?_modify];rw [if_neg (fun h=>hn h.symm)]⟩
  refine ⟨w.setRow b vs.toArray,blk b tb vs :: H',?_,hw.upd' hp hc ?_ (fun k hk=>.inl hk),h⟩
  · simp [execOp,ha.op hx,ha.op hy,Instr.storeAt,Instr.sureAddr,hrun]
  · show (w.setRow b vs.toArray).heap[b]?=_
    rw [World.setRow];simp only [Array.getElem?_modify,if_true,hb,Option.map_some]

def Cat {α:Type}(kd:Kd α) (w:World):List α→List Value→Prop
  | [],cs=>cs=[]
  | x :: xs,cs=>∃ a rest,cs=a++rest∧kd.K w x a∧Cat kd w xs rest
theorem Cat.len {α:Type}{kd:Kd α}{w:World} : ∀ {xs:List α}{cs:List Value},Cat kd w xs cs→cs.length=xs.length * kd.sz
 | [],cs,h=>by rw [h];simp
 | x :: xs,cs,⟨a,rest,e,hK,hR⟩=>by rw [e,List.length_append,kd.K_len hK,hR.len,List.length_cons,Nat.succ_mul];omega
theorem Cat.at {α:Type}{kd:Kd α}{w:World} : ∀ {xs:List α}{cs:List Value},Cat kd w xs cs→∀ j x,xs[j]?=some x→∃ a,kd.K w x a∧∀ i u,a[i]?=some u→cs[j * kd.sz+i]?=some u
 | [],_,_,j,x,hj=>by simp at hj
 | y :: xs,cs,⟨a,rest,e,hK,hR⟩,0,x,hj=>by
  obtain rfl:y=x:=by simpa using hj
  refine ⟨a,hK,fun i u hu=>?_⟩
  have hi:i<a.length:=(List.getElem?_eq_some_iff.1 hu).1
  rw [e,Nat.zero_mul,Nat.zero_add,List.getElem?_append_left hi,hu]
 | y :: xs,cs,⟨a,rest,e,hK,hR⟩,j+1,x,hj=>by
  obtain ⟨c2,h1,h2⟩:=Cat.at hR j x (by simpa using hj)
  refine ⟨c2,h1,fun i u hu=>?_⟩
  have hl:=kd.K_len hK
  rw [e,List.getElem?_append_right (by rw [hl,Nat.succ_mul];omega),hl,show (j+1) * kd.sz+i-kd.sz=j * kd.sz+i by rw [Nat.succ_mul];omega]
  exact h2 i u hu
theorem Cat.app {α:Type}{kd:Kd α}{w:World} : ∀ {xs ys:List α}{cs ds:List Value},Cat kd w xs cs→Cat kd w ys ds→Cat kd w (xs++ys) (cs++ds)
 | [],ys,cs,ds,h,k=>by rw [h];simpa using k
 | x :: xs,ys,cs,ds,⟨a,rest,e,hK,hR⟩,k=>⟨a,rest++ds,by rw [e,List.append_assoc],hK,hR.app k⟩
theorem Cat.one {α:Type}{kd:Kd α}{w:World}{x:α}{a:List Value}(h:kd.K w x a):Cat kd w [x] a:=⟨a,[],by simp,h,rfl⟩
theorem Cat.ones {α:Type}{kd:Kd α}{w:World} : ∀ {xs:List α}{cs:List Value},Cat kd w xs cs→∀ u ∈ cs,u.oneCell'=true
 | [],cs,h=>by rw [h];simp
 | x :: xs,cs,⟨a,rest,e,hK,hR⟩=>by
  intro u hu
  rw [e] at hu
  rcases List.mem_append.1 hu with h | h
  · exact kd.K_one hK u h
  · exact hR.ones u h
theorem Cat.take {α:Type}{kd:Kd α}{w:World} : ∀ {xs:List α}{cs:List Value}(n:Nat),Cat kd w xs cs→Cat kd w (xs.take n) (cs.take (n * kd.sz))
 | [],cs,n,h=>by rw [h];simp [Cat]
 | x :: xs,cs,0,h=>by simp [Cat]
 | x :: xs,cs,n+1,⟨a,rest,e,hK,hR⟩=>by
  refine ⟨a,rest.take (n * kd.sz),?_,hK,hR.take n⟩
  have hl:=kd.K_len hK
  rw [e,List.take_append,List.take_of_length_le (by rw [hl,Nat.succ_mul];omega),hl,show (n+1) * kd.sz-kd.sz=n * kd.sz by rw [Nat.succ_mul];omega]
theorem Cat.grow {α:Type}{kd:Kd α}{w w':World}(g:Grow w w'):∀ {xs:List α}{cs:List Value},Cat kd w xs cs→Cat kd w' xs cs
 | [],cs,h=>h
 | x :: xs,cs,⟨a,rest,e,hK,hR⟩=>⟨a,rest,e,kd.K_grow g hK,Cat.grow g hR⟩
def row {α:Type}(kd:Kd α) (W:World) (e:TypeId) (v:Value) (xs:List α):Res where
  fp k:=v.ownBlock=some k
  q w:=∃ cs,w.ownsRow 0 e kd.sz v xs.length cs∧Cat kd W xs cs
  inb w h k hk:=by obtain ⟨cs,ho,_⟩:=h;exact (ho.lt k hk).2
  st w w' h hk:=by
    obtain ⟨cs,ho,hr⟩:=h
    refine ⟨cs,?_,hr⟩
    obtain ⟨h1,h2⟩:=ho
    refine ⟨h1,?_⟩
    rcases h2 with h2 | ⟨g,cap,cur,rfl,hg,hh,r⟩
    · exact .inl h2
    · exact .inr ⟨g,cap,cur,rfl,hg,(hk g (by simp [Value.ownBlock])).trans hh,r⟩
theorem St.nilrow {α:Type}(kd:Kd α) (W:World) (e:TypeId) (h:St B Φ w):St B (row kd W e (.slice none 0 0) [] :: Φ) w:=
 h.add (Chg.refl _ _) ⟨[],World.ownsRow_nil _ _ _ _,rfl⟩ (fun k hk=>by simp [row,Value.ownBlock] at hk)
theorem Leads.nilrow {α:Type}{kd:Kd α}{W:World}{e:TypeId} : Leads B Φ (row kd W e (.slice none 0 0) [] :: Φ):=fun _ h=>h.nilrow kd W e
theorem row_C {α:Type}{kd:Kd α}{W:World}{e:TypeId}{A:Option Addr}{n cp:Nat}{xs:List α}(h:(row kd W e (.slice A n cp) xs).q w) (g:Grow W w):n=xs.length∧n≤cp∧kd.C w A xs∧(0<n→∃ b,A=some ⟨b,0,none⟩):=by
 obtain ⟨cs,⟨hl,ho⟩,hr⟩:=h
 rcases ho with ⟨e1,e2⟩ | ⟨b,cap,cur,e1,_,hh,h1,h2,h3,h4⟩
 · injection e1 with e1 e3 e4
   subst e1 e3 e4
   have:xs=[]:=List.eq_nil_of_length_eq_zero e2
   subst this
   exact ⟨rfl,Nat.le_refl _,Kd.C_nil _ _ _,fun h=>absurd h (by omega)⟩
 · injection e1 with e1 e3 e4
   subst e1 e3 e4
   have hm:maxLen=9223372036854775807:=rfl
   refine ⟨rfl,h1,⟨by omega,fun _=>⟨_,rfl,fun j x hx=>?_⟩⟩,fun _=>⟨b,rfl⟩⟩
   obtain ⟨a,hK,hc⟩:=hr.at j x hx
   refine ⟨a,kd.K_grow g hK,fun i u hu=>?_⟩
   have:=hc i u hu
   rw [add_at,Nat.zero_add]
   unfold World.cell?
   rw [hh]
   simp only [Option.isSome_none,Bool.false_eq_true,if_false]
   rw [← h4,List.getElem?_take] at this
   split at this
   · simpa using this
   · cases this
theorem oIdxR {α:Type}{kd:Kd α}{W:World}{e e':TypeId}{A:Option Addr}{n cp i s:Nat}{xs:List α}(hx:E.op x=some (.slice A n cp)) (hy:E.op y=some (.int k (i:Int))) (hp:Pick H (row kd W e (.slice A n cp) xs) H') (hi:i<n) (ht:elemT c.P t=some (e',s)) (hsz:kd.sz=s) {N:Md c}
 (h:∀ g,A=some ⟨g,0,none⟩→O N rest ((d,.pointer (some (elt g i s 0))) :: E) D H) (hN:Nat.blt d c.N=true:=by rfl):O N (⟨some d,.indexAddr t x y,ty,pos,af,none⟩ :: rest) E D H:=by
 intro a w ha hw
 subst hsz
 obtain ⟨cs,⟨hl,ho⟩,hr⟩:(row kd W e (.slice A n cp) xs).q w:=hw.get hp
 rcases ho with ⟨e1,e2⟩ | ⟨b,cap,cur,e1,_⟩
 · injection e1 with e1 e3 e4;omega
 · injection e1 with e1 e3 e4
   subst e1 e3 e4
   refine oC (.pointer (some (elt b i kd.sz 0))) rfl hN (fun u w ha hw=>?_) (h b rfl) a w ha hw
   have e1:elt b i kd.sz 0=(⟨b,0,none⟩:Addr).add (i * kd.sz):=by rw [add_at];unfold elt;simp
   simp [execOp,ha.op hx,ha.op hy,run_indexAt ht ⟨b,0,none⟩ _ cp i hi k w,e1]
theorem oLdR {α:Type}{kd:Kd α}{W:World}{e:TypeId}{g n cp i j s:Nat}{xs:List α}(hx:E.op x=some (.pointer (some (elt g i s j)))) (hp:Pick H (row kd W e (.slice (some ⟨g,0,none⟩) n cp) xs) H') (hi:i<xs.length) (hsz:kd.sz=s) (hs:scalT c.P t=true) {N:Md c}
 (h:∀ u cs,xs[i]?=some u→kd.K W u cs→∃ v,cs[j]?=some v∧O N rest ((d,v) :: E) D H) (hN:Nat.blt d c.N=true:=by rfl):O N (⟨some d,.load t x,ty,pos,af,none⟩ :: rest) E D H:=by
 intro a w ha hw
 subst hsz
 obtain ⟨cs0,ho,hr⟩:(row kd W e (.slice (some ⟨g,0,none⟩) n cp) xs).q w:=hw.get hp
 obtain ⟨cs,hK,hc⟩:=hr.at i _ (List.getElem?_eq_getElem hi)
 obtain ⟨v,hv,hO⟩:=h _ cs (List.getElem?_eq_getElem hi) hK
 have hcell:=ho.cells (g:=g) rfl _ v (hc j v hv)
 rw [add_at,Nat.zero_add] at hcell
 refine N.calm _ _ _ _ v rfl rfl ?_ (hO _ _ (ha.put hN) hw)
 have e1:elt g i kd.sz j=⟨g,i * kd.sz+j,none⟩:=by unfold elt;rfl
 simp [execOp,ha.fit.op hx,Instr.loadAt,Instr.sureAddr,loadVar,run_isAgg_s hs,e1,hcell]
theorem oLdR1 {α:Type}{enc:α→Value}{h1:∀ x,(enc x).oneCell'=true}{W:World}{e:TypeId}{g n cp i:Nat}{xs:List α}(hx:E.op x=some (.pointer (some (elt g i 1 0)))) (hp:Pick H (row (Kd.scalar enc h1) W e (.slice (some ⟨g,0,none⟩) n cp) xs) H') (hi:i<xs.length) (hs:scalT c.P t=true) {N:Md c}
 (h:∀ u,xs[i]?=some u→O N rest ((d,enc u) :: E) D H) (hN:Nat.blt d c.N=true:=by rfl):O N (⟨some d,.load t x,ty,pos,af,none⟩ :: rest) E D H:=
 oLdR hx hp hi rfl hs (fun u cs hu hK=>by obtain rfl:=hK;exact ⟨_,rfl,h u hu⟩) hN
end
end Go.Proofs.YtpmdhkjbhjgoaaaGreatDoorK


/-
  The walk's rules: rows that are made, grown and written; maps; calls; how a function is entered and left.
-/
namespace Go.Proofs.YtpmdhkjbhjgoaaaGreatDoorK
open Go.RowKit
section
variable {c : Cx} {M : Me c} {d : Nat} {dst : Option Nat} {ty : TypeId} {pos : String} {af : Array Edge} {rest : List Oper} {E : Env} {D : List Deferred} {H H' H'' : List Res} {v : Value} {x y z : Operand} {k : IntKind} {t t' : TypeId}
variable {B : Base} {w w' : World} {Φ Φ' Φ'' Ψ : List Res} {P : Program}

theorem oBuildSlice {len:Nat}{ps:Array (Nat×Operand)}{vs:List (Nat×Value)}{zs cs:List Value}{e:TypeId}{s:Nat}{zv:Value}(hx:Parts E ps.toList vs) (ht:elemT c.P t=some (e,s)) (hz:((c.P.info? e).map (·.zero))=some (some zv))
 (hsm:Nat.ble (len * s) 16777216=true) (h0:Nat.beq (len * s) 0=false) (hzs:((Array.range (len * s)).map (zv.cells[· % zv.cells.size]!)).toList=zs) (hf:Built (fun i=>some (i * s,s)) zs vs cs)
 (h:∀ b,O M.toMd rest ((d,.slice (some ⟨b,0,none⟩) len len) :: E) D (blk b e cs :: H)) (hN:Nat.blt d c.N=true:=by rfl):O M.toMd (⟨some d,.buildSlice t len ps,ty,pos,af,none⟩ :: rest) E D H:=
 oEff rfl hN fun a w ha hw=>by
  have hsm:len * s≤16777216:=Nat.le_of_ble_eq_true hsm
  have h0:len * s≠0:=by intro e;rw [e] at h0;cases h0
  obtain ⟨ht1,inf,hi1,hs⟩:=run_elemT ht
  obtain ⟨inf',hi2,hz⟩:=Option.map_eq_some_iff.1 hz
  have he:inf'=inf:=by rw [hi1] at hi2;exact (Option.some.inj hi2).symm
  subst he
  refine ⟨_,w.alloc (.cells cs.toArray e),_,?_,by simpa using hw.alloc (.cells cs.toArray e),h w.heap.size⟩
  have h3:=hx.spec ha
  have hf:=hf.spec
  have hzs:(Array.range (len * s)).map (zv.cells[· % zv.cells.size]!)=zs.toArray:=by rw [← hzs]
  rw [← hzs,← h3] at hf
  simp only [execOp,Sem.run_bind,Instr.buildSlice,run_underlying ht1,Result.andThen_ok,sizeOf,typeInfo,zeroValue]
  simp [hi1,hs,hz,h0,hf,newRow,show ¬ (16777216<len * s) by omega]
theorem oBuildSlice1 {e:TypeId}{s:Nat}{zv:Value}{cs:List Value}(hx:E.op x=some v) (ht:elemT c.P t=some (e,s)) (hz:((c.P.info? e).map (·.zero))=some (some zv)) (hsm:Nat.ble s 16777216=true) (h0:Nat.beq s 0=false) (hc:CellsOf v cs) (hl:cs.length=s)
 (h:∀ b,O M.toMd rest ((d,.slice (some ⟨b,0,none⟩) 1 1) :: E) D (blk b e cs :: H)) (hN:Nat.blt d c.N=true:=by rfl):O M.toMd (⟨some d,.buildSlice t 1 #[(0,x)],ty,pos,af,none⟩ :: rest) E D H:=by
 refine oBuildSlice (zs:=((Array.range (1 * s)).map (zv.cells[· % zv.cells.size]!)).toList) (.cons hx .nil) ht hz (by simpa using hsm) (by simpa using h0) rfl ?_ h hN
 refine Built.cons (off:=0) (s:=s) (by simp) hc hl (ds:=cs) ?_ .nil
 have key:∀ (cs ds:List Value),cs.length=ds.length→PutL ds 0 cs cs:=by
  intro cs
  induction cs with
  | nil=>intro ds h;cases ds with
   | nil=>exact .done
   | cons=>simp at h
  | cons u cs ih=>
   intro ds h
   cases ds with
   | nil=>simp at h
   | cons d ds=>exact .put (ih ds (by simpa using h))
 exact key cs _ (by simp [hl])
def elemI (P:Program) (t:TypeId):Option (TypeId×Value×Nat×Nat):=match P.underlying t with
  | some (.slice e)=>match P.info? e with
    | some i=>match i.zero with
      | some z=>bif Nat.beq z.cells.size i.size && Nat.blt 0 i.size then some (e,z,i.size,i.bytes) else none
      | none=>none
    | none=>none
  | _=>none
theorem elemI_spec {e:TypeId}{zv:Value}{s by_:Nat}(h:elemI P t=some (e,zv,s,by_)):P.underlying t=some (.slice e)∧∃ i,P.info? e=some i∧i.zero=some zv∧i.size=s∧i.bytes=by_∧zv.cells.size=s∧0<s:=by
 unfold elemI at h
 cases hu:P.underlying t with
 | none=>rw [hu] at h;cases h
 | some u=>
  rw [hu] at h
  cases u with
  | slice e'=>
   simp only [] at h
   cases hi:P.info? e' with
   | none=>rw [hi] at h;cases h
   | some i=>
    rw [hi] at h
    simp only [] at h
    cases hz:i.zero with
    | none=>rw [hz] at h;cases h
    | some z=>
     rw [hz] at h
     simp only [] at h
     cases hb:(Nat.beq z.cells.size i.size && Nat.blt 0 i.size) with
     | false=>rw [hb] at h;cases h
     | true=>
      rw [hb] at h
      simp only [cond_true,Option.some.injEq,Prod.mk.injEq] at h
      obtain ⟨rfl,rfl,rfl,rfl⟩:=h
      simp only [Bool.and_eq_true,Nat.beq_eq,Nat.blt_eq] at hb
      exact ⟨rfl,i,hi,hz,rfl,rfl,hb.1,hb.2⟩
  | _=>cases h
theorem oApp1 {α:Type}{kd:Kd α}{W:World}{e tb:TypeId}{zv:Value}{s by_ b cp:Nat}{xs:List α}{news:List Value}(u:α) (hx:E.op x=some v) (hy:E.op y=some (.slice (some ⟨b,0,none⟩) 1 cp)) (ht:elemI c.P t=some (e,zv,s,by_)) (hsz:kd.sz=s)
 (hp:Pick H (row kd W e v xs) H') (hpb:Pick H' (blk b tb news) H'') (hK:kd.K W u news) (hl:xs.length+1≤1000000000) (hby:Nat.ble by_ 140000=true)
 (h:∀ g cp',O M.toMd rest ((d,.slice (some ⟨g,0,none⟩) (xs.length+1) cp') :: E) D (row kd W e (.slice (some ⟨g,0,none⟩) (xs.length+1) cp') (xs++[u]) :: H'')) (hN:Nat.blt d c.N=true:=by rfl) :
 O M.toMd (⟨some d,.call { callee:=.builtin .append,args:=#[x,y],argTypes:=#[t,t] },ty,pos,af,none⟩ :: rest) E D H:=
 oEff rfl hN fun a w ha hw=>by
  have hbb:w.heap[b]?=some (.cells news.toArray tb (0,0)):=(hw.perm hp.perm).drop.get hpb
  have hb2:by_≤140000:=Nat.le_of_ble_eq_true hby
  have hml:maxLen=9223372036854775807:=rfl
  subst hsz
  obtain ⟨ht1,i0,hi,hz0,hz1,hz2,hzs,hsp⟩:=elemI_spec ht
  obtain ⟨cs,ho,hr⟩:(row kd W e v xs).q w:=hw.get hp
  have hcat:Cat kd W [u] news:=Cat.one hK
  have hlb:(xs.length+1) * by_≤140737488355328:=Nat.le_trans (Nat.mul_le_mul hl hb2) (by decide)
  obtain ⟨v',w',hrun,hown,hgr,_,hat⟩:=run_append_own_at (P:=c.P) (w:=w) 0 t ty e i0 zv kd.sz by_ ht1 hi hz0 hz1 hz2 hzs hsp v xs.length cs ho ⟨b,0,none⟩ 1 cp news (by rw [hcat.len];rfl) (fun j u hu=>by
   rw [add_at,Nat.zero_add,cell_of hbb];exact hu) hcat.ones (by omega) hlb (Nat.zero_le _)
  have hown0:=hown
  obtain ⟨_,ho2⟩:=hown
  rcases ho2 with ⟨_,e2⟩ | ⟨g,cap,cur,rfl,_⟩
  · omega
  · refine ⟨_,w',_,?_,?_,h g cap⟩
    · simp [execOp,resolve,invoke,builtin,ha.op hx,ha.op hy,hrun]
    · have hup : St c.B (row kd W e (.slice (some ⟨g, 0, none⟩) (xs.length + 1) cap) (xs ++ [u]) :: H') w' := by
       refine hw.upd' hp ((Chg.of_grown hgr).mono (fun k hk=>hk.symm)) ⟨cs++news,by rw [List.length_append];exact hown0,hr.app hcat⟩ ?_
       intro k hk
       have hk:(Value.slice (some ⟨g,0,none⟩) (xs.length+1) cap).ownBlock=some k:=hk
       rcases hat with h1 | h1
       · exact .inl (show v.ownBlock=some k from h1 ▸ hk)
       · right;rw [h1] at hk;have:=Option.some.inj hk;omega
      exact (hup.perm ((hpb.perm.cons _).trans (List.Perm.swap _ _ _))).drop
def goodF (P:Program) (g:FuncId):Bool:=match P.funcs[g]? with
  | some fn=>fn.name != "runtime.NumGoroutine" && fn.body.isSome
  | none=>false
theorem run_callFunc {g:FuncId}(h:goodF P g=true) (args:Array Value) (w:World):(callFunc g args).run P w=.ok (.enter g args) w:=by
 unfold goodF at h
 cases hf:P.funcs[g]? with
 | none=>rw [hf] at h;cases h
 | some fn=>
  rw [hf] at h
  simp only [Bool.and_eq_true,bne_iff_ne,ne_eq] at h
  cases hb:fn.body with
  | none=>rw [hb] at h;simp at h
  | some body=>simp [callFunc,hf,h.1,hb]
def Ret {ι:Type}(B:Base) (inv:ι→Prop) (val:ι→Value) (post:ι→List Res) (e:Ending) (w:World):Prop:=∃ i,inv i∧e=.returned (val i)∧St B (post i) w
theorem frame {ι:Type}{inv:ι→Prop}{val:ι→Value}{post:ι→List Res}{g:FuncId}{args:Array Value}(hS:St B Φ w) (hs:Split Φ Ψ Φ') (h:∀ B',Grow B.e B'.e→St B' Ψ w→CallsIn Fence.wide 0 P g args w (Ret B' inv val post)) :
 CallsIn Fence.wide 0 P g args w (Ret B inv val (fun i=>post i++Φ')):=by
 have hS':=hS.perm hs.perm
 refine (h (B.call w Ψ) hS'.egrow hS'.lend).mono ?_
 rintro e w' ⟨i,hi,he,hw⟩
 exact ⟨i,hi,he,hS'.give hw⟩
theorem oCallV {ι:Type}{inv:ι→Prop}{val:ι→Value}{post:ι→List Res}{f:Operand}{args:Array Operand}{ats:Array TypeId}{g:FuncId}{fst cap:Array Value}{vs:List Value}{az:Array Value}(hf:E.op f=some (.func (.func g) fst cap)) (hargs:E.ops args.toList=some vs) (has:fst++vs.toArray++cap=az) (hg:goodF c.P g=true)
 (hc:∀ w,St c.B H w→CallsIn Fence.wide 0 c.P g az w (Ret c.B inv val post)) (h:∀ i,inv i→O M.toMd rest ((d,val i) :: E) D (post i)) (hN:Nat.blt d c.N=true:=by rfl) :
 O M.toMd (⟨some d,.call { callee:=.value f,args:=args,argTypes:=ats },ty,pos,af,none⟩ :: rest) E D H:=by
 intro a w ha hw
 refine M.enter _ _ _ _ g az w rfl rfl ?_ ((hc w hw).mono ?_)
 · have h1 : args.map a.eval = vs.toArray := by
    apply Array.toList_inj.1
    simpa using ha.fit.ops hargs
   subst has
   simp only [execOp,resolve,Sem.run_bind,ha.fit.op hf,h1,Deferred.ofValue,Sem.run_pure,Result.andThen_ok,invoke,run_callFunc hg]
 · rintro e w' ⟨i,hi,rfl,hw'⟩
   exact ⟨val i,rfl,h i hi _ _ (ha.put hN) hw'⟩
theorem oCall {ι:Type}{inv:ι→Prop}{val:ι→Value}{post:ι→List Res}{args:Array Operand}{ats:Array TypeId}{g:FuncId}{vs:List Value}(hargs:E.ops args.toList=some vs) (hg:goodF c.P g=true)
 (hc:∀ w,St c.B H w→CallsIn Fence.wide 0 c.P g vs.toArray w (Ret c.B inv val post)) (h:∀ i,inv i→O M.toMd rest ((d,val i) :: E) D (post i)) (hN:Nat.blt d c.N=true:=by rfl) :
 O M.toMd (⟨some d,.call { callee:=.value (.func g),args:=args,argTypes:=ats },ty,pos,af,none⟩ :: rest) E D H:=
 oCallV rfl hargs (by simp) hg hc h hN

inductive ResR (P:Program) (E:Env) (H:List Res):ResultVar→Value→Prop
  | tmp {t:Tmp}{v:Value}(h:E.find t=some v):ResR P E H (.tmp t) v
  | cell {a b:Nat}{t tb:TypeId}{v:Value}{H':List Res}(h:E.find a=some (.pointer (some ⟨b,0,none⟩))) (hp:Pick H (blk b tb [v]) H') (hs:scalT P t=true):ResR P E H (.cell a t) v
  | agg {a b n:Nat}{t tb:TypeId}{vs:List Value}{H':List Res}(h:E.find a=some (.pointer (some ⟨b,0,none⟩))) (hp:Pick H (blk b tb vs) H') (hs:aggN P t=some n) (hl:vs.length=n):ResR P E H (.cell a t) (.agg vs.toArray)
inductive ResL (P:Program) (E:Env) (H:List Res):List ResultVar→List Value→Prop
  | nil:ResL P E H [] []
  | cons {r:ResultVar}{v:Value}{rs:List ResultVar}{vs:List Value}(h:ResR P E H r v) (k:ResL P E H rs vs):ResL P E H (r :: rs) (v :: vs)
def resVal:List Value→Value
  | [v]=>v
  | vs=>.tuple vs.toArray
def fin (P:Program) (rs:List ResultVar) (R:Value→List Res→Prop):Post
  | .ret,E,D,H=>D=[]∧∃ vs,ResL P E H rs vs∧R (resVal vs) H
  | .normal,E,D,H=>D=[]∧∃ vs,ResL P E H rs vs∧R (resVal vs) H
  | _,_,_,_=>False
def resV (tmps:Array Value):ResultVar→Sem Value
  | .tmp t=>pure (tmps.getD t undef)
  | .cell a t=>do loadVar t (← asAddr (tmps.getD a undef))
theorem results_eq (fn:Func) (tmps:Array Value):results fn tmps=(do let vs ← fn.results.mapM (resV tmps);pure (if h:vs.size=1 then vs[0] else .tuple vs)):=rfl
theorem ResR.run {P:Program}{E:Env}{H:List Res}{r:ResultVar}{v:Value}(h:ResR P E H r v) {a:Act}(ha:Fits E a) (hw:St B H w):(resV a.tmps r).run P w=.ok v w:=by
 cases h with
 | tmp h=>simp [resV,ha _ _ h]
 | cell h hp hs=>
  have hc:=hw.cell hp 0 rfl
  show (Sem.run P (do loadVar _ (← asAddr (a.tmps.getD _ undef))) w)=_
  rw [ha _ _ h]
  simp [asAddr,loadVar,run_isAgg_s hs,hc]
 | @agg a' b n t tb vs H' h hp hs hl=>
  have h1:=run_isAgg_a hs w
  have h2:=run_loadCells_list (P:=P) w ⟨b,0,none⟩ vs (fun j u hu=>by
   rw [add_at,Nat.zero_add];exact hw.cell hp j hu)
  rw [hl] at h2
  show (Sem.run P (do loadVar _ (← asAddr (a.tmps.getD _ undef))) w)=_
  rw [ha _ _ h]
  simp [asAddr,loadVar,h1.1,h1.2,h2]
theorem ResL.run {P:Program}{E:Env}{H:List Res}{rs:List ResultVar}{vs:List Value}(h:ResL P E H rs vs) {a:Act}(ha:Fits E a) (hw:St B H w):(rs.mapM (resV a.tmps)).run P w=.ok vs w:=by
 induction h with
 | nil=>simp
 | cons h k ih=>simp [h.run ha hw,ih]
theorem ResL.results {P:Program}{E:Env}{H:List Res}{fn:Func}{vs:List Value}(h:ResL P E H fn.results.toList vs) {a:Act}(ha:Fits E a) (hw:St B H w):(results fn a.tmps).run P w=.ok (resVal vs) w:=by
  rw [results_eq]
  have h1:=h.run ha hw
  have h2:(fn.results.mapM (resV a.tmps)).run P w=.ok vs.toArray w:=by
    rw [Array.mapM_eq_mapM_toList];simp [h1]
  simp only [Sem.run_bind,h2,Result.andThen_ok]
  match vs with
  | []=>simp [resVal]
  | [v]=>simp [resVal]
  | v :: u :: vs=>simp [resVal]
theorem enter {ι:Type}{inv:ι→Prop}{val:ι→Value}{post:ι→List Res}{f:FuncId}{fn:Func}{body:Code}{args:List Value}(hf:P.funcs[f]?=some fn) (hb:fn.body=some body) (hl:Nat.ble args.length fn.ntmps=true) (hS:St B Ψ w)
 (h:W ⟨P,Fence.wide,fn.ntmps,B,fun _=>trivial,rfl,fun h=>h⟩ body (fin P fn.results.toList (fun v H=>∃ i,inv i∧v=val i∧Leads B H (post i))) ((args.zipIdx).map fun p=>(p.2,p.1)) [] Ψ) :
 CallsIn Fence.wide 0 P f args.toArray w (Ret B inv val post):=by
 refine callsIn_of_wp hf hb trivial (wpIn_mono (h _ w (Ok.enter fn.ntmps args (Nat.le_of_ble_eq_true hl)) hS) ?_) rfl
 rintro e a w' ⟨E,D,H,h1,h2,h3,_⟩
 have key:D=[]→(∃ vs,ResL P E H fn.results.toList vs∧∃ i,inv i∧resVal vs=val i∧Leads B H (post i))→a.defers=[]∧∃ v,(results fn a.tmps).run P w'=.ok v w'∧Ret B inv val post (.returned v) w':=by
  rintro hD ⟨vs,hr,i,hi,hv,hsp⟩
  exact ⟨h1.dfr.trans hD,_,hr.results h1.fit h2,i,hi,by rw [hv],hsp _ h2⟩
 cases e with
 | normal=>exact key h3.1 h3.2
 | ret=>exact key h3.1 h3.2
 | _=>exact h3.elim
end
end Go.Proofs.YtpmdhkjbhjgoaaaGreatDoorK


/-
  The walk's rules: ways out of a piece of code; pointers against nil; maps; stores into rows; a slice's beginning; methods of an interface's value.
-/
namespace Go.Proofs.YtpmdhkjbhjgoaaaGreatDoorK
open Go.RowKit
section
variable {K : Env → List Deferred → List Res → Prop} {Q : Post} {E : Env} {D : List Deferred} {H : List Res} {id i : Nat}
theorem thn_n (h:K E D H):thn K Q .normal E D H:=h
theorem thn_r (h:Q .ret E D H):thn K Q .ret E D H:=h
theorem thn_x (h:Q (.exit i) E D H):thn K Q (.exit i) E D H:=h
theorem blk_n (h:Q .normal E D H):inBlk id Q .normal E D H:=h
theorem blk_r (h:Q .ret E D H):inBlk id Q .ret E D H:=h
theorem blk_x (h:Q .normal E D H):inBlk id Q (.exit id) E D H:=by
 show (bif Nat.beq id id then Q .normal E D H else Q (.exit id) E D H)
 rw [Nat.beq_refl];exact h
theorem fin_r {P:Program}{rs:List ResultVar}{R:Value→List Res→Prop}(h:D=[]∧∃ vs,ResL P E H rs vs∧R (resVal vs) H):fin P rs R .ret E D H:=h
end
section
variable {c : Cx} {N : Md c} {M : Me c} {d : Nat} {ty : TypeId} {pos : String} {af : Array Edge} {rest : List Oper} {E : Env} {D : List Deferred} {H H' H'' : List Res} {v : Value} {x y z : Operand} {k : IntKind} {t t' : TypeId}
variable {B : Base} {w w' : World} {Φ Φ' Φ'' Ψ : List Res} {P : Program}
section
variable {κ β : Type} [DecidableEq κ] {enc : κ → Value} {ev : β → Value} {kd : TypeDesc}
end
end
end Go.Proofs.YtpmdhkjbhjgoaaaGreatDoorK


/-
  The walk's rules: stores into rows, a row's beginning, methods of an interface's value, other operations.
-/
namespace Go.Proofs.YtpmdhkjbhjgoaaaGreatDoorK
open Go.RowKit
section
variable {c : Cx} {N : Md c} {M : Me c} {d : Nat} {ty : TypeId} {pos : String} {af : Array Edge} {rest : List Oper} {E : Env} {D : List Deferred} {H H' H'' : List Res} {v : Value} {x y z : Operand} {k : IntKind} {t t' : TypeId}
variable {B : Base} {w w' : World} {Φ Φ' Φ'' Ψ : List Res} {P : Program}

end
end Go.Proofs.YtpmdhkjbhjgoaaaGreatDoorK


/-
  A region that draws its order, once more: what is copied out of slots at any time; what only looks, in some order; then the others, one behind the other.
-/
namespace Go.Proofs.YtpmdhkjbhjgoaaaGreatDoorK
open Go.RowKit
section
variable {P : Program} {ops : Array Oper} {md : Region.Mode} {w : World}
end
section
variable {c : Cx} {Q : Post} {E E' : Env} {D : List Deferred} {H : List Res}
end
end Go.Proofs.YtpmdhkjbhjgoaaaGreatDoorK


/-
  A region that draws its order, with a new variable that waits for nothing amid what only looks: it may be drawn at any time ahead of the store.
-/
namespace Go.Proofs.YtpmdhkjbhjgoaaaGreatDoorK
open Go.RowKit
section
def Stab (P:Program) {α:Type}(s:Sem α):Prop:=∀ (w:World) (o:Obj) (v:α) (w':World),s.run P w=.ok v w'→w'=w∧s.run P (w.alloc o)=.ok v (w.alloc o)
variable {P : Program}
theorem Stab.pure {α:Type}(a:α):Stab P (Pure.pure a:Sem α):=fun w o v w' h=>by
 simp only [Sem.run_pure,Result.ok.injEq] at h ⊢
 exact ⟨h.2.symm,h.1,trivial⟩
theorem Stab.halt {α:Type}(x:Halt):Stab P (Sem.halt x:Sem α):=fun w o v w' h=>by
 simp [Sem.run] at h
theorem Stab.bind {α β:Type}{s:Sem α}{f:α→Sem β}(h:Stab P s) (hf:∀ a,Stab P (f a)):Stab P (s >>= f):=fun w o v w' hr=>by
 rw [Sem.run_bind] at hr ⊢
 cases hs:s.run P w with
 | halt x w1=>rw [hs] at hr;simp [Result.andThen] at hr
 | ok a w1=>
  rw [hs,Result.andThen_ok] at hr
  obtain ⟨rfl,h2⟩:=h w o a w1 hs
  rw [h2,Result.andThen_ok]
  exact hf a _ o v w' hr
theorem alloc_old (w:World) (o:Obj) {b:Nat}{x:Obj}(h:w.heap[b]?=some x):(w.alloc o).heap[b]?=some x:=by
 have hb:b<w.heap.size:=(Array.getElem?_eq_some_iff.1 h).1
 show (w.heap.push o)[b]?=_
 rw [Array.getElem?_push_lt hb,← h,Array.getElem?_eq_getElem hb]
theorem seen_none {p:Program}{w:World}{a:Addr}{u:TypeId}{k:Addr}{at_:Bool}(h:w.heap[a.block]?=none) {r} : w.seen p a u k at_≠.ok r:=by
 unfold World.seen
 rw [h]
 intro hr
 simp only [bind,Except.bind,throw,throwThe,MonadExceptOf.throw,pure,Except.pure] at hr
 repeat' split at hr
 all_goals first | cases hr | skip
 all_goals (repeat' split at hr) 
 all_goals first | cases hr | skip
theorem viewLoad_alloc {p:Program}{w:World}{a:Addr}{u:TypeId}{k:Addr}{at_:Bool}{r} (h:w.viewLoad p a u k at_=.ok r) (o:Obj):(w.alloc o).viewLoad p a u k at_=.ok r:=by
 cases hb:w.heap[a.block]? with
 | none=>
  unfold World.viewLoad at h
  cases hs:w.seen p a u k at_ with
  | ok x=>exact (seen_none hb hs).elim
  | error e=>rw [hs] at h;simp [bind,Except.bind] at h
 | some x=>
  rw [← h]
  unfold World.viewLoad World.seen
  rw [alloc_old w o hb,hb]
theorem Stab.load (a:Addr):Stab P (Go.load a):=fun w o v w' h=>by
 simp only [Go.load,Sem.run] at h ⊢
 cases hc:w.cell? a with
 | some u=>
  rw [hc] at h
  simp only [Result.ok.injEq] at h
  obtain ⟨rfl,rfl⟩:=h
  have:(w.alloc o).cell? a=some u:=by
   unfold World.cell? at hc ⊢
   cases hb:w.heap[a.block]? with
   | none=>rw [hb] at hc;cases hc
   | some x=>rw [alloc_old w o hb];rw [hb] at hc;exact hc
  rw [this]
  exact ⟨rfl,rfl⟩
 | none=>
  rw [hc] at h
  simp only [] at h
  split at h
  · rename_i v1 l1 hf
    simp only [Sem.run,Result.ok.injEq] at h
    obtain ⟨rfl,rfl⟩:=h
    unfold World.farLoad at hf
    cases hb:w.heap[a.block]? with
    | none=>rw [hb] at hf;cases hf
    | some x=>
     have hc':(w.alloc o).cell? a=none:=by
      unfold World.cell? at hc ⊢
      rw [alloc_old w o hb];rw [hb] at hc;exact hc
     rw [hc']
     refine ⟨rfl,?_⟩
     have hf':(w.alloc o).farLoad P a (Mode.plain == .atomic)=.ok (v1,l1):=by
      unfold World.farLoad
      rw [alloc_old w o hb]
      rw [hb] at hf
      cases x with
      | view at1 u=>
       simp only [] at hf ⊢
       cases hvl:w.viewLoad P at1 u a (Mode.plain == .atomic) with
       | ok r=>rw [viewLoad_alloc hvl o];rw [hvl] at hf;exact hf
       | error e=>rw [hvl] at hf;cases hf
      | _=>simp at hf
     rw [hf']
  · cases h
theorem Stab.program:Stab P Go.program:=fun w o v w' h=>by
 simp only [Go.program,Sem.run,Result.ok.injEq] at h ⊢
 exact ⟨h.2.symm,h.1,trivial⟩
theorem Stab.stuck {α:Type}(s:String):Stab P (Go.stuck s:Sem α):=Stab.halt _
theorem Stab.unsupported {α:Type}(s:Unsupported):Stab P (Go.unsupported s:Sem α):=Stab.halt _
theorem Stab.never {α:Type}{s:Sem α}(h:∀ w v w',s.run P w≠.ok v w'):Stab P s:=fun w o v w' hr=>(h w v w' hr).elim
theorem Stab.typeInfo (t:TypeId):Stab P (Go.typeInfo t):=by
 unfold Go.typeInfo
 refine .bind .program fun p=>?_
 split
 · exact .pure _
 · exact .stuck _
theorem Stab.underlying (t:TypeId):Stab P (Go.underlying t):=by
 unfold Go.underlying
 refine .bind .program fun p=>?_
 split
 · exact .pure _
 · exact .stuck _
theorem Stab.sizeOf (t:TypeId):Stab P (Go.sizeOf t):=.bind (.typeInfo t) fun _=>.pure _
theorem Stab.isAgg (t:TypeId):Stab P (Go.isAgg t):=by
 unfold Go.isAgg
 refine .bind (.underlying t) fun p=>?_
 split <;> exact .pure _
theorem Stab.loadCellsFrom (a:Addr):∀ (n i:Nat) (acc:Array Value),Stab P (Go.loadCellsFrom a i n acc)
 | 0,_,_=>.pure _
 | n+1,i,acc=>.bind (.load _) fun _=>Stab.loadCellsFrom a n _ _
theorem Stab.loadVar (t:TypeId) (a:Addr):Stab P (Go.loadVar t a):=by
 unfold Go.loadVar
 refine .bind (.isAgg t) fun b=>?_
 split
 · exact .bind (.sizeOf t) fun n=>.bind (.loadCellsFrom a _ _ _) fun _=>.pure _
 · exact .load _
theorem Stab.sureAddr (v:Value):Stab P (Instr.sureAddr v):=by
 unfold Instr.sureAddr
 split
 · exact .pure _
 · exact .stuck _
theorem Stab.asIntOf (v:Value):Stab P (Go.asIntOf v):=by
 unfold Go.asIntOf
 split
 · exact .pure _
 · exact .unsupported _
 · exact .stuck _
theorem runtimePanic_bounds {α:Type}(x y:Int) (s:Bool) (c:BoundsCode) (w:World) (v:α) (w':World):(Go.runtimePanic (.bounds x y s c):Sem α).run P w≠.ok v w':=by
 simp [Go.runtimePanic,Go.program,Sem.run,Sem.run_bind,goPanic,Result.andThen]
theorem never_bind {α β:Type}{s:Sem α}{f:α→Sem β}(hf:∀ a w v w',(f a).run P w≠.ok v w') (w:World) (v:β) (w':World):(s >>= f).run P w≠.ok v w':=by
 rw [Sem.run_bind]
 cases s.run P w with
 | halt x w1=>simp [Result.andThen]
 | ok a w1=>exact hf a w1 v w'
theorem Stab.boundsPanic {α:Type}(k:IntKind) (x y:Int) (c:BoundsCode):Stab P (Go.boundsPanic k x y c:Sem α):=.never fun w v w'=>by
 unfold Go.boundsPanic
 split
 · exact never_bind (fun a w v w'=>runtimePanic_bounds _ _ _ _ _ _ _) w v w'
 · exact never_bind (fun a w v w'=>runtimePanic_bounds _ _ _ _ _ _ _) w v w'
theorem Stab.indexAt (t:TypeId) (x i:Value):Stab P (Instr.indexAt t x i):=by
 unfold Instr.indexAt
 repeat' (first | exact Stab.pure _ | exact Stab.stuck _ | exact Stab.unsupported _ | exact Stab.boundsPanic _ _ _ _ | exact Stab.sizeOf _ | exact Stab.underlying _ | exact Stab.sureAddr _ | exact Stab.asIntOf _ | exact Stab.loadVar _ _ | exact Stab.typeInfo _ | refine Stab.bind ?_ (fun _=>?_) | split | dsimp only)
theorem Stab.loadAt (t:TypeId) (x:Value):Stab P (Instr.loadAt t x):=by
 unfold Instr.loadAt
 repeat' (first | exact Stab.pure _ | exact Stab.stuck _ | exact Stab.unsupported _ | exact Stab.boundsPanic _ _ _ _ | exact Stab.sizeOf _ | exact Stab.underlying _ | exact Stab.sureAddr _ | exact Stab.asIntOf _ | exact Stab.loadVar _ _ | exact Stab.typeInfo _ | refine Stab.bind ?_ (fun _=>?_) | split | dsimp only)
theorem Stab.extract (t:Value) (i:Nat):Stab P (Instr.extract t i):=by
 unfold Instr.extract
 repeat' (first | exact Stab.pure _ | exact Stab.stuck _ | exact Stab.unsupported _ | exact Stab.boundsPanic _ _ _ _ | exact Stab.sizeOf _ | exact Stab.underlying _ | exact Stab.sureAddr _ | exact Stab.asIntOf _ | exact Stab.loadVar _ _ | exact Stab.typeInfo _ | refine Stab.bind ?_ (fun _=>?_) | split | dsimp only)
def fieldB (P:Program) (s:TypeId) (j:Nat):Bool:=match P.underlying s with
  | some (.struct fs)=>match fs[j]? with
    | some f=>match P.info? f.type with
      | some i=>!(Nat.beq i.size 0)
      | none=>false
    | none=>false
  | _=>false
theorem Stab.fieldAt {s:TypeId}{j:Nat}(h:fieldB P s j=true) (x:Value):Stab P (Instr.fieldAt s x j):=by
 intro w o v w'
 unfold fieldB at h
 split at h
 · rename_i fs hu
   split at h
   · rename_i f hf
     split at h
     · rename_i i hi
       have hsz:i.size≠0:=by intro h0;rw [h0] at h;simp at h
       cases x with
       | pointer a=>
        cases a with
        | none=>simp [Instr.fieldAt,run_underlying hu,hf,Instr.sureAddr,stuck,Sem.run,Result.andThen,Sem.run_bind]
        | some a=>
         simp [Instr.fieldAt,run_underlying hu,hf,Instr.sureAddr,fieldPlace,Go.sizeOf,Go.typeInfo,hi,hsz]
         rintro rfl rfl;exact ⟨rfl,rfl⟩
       | _=>simp [Instr.fieldAt,run_underlying hu,hf,Instr.sureAddr,stuck,Sem.run,Result.andThen,Sem.run_bind]
     · cases h
   · cases h
 · cases h
end
section
variable {P : Program} {ops ops' : Array Oper} {md : Region.Mode} {w w1 : World} {n dn g : Nat} {on : Oper} {v : Value} {Q' : Exit → Act → World → Prop}
end
section
variable {c : Cx} {Q : Post} {E E' : Env} {D : List Deferred} {H : List Res}
end
end Go.Proofs.YtpmdhkjbhjgoaaaGreatDoorK


/-
  Rows that are only read from now on; calls that read what the walk owns.
-/
namespace Go.Proofs.YtpmdhkjbhjgoaaaGreatDoorK
open Go.RowKit
section
variable {c : Cx} {N : Md c} {M : Me c} {d : Nat} {ty : TypeId} {pos : String} {af : Array Edge} {rest : List Oper} {E : Env} {D : List Deferred} {H H' H'' : List Res} {v : Value} {x y z : Operand} {k : IntKind} {t t' : TypeId}
variable {B : Base} {w w' : World} {Φ Φ' Φ'' Ψ : List Res} {P : Program} {α : Type} {kd : Kd α} {W : World} {S : Nat → Prop} {A : Option Addr} {xs : List α}

theorem frame' {ι:Type}{inv:ι→Prop}{val:ι→Value}{post:ι→List Res}{g:FuncId}{args:Array Value}(hS:St B Φ w) (hs:Split Φ Ψ Φ') (h:∀ B',Grow B.e B'.e→(∀ r Φ'',Pick Φ' r Φ''→r.q B'.e)→St B' Ψ w→CallsIn Fence.wide 0 P g args w (Ret B' inv val post)) :
 CallsIn Fence.wide 0 P g args w (Ret B inv val (fun i=>post i++Φ')):=by
 have hS':=hS.perm hs.perm
 refine (h (B.call w Ψ) hS'.egrow (fun r Φ'' hp=>?_) hS'.lend).mono ?_
 · obtain ⟨h1,h2⟩:=(Sep.all _ _ _).1 hS'.sep
   refine r.st w _ (h1 r (List.mem_append_right _ hp.mem)).1 (fun k hk=>?_)
   rw [Base.e_heap,if_neg]
   · rfl
   · rintro ⟨s,hs,hsk⟩
     exact (List.pairwise_append.1 h2).2.2 s hs r hp.mem k hsk hk
 · rintro e w' ⟨i,hi,he,hw⟩
   exact ⟨i,hi,he,hS'.give hw⟩
def rdr (W:World) (S:Nat→Prop) (kd:Kd α) (A:Option Addr) (xs:List α):Res where
  fp:=S
  q w:=(∀ k,S k→k<w.heap.size)∧∀ w',Grow W w'→(∀ k,S k→w'.heap[k]?=w.heap[k]?)→kd.C w' A xs
  inb w h k hk:=h.1 k hk
  st w w' h hk:=⟨fun k hs=>by
    have h1:=h.1 k hs
    have h2:=hk k hs
    rw [Array.getElem?_eq_getElem h1] at h2
    exact (Array.getElem?_eq_some_iff.1 h2).1,fun w2 g h2=>h.2 w2 g (fun k hs=>(h2 k hs).trans (hk k hs))⟩
theorem rdr_C (h:(rdr W S kd A xs).q w) (g:Grow W w):kd.C w A xs:=h.2 w g (fun _ _=>rfl)
@[irreducible] def elx (a:Addr) (i s k:Nat):Addr:=a.add (i * s+k)
theorem elx_add (a:Addr) (i s k j:Nat):(elx a i s k).add j=elx a i s (k+j):=by unfold elx;rw [Addr.add_add,Nat.add_assoc]
theorem oIdxD {n cp i s:Nat}{e':TypeId}(hx:E.op x=some (.slice A n cp)) (hy:E.op y=some (.int k (i:Int))) (hp:Pick H (rdr c.B.e S kd A xs) H') (hn:xs.length=n) (hi:i<n) (ht:elemT c.P t=some (e',s)) (hsz:kd.sz=s)
 (h:∀ g,A=some g→O N rest ((d,.pointer (some (elx g i s 0))) :: E) D H) (hN:Nat.blt d c.N=true:=by rfl):O N (⟨some d,.indexAddr t x y,ty,pos,af,none⟩ :: rest) E D H:=by
 intro a w ha hw
 subst hsz hn
 obtain ⟨_,hC⟩:=rdr_C (hw.get hp) (Base.grow hw.ok)
 obtain ⟨ad,rfl,hc⟩:=hC (by omega)
 refine oC (.pointer (some (elx ad i kd.sz 0))) rfl hN (fun u w ha hw=>?_) (h ad rfl) a w ha hw
 have e1:elx ad i kd.sz 0=ad.add (i * kd.sz):=by unfold elx;rfl
 simp [execOp,ha.op hx,ha.op hy,run_indexAt ht ad _ cp i hi k w,e1]
theorem oLdD {g:Addr}{i j s:Nat}(hx:E.op x=some (.pointer (some (elx g i s j)))) (hp:Pick H (rdr c.B.e S kd A xs) H') (hA:A=some g) (hi:i<xs.length) (hsz:kd.sz=s) (hs:scalT c.P t=true)
 (h:∀ u cs,xs[i]?=some u→(∃ w,kd.K w u cs)→∃ v,cs[j]?=some v∧O N rest ((d,v) :: E) D H) (hN:Nat.blt d c.N=true:=by rfl):O N (⟨some d,.load t x,ty,pos,af,none⟩ :: rest) E D H:=by
 intro a w ha hw
 subst hsz hA
 obtain ⟨_,hC⟩:=rdr_C (hw.get hp) (Base.grow hw.ok)
 obtain ⟨ad,e,hc⟩:=hC (by omega)
 injection e with e
 subst e
 obtain ⟨cs,hK,hcell⟩:=hc i _ (List.getElem?_eq_getElem hi)
 obtain ⟨v,hv,hO⟩:=h _ cs (List.getElem?_eq_getElem hi) ⟨w,hK⟩
 have hc1:=hcell j v hv
 refine N.calm _ _ _ _ v rfl rfl ?_ (hO _ _ (ha.put hN) hw)
 have e1:elx g i kd.sz j=g.add (i * kd.sz+j):=by unfold elx;rfl
 simp [execOp,ha.fit.op hx,Instr.loadAt,Instr.sureAddr,loadVar,run_isAgg_s hs,e1,hc1]
theorem oSliceFrom {n cp m s:Nat}{e':TypeId}(hx:E.op x=some (.slice A n cp)) (hy:E.op y=some (.int k (m:Int))) (hp:Pick H (rdr c.B.e S kd A xs) H') (hn:xs.length=n) (hm:m≤n) (hnc:n≤cp) (ht:elemT c.P t=some (e',s)) (hsz:kd.sz=s)
 (h:∀ A' cp',n-m≤cp'→O M.toMd rest ((d,.slice A' (n-m) cp') :: E) D (rdr c.B.e S kd A' (xs.drop m) :: H')) (hN:Nat.blt d c.N=true:=by rfl):O M.toMd (⟨some d,.slice t x (some y) none none,ty,pos,af,none⟩ :: rest) E D H:=
 oEff rfl hN fun a w ha hw=>by
  subst hsz hn
  obtain ⟨h1,inf,h2,h3⟩:=run_elemT ht
  refine ⟨.slice (if cp=m then A else A.map (·.add (m * kd.sz))) (xs.length-m) (cp-m),w,_,?_,?_,h _ _ (by omega)⟩
  · simp [execOp,ha.op hx,ha.op hy,Instr.sliceAt,Instr.slice,run_underlying h1,Instr.sliceBounds,Instr.sliceBound,asIntOf,hm,sizeOf,typeInfo,h2,h3]
  · refine hw.upd' hp (Chg.refl _ _) ⟨fun k hk=>(hw.get hp).1 k hk,fun w' g hs=>?_⟩ (fun k hk=>.inl hk)
    obtain ⟨hl,hC⟩:=(hw.get hp).2 w' g hs
    refine ⟨by rw [List.length_drop];omega,fun h0=>?_⟩
    rw [List.length_drop] at h0
    obtain ⟨ad,rfl,hc⟩:=hC (by omega)
    refine ⟨ad.add (m * kd.sz),by rw [if_neg (by omega)];rfl,fun j u hj=>?_⟩
    rw [List.getElem?_drop] at hj
    obtain ⟨cs,hK,hcell⟩:=hc (m+j) u hj
    refine ⟨cs,hK,fun i v hv=>?_⟩
    rw [Addr.add_add,show m * kd.sz+(j * kd.sz+i)=(m+j) * kd.sz+i by rw [Nat.add_mul];omega]
    exact hcell i v hv
theorem oRoom {W0:World}{e:TypeId}{n cp:Nat}(hp:Pick H (row kd W0 e (.slice A n cp) xs) H') (h:n=xs.length→n≤cp→O N rest E D H):O N rest E D H:=fun a w ha hw=>by
 obtain ⟨cs,⟨hl,ho⟩,hr⟩:(row kd W0 e (.slice A n cp) xs).q w:=hw.get hp
 rcases ho with ⟨e1,e2⟩ | ⟨b,cap,cur,e1,_,hh,h1,h2,h3,h4⟩
 · injection e1 with e1 e3 e4
   exact h (by omega) (by omega) a w ha hw
 · injection e1 with e1 e3 e4
   exact h (by omega) (by omega) a w ha hw
end
end Go.Proofs.YtpmdhkjbhjgoaaaGreatDoorK


/-
  What came in, opened by its kind: a reading of an argument's cells gives a value of the kind, and what is well-formed of it.
-/
namespace Go.Proofs.YtpmdhkjbhjgoaaaGreatDoorK
open Go.RowKit Go.ChangeShapes Go.WideShapes
variable {P : Program}

structure Opens (P:Program) (t:TypeId) {α:Type}(d:Kd α) (V:α→Prop):Prop where
  get:∀ {H:Type}(enc:TypeId×Value→H) (w:World) (base:Nat) (held:Bool) (fuel:Nat) (cs:List Value) (x:DataW H×List MemPlace),DataW.trod enc P w base (fun _=>true) held fuel t cs=some x→∃ a,d.K w a cs∧V a

theorem Opens.weak {t:TypeId}{α:Type}{d:Kd α}{V V':α→Prop}(h:Opens P t d V) (hv:∀ a,V a→V' a):Opens P t d V':=⟨fun enc w base held fuel cs x hx=>by
 obtain ⟨a,hK,hV⟩:=h.get enc w base held fuel cs x hx
 exact ⟨a,hK,hv a hV⟩⟩
theorem opens_int {t:TypeId}{k:IntKind}(ht:P.underlying t=some (.int k)):Opens P t (Kd.int k) (fun n=>(Lit.int k n).wf=true):=by
 constructor
 intro H enc w base held fuel cs x h
 cases fuel with
 | zero=>simp [DataW.trod] at h
 | succ n=>
  unfold DataW.trod at h
  rw [ht] at h
  split at h <;> simp_all
  rename_i k' n' _
  obtain ⟨⟨rfl,hw⟩,_⟩:=h
  exact ⟨n',rfl,hw⟩
theorem opens_i64 {t:TypeId}(ht:P.underlying t=some (.int .i64)):Opens P t (Kd.int .i64) in64:=(opens_int ht).weak (fun n h=>by
 simp only [Lit.wf,Bool.and_eq_true,decide_eq_true_eq] at h
 exact ⟨h.1,h.2⟩)
structure OpensF (P:Program) (fs:List Field) (o tot:Nat) {α:Type}(d:Kd α) (V:α→Prop):Prop where
  get:∀ {H:Type}(enc:TypeId×Value→H) (w:World) (base:Nat) (held:Bool) (fuel:Nat) (cs:List Value),cs.length=tot→
    (∀ f ∈ fs,∃ x,DataW.trod enc P w base (fun _=>true) held fuel f.type ((cs.drop f.offset).take (P.cellsOf f.type))=some x)→∃ a,d.K w a (cs.drop o)∧V a
theorem opensF_one {f:Field}{o tot:Nat}{α:Type}{d:Kd α}{V:α→Prop}(h:Opens P f.type d V) (ho:f.offset=o) (ht:o+P.cellsOf f.type=tot):OpensF P [f] o tot d V:=by
 constructor
 intro H enc w base held fuel cs hl hf
 obtain ⟨x,hx⟩:=hf f (by simp)
 rw [ho,List.take_of_length_le (by simp;omega)] at hx
 exact h.get enc w base held fuel _ x hx
theorem opensF_cons {f:Field}{fs:List Field}{o tot:Nat}{α β:Type}{d:Kd α}{V:α→Prop}{d':Kd β}{V':β→Prop}(h:Opens P f.type d V) (ho:f.offset=o) (hs:OpensF P fs (o+P.cellsOf f.type) tot d' V') :
 OpensF P (f :: fs) o tot (Kd.pair d d') (fun p=>V p.1∧V' p.2):=by
 constructor
 intro H enc w base held fuel cs hl hf
 obtain ⟨x,hx⟩:=hf f (by simp)
 obtain ⟨a,hK,hV⟩:=h.get enc w base held fuel _ x hx
 obtain ⟨b,hK',hV'⟩:=hs.get enc w base held fuel cs hl (fun g hg=>hf g (List.mem_cons_of_mem _ hg))
 refine ⟨(a,b),⟨_,_,?_,hK,hK'⟩,hV,hV'⟩
 rw [ho,← List.drop_drop,List.take_append_drop]
theorem opens_struct {t:TypeId}{fs:Array Field}{α β:Type}{d:Kd α}{V:α→Prop}{g:β→α}(b:α→β) (hb:∀ a,g (b a)=a) (ht:P.underlying t=some (.struct fs)) (h:OpensF P fs.toList 0 (P.cellsOf t) d V):Opens P t (Kd.iso d g) (fun x=>V (g x)):=by
 constructor
 intro H enc w base held fuel cs x hx
 obtain ⟨xs,m,_,rfl,hl,hlen,hf⟩:=DataW.trod_struct ht hx
 obtain ⟨a,hK,hV⟩:=h.get enc w base held m cs hl (fun f hfm=>by
  obtain ⟨i,hi⟩:=List.getElem?_of_mem hfm
  have h1:=hf i f (by simpa using hi)
  have hlt:i<xs.length:=by
   have:=(List.getElem?_eq_some_iff.1 hi).1
   rw [hlen];simpa using this
  rw [List.getElem?_eq_getElem hlt] at h1
  exact ⟨_,h1⟩)
 exact ⟨b a,by show d.K w (g (b a)) cs;rw [hb];exact hK,by show V (g (b a));rw [hb];exact hV⟩
theorem law_of {P:Program}{f:FuncId}{args:Array Value}{W:World}(h:CallsIn Fence.wide 0 P f args W (Ret (Base.at W) (fun _:Unit=>True) (fun _=>.bool true) (fun _=>[]))):Calls P f args W (fun e w'=>e=.returned (.bool true)∧Below W.heap.size W w'):=
 Calls.mono (callsIn_wide.1 h) (by rintro e w' ⟨_,_,rfl,hS⟩;exact ⟨rfl,Base.at_below hS.ok⟩)
end Go.Proofs.YtpmdhkjbhjgoaaaGreatDoorK
namespace Go.Proofs.YtpmdhkjbhjgoaaaGreatDoorK
open Go.RowKit
/-! ### said short -/
theorem J {α:Sort _}{a:α} : a=a:=rfl
theorem ZP {P:Prop}(h:P:=by repeat constructor):P:=h
theorem ZQ {P:Prop}(h:P:=by repeat' constructor):P:=h
theorem ZK {P:Prop}(h:P:=by kernel_rfl):P:=h
theorem ZO {P:Prop}(h:P:=by omega):P:=h
theorem cv {E E':Env}(h:Cov E E':=by repeat (first | exact trivial | refine And.intro rfl ?_)):Cov E E':=h
theorem Lh {B:Base}{H H':List Res}(h:Has H H':=by repeat' constructor):Leads B H H':=Leads.has h
theorem wC {P Q1 Q0:Prop}(k1:Q1) (k0:Q0) (h:Q1→Q0→P:=by intro a b;first | exact wCond rfl a b | exact wCondB rfl a b):P:=h k1 k0
theorem fi1 {P:Program}{E:Env}{H:List Res}{t:Tmp}{v:Value}{K:List Value→Prop}(h:E.find t=some v) (k:K [v]):([]:List Deferred)=[]∧∃ vs,ResL P E H [.tmp t] vs∧K vs:=⟨rfl,_,.cons (.tmp h) .nil,k⟩
theorem ZI {P Q:Prop}(k:Q) (h:Q→P:=by intro a;exact ⟨rfl,_,(ResL.cons (by first | exact ResR.cell rfl (by repeat constructor) rfl | exact ResR.agg rfl (by repeat constructor) rfl rfl) ResL.nil),a⟩):P:=h k
theorem ZI2 {P Q:Prop}(k:Q) (h:Q→P:=by intro a;exact ⟨rfl,_,(ResL.cons (by first | exact ResR.cell rfl (by repeat constructor) rfl | exact ResR.agg rfl (by repeat constructor) rfl rfl) (ResL.cons (ResR.tmp rfl) ResL.nil)),a⟩):P:=h k
theorem ZX {F S P Q:Prop}(f:F) (s:S) (k:Q) (h:F→S→Q→P:=by intro f s a;refine enter f rfl rfl s ?_;simp only [List.zipIdx_cons,List.zipIdx_nil,List.map_cons,List.map_nil,Nat.reduceAdd,Nat.zero_add];exact a):P:=h f s k
theorem Zld {P Q:Prop}(k:Q) (h:Q→P:=by intro a;exact oLd rfl (by repeat constructor) rfl rfl a):P:=h k
theorem Zla {P Q:Prop}(k:Q) (h:Q→P:=by intro a;exact oLdA rfl (by repeat constructor) rfl (by repeat constructor) a):P:=h k
theorem Zst {P Q:Prop}(k:Q) (h:Q→P:=by intro a;exact oSt rfl rfl rfl rfl rfl (by repeat constructor) (by repeat constructor) a):P:=h k
theorem Zsa {P Q:Prop}(k:Q) (h:Q→P:=by intro a;exact oStA rfl rfl rfl rfl (by repeat constructor) (by rfl) a):P:=h k
theorem Zsu {P Q:Prop}(k:Q) (h:Q→P:=by intro a;exact oSucc rfl rfl (by omega) a):P:=h k
theorem Zfi {P Q:Prop}(k:Q) (h:Q→P:=by intro a;first | exact oField rfl rfl rfl (by repeat constructor) a | exact oFieldA rfl rfl rfl (by repeat constructor) a):P:=h k
theorem Zno {P Q:Prop}(k:Q) (h:Q→P:=by intro a;first | exact oNot rfl a | exact oNotB rfl a):P:=h k
theorem Zlx {P Q S:Prop}(c:S) (k:Q) (h:S→Q→P:=by intro c a;first | exact oLdX rfl c rfl rfl a | exact oLdXA rfl c rfl (by repeat constructor) a):P:=h c k
structure TT (n:Nat):Prop where
  mk ::
theorem ZT (n:Nat):TT n:=⟨⟩
section
variable {c : Cx} {M : Md c} {l : List Oper} {E : Env} {D : List Deferred} {H : List Res}
theorem oSplitT {t:Nat}{p:Prop} [Decidable p] (_:TT t) (hf:E.find t=some (.bool (decide p))) (k1:p→O M l ((t,.bool true) :: E) D H) (k0:¬ p→O M l ((t,.bool false) :: E) D H):O M l E D H:=oSplit hf k1 k0
theorem oSplitBT {t:Nat}{p:Bool}(_:TT t) (hf:E.find t=some (.bool p)) (k1:p=true→O M l ((t,.bool true) :: E) D H) (k0:p=false→O M l ((t,.bool false) :: E) D H):O M l E D H:=oSplitB hf k1 k0
end
theorem ZS {P T Q1 Q0:Prop}(t:T) (k1:Q1) (k0:Q0) (h:T→Q1→Q0→P:=by intro t a b;first | exact oSplitT t rfl a b | exact oSplitBT t rfl a b):P:=h t k1 k0
theorem ZY {P Q S:Prop}(x:S) (k:Q) (h:S→Q→P:=by intro x a;first | exact wCondT rfl a | exact wCondTd x rfl a | exact wCondTb x rfl a | exact wCondF rfl a | exact wCondFd x rfl a | exact wCondFb x rfl a):P:=h x k
section
variable {c : Cx} {M : Me c} {d : Nat} {ty : TypeId} {pos : String} {af : Array Edge} {rest : List Oper} {E : Env} {D : List Deferred} {H Ψ Φ' : List Res}
theorem ZC {ι:Type}{inv:ι→Prop}{val:ι→Value}{post:ι→List Res}{args:Array Operand}{ats:Array TypeId}{g:FuncId}{vs:List Value}
 (hargs:E.ops args.toList=some vs) (hs:Split H Ψ Φ') (hc:∀ w B',Grow c.B.e B'.e→St B' Ψ w→CallsIn Fence.wide 0 c.P g vs.toArray w (Ret B' inv val post)) (h:∀ i,inv i→O M.toMd rest ((d,val i) :: E) D (post i++Φ'))
 (hg:goodF c.P g=true:=by kernel_rfl) (hN:Nat.blt d c.N=true:=by rfl) :
 O M.toMd (⟨some d,.call { callee:=.value (.func g),args:=args,argTypes:=ats },ty,pos,af,none⟩ :: rest) E D H:=
 oCall hargs hg (fun w hS=>frame hS hs (fun B' hB hS'=>hc w B' hB hS')) h hN
theorem ZD {ι:Type}{inv:ι→Prop}{val:ι→Value}{post:ι→List Res}{args:Array Operand}{ats:Array TypeId}{g:FuncId}{vs:List Value}
 (hargs:E.ops args.toList=some vs) (hc:∀ w B',Grow c.B.e B'.e→(∀ r Φ'',Pick H r Φ''→r.q B'.e)→St B' [] w→CallsIn Fence.wide 0 c.P g vs.toArray w (Ret B' inv val post)) (h:∀ i,inv i→O M.toMd rest ((d,val i) :: E) D (post i++H))
 (hg:goodF c.P g=true:=by kernel_rfl) (hN:Nat.blt d c.N=true:=by rfl) :
 O M.toMd (⟨some d,.call { callee:=.value (.func g),args:=args,argTypes:=ats },ty,pos,af,none⟩ :: rest) E D H:=
 oCall hargs hg (fun w hS=>frame' hS .nil (fun B' hB hR hS'=>hc w B' hB hR hS')) h hN
end
section
variable {c : Cx} {M : Md c} {d : Nat} {ty t : TypeId} {pos : String} {af : Array Edge} {rest : List Oper} {E : Env} {D : List Deferred} {H : List Res} {x : Operand}
end
theorem ZF {P T1 T2 Q:Prop}(n:T1) (m:T2) (k:Q) (h:T1→T2→Q→P:=by intro n m a;first | exact zFX n m a | exact zFR n m a | exact zFD n m a):P:=h n m k
def Za:=@thn_n
def Zb:=@thn_x
def Zc:=@thn_r
def Zd:=@blk_n
def Ze:=@blk_x
def Zf:=@blk_r
def Zh:=@wSeq
def Zi:=@wRegion'
def Zj:=@wSkip
def Zk:=@wBlock
def Zl:=@wRet
def Zm:=@wExit
def Zn:=@oNil
def Zo:=@oMove
def Zp:=@oAssign
def Zq:=@oWant
def Zr:=@oSkip
def Zt:=@oPickT
def Zu:=@oPickF
def Zv:=@oLenS
def Zw:=@fin_r
def Zx:=@oLss
def Zy:=@oEql
def Zz:=@oFld
def Z0:=@oNeq
def Z1:=@oGtr
def Z2:=@oGeq
def Z3:=@oPtr
def ZR:=@oIdxR
def ZC0:=@oCall
def ZR1:=@oLdR1
def ZS0:=@oSet
end Go.Proofs.YtpmdhkjbhjgoaaaGreatDoorK
/-
  A range over a function: what an iterator owes, a call of yield, the loop, and how a function with such loops is left.
-/
namespace Go.Proofs.YtpmdhkjbhjgoaaaGreatDoorK
open Go.RowKit

section
variable {B : Base} {w w' : World} {Φ Φ' Ψ Fr : List Res}
end

section
variable {c : Cx} {Q : Post} {ops : Array Oper} {d : Nat} {ty : TypeId} {pos : String} {af : Array Edge} {rest : List Oper} {E : Env} {D : List Deferred} {H H' : List Res} {f : Operand}
def Cx.round (c:Cx) (l:Nat) (B':Base):Cx:=⟨c.P,Fence.wide.inRound l,c.N,B',fun _=>trivial,rfl,fun h=>h.inRound l⟩
end
section
variable {c : Cx} {N : Md c} {d : Nat} {ty : TypeId} {pos : String} {af : Array Edge} {rest : List Oper} {E : Env} {D : List Deferred} {H : List Res}
end
section
variable {c : Cx} {Q : Post} {E : Env} {D : List Deferred} {H : List Res} {x : Code}
end
end Go.Proofs.YtpmdhkjbhjgoaaaGreatDoorK


/-
  What the walk has built, as data that are read from now on (seal); rows of raw cells; append of a whole slice.
-/
namespace Go.Proofs.YtpmdhkjbhjgoaaaGreatDoorK
open Go.RowKit
section
variable {c : Cx} {N : Md c} {M : Me c} {d : Nat} {ty : TypeId} {pos : String} {af : Array Edge} {rest : List Oper} {E : Env} {D : List Deferred} {H H' H'' : List Res} {v : Value} {x y z : Operand} {k : IntKind} {t t' : TypeId}
variable {B : Base} {w w' : World} {Φ Φ' Φ'' Ψ : List Res} {P : Program} {α : Type} {kd : Kd α} {W : World} {S : Nat → Prop} {A : Option Addr} {xs : List α}
theorem oConv (hL:Leads c.B H H') (h:O N rest E D H'):O N rest E D H:=fun a w ha hw=>h a w ha (hL w hw)
theorem Has.refl:∀ (H:List Res),Has H H
 | []=>.nil
 | r :: H=>.cons .here (Has.refl H)
theorem sealed (hs:Split Φ Ψ Φ') (h:∀ w,(∀ r Φ'',Pick Ψ r Φ''→r.q w)→Grow W w→kd.C w A xs):Leads B Φ (rdr W (fun k=>∃ r ∈ Ψ,r.fp k) kd A xs :: Φ'):=by
 intro w hS
 have hS:=hS.perm hs.perm
 obtain ⟨ok,sep⟩:=hS
 obtain ⟨h1,h2⟩:=(Sep.all _ _ _).1 sep
 obtain ⟨h3,h4,h5⟩:=List.pairwise_append.1 h2
 refine ⟨ok,(Sep.all _ _ _).2 ⟨?_,?_⟩⟩
 · intro r hr
   rcases List.mem_cons.1 hr with rfl | hr
   · refine ⟨⟨?_,fun w' g hk=>h w' (fun r Φ'' hp=>r.st w w' (h1 r (List.mem_append_left _ hp.mem)).1 (fun k hf=>hk k ⟨r,hp.mem,hf⟩)) g⟩,?_⟩
     · rintro k ⟨r,hr,hf⟩
       exact r.inb w (h1 r (List.mem_append_left _ hr)).1 k hf
     · rintro k ⟨r,hr,hf⟩
       exact (h1 r (List.mem_append_left _ hr)).2 k hf
   · exact h1 r (List.mem_append_right _ hr)
 · refine List.pairwise_cons.2 ⟨?_,h4⟩
   rintro s hs k ⟨r,hr,hf⟩
   exact h5 r hr s hs k hf
theorem oSeal (Ψ:List Res) (hs:Split H Ψ H') (hC:∀ w,(∀ r Φ'',Pick Ψ r Φ''→r.q w)→Grow W w→kd.C w A xs) (h:∀ S,O N rest E D (rdr W S kd A xs :: H')):O N rest E D H:=
 oConv (sealed hs hC) (h _)
theorem C_blk {b:Nat}{tb:TypeId}{cs:List Value}(h:(blk b tb cs).q w) (hl:xs.length≤9223372036854775807) (hc:Cat kd w xs cs):kd.C w (some ⟨b,0,none⟩) xs:=by
 refine ⟨hl,fun _=>⟨_,rfl,fun j u hj=>?_⟩⟩
 obtain ⟨a,hK,ha⟩:=hc.at j u hj
 refine ⟨a,hK,fun i v hv=>?_⟩
 rw [add_at,Nat.zero_add,cell_of h]
 exact ha i v hv
def Raws (kd:Kd α) (W:World):List α→List (List Value)→Prop
  | [],rs=>rs=[]
  | x :: xs,rs=>∃ r rest,rs=r :: rest∧kd.K W x r∧Raws kd W xs rest
theorem Raws.length:∀ {xs:List α}{rs:List (List Value)},Raws kd W xs rs→rs.length=xs.length
 | [],rs,h=>by rw [show rs=[] from h];rfl
 | x :: xs,rs,⟨r,rest,e,_,h⟩=>by rw [e,List.length_cons,List.length_cons,Raws.length h]
theorem Raws.app:∀ {xs ys:List α}{rs qs:List (List Value)},Raws kd W xs rs→Raws kd W ys qs→Raws kd W (xs++ys) (rs++qs)
 | [],ys,rs,qs,h,k=>by rw [h];exact k
 | x :: xs,ys,rs,qs,⟨r,rest,e,hK,h⟩,k=>⟨r,rest++qs,by rw [e];rfl,hK,h.app k⟩
theorem Raws.one {u:α}{r:List Value}(h:kd.K W u r):Raws kd W [u] [r]:=⟨r,[],rfl,h,rfl⟩
theorem Raws.grow (g:Grow W w):∀ {xs:List α}{rs:List (List Value)},Raws kd W xs rs→Raws kd w xs rs
 | [],rs,h=>h
 | x :: xs,rs,⟨r,rest,e,hK,h⟩=>⟨r,rest,e,kd.K_grow g hK,Raws.grow g h⟩
inductive AppL {α:Type} : List α→List α→List α→Prop
  | nil {es} : AppL [] es es
  | cons {x cs es r} : AppL cs es r→AppL (x :: cs) es (x :: r)
theorem AppL.spec {α:Type}{cs es r:List α}(h:AppL cs es r):r=cs++es:=by
 induction h with
 | nil=>rfl
 | cons _ ih=>rw [ih];rfl
inductive Fulls (s:Nat):Nat→List (Nat×Value)→List Value→Prop
  | nil {i:Nat} : Fulls s i [] []
  | cons {i:Nat}{v:Value}{cs es ds:List Value}{r:List (Nat×Value)} : CellsOf v cs→cs.length=s→Fulls s (i+1) r es→AppL cs es ds→Fulls s i ((i,v) :: r) ds
theorem putL_at {α:Type}{vs:List α} : ∀ (off:Nat) (cs:List α),off+vs.length≤cs.length→PutL cs off vs (cs.take off++vs++cs.drop (off+vs.length))
 | 0,cs,h=>by
  have key:∀ (vs cs:List α),vs.length≤cs.length→PutL cs 0 vs (vs++cs.drop vs.length):=by
   intro vs
   induction vs with
   | nil=>intro cs h;exact .done
   | cons v vs ih=>
    intro cs h
    cases cs with
    | nil=>simp at h
    | cons c cs=>exact .put (ih cs (by simpa using h))
  simpa using key vs cs (by simpa using h)
 | off+1,cs,h=>by
  cases cs with
  | nil=>simp at h
  | cons c cs=>
   have:=putL_at (vs:=vs) off cs (by simp at h;omega)
   have e:(c :: cs).take (off+1)++vs++(c :: cs).drop (off+1+vs.length)=c :: (cs.take off++vs++cs.drop (off+vs.length)):=by
    rw [List.take_succ_cons,show off+1+vs.length=(off+vs.length)+1 by omega,List.drop_succ_cons];rfl
   rw [e]
   exact .skip this
theorem Fulls.built {s:Nat} : ∀ {vs:List (Nat×Value)}{k:Nat}{es zs:List Value},Fulls s k vs es→zs.length=(k+vs.length) * s→Built (fun i=>some (i * s,s)) zs vs (zs.take (k * s)++es)∧es.length=vs.length * s
 | [],k,es,zs,h,hz=>by
  cases h
  rw [List.append_nil,List.take_of_length_le (by rw [hz];simp)]
  exact ⟨.nil,by simp⟩
 | (i,v) :: r,k,ds,zs,h,hz=>by
  cases h with
  | cons hc hl hr ha=>
   rename_i cs es
   have hz':zs.length=i * s+s+r.length * s:=by rw [hz,List.length_cons];simp [Nat.add_mul];omega
   have hp:=putL_at (vs:=cs) (i * s) zs (by rw [hz',hl];omega)
   have hln:(zs.take (i * s)++cs++zs.drop (i * s+cs.length)).length=(i+1+r.length) * s:=by
    rw [List.length_append,List.length_append,List.length_take,List.length_drop,hz',hl];simp [Nat.add_mul];omega
   obtain ⟨h1,h2⟩:=Fulls.built hr hln
   have e:(zs.take (i * s)++cs++zs.drop (i * s+cs.length)).take ((i+1) * s)=zs.take (i * s)++cs:=by
    rw [List.take_append_of_le_length (by rw [List.length_append,List.length_take,hz',hl];simp [Nat.add_mul];omega),List.take_of_length_le]
    rw [List.length_append,List.length_take,hz',hl];simp [Nat.add_mul];omega
   rw [e] at h1
   rw [ha.spec]
   refine ⟨.cons (off:=i * s) (s:=s) rfl hc hl hp (by rw [← List.append_assoc];exact h1),?_⟩
   rw [List.length_append,hl,h2,List.length_cons,Nat.succ_mul];omega
theorem oBuildSliceF {len:Nat}{ps:Array (Nat×Operand)}{vs:List (Nat×Value)}{cs:List Value}{e:TypeId}{s:Nat}{zv:Value}(hx:Parts E ps.toList vs) (ht:elemT c.P t=some (e,s)) (hz:((c.P.info? e).map (·.zero))=some (some zv))
 (hsm:Nat.ble (len * s) 16777216=true) (h0:Nat.beq (len * s) 0=false) (hv:vs.length=len) (hf:Fulls s 0 vs cs)
 (h:∀ b,O M.toMd rest ((d,.slice (some ⟨b,0,none⟩) len len) :: E) D (blk b e cs :: H)) (hN:Nat.blt d c.N=true:=by rfl):O M.toMd (⟨some d,.buildSlice t len ps,ty,pos,af,none⟩ :: rest) E D H:=by
 subst hv
 have hb:=(hf.built (zs:=((Array.range (vs.length * s)).map (zv.cells[· % zv.cells.size]!)).toList) (by simp)).1
 rw [Nat.zero_mul,List.take_zero,List.nil_append] at hb
 exact oBuildSlice hx ht hz hsm h0 rfl hb h hN
theorem K_at {x:α}{cs:List Value}(h:kd.K W x cs):kd.K (Base.at W).e x cs:=by rw [Base.at_e];exact h
theorem okWide_aggL {r:Reach}{base:Nat}{fs:Array Field}{v:Value}(hu:P.underlying t=some (.struct fs)) (h:Value.okWide P w r base t v):∃ cs:List Value,v=.agg cs.toArray:=by
 unfold Value.okWide at h
 rw [hu] at h
 obtain ⟨cs,rfl,_⟩:=h
 exact ⟨cs.toList,by simp⟩
end
end Go.Proofs.YtpmdhkjbhjgoaaaGreatDoorK


/-
  What is frozen for the rest of a body; bundles of rows (a slice of slices of one's own).
-/
namespace Go.Proofs.YtpmdhkjbhjgoaaaGreatDoorK
open Go.RowKit
@[reducible] def Cx.base (c:Cx) (B':Base):Cx:=⟨c.P,c.F,c.N,B',c.fn,c.dp,c.call⟩
section
variable {c : Cx} {Q : Post} {x : Code} {E : Env} {D : List Deferred} {H H' Ψ Φ : List Res}
end
section
variable {B : Base} {Φ Φ' Ψ : List Res} {r r' : Res} {i : Nat}
end
abbrev Hdr:=Option Addr×Nat×Nat
abbrev hV (h:Hdr):Value:=.slice h.1 h.2.1 h.2.2
section
variable {α : Type} {kd : Kd α} {W : World} {ei eo : TypeId} {hs : List Hdr} {xss : List (List α)} {B : Base} {Φ Φ' Φ'' : List Res} {w : World}
end
section
variable {c : Cx} {N : Md c} {M : Me c} {rest : List Oper} {E : Env} {D : List Deferred} {H H' H'' : List Res}
variable {α : Type} {kd : Kd α} {W : World} {ei : TypeId} {hs : List Hdr} {xss : List (List α)}
end
end Go.Proofs.YtpmdhkjbhjgoaaaGreatDoorK


/-
  The builtin copy; more on bundles.
-/
namespace Go.Proofs.YtpmdhkjbhjgoaaaGreatDoorK
open Go.RowKit
section
variable {c : Cx} {N : Md c} {M : Me c} {d : Nat} {ty : TypeId} {pos : String} {af : Array Edge} {rest : List Oper} {E : Env} {D : List Deferred} {H H' H'' : List Res} {v : Value} {x y z : Operand} {k : IntKind} {t t' : TypeId}
end
section
variable {α : Type} {kd : Kd α} {W : World} {ei : TypeId} {hs : List Hdr} {xss : List (List α)} {B : Base} {Φ Φ' Φ'' : List Res}
end
section
variable {c : Cx} {N : Md c} {rest : List Oper} {E : Env} {D : List Deferred} {H H' H'' : List Res} {α : Type} {kd : Kd α} {W : World} {ei : TypeId} {hs : List Hdr} {xss : List (List α)}
end
end Go.Proofs.YtpmdhkjbhjgoaaaGreatDoorK


/-
  The library's slices.Sort and slices.Compact at []int, as the walk meets them: out of the kit's contracts.
-/
namespace Go.Proofs.YtpmdhkjbhjgoaaaGreatDoorK
open Go.RowKit Go.Shelf Go.Sort
section
variable {B : Base} {w : World} {P : Program} {ρ : Ren} {W : World} {e : TypeId} {A : Option Addr} {n cp : Nat} {zs : List Int}
theorem cat_scalar {α:Type}{enc:α→Value}{h1:∀ x,(enc x).oneCell'=true} : ∀ {xs:List α}{cs:List Value},Cat (Kd.scalar enc h1) W xs cs↔cs=xs.map enc
 | [],cs=>Iff.rfl
 | x :: xs,cs=>by
  constructor
  · rintro ⟨a,rest,e,hK,hR⟩
    rw [e,show a=[enc x] from hK,cat_scalar.1 hR];rfl
  · intro h
    exact ⟨[enc x],xs.map enc,h,rfl,cat_scalar.2 rfl⟩
theorem row_mk {α:Type}{enc:α→Value}{h1:∀ x,(enc x).oneCell'=true}{xs:List α}{b:Nat}{cur:Array Value}(hh:w.heap[b]?=some (.cells cur e (0,0))) (hn:xs.length≤cp) (hm:cp≤maxLen) (hs:cur.size=cp) (ht:cur.toList.take xs.length=xs.map enc) :
 (row (Kd.scalar enc h1) W e (.slice (some ⟨b,0,none⟩) xs.length cp) xs).q w:=by
 have e5:(Kd.scalar enc h1).sz=1:=rfl
 exact ⟨xs.map enc,⟨by rw [e5,List.length_map,Nat.mul_one],.inr ⟨b,cp,cur,rfl,Nat.zero_le _,hh,hn,hm,by rw [e5,Nat.mul_one];exact hs,by rw [e5,Nat.mul_one];exact ht⟩⟩,cat_scalar.2 rfl⟩
end
end Go.Proofs.YtpmdhkjbhjgoaaaGreatDoorK


/-
  A region that draws its order, with late copies too: the tail is a list of places.
-/
namespace Go.Proofs.YtpmdhkjbhjgoaaaGreatDoorK
open Go.RowKit
section
variable {P : Program} {ops : Array Oper} {md : Region.Mode} {w : World} {ts : List Nat}
def seqT (md:Region.Mode) (ops:Array Oper):List Nat→Array Bool→Bool
  | [],listed=>(Region.ready md ops listed).isEmpty
  | t :: ts,listed=>decide (Region.ready md ops listed=[t]) && seqT md ops ts (listed.setIfInBounds t true)
structure HI (md:Region.Mode) (ops:Array Oper) (ts:List Nat) (listed:Array Bool):Prop where
  size:listed.size=ops.size
  closed:∀ j oj,ops[j]?=some oj→listed.getD j false=true→∀ e ∈ oj.after,Region.binds md e=true→listed.getD e.on false=true
  tail:∀ t ∈ ts,listed.getD t true=false
theorem HI.set {i:Nat}{listed:Array Bool}(inv:HI md ops ts listed) (hi:i ∈ Region.ready md ops listed) (hin:i ∉ ts):HI md ops ts (listed.setIfInBounds i true):=by
 obtain ⟨_,oi,hoi,hall⟩:=mem_ready.1 hi
 refine ⟨by simp [inv.size],fun j oj hj hl e he hb=>?_,fun t ht=>by rw [getD_set_ne true (by rintro rfl;exact hin ht)];exact inv.tail t ht⟩
 by_cases hij:i=j
 · subst hij
   have:oj=oi:=Option.some.inj (hj.symm.trans hoi)
   subst this
   exact getD_set_true (hall e he hb)
 · rw [getD_set_ne false hij] at hl
   exact getD_set_true (inv.closed j oj hj hl e he hb)
end
section
variable {c : Cx} {Q : Post} {E E' : Env} {D : List Deferred} {H : List Res}
end
end Go.Proofs.YtpmdhkjbhjgoaaaGreatDoorK


/-
  A region that draws its order, in whatever fence (in a round of a range over a function too): what only looks gives values; the tail is a list of places.
-/
namespace Go.Proofs.YtpmdhkjbhjgoaaaGreatDoorK
open Go.RowKit
section
variable {F : Fence} {m : Nat} {P : Program} {ops : Array Oper} {md : Region.Mode} {w : World} {ts : List Nat}
def plainB (ops:Array Oper):Bool:=ops.all (fun o=>plain o.op)
theorem plain_at (h:plainB ops=true) {i:Nat}{o:Oper}(ho:ops[i]?=some o):plain o.op=true:=by
 obtain ⟨hi,he⟩:=Array.getElem?_eq_some_iff.1 ho
 have:=Array.all_eq_true.1 h i hi
 rw [he] at this;exact this
theorem wpAnyIn_of_seqT {Q':Exit→Act→World→Prop} : ∀ (ts:List Nat) (l:List Oper) (listed:Array Bool) (a:Act) (w:World),ts.mapM (fun t=>ops[t]?)=some l→seqT md ops ts listed=true→wpListIn F m P ops Q' l a w→wpAnyIn F m P md ops Q' ts.length listed a w
 | [],l,_,_,_,hl,hB,h=>by
  simp at hl;subst hl
  exact ⟨by simpa [seqT] using hB,h⟩
 | t :: ts,l,listed,a,w,hl,hB,h=>by
  rw [List.mapM_cons] at hl
  cases h0:ops[t]? with
  | none=>rw [h0] at hl;simp at hl
  | some o=>
   rw [h0] at hl
   cases hts:ts.mapM (fun t=>ops[t]?) with
   | none=>rw [hts] at hl;simp at hl
   | some l'=>
    rw [hts] at hl
    simp at hl
    subst hl
    simp only [seqT,Bool.and_eq_true,decide_eq_true_eq] at hB
    refine ⟨fun h1=>(by rw [hB.1] at h1;cases h1),fun i hi=>?_⟩
    rw [hB.1] at hi
    have hik:i=t:=by simpa using hi
    subst hik
    have hw:wpOpIn F m P ops Q' i (wpListIn F m P ops Q' l') a w:=by unfold wpOpIn;simp only [h0];exact h
    exact wpOpIn_mono (fun a' w' h'=>wpAnyIn_of_seqT ts l' _ a' w' hts hB.2 h') hw
end
section
variable {c : Cx} {Q : Post} {E E' : Env} {D : List Deferred} {H : List Res}
end
end Go.Proofs.YtpmdhkjbhjgoaaaGreatDoorK


/-
  A region that draws its order, once more: what looks, at any time that the waits leave open; what turns the world (by a value), in its order; then the tail. What may look late is looked at again behind each turn.
-/
namespace Go.Proofs.YtpmdhkjbhjgoaaaGreatDoorK
open Go.RowKit
section
variable {F : Fence} {m : Nat} {P : Program} {ops : Array Oper} {md : Region.Mode} {ts : List Nat} {listed : Array Bool}
def waitsP (md:Region.Mode) (ops:Array Oper):Nat→Nat→Nat→Bool
  | 0,j,i=>Region.waitsFor md ops j i
  | f+1,j,i=>Region.waitsFor md ops j i || (List.range ops.size).any fun k=>Region.waitsFor md ops j k && waitsP md ops f k i
abbrev Clo (md:Region.Mode) (ops:Array Oper) (listed:Array Bool):Prop:=∀ j oj,ops[j]?=some oj→listed.getD j false=true→∀ e ∈ oj.after,Region.binds md e=true→listed.getD e.on false=true
theorem waitsP_listed (cl:Clo md ops listed):∀ (f j i:Nat),listed.getD j false=true→waitsP md ops f j i=true→listed.getD i false=true:=by
 have one:∀ j i,listed.getD j false=true→Region.waitsFor md ops j i=true→listed.getD i false=true:=fun j i hj h=>by
  obtain ⟨oj,hoj,e,he,hb,rfl⟩:=Region.waitsFor_spec h
  exact cl j oj hoj hj e he hb
 intro f
 induction f with
 | zero=>exact one
 | succ f ih=>
  intro j i hj h
  simp only [waitsP,Bool.or_eq_true] at h
  rcases h with h | h
  · exact one j i hj h
  · obtain ⟨k,_,hk⟩:=List.any_eq_true.1 h
    simp only [Bool.and_eq_true] at hk
    exact ih k i (one j k hj hk.1) hk.2
theorem waitsP_ready (cl:Clo md ops listed) {f j i:Nat}(hj:j ∈ Region.ready md ops listed) (h:waitsP md ops f j i=true):listed.getD i false=true:=by
 obtain ⟨_,oj,hoj,hall⟩:=mem_ready.1 hj
 have one:∀ i,Region.waitsFor md ops j i=true→listed.getD i false=true:=fun i h=>by
  obtain ⟨o',ho',e,he,hb,rfl⟩:=Region.waitsFor_spec h
  have:o'=oj:=Option.some.inj (ho'.symm.trans hoj)
  subst this
  exact hall e he hb
 cases f with
 | zero=>exact one i h
 | succ f=>
  simp only [waitsP,Bool.or_eq_true] at h
  rcases h with h | h
  · exact one i h
  · obtain ⟨k,_,hk⟩:=List.any_eq_true.1 h
    simp only [Bool.and_eq_true] at hk
    exact waitsP_listed cl f k i (one k hk.1) hk.2
def lkA (P:Program) (ops:Array Oper) (A:Act) (w w':World) (i:Nat):Prop:=∃ o d,ops[i]?=some o∧o.dst=some d∧(execOp A.eval o).run P w=.ok (.value (A.tmps.getD d undef)) w'
def opTmps (o:Oper):List Nat:=o.op.operands.toList.filterMap fun | .tmp t=>some t | _=>none
def phB (ops:Array Oper) (ts:List Nat) (f:Nat):List Nat→List (List Nat×Nat)→List Nat→Bool
  | es,[],last=>(List.range ops.size).all fun i=>ts.contains i || last.contains i || es.any (fun e=>Nat.beq e i || waitsP .any ops f e i)
  | es,(ls,e) :: segs,last=>!(ts.contains e) && ((List.range ops.size).all fun i=>ts.contains i || ls.contains i || Nat.beq e i || es.any (fun e'=>Nat.beq e' i || waitsP .any ops f e' i) || waitsP .any ops f i e) && (ls.all fun i=>segs.all fun s=>!(Nat.beq i s.2)) && phB ops ts f (e :: es) segs last
variable {f : Nat}
structure Inv (ops:Array Oper) (ts:List Nat) (A:Act) (listed:Array Bool) (a:Act):Prop where
  hi:HI .any ops ts listed
  size:a.tmps.size=A.tmps.size
  dfr:a.defers=A.defers
  v1:∀ i o d,ops[i]?=some o→i ∉ ts→o.dst=some d→listed.getD i false=true→a.tmps.getD d undef=A.tmps.getD d undef
  v2:∀ t,(∀ i o,ops[i]?=some o→i ∉ ts→o.dst≠some t)→a.tmps.getD t undef=A.tmps.getD t undef
def cnt (ops:Array Oper) (ts:List Nat) (listed:Array Bool):Nat:=((List.range ops.size).filter fun i=>!(ts.contains i) && !(listed.getD i true)).length
theorem filter_one {l:List Nat}{p q:Nat→Bool}{i:Nat}(hn:l.Nodup) (hi:i ∈ l) (hp:p i=true) (hq:q i=false) (h:∀ j,j≠i→p j=q j):(l.filter q).length+1=(l.filter p).length:=by
 induction l with
 | nil=>cases hi
 | cons x l ih=>
  obtain ⟨hx,hn⟩:=List.nodup_cons.1 hn
  rw [List.filter_cons,List.filter_cons]
  by_cases e:x=i
  · subst e
    rw [hp,hq]
    have:l.filter q=l.filter p:=List.filter_congr (fun j hj=>(h j (by rintro rfl;exact hx hj)).symm)
    simp [this]
  · rw [h x e]
    have:=ih hn (by rcases List.mem_cons.1 hi with h | h;exact absurd h.symm e;exact h)
    cases q x <;> simp_all
theorem cnt_set {i:Nat}(hi:i<ops.size) (hs:listed.size=ops.size) (hit:i ∉ ts) (hun:listed.getD i true=false):cnt ops ts (listed.setIfInBounds i true)+1=cnt ops ts listed:=by
 unfold cnt
 refine filter_one List.nodup_range (List.mem_range.2 hi) (i:=i) ?_ ?_ (fun j hj=>?_)
 · simp [hit,hun]
 · have:(listed.setIfInBounds i true).getD i true=true:=by simp [hs,hi]
   simp [this]
 · rw [getD_set_ne true (Ne.symm hj)]
def doneL (ops:Array Oper) (ts:List Nat):Array Bool:=((List.range ops.size).map fun i=>!(ts.contains i)).toArray
end
end Go.Proofs.YtpmdhkjbhjgoaaaGreatDoorK


/-
  The walk of such a region.
-/
namespace Go.Proofs.YtpmdhkjbhjgoaaaGreatDoorK
open Go.RowKit
section
variable {P : Program} {ops : Array Oper} {a A : Act} {w w' w0 : World}
def isVal:Op→Bool
  | .move _ | .assign _ | .alloc _ | .box _ _ | .build _ _ | .buildSlice _ _ _ | .load _ _ | .binOp _ _ _ _ _ | .unOp _ _ _ | .fieldAddr _ _ _ | .field _ _ _ | .indexAddr _ _ _ | .index _ _ _ | .slice _ _ _ _ _ | .extract _ _ | .makeSlice _ _ _ | .makeFunc _ _ _ | .pick _ _ _ | .convert _ _ _ | .makeInterface _ _ | .lookup _ _ _ _ | .typeAssert _ _ _ _ | .nilCheck _=>true
  | .call { callee:=.builtin .append,.. }=>true
  | .call { callee:=.builtin .len,.. }=>true
  | _=>false
theorem val_of {s:Sem Value}{n:Next}(h:(do pure (Next.value (← s)):Sem Next).run P w=.ok n w'):∃ v,n=.value v:=by
 rw [Sem.run_bind] at h
 cases hs:s.run P w with
 | halt x w1=>rw [hs] at h;simp [Result.andThen] at h
 | ok v w1=>
  rw [hs,Result.andThen_ok,Sem.run_pure] at h
  injection h with h _
  exact ⟨v,h.symm⟩
theorem val_bind {α:Type}{P:Program}{w w':World}{n:Next}{s:Sem α}{f:α→Sem Next}(hf:∀ a w n w',(f a).run P w=.ok n w'→∃ v,n=.value v) (h:(s >>= f).run P w=.ok n w'):∃ v,n=.value v:=by
 rw [Sem.run_bind] at h
 cases hs:s.run P w with
 | halt x w1=>rw [hs] at h;simp [Result.andThen] at h
 | ok v w1=>rw [hs,Result.andThen_ok] at h;exact hf _ _ _ _ h
theorem nil_val {P:Program}{w w':World}{dst:Option Nat}{x:Operand}{ty:TypeId}{pos:String}{af:Array Edge}{g:Option (Nat×Bool)}{ρ:Operand→Value}{n:Next}(h:(execOp ρ ⟨dst,.nilCheck x,ty,pos,af,g⟩).run P w=.ok n w'):∃ v,n=.value v:=by
 have pv:∀ {u:Value}{n:Next}{w w':World},(Pure.pure (Next.value u):Sem Next).run P w=.ok n w'→∃ v,n=.value v:=fun h=>by
  rw [Sem.run_pure] at h;injection h with h _;exact ⟨_,h.symm⟩
 have rp:∀ {n:Next}{w w':World},(runtimePanic .nilDeref:Sem Next).run P w=.ok n w'→∃ v,n=.value v:=fun h=>by
  simp [go_sem] at h
 have h':=h
 simp only [execOp] at h'
 split at h'
 · exact rp h'
 · exact rp h'
 · exact rp h'
 · split at h'
   · exact rp h'
   · refine val_bind (fun a w n w' h=>?_) h'
     refine val_bind (fun a w n w' h=>?_) h
     split at h
     · refine val_bind (fun a w n w' h=>?_) h
       exact pv h
     · exact pv h
   · exact pv h'
 · exact pv h'
theorem val_run {o:Oper}(hv:isVal o.op=true) {ρ:Operand→Value}{n:Next}(h:(execOp ρ o).run P w=.ok n w'):∃ v,n=.value v:=by
 obtain ⟨dst,op,ty,pos,af,g⟩:=o
 have pv:∀ {u:Value},(Pure.pure (Next.value u):Sem Next).run P w=.ok n w'→∃ v,n=.value v:=fun h=>by
  rw [Sem.run_pure] at h;injection h with h _;exact ⟨_,h.symm⟩
 cases op <;> simp only [isVal,Bool.false_eq_true] at hv
 case call c=>
  obtain ⟨cal,args,ats⟩:=c
  cases cal with
  | builtin b=>
   cases b <;> simp only [Bool.false_eq_true] at hv
   all_goals
    simp only [execOp,resolve,Sem.run_bind,Sem.run_pure,Result.andThen_ok,invoke,builtin] at h
    first | exact val_of h | (rw [← Sem.run_bind] at h;exact val_of h) | skip
   all_goals
    revert h
    generalize Sem.run P _ w=r
    intro h
    cases r with
    | halt x w1=>simp [Result.andThen] at h
    | ok v w1=>simp only [Result.andThen_ok,Sem.run_pure,Result.ok.injEq] at h;exact ⟨v,h.1.symm⟩
  | _=>simp only [Bool.false_eq_true] at hv
 case pick cc x y=>
  have h':(do pure (Next.value (if ← asBool (ρ cc) then ρ x else ρ y)):Sem Next).run P w=.ok n w':=h
  rw [Sem.run_bind] at h'
  cases hs:(asBool (ρ cc)).run P w with
  | halt q w1=>rw [hs] at h';simp [Result.andThen] at h'
  | ok b w1=>
   rw [hs,Result.andThen_ok,Sem.run_pure] at h'
   injection h' with h' _
   exact ⟨_,h'.symm⟩
 case nilCheck x=>exact nil_val h
 all_goals first | exact pv h | exact val_of h
def lkX (P:Program) (ops:Array Oper) (w0:World) (K:Act→Prop):List Oper→Act→Prop
  | [],a=>K a
  | o :: rest,a=>if Region.wanted o (yielded ops a.tmps) then ∃ n,(execOp a.eval o).run P w0=.ok n w0∧∀ v,n=.value v→lkX P ops w0 K rest (a.put o.dst v) else lkX P ops w0 K rest (a.put o.dst undef)
variable {c : Cx} {Q : Post} {E E' : Env} {D : List Deferred} {H : List Res}
def Md.lk (c:Cx) (ops:Array Oper) (w0:World) (K:Act→Prop):Md c where
  X:=fun l a w=>w=w0→lkX c.P ops w0 K l a
  ops:=ops
  calm o rest a w v hw hp hr hK:=by
    rintro rfl
    simp only [lkX,hw,if_true]
    exact ⟨_,hr,fun v' h=>by cases h;exact hK rfl⟩
  skip o rest a w hw hK:=by
    rintro rfl
    simp only [lkX,hw]
    exact hK rfl
  want dst op ty pos af g rest a w hw h:=by
    rintro rfl
    have h:=h rfl
    simp only [lkX] at h ⊢
    rw [if_pos hw]
    rw [if_pos (show Region.wanted { dst:=dst,op:=op,type:=ty,pos:=pos,after:=af,guard:=none } (yielded ops a.tmps)=true from rfl)] at h
    exact h
def Again (c:Cx) (ops:Array Oper) (E:Env) (D:List Deferred) (H:List Res) (res:List Nat):Prop:=∀ a w,Ok c.N E D a→St c.B H w→∀ i ∈ res,lkA c.P ops a w w i
theorem Again.nil:Again c ops E D H []:=fun _ _ _ _ _ h=>by cases h
theorem Again.cons {i d:Nat}{v:Value}{res:List Nat}{op:Op}{ty:TypeId}{pos:String}{af:Array Edge}(ho:ops[i]?=some ⟨some d,op,ty,pos,af,none⟩) (hE:E.find d=some v) (hv:isVal op=true) (hN:Nat.blt d c.N=true) (h:∀ w0,O (Md.lk c ops w0 (fun a=>a.tmps.getD d undef=v)) [⟨some d,op,ty,pos,af,none⟩] E D H) (k:Again c ops E D H res):Again c ops E D H (i :: res):=by
 intro a w ha hw j hj
 rcases List.mem_cons.1 hj with rfl | hj
 · have h1:=h w a w ha hw rfl
   simp only [lkX] at h1
   rw [if_pos (show Region.wanted { dst:=some d,op:=op,type:=ty,pos:=pos,after:=af,guard:=none } (yielded ops a.tmps)=true from rfl)] at h1
   obtain ⟨n,hr,hk⟩:=h1
   obtain ⟨u,rfl⟩:=val_run (o:=⟨some d,op,ty,pos,af,none⟩) hv hr
   have h2:=hk u rfl
   have hd:d<a.tmps.size:=by rw [ha.size];simpa [Nat.blt_eq] using hN
   have h3:(a.put (some d) u).tmps.getD d undef=u:=by simp [Act.put,hd]
   refine ⟨_,d,ho,rfl,?_⟩
   rw [hr,ha.fit d v hE]
   congr 2
   rw [← h3];exact h2
 · exact k a w ha hw j hj
theorem oLkHas {d:Nat}{v:Value}(hE:E.find d=some v):O (Md.lk c ops w0 (fun a=>a.tmps.getD d undef=v)) [] E D H:=by
 rintro a w ha hw rfl
 exact ha.fit d v hE
end
end Go.Proofs.YtpmdhkjbhjgoaaaGreatDoorK


/-
  Draws once more: turns of the world that may be calls.
-/
namespace Go.Proofs.YtpmdhkjbhjgoaaaGreatDoorK
open Go.RowKit
def rnC (P:Program) (ops:Array Oper) (K:Act→World→Prop):List Oper→Act→World→Prop
  | [],a,w=>K a w
  | o :: rest, a, w => if Region.wanted o (yielded ops a.tmps) then ((∃ v w', (execOp a.eval o).run P w = .ok (.value v) w' ∧ rnC P ops K rest (a.put o.dst v) w') ∨ (∃ w', (execOp a.eval o).run P w = .ok .skip w' ∧ rnC P ops K rest (a.put o.dst undef) w') ∨
      (∃ g args w1,(execOp a.eval o).run P w=.ok (.enter g args) w1∧CallsIn Fence.wide 0 P g args w1 (fun e w2=>∃ v,e=.returned v∧rnC P ops K rest (a.put o.dst v) w2))) else rnC P ops K rest (a.put o.dst undef) w
section
variable {c : Cx} {Q : Post} {E E' : Env} {D : List Deferred} {H : List Res} {ops : Array Oper} {w0 : World}
def Me.rnC (c:Cx) (ops:Array Oper) (K:Act→World→Prop):Me c where
  X:=Go.Proofs.YtpmdhkjbhjgoaaaGreatDoorK.rnC c.P ops K
  ops:=ops
  calm o rest a w v hw hp hr hK:=by
    simp only [Go.Proofs.YtpmdhkjbhjgoaaaGreatDoorK.rnC,hw,if_true]
    exact .inl ⟨_,_,hr,hK⟩
  skip o rest a w hw hK:=by simp only [Go.Proofs.YtpmdhkjbhjgoaaaGreatDoorK.rnC,hw];exact hK
  want dst op ty pos af g rest a w hw h:=by
    simp only [Go.Proofs.YtpmdhkjbhjgoaaaGreatDoorK.rnC] at h ⊢
    rw [if_pos hw]
    rw [if_pos (show Region.wanted { dst:=dst,op:=op,type:=ty,pos:=pos,after:=af,guard:=none } (yielded ops a.tmps)=true from rfl)] at h
    exact h
  eff o rest a w v w' hw hp hr hK:=by
    simp only [Go.Proofs.YtpmdhkjbhjgoaaaGreatDoorK.rnC,hw,if_true]
    exact .inl ⟨_,_,hr,hK⟩
  effs o rest a w w' hw hp hr hK:=by
    simp only [Go.Proofs.YtpmdhkjbhjgoaaaGreatDoorK.rnC,hw,if_true]
    exact .inr (.inl ⟨_,hr,hK⟩)
  enter o rest a w g args w1 hw hp hr hK:=by
    simp only [Go.Proofs.YtpmdhkjbhjgoaaaGreatDoorK.rnC,hw,if_true]
    exact .inr (.inr ⟨_,_,_,hr,hK⟩)
variable {ts : List Nat} {listed : Array Bool} {f : Nat}
end
end Go.Proofs.YtpmdhkjbhjgoaaaGreatDoorK


/-
  A region that draws its order, in full: what looks (guards too), turns of the world that may be calls, what looks again, what looks anew behind a turn; then the tail.
-/
namespace Go.Proofs.YtpmdhkjbhjgoaaaGreatDoorK
open Go.RowKit
section
variable {c : Cx} {Q : Post} {E E' : Env} {D : List Deferred} {H : List Res} {P : Program} {ops : Array Oper} {a A : Act} {w w' w0 : World}
def lkG (P:Program) (ops:Array Oper) (A:Act) (w:World) (i:Nat):Prop:=∃ o d,ops[i]?=some o∧o.dst=some d∧(if Region.wanted o (yielded ops A.tmps)=true then (execOp A.eval o).run P w=.ok (.value (A.tmps.getD d undef)) w else A.tmps.getD d undef=undef)
abbrev Segs:=List (Nat×List Nat×List Nat)
def segG (c:Cx) (ops:Array Oper) (Q:Post) (tl:List Oper):Segs→Act→World→Prop
  | [],a,w=>wpListIn c.F 0 c.P ops (lift c Q) tl a w
  | (e,res,nw) :: segs,a,w=>∃ o,ops[e]?=some o∧rnC c.P ops (fun a' w'=>(∀ i ∈ res,lkG c.P ops a' w' i)∧∃ l,nw.mapM (fun k=>ops[k]?)=some l∧lkX c.P ops w' (fun a''=>segG c ops Q tl segs a'' w') l a') [o] a w
theorem oLkSegG {tl:List Oper}{segs:Segs}(h:O (Me.rnC c ops (segG c ops Q tl segs)).toMd [] E D H):O (Md.lk c ops w0 (fun a=>segG c ops Q tl segs a w0)) [] E D H:=by
 rintro a w ha hw rfl
 exact h a w ha hw
theorem oSegG {tl:List Oper}{e:Nat}{res nw:List Nat}{segs:Segs}{o:Oper}(he:ops[e]?=some o) (h:O (Me.rnC c ops (fun a' w'=>(∀ i ∈ res,lkG c.P ops a' w' i)∧∃ l,nw.mapM (fun k=>ops[k]?)=some l∧lkX c.P ops w' (fun a''=>segG c ops Q tl segs a'' w') l a')).toMd [o] E D H):O (Me.rnC c ops (segG c ops Q tl ((e,res,nw) :: segs))).toMd [] E D H:=
 fun a w ha hw=>⟨o,he,h a w ha hw⟩
def AgainG (c:Cx) (ops:Array Oper) (E:Env) (D:List Deferred) (H:List Res) (res:List Nat):Prop:=∀ a w,Ok c.N E D a→St c.B H w→∀ i ∈ res,lkG c.P ops a w i
theorem AgainG.nil:AgainG c ops E D H []:=fun _ _ _ _ _ h=>by cases h
theorem AgainG.cons {i d:Nat}{v:Value}{res:List Nat}{op:Op}{ty:TypeId}{pos:String}{af:Array Edge}{g:Option (Nat×Bool)}(ho:ops[i]?=some ⟨some d,op,ty,pos,af,g⟩) (hE:E.find d=some v) (hv:isVal op=true) (hN:Nat.blt d c.N=true) (h:∀ w0,O (Md.lk c ops w0 (fun a=>a.tmps.getD d undef=v)) [⟨some d,op,ty,pos,af,g⟩] E D H) (k:AgainG c ops E D H res):AgainG c ops E D H (i :: res):=by
 intro a w ha hw j hj
 rcases List.mem_cons.1 hj with rfl | hj
 · have h1:=h w a w ha hw rfl
   simp only [lkX] at h1
   have hd:d<a.tmps.size:=by rw [ha.size];simpa [Nat.blt_eq] using hN
   have h3:∀ u,(a.put (some d) u).tmps.getD d undef=u:=fun u=>by simp [Act.put,hd]
   refine ⟨_,d,ho,rfl,?_⟩
   by_cases hwd:Region.wanted { dst:=some d,op:=op,type:=ty,pos:=pos,after:=af,guard:=g } (yielded ops a.tmps)=true
   · rw [if_pos hwd] at h1 ⊢
     obtain ⟨n,hr,hk⟩:=h1
     obtain ⟨u,rfl⟩:=val_run (o:=⟨some d,op,ty,pos,af,g⟩) hv hr
     have h2:=hk u rfl
     rw [hr,ha.fit d v hE]
     congr 2
     rw [← h3 u];exact h2
   · rw [if_neg hwd] at h1 ⊢
     rw [ha.fit d v hE,← h1,h3]
 · exact k a w ha hw j hj
theorem oAgainG {tl:List Oper}{res nw:List Nat}{segs:Segs}{l:List Oper}(hre:AgainG c ops E D H res) (hl:nw.mapM (fun k=>ops[k]?)=some l) (h:∀ w0,O (Md.lk c ops w0 (fun a''=>segG c ops Q tl segs a'' w0)) l E D H):O (Me.rnC c ops (fun a' w'=>(∀ i ∈ res,lkG c.P ops a' w' i)∧∃ l,nw.mapM (fun k=>ops[k]?)=some l∧lkX c.P ops w' (fun a''=>segG c ops Q tl segs a'' w') l a')).toMd [] E D H:=
 fun a w ha hw=>⟨hre a w ha hw,l,hl,h w a w ha hw rfl⟩
theorem oTailG {tl:List Oper}(h:O (Me.list c ops Q).toMd tl E D H):O (Md.lk c ops w0 (fun a=>segG c ops Q tl [] a w0)) [] E D H:=by
 rintro a w ha hw rfl
 exact h a w ha hw
def guardNe (ops:Array Oper) (o:Oper) (d:Nat):Bool:=match o.guard with
  | none=>true
  | some g=>match ops[g.1]? with
    | some og=>og.dst != some d
    | none=>true
theorem yielded_put {o:Oper}{d:Nat}{v:Value}(h:guardNe ops o d=true):Region.wanted o (yielded ops (a.put (some d) v).tmps)=Region.wanted o (yielded ops a.tmps):=by
 unfold Region.wanted
 unfold guardNe at h
 cases hg:o.guard with
 | none=>rfl
 | some g=>
  rw [hg] at h
  simp only at h ⊢
  congr 1
  unfold yielded
  cases hog:ops[g.1]? with
  | none=>simp
  | some og=>
   rw [hog] at h
   simp only [bne_iff_ne,ne_eq] at h
   simp only [Option.bind_some]
   cases hd:og.dst with
   | none=>simp
   | some d'=>
    have hne:d≠d':=by rintro rfl;exact h hd
    simp only [Option.bind_some,Act.put,Array.getElem?_setIfInBounds,if_neg hne]
def keepG (ops:Array Oper) (i j:Nat):Bool:=match ops[i]?,ops[j]? with
  | some o,some o'=>(match o'.dst with | some d=>!((opTmps o).contains d) && o.dst != some d && guardNe ops o d | none=>true)
  | _,_=>false
theorem lk_keepG {i j:Nat}{oj:Oper}{v:Value}(hk:keepG ops i j=true) (hj:ops[j]?=some oj) (hs:Region.noSelect ops=true) (h:lkG P ops a w i):lkG P ops (a.put oj.dst v) w i:=by
 obtain ⟨o,d,ho,hd,hr⟩:=h
 unfold keepG at hk
 rw [ho,hj] at hk
 simp only at hk
 cases hdj:oj.dst with
 | none=>exact ⟨o,d,ho,hd,hr⟩
 | some dj=>
  rw [hdj] at hk
  simp only [Bool.and_eq_true,bne_iff_ne,ne_eq] at hk
  have hne:dj≠d:=by rintro rfl;exact hk.1.2 hd
  refine ⟨o,d,ho,hd,?_⟩
  have e1:execOp (a.put (some dj) v).eval o=execOp a.eval o:=execOp_congr o (fun cs b=>Region.noSelect_spec hs i o cs b ho) (fun x hx=>Act.eval_put (fun d' hd' hxd=>by
   injection hd' with hd'
   subst hd' hxd
   have:dj ∈ opTmps o:=List.mem_filterMap.2 ⟨.tmp dj,by simpa using hx,rfl⟩
   have h1:=hk.1.1
   simp [this] at h1))
  have e2:(a.put (some dj) v).tmps.getD d undef=a.tmps.getD d undef:=by simp only [Act.put,Array.getD_eq_getD_getElem?,Array.getElem?_setIfInBounds,if_neg hne]
  rw [e1,e2,yielded_put hk.2];exact hr
theorem lk_selfG {i d:Nat}{o:Oper}{v:Value}(ho:ops[i]?=some o) (hd:o.dst=some d) (hn:(opTmps o).contains d=false) (hgn:guardNe ops o d=true) (hs:Region.noSelect ops=true) (hl:d<a.tmps.size) (hr:if Region.wanted o (yielded ops a.tmps)=true then (execOp a.eval o).run P w=.ok (.value v) w else v=undef):lkG P ops (a.put o.dst v) w i:=by
 refine ⟨o,d,ho,hd,?_⟩
 rw [hd]
 have e1:execOp (a.put (some d) v).eval o=execOp a.eval o:=execOp_congr o (fun cs b=>Region.noSelect_spec hs i o cs b ho) (fun x hx=>Act.eval_put (fun d' hd' hxd=>by
  injection hd' with hd'
  subst hd' hxd
  have:d ∈ opTmps o:=List.mem_filterMap.2 ⟨.tmp d,by simpa using hx,rfl⟩
  simp [this] at hn))
 have e2:(a.put (some d) v).tmps.getD d undef=v:=by simp [Act.put,hl]
 rw [e1,e2,yielded_put hgn];exact hr
def opG (ops:Array Oper) (N i:Nat):Bool:=match ops[i]? with
  | some o=>isVal o.op && (match o.dst with | some d=>Nat.blt d N && !((opTmps o).contains d) && guardNe ops o d | none=>false)
  | none=>false
theorem opG_spec {N i:Nat}(h:opG ops N i=true):∃ (o:Oper) (d:Nat),ops[i]?=some o∧o.dst=some d∧isVal o.op=true∧d<N∧(opTmps o).contains d=false∧guardNe ops o d=true:=by
 unfold opG at h
 split at h
 · rename_i o ho
   simp only [Bool.and_eq_true] at h
   obtain ⟨h1,h3⟩:=h
   split at h3
   · rename_i d hd
     simp only [Bool.and_eq_true,Nat.blt_eq] at h3
     exact ⟨o,d,ho,hd,h1,h3.1.1,by simpa using h3.1.2,h3.2⟩
   · cases h3
 · cases h
def orderG (ops:Array Oper) (N:Nat):List Nat→Bool
  | k :: ks=>opG ops N k && (ks.all fun j=>keepG ops k j) && orderG ops N ks
  | []=>true
theorem lk_canG {N:Nat}{K:Act→Prop}(hs:Region.noSelect ops=true) {w:World} : ∀ (ks:List Nat) (hd:List Oper) (done:List Nat) (a:Act),ks.mapM (fun k=>ops[k]?)=some hd→orderG ops N ks=true→a.tmps.size=N→(∀ i ∈ done,lkG c.P ops a w i)→(∀ i ∈ done,∀ j ∈ ks,keepG ops i j=true)→
 lkX c.P ops w K hd a→
 ∃ A,A.tmps.size=N∧A.defers=a.defers∧(∀ t,(∀ j ∈ ks,∀ o,ops[j]?=some o→o.dst≠some t)→A.tmps.getD t undef=a.tmps.getD t undef)∧(∀ i ∈ done++ks,lkG c.P ops A w i)∧K A
 | [],hd,done,a,hk,hB,hN,hdn,hkp,h=>by
  simp at hk;subst hk
  exact ⟨a,hN,rfl,fun _ _=>rfl,by simpa using hdn,h⟩
 | k :: ks,hd,done,a,hk,hB,hN,hdn,hkp,h=>by
  rw [List.mapM_cons] at hk
  simp only [orderG,Bool.and_eq_true] at hB
  obtain ⟨⟨h1,h2⟩,h4⟩:=hB
  obtain ⟨o,d,ho,hd',hv,hdN,hself,hgn⟩:=opG_spec h1
  rw [ho] at hk
  cases hks:ks.mapM (fun k=>ops[k]?) with
  | none=>rw [hks] at hk;simp at hk
  | some l'=>
   rw [hks] at hk
   simp at hk
   subst hk
   have hgo:∃ v,(if Region.wanted o (yielded ops a.tmps)=true then (execOp a.eval o).run c.P w=.ok (.value v) w else v=undef)∧lkX c.P ops w K l' (a.put o.dst v):=by
    simp only [lkX] at h
    by_cases hw:Region.wanted o (yielded ops a.tmps)=true
    · rw [if_pos hw] at h
      obtain ⟨n,hr,hkk⟩:=h
      obtain ⟨v,rfl⟩:=val_run hv hr
      exact ⟨v,by rw [if_pos hw];exact hr,hkk v rfl⟩
    · rw [if_neg hw] at h
      exact ⟨undef,by rw [if_neg hw],h⟩
   obtain ⟨v,hr,hkk⟩:=hgo
   obtain ⟨A,hA1,hA2,hA3,hA4,hA5⟩:=lk_canG hs ks l' (done++[k]) (a.put o.dst v) hks h4 (by rw [hd'];simpa [Act.put] using hN)
    (fun i hi=>by
     rcases List.mem_append.1 hi with hi | hi
     · exact lk_keepG (hkp i hi k List.mem_cons_self) ho hs (hdn i hi)
     · obtain rfl:=List.mem_singleton.1 hi
       exact lk_selfG (a:=a) ho hd' hself hgn hs (by omega) hr)
    (fun i hi=>by
     rcases List.mem_append.1 hi with hi | hi
     · exact fun j hj=>hkp i hi j (List.mem_cons_of_mem _ hj)
     · obtain rfl:=List.mem_singleton.1 hi
       exact fun j hj=>List.all_eq_true.1 h2 j hj)
    hkk
   refine ⟨A,hA1,by rw [hA2,hd'];rfl,fun t ht1=>?_,by rw [List.append_assoc] at hA4;exact hA4,hA5⟩
   rw [hA3 t (fun j hj=>ht1 j (List.mem_cons_of_mem _ hj))]
   have hne:d≠t:=by rintro rfl;exact ht1 k List.mem_cons_self o ho hd'
   rw [hd']
   simp only [Act.put,Array.getD_eq_getD_getElem?,Array.getElem?_setIfInBounds,if_neg hne]
variable {ts : List Nat} {listed : Array Bool} {f : Nat}
def statG (ops:Array Oper) (ts:List Nat) (f:Nat):Bool:=
  plainB ops && Region.noSelect ops && ts.all (fun t=>Nat.blt t ops.size) && (List.range ops.size).all (fun i=>match ops[i]? with
    | some o => o.after.all (fun e => !(Region.binds .any e) || Nat.blt e.on i) && (ts.contains i || ((match o.guard with | none => true | some g => !(ts.contains g.1) && waitsP .any ops f i g.1) && o.dst.isSome && (List.range ops.size).all (fun j => match ops[j]? with
        | some o'=>ts.contains j || ((Nat.beq i j || o'.dst != o.dst) && (opTmps o).all (fun t=>o'.dst != some t || waitsP .any ops f i j))
        | none=>true)))
    | none=>true) && ts.all (fun t=>(List.range ops.size).all fun i=>ts.contains i || waitsP .any ops f t i)
theorem stat_opG (hB:statG ops ts f=true) {i:Nat}{o:Oper}(ho:ops[i]?=some o) (hit:i ∉ ts):(∀ g,o.guard=some g→g.1 ∉ ts∧waitsP .any ops f i g.1=true)∧(∃ d,o.dst=some d)∧(∀ j o',ops[j]?=some o'→j ∉ ts→j≠i→o'.dst≠o.dst)∧(∀ t ∈ opTmps o,∀ j o',ops[j]?=some o'→j ∉ ts→o'.dst=some t→waitsP .any ops f i j=true):=by
 simp only [statG,Bool.and_eq_true] at hB
 have hi:=(Array.getElem?_eq_some_iff.1 ho).1
 have h1:=List.all_eq_true.1 hB.1.2 i (List.mem_range.2 hi)
 rw [ho] at h1
 simp only [Bool.and_eq_true,Bool.or_eq_true,Option.isSome_iff_exists] at h1
 rcases h1.2 with h2 | ⟨⟨h2,h3⟩,h4⟩
 · exact absurd (by simpa using h2) hit
 · refine ⟨fun g hg=>?_,h3,fun j o' ho' hjt hji=>?_,fun t ht j o' ho' hjt hd=>?_⟩
   · rw [hg] at h2
     simp only [Bool.and_eq_true] at h2
     exact ⟨by simpa using h2.1,h2.2⟩
   · have hj:=(Array.getElem?_eq_some_iff.1 ho').1
     have h5:=List.all_eq_true.1 h4 j (List.mem_range.2 hj)
     rw [ho'] at h5
     simp only [Bool.or_eq_true,Bool.and_eq_true,Nat.beq_eq,bne_iff_ne,ne_eq] at h5
     rcases h5 with h5 | ⟨h5,_⟩
     · exact absurd (by simpa using h5) hjt
     · rcases h5 with h5 | h5
       · exact absurd h5.symm hji
       · exact h5
   · have hj:=(Array.getElem?_eq_some_iff.1 ho').1
     have h5:=List.all_eq_true.1 h4 j (List.mem_range.2 hj)
     rw [ho'] at h5
     simp only [Bool.or_eq_true,Bool.and_eq_true] at h5
     rcases h5 with h5 | ⟨_,h5⟩
     · exact absurd (by simpa using h5) hjt
     · have h6:=List.all_eq_true.1 h5 t ht
       simp only [Bool.or_eq_true,bne_iff_ne,ne_eq] at h6
       rcases h6 with h6 | h6
       · exact absurd hd h6
       · exact h6
theorem inv_execG (hB:statG ops ts f=true) {A a:Act}(inv:Inv ops ts A listed a) {i:Nat}{o:Oper}(ho:ops[i]?=some o) (hit:i ∉ ts) (hr:i ∈ Region.ready .any ops listed):execOp a.eval o=execOp A.eval o:=by
 obtain ⟨_,_,_,h4⟩:=stat_opG hB ho hit
 have hsel:Region.noSelect ops=true:=by simp only [statG,Bool.and_eq_true] at hB;exact hB.1.1.1.2
 refine execOp_congr o (fun cs b=>Region.noSelect_spec hsel i o cs b ho) (fun x hx=>?_)
 cases x with
 | tmp t=>
  show a.tmps.getD t undef=A.tmps.getD t undef
  have ht:t ∈ opTmps o:=List.mem_filterMap.2 ⟨.tmp t,by simpa using hx,rfl⟩
  by_cases h:∃ j o',ops[j]?=some o'∧j ∉ ts∧o'.dst=some t
  · obtain ⟨j,o',ho',hjt,hd⟩:=h
    exact inv.v1 j o' t ho' hjt hd (waitsP_ready inv.hi.closed hr (h4 t ht j o' ho' hjt hd))
  · exact inv.v2 t (fun j o' ho' hjt hd=>h ⟨j,o',ho',hjt,hd⟩)
 | const v=>rfl
 | global g=>rfl
 | func g=>rfl
theorem get_eq {x y:Array Value}(hs:x.size=y.size) (d:Nat) (h:x.getD d undef=y.getD d undef):x[d]?=y[d]?:=by
 by_cases hl:d<x.size
 · have hl':d<y.size:=by omega
   rw [Array.getElem?_eq_getElem hl,Array.getElem?_eq_getElem hl']
   simp only [Array.getD_eq_getD_getElem?,Array.getElem?_eq_getElem hl,Array.getElem?_eq_getElem hl',Option.getD_some] at h
   rw [h]
 · rw [Array.getElem?_eq_none (by omega),Array.getElem?_eq_none (by omega)]
theorem put_same {x:Array Value}{d:Nat}(h:d<x.size):x.setIfInBounds d (x.getD d undef)=x:=by
 apply Array.ext_getElem?
 intro k
 rw [Array.getElem?_setIfInBounds]
 split
 · rename_i e;subst e
   simp [h]
 · rfl
theorem inv_wanted (hB:statG ops ts f=true) {A a:Act}(inv:Inv ops ts A listed a) {i:Nat}{o:Oper}(ho:ops[i]?=some o) (hit:i ∉ ts) (hr:i ∈ Region.ready .any ops listed):Region.wanted o (yielded ops a.tmps)=Region.wanted o (yielded ops A.tmps):=by
 obtain ⟨h1,_,_,_⟩:=stat_opG hB ho hit
 unfold Region.wanted
 cases hg:o.guard with
 | none=>rfl
 | some g=>
  obtain ⟨h2,h3⟩:=h1 g hg
  simp only
  congr 1
  unfold yielded
  cases hog:ops[g.1]? with
  | none=>rfl
  | some og=>
   simp only [Option.bind_some]
   cases hd:og.dst with
   | none=>rfl
   | some d=>
    have:=inv.v1 g.1 og d hog h2 hd (waitsP_ready inv.hi.closed hr h3)
    simp only [Option.bind_some]
    rw [get_eq inv.size d this]
theorem inv_turnG (hB:statG ops ts f=true) {A a:Act}(inv:Inv ops ts A listed a) {i d:Nat}{o:Oper}{v:Value}(ho:ops[i]?=some o) (hit:i ∉ ts) (hr:i ∈ Region.ready .any ops listed) (hd:o.dst=some d) (hdl:d<A.tmps.size):Inv ops ts (A.put o.dst v) (listed.setIfInBounds i true) (a.put o.dst v):=by
 obtain ⟨_,_,h3,_⟩:=stat_opG hB ho hit
 rw [hd]
 refine ⟨inv.hi.set hr hit,by simp [Act.put,inv.size],inv.dfr,fun j o' d' ho' hjt hd' hl=>?_,fun t ht=>?_⟩
 · by_cases hji:j=i
   · subst hji
     have:o'=o:=Option.some.inj (ho'.symm.trans ho)
     subst this
     have:d'=d:=Option.some.inj (hd'.symm.trans hd)
     subst this
     simp [Act.put,inv.size,hdl]
   · rw [getD_set_ne false (Ne.symm hji)] at hl
     have hne:d≠d':=by rintro rfl;exact h3 j o' ho' hjt hji (hd'.trans hd.symm)
     have:=inv.v1 j o' d' ho' hjt hd' hl
     simp only [Act.put,Array.getD_eq_getD_getElem?,Array.getElem?_setIfInBounds,if_neg hne] at this ⊢
     exact this
 · have hne:d≠t:=by rintro rfl;exact ht i o ho hit hd
   have:=inv.v2 t ht
   simp only [Act.put,Array.getD_eq_getD_getElem?,Array.getElem?_setIfInBounds,if_neg hne] at this ⊢
   exact this
theorem inv_putG (hB:statG ops ts f=true) {A a:Act}(inv:Inv ops ts A listed a) {i d:Nat}{o:Oper}(ho:ops[i]?=some o) (hit:i ∉ ts) (hr:i ∈ Region.ready .any ops listed) (hd:o.dst=some d) (hdl:d<A.tmps.size):Inv ops ts A (listed.setIfInBounds i true) (a.put o.dst (A.tmps.getD d undef)):=by
 have h:=inv_turnG (v:=A.tmps.getD d undef) hB inv ho hit hr hd hdl
 have e:A.put o.dst (A.tmps.getD d undef)=A:=by
  rw [hd]
  obtain ⟨At,Ad⟩:=A
  show Act.mk _ _=_
  congr 1
  exact put_same hdl
 rw [e] at h
 exact h
theorem step_valG (hB:statG ops ts f=true) {A a:Act}(inv:Inv ops ts A listed a) {Q':Exit→Act→World→Prop}{i:Nat}(hit:i ∉ ts) (hr:i ∈ Region.ready .any ops listed) {w:World}(hdl:∀ (i:Nat) (o:Oper) (d:Nat),ops[i]?=some o→o.dst=some d→d<A.tmps.size) (h:lkG c.P ops A w i) {K:Act→World→Prop}
 (hK:∀ a',Inv ops ts A (listed.setIfInBounds i true) a'→K a' w):wpOpIn c.F 0 c.P ops Q' i K a w:=by
 obtain ⟨o,d,ho,hd,hrun⟩:=h
 have hpl:plainB ops=true:=by simp only [statG,Bool.and_eq_true] at hB;exact hB.1.1.1.1
 unfold wpOpIn
 simp only [ho]
 have hp:=inv_putG hB inv ho hit hr hd (hdl i o d ho hd)
 rw [inv_wanted hB inv ho hit hr]
 by_cases hwd:Region.wanted o (yielded ops A.tmps)=true
 · rw [if_pos hwd] at hrun ⊢
   refine ⟨fun g _=>c.fn g,?_⟩
   rw [semAt_plain' _ _ _ (plain_at hpl ho),inv_execG hB inv ho hit hr,hrun]
   exact hK _ hp
 · rw [if_neg hwd] at hrun ⊢
   refine ⟨fun g _=>c.fn g,?_⟩
   rw [hrun] at hp
   exact hK _ hp
theorem step_turnG (hB:statG ops ts f=true) {A a:Act}(inv:Inv ops ts A listed a) {Q':Exit→Act→World→Prop}{i:Nat}{o:Oper}(ho:ops[i]?=some o) (hit:i ∉ ts) (hr:i ∈ Region.ready .any ops listed) {w:World}{K K':Act→World→Prop}(h:rnC c.P ops K [o] A w) (hK:∀ v w',K (A.put o.dst v) w'→K' (a.put o.dst v) w'):wpOpIn c.F 0 c.P ops Q' i K' a w:=by
 have hpl:plainB ops=true:=by simp only [statG,Bool.and_eq_true] at hB;exact hB.1.1.1.1
 simp only [rnC] at h
 unfold wpOpIn
 simp only [ho]
 rw [inv_wanted hB inv ho hit hr]
 by_cases hwd:Region.wanted o (yielded ops A.tmps)=true
 · rw [if_pos hwd] at h ⊢
   refine ⟨fun g _=>c.fn g,?_⟩
   rw [semAt_plain' _ _ _ (plain_at hpl ho),inv_execG hB inv ho hit hr]
   rcases h with ⟨v,w',h1,h2⟩ | ⟨w',h1,h2⟩ | ⟨g,args,w1,h1,h2⟩
   · rw [h1];exact hK _ _ h2
   · rw [h1];exact hK _ _ h2
   · rw [h1]
     refine ⟨fun h=>(by rw [c.dp] at h;cases h),c.call (h2.mono ?_)⟩
     rintro e w2 ⟨v,rfl,h3⟩
     exact hK _ _ h3
 · rw [if_neg hwd] at h ⊢
   exact ⟨fun g _=>c.fn g,hK _ _ h⟩
def phasesOfG:List Nat→Segs→List (List Nat×Nat)×List Nat
  | ls,[]=>([],ls)
  | ls,(e,res,nw) :: segs=>((ls,e) :: (phasesOfG (res++nw) segs).1,(phasesOfG (res++nw) segs).2)
theorem phasesOfG_e:∀ (ls:List Nat) (segs:Segs),(phasesOfG ls segs).1.map (·.2)=segs.map (·.1)
 | ls,[]=>rfl
 | ls,(e,res,nw) :: segs=>by
  show e :: (phasesOfG (res++nw) segs).1.map (·.2)=e :: segs.map (·.1)
  rw [phasesOfG_e (res++nw) segs]
def newB (ops:Array Oper) (N:Nat) (ts:List Nat) (f:Nat) (segs:Segs):Bool:=segs.all fun s=>orderG ops N s.2.2 && (s.2.1.all fun i=>s.2.2.all fun j=>keepG ops i j) && (s.2.2.all fun i=>!(ts.contains i) && waitsP .any ops f i s.1)
theorem phasesG (hB:statG ops ts f=true) {tl:List Oper}(htl:ts.mapM (fun t=>ops[t]?)=some tl) (hseq:seqT .any ops ts (doneL ops ts)=true) {M:Nat}(hdl:∀ (i:Nat) (o:Oper) (d:Nat),ops[i]?=some o→o.dst=some d→d<M) :
 ∀ (n:Nat) (segs:Segs) (ls es:List Nat) (listed:Array Bool) (A a:Act) (w:World),newB ops M ts f segs=true→cnt ops ts listed=n→A.tmps.size=M→Inv ops ts A listed a→(∀ i ∈ ls,lkG c.P ops A w i)→segG c ops Q tl segs A w→phB ops ts f es (phasesOfG ls segs).1 (phasesOfG ls segs).2=true→
  (∀ e ∈ es,listed.getD e false=true)→(∀ s ∈ segs,s.1<ops.size∧listed.getD s.1 true=false)→(segs.map (·.1)).Nodup→wpAnyIn c.F 0 c.P .any ops (lift c Q) (n+ts.length) listed a w:=by
 have hB':=hB
 simp only [statG,Bool.and_eq_true] at hB'
 intro n
 induction n with
 | zero=>
  intro segs ls es listed A a w hnb hc hM inv hl hcan hph hes hsegs hnd
  have hlist:∀ i,i<ops.size→i ∉ ts→listed.getD i true=true:=fun i hi hit=>by
   cases hv:listed.getD i true with
   | true=>rfl
   | false=>
    have hm:i ∈ (List.range ops.size).filter fun i=>!(ts.contains i) && !(listed.getD i true):=List.mem_filter.2 ⟨List.mem_range.2 hi,by simp [hit,hv]⟩
    unfold cnt at hc
    rw [List.eq_nil_of_length_eq_zero hc] at hm
    cases hm
  cases segs with
  | cons s segs=>
   obtain ⟨e,res,nw⟩:=s
   simp only [phasesOfG,phB,Bool.and_eq_true] at hph
   have h1:=hsegs (e,res,nw) List.mem_cons_self
   have h2:=hlist e h1.1 (by have:=hph.1.1.1;simpa using this)
   rw [h1.2] at h2;cases h2
  | nil=>
   have hL:listed=doneL ops ts:=by
    apply Array.ext
    · rw [inv.hi.size];simp [doneL]
    · intro i h1 h2
      have hi:i<ops.size:=by rw [← inv.hi.size];exact h1
      have e1:listed[i]=listed.getD i true:=by simp [h1]
      rw [e1]
      simp only [doneL,List.getElem_toArray,List.getElem_map,List.getElem_range]
      by_cases hit:i ∈ ts
      · rw [inv.hi.tail i hit];simp [hit]
      · rw [hlist i hi hit];simp [hit]
   have hA:a=A:=by
    obtain ⟨at_,ad⟩:=a
    obtain ⟨At,Ad⟩:=A
    have h1:=inv.dfr
    simp only at h1
    subst h1
    congr 1
    apply Array.ext
    · exact inv.size
    · intro t h1 h2
      have key:at_.getD t undef=At.getD t undef:=by
       by_cases h:∃ j o',ops[j]?=some o'∧j ∉ ts∧o'.dst=some t
       · obtain ⟨j,o',ho',hjt,hd⟩:=h
         exact inv.v1 j o' t ho' hjt hd (by
          have hj:=(Array.getElem?_eq_some_iff.1 ho').1
          have:=hlist j hj hjt
          simp [inv.hi.size,hj] at this ⊢
          exact this)
       · exact inv.v2 t (fun j o' ho' hjt hd=>h ⟨j,o',ho',hjt,hd⟩)
      simpa [h1,h2] using key
   subst hA
   rw [Nat.zero_add]
   exact wpAnyIn_of_seqT ts tl listed a w htl (by rw [hL];exact hseq) hcan
 | succ n ih=>
  intro segs ls es listed A a w hnb hc hM inv hl hcan hph hes hsegs hnd
  have hdl':∀ (i:Nat) (o:Oper) (d:Nat),ops[i]?=some o→o.dst=some d→d<A.tmps.size:=fun i o d h1 h2=>hM ▸ hdl i o d h1 h2
  rw [show n+1+ts.length=(n+ts.length)+1 by omega]
  have hne:Region.ready .any ops listed≠[]:=by
   have hex:∃ i,i<ops.size∧listed.getD i true=false:=by
    apply Classical.byContradiction
    intro h
    have:(List.range ops.size).filter (fun i=>!(ts.contains i) && !(listed.getD i true))=[]:=List.filter_eq_nil_iff.2 (fun i hi=>by
     have:=List.mem_range.1 hi
     cases hv:listed.getD i true with
     | true=>simp
     | false=>exact absurd ⟨i,this,hv⟩ h)
    unfold cnt at hc
    rw [this] at hc
    cases hc
   have hmin:∀ n i,i<n→i<ops.size→listed.getD i true=false→Region.ready .any ops listed≠[]:=by
    intro n
    induction n with
    | zero=>intro i hi;omega
    | succ n ihn=>
     intro i hin hi hun
     by_cases hlow:∃ k,k<i∧listed.getD k true=false
     · obtain ⟨k,hk,hku⟩:=hlow
       exact ihn k (by omega) (by omega) hku
     · intro hr
       have:i ∈ Region.ready .any ops listed:=mem_ready.2 ⟨hun,ops[i],Array.getElem?_eq_getElem hi,fun e he hb=>by
        have h1:=List.all_eq_true.1 hB'.1.2 i (List.mem_range.2 hi)
        rw [Array.getElem?_eq_getElem hi] at h1
        simp only [Bool.and_eq_true] at h1
        have h2:=Array.all_eq_true'.1 h1.1 e he
        rw [hb] at h2
        have h3:e.on<i:=by simpa [Nat.blt_eq] using h2
        have h4:listed.getD e.on true≠false:=fun h=>hlow ⟨e.on,h3,h⟩
        have h5:e.on<listed.size:=by rw [inv.hi.size];omega
        simp [h5] at h4 ⊢
        exact h4⟩
       rw [hr] at this;cases this
   obtain ⟨i,hi,hun⟩:=hex
   exact hmin (i+1) i (by omega) hi hun
  refine ⟨fun h=>absurd h hne,fun i hir=>?_⟩
  obtain ⟨hun,oi,hoi,_⟩:=mem_ready.1 hir
  have hi:=(Array.getElem?_eq_some_iff.1 hoi).1
  have hit:i ∉ ts:=fun h=>by
   have h1:=List.all_eq_true.1 hB'.2 i h
   have hz:cnt ops ts listed=0:=by
    unfold cnt
    rw [List.length_eq_zero_iff,List.filter_eq_nil_iff]
    intro k hk
    have h2:=List.all_eq_true.1 h1 k hk
    rw [Bool.or_eq_true] at h2
    rcases h2 with h2 | h2
    · simp only [h2];simp
    · have h3:=waitsP_ready inv.hi.closed hir h2
      have:listed.getD k true=true:=by
       have hk':=List.mem_range.1 hk
       simp [inv.hi.size,hk'] at h3 ⊢;exact h3
      rw [this];simp
   omega
  have hc':cnt ops ts (listed.setIfInBounds i true)=n:=by have:=cnt_set hi inv.hi.size hit hun;omega
  have hes':∀ es':List Nat,(∀ e ∈ es',listed.getD e false=true)→∀ e ∈ es',(listed.setIfInBounds i true).getD e false=true:=fun es' h e he=>getD_set_true (h e he)
  have nolist:¬ listed.getD i false=true:=fun h=>by rw [getD_both hun] at h;cases h
  have byes:es.any (fun e'=>Nat.beq e' i || waitsP .any ops f e' i)=true→False:=fun h=>by
   obtain ⟨e',he',h⟩:=List.any_eq_true.1 h
   simp only [Bool.or_eq_true,Nat.beq_eq] at h
   rcases h with rfl | h
   · exact nolist (hes _ he')
   · exact nolist (waitsP_listed inv.hi.closed f e' i (hes _ he') h)
  cases segs with
  | nil=>
   have h1:=List.all_eq_true.1 hph i (List.mem_range.2 hi)
   simp only [Bool.or_eq_true] at h1
   rcases h1 with (h1 | h1) | h1
   · exact absurd (by simpa using h1) hit
   · exact step_valG hB inv hit hir hdl' (hl i (by simpa [phasesOfG] using h1)) (fun a' inv'=>ih [] ls es _ A a' w hnb hc' hM inv' hl hcan hph (hes' es hes) (by simp) (by simp))
   · exact (byes h1).elim
  | cons s segs=>
   obtain ⟨e,res,nw⟩:=s
   have hph0:=hph
   simp only [phasesOfG,phB,Bool.and_eq_true] at hph
   have hse:=hsegs (e,res,nw) List.mem_cons_self
   obtain ⟨hnd1,hnd2⟩:=List.nodup_cons.1 hnd
   by_cases hie:i=e
   · subst hie
     obtain ⟨o,ho,hrn⟩:=hcan
     obtain ⟨_,⟨d,hd⟩,_⟩:=stat_opG hB ho hit
     have hsel:Region.noSelect ops=true:=hB'.1.1.1.2
     simp only [newB,List.all_cons,Bool.and_eq_true] at hnb
     obtain ⟨⟨⟨hn1,hn2⟩,hn3⟩,hnb'⟩:=hnb
     refine step_turnG hB inv ho hit hir hrn (fun v w' hk=>?_)
     obtain ⟨hre,l,hml,hlk⟩:=hk
     have hM':(A.put o.dst v).tmps.size=M:=by rw [hd];simpa [Act.put] using hM
     obtain ⟨A2,hA1,hA2,hA3,hA4,hA5⟩:=lk_canG (c:=c) hsel nw l res (A.put o.dst v) hml hn1 hM' hre (fun i hi j hj=>List.all_eq_true.1 (List.all_eq_true.1 hn2 i hi) j hj) hlk
     have inv1:=inv_turnG (v:=v) hB inv ho hit hir hd (hdl' i o d ho hd)
     have hnl:∀ j ∈ nw,j ∉ ts∧(listed.setIfInBounds i true).getD j false=true→False:=fun j hj hl=>by
      have h1:=List.all_eq_true.1 hn3 j hj
      simp only [Bool.and_eq_true] at h1
      by_cases hji:j=i
      · subst hji
        have:=waitsP_ready inv.hi.closed hir h1.2
        exact nolist this
      · have h2:listed.getD j false=true:=by rw [← getD_set_ne false (Ne.symm hji)];exact hl.2
        exact nolist (waitsP_listed inv.hi.closed f j i h2 h1.2)
     have inv2:Inv ops ts A2 (listed.setIfInBounds i true) (a.put o.dst v):=by
      refine ⟨inv1.hi,by rw [inv1.size,hA1,hM'],by rw [inv1.dfr,hA2],fun j o' d' ho' hjt hd' hl=>?_,fun t ht=>?_⟩
      · rw [inv1.v1 j o' d' ho' hjt hd' hl]
        refine (hA3 d' (fun k hk ok hok hdk=>?_)).symm
        have hkt:k ∉ ts:=by have h1:=List.all_eq_true.1 hn3 k hk;simp only [Bool.and_eq_true] at h1;simpa using h1.1
        by_cases hkj:k=j
        · subst hkj;exact hnl k hk ⟨hjt,hl⟩
        · exact (stat_opG hB ho' hjt).2.2.1 k ok hok hkt hkj (hdk.trans hd'.symm)
      · rw [inv1.v2 t ht]
        refine (hA3 t (fun k hk ok hok hdk=>?_)).symm
        have hkt:k ∉ ts:=by have h1:=List.all_eq_true.1 hn3 k hk;simp only [Bool.and_eq_true] at h1;simpa using h1.1
        exact ht k ok hok hkt hdk
     refine ih segs (res++nw) (i :: es) _ A2 _ w' hnb' hc' hA1 inv2 hA4 hA5 hph.2 (fun e he=>?_) (fun s hs=>?_) hnd2
     · rcases List.mem_cons.1 he with rfl | he
       · simp [inv.hi.size,hi]
       · exact getD_set_true (hes e he)
     · have:=hsegs s (List.mem_cons_of_mem _ hs)
       refine ⟨this.1,?_⟩
       rw [getD_set_ne true (by rintro rfl;exact hnd1 (List.mem_map.2 ⟨s,hs,rfl⟩))]
       exact this.2
   · have h1:=List.all_eq_true.1 hph.1.1.2 i (List.mem_range.2 hi)
     simp only [Bool.or_eq_true,Nat.beq_eq] at h1
     rcases h1 with (((h1 | h1) | h1) | h1) | h1
     · exact absurd (by simpa using h1) hit
     · refine step_valG hB inv hit hir hdl' (hl i (by simpa using h1)) (fun a' inv'=>ih ((e,res,nw) :: segs) ls es _ A a' w hnb hc' hM inv' hl hcan hph0 (hes' es hes) (fun s hs=>?_) hnd)
       have:=hsegs s hs
       refine ⟨this.1,?_⟩
       rcases List.mem_cons.1 hs with rfl | hs
       · rw [getD_set_ne true hie];exact this.2
       · by_cases hsi:i=s.1
         · have hm:s.1 ∈ (phasesOfG (res++nw) segs).1.map (·.2):=by rw [phasesOfG_e];exact List.mem_map.2 ⟨s,hs,rfl⟩
           obtain ⟨q,hq,hqe⟩:=List.mem_map.1 hm
           have h5:=List.all_eq_true.1 (List.all_eq_true.1 hph.1.2 i (by simpa using h1)) q hq
           rw [hsi,hqe] at h5
           simp at h5
         · rw [getD_set_ne true hsi];exact this.2
     · exact absurd h1.symm hie
     · exact (byes h1).elim
     · have:=waitsP_ready inv.hi.closed hir h1
       rw [getD_both hse.2] at this;cases this
def drawG (ops:Array Oper) (N:Nat) (ks:List Nat) (segs:Segs) (ts:List Nat) (f:Nat):Bool:=
  statG ops ts f && orderG ops N ks && newB ops N ts f segs && phB ops ts f [] (phasesOfG ks segs).1 (phasesOfG ks segs).2 && seqT .any ops ts (doneL ops ts) && ops.all (fun o=>o.dst.all fun d=>Nat.blt d N) &&
    ks.all (fun k=>!(ts.contains k)) && segs.all (fun s=>!(ts.contains s.1) && Nat.blt s.1 ops.size) && decide ((segs.map (·.1)).Nodup) && Nat.beq (cnt ops ts (Array.replicate ops.size false)+ts.length) ops.size
theorem wDrawG (hm:c.P.follows .mixedOrders=true) {id:Nat}{l hd tl:List Oper}(ks:List Nat) (segs:Segs) (ts:List Nat) (f:Nat) (hB:drawG l.toArray c.N ks segs ts f=true) (hk:ks.mapM (fun k=>l[k]?)=some hd) (htl:ts.mapM (fun k=>l[k]?)=some tl)
 (h:∀ w0,O (Md.lk c l.toArray w0 (fun a=>segG c l.toArray Q tl segs a w0)) hd E D H):W c (.region id l.toArray true) Q E D H:=by
 intro a w ha hw
 refine wpIn_region_any hm ?_
 simp only [drawG,Bool.and_eq_true,decide_eq_true_eq,Nat.beq_eq] at hB
 obtain ⟨⟨⟨⟨⟨⟨⟨⟨⟨hst,hor⟩,hnb⟩,hph⟩,hseq⟩,hN⟩,hkt⟩,hsg⟩,hnd⟩,hcnt⟩:=hB
 have hst':=hst
 simp only [statG,Bool.and_eq_true] at hst'
 have hsel:Region.noSelect l.toArray=true:=hst'.1.1.1.2
 have htr:=hst'.1.1.2
 have hks:ks.mapM (fun k=>l.toArray[k]?)=some hd:=by simpa using hk
 have htl':ts.mapM (fun k=>l.toArray[k]?)=some tl:=by simpa using htl
 obtain ⟨A,hA1,hA2,hA3,hA4,hA5⟩:=lk_canG (c:=c) hsel ks hd [] a hks hor ha.size (by simp) (by simp) (h w.drew a w.drew ha hw.drew rfl)
 rw [List.nil_append] at hA4
 have hdl:∀ (i:Nat) (o:Oper) (d:Nat),l.toArray[i]?=some o→o.dst=some d→d<c.N:=fun i o d ho hd=>by
  obtain ⟨hi,he⟩:=Array.getElem?_eq_some_iff.1 ho
  have h1:=Array.all_eq_true.1 hN i hi
  rw [he,hd] at h1
  simpa [Nat.blt_eq] using h1
 have inv:Inv l.toArray ts A (Array.replicate l.toArray.size false) a:=by
  refine ⟨⟨by simp,fun j oj _ hl=>(by rw [getD_replicate_false] at hl;cases hl),fun t ht=>getD_in (by have:=List.all_eq_true.1 htr t ht;simpa [Nat.blt_eq] using this) (getD_replicate_false _ _)⟩,by rw [hA1,ha.size],hA2.symm,fun i o d ho hit hd hl=>(by rw [getD_replicate_false] at hl;cases hl),fun t ht=>(hA3 t (fun j hj o ho hd=>?_)).symm⟩
  have:=List.all_eq_true.1 hkt j hj
  exact ht j o ho (by simpa using this) hd
 have hgo:=phasesG (c:=c) (Q:=Q) hst htl' hseq hdl _ segs ks [] (Array.replicate l.toArray.size false) A a w.drew hnb rfl hA1 inv hA4 hA5 hph (by simp) (fun s hs=>by
  have h2:=List.all_eq_true.1 hsg s hs
  simp only [Bool.and_eq_true,Nat.blt_eq] at h2
  exact ⟨h2.2,getD_in (by simpa using h2.2) (getD_replicate_false _ _)⟩) hnd
 rw [hcnt] at hgo
 exact hgo
end
end Go.Proofs.YtpmdhkjbhjgoaaaGreatDoorK


/-
  Values of methods.
-/
namespace Go.Proofs.YtpmdhkjbhjgoaaaGreatDoorK
open Go.RowKit
section
variable {c : Cx} {N : Md c} {d : Nat} {ty : TypeId} {pos : String} {af : Array Edge} {rest : List Oper} {E : Env} {D : List Deferred} {H : List Res}
end
end Go.Proofs.YtpmdhkjbhjgoaaaGreatDoorK


/-
  min, max; addresses in arrays; arrays by value that come in.
-/
namespace Go.Proofs.YtpmdhkjbhjgoaaaGreatDoorK
open Go.RowKit Go.ChangeShapes Go.WideShapes
section
variable {c : Cx} {M : Md c} {d : Nat} {ty : TypeId} {pos : String} {af : Array Edge} {rest : List Oper} {E : Env} {D : List Deferred} {H : List Res} {x y : Operand} {t t' : TypeId}
def arrT (P:Program) (t:TypeId):Option (Nat×Nat):=match P.underlying t with
  | some (.array n e)=>(P.info? e).map fun i=>(n,i.size)
  | _=>none
theorem oIdxA {b o i n s m:Nat}{k:IntKind}{z:Int}(hx:E.op x=some (.pointer (some ⟨b,o,none⟩))) (hy:E.op y=some (.int k z)) (hz:z=(i:Int)) (ht:arrT c.P t=some (n,s)) (hi:i<n) (hm:o+i * s=m) (h:O M rest ((d,.pointer (some ⟨b,m,none⟩)) :: E) D H) (hN:Nat.blt d c.N=true:=by rfl):O M (⟨some d,.indexAddr t x y,ty,pos,af,none⟩ :: rest) E D H:=
 oC _ rfl hN (fun u w ha hw=>by
  subst hz
  unfold arrT at ht
  cases hu:c.P.underlying t with
  | none=>rw [hu] at ht;cases ht
  | some ut=>
   rw [hu] at ht
   cases ut <;> simp only [Option.map_eq_some_iff,reduceCtorEq,false_and,exists_false] at ht
   case array n' e'=>
    obtain ⟨inf,h2,h3⟩:=ht
    injection h3 with h4 h5
    subst h4 h5
    have he:(⟨b,o,none⟩:Addr).add (i * inf.size)=⟨b,m,none⟩:=by rw [add_at,hm]
    simp [execOp,ha.op hx,ha.op hy,Instr.indexAt,asIntOf,run_underlying hu,Instr.sureAddr,sizeOf,typeInfo,h2,hi,he]) h
end
end Go.Proofs.YtpmdhkjbhjgoaaaGreatDoorK
namespace Go.Proofs.YtpmdhkjbhjgoaaaGreatDoorK
open Go.RowKit
theorem ap {P:Prop}(h:P:=by repeat (first | exact AppL.nil | apply AppL.cons)):P:=h
def Z4:=@oLkSegG
def Z5:=@oSegG
def Z6:=@oTailG
def Z8:=@AgainG.cons
def Z9:=@oLkHas
def ZG:=@oAgainG
theorem Zza {P Q:Prop}(k:Q) (h:Q→P:=by intro a;exact (Zi (Zp J (Zn (Za (Zl (Zf (Zw (fi1 J a))))))))):P:=h k
theorem Zzb {P Q:Prop}(k:Q) (h:Q→P:=by intro a;exact (Zi (Zp J (Zn (Za (Zl (Zc (Zw (fi1 J a))))))))):P:=h k
theorem Zzc {P Q:Prop}(k:Q) (h:Q→P:=by intro a;exact (Zn (Za (Zl (Zw (fi1 J a)))))):P:=h k
theorem Zzd {P Q:Prop}(k:Q) (h:Q→P:=by intro a;exact (Zi (Zp J (Zp J (Zn (Za (Zl (Zc (Zw a))))))))):P:=h k
theorem Zze {P Q:Prop}(k:Q) (h:Q→P:=by intro a;exact (Za (Zi (Zo J (Zsu a))))):P:=h k
theorem Zzf {P Q:Prop}(k:Q) (h:Q→P:=by intro a;exact (Zn (Za (Zl (Zf (Zc (Zc (Zf (Zc (Zw (fi1 J a))))))))))):P:=h k
theorem Zzg {P Q:Prop}(k:Q) (h:Q→P:=by intro a;exact (Za (Zh (Zi (Zo J a))))):P:=h k
theorem Zzh {P Q:Prop}(k:Q) (h:Q→P:=by intro a;exact (Zi (Zp J (Zp J (Zn (Za (Zl (Zc (Zf (Zc (Zc (Zf (Zc (Zw a)))))))))))))):P:=h k
end Go.Proofs.YtpmdhkjbhjgoaaaGreatDoorK
namespace Go.Proofs.YtpmdhkjbhjgoaaaGreatDoorK
open Go.RowKit
structure Elm {α:Type}(kd:Kd α) (W:World) (A:Option Addr) (i:Nat) (u:α) (e:Addr) (cs:List Value):Prop where
  at_:∃ ad,A=some ad∧e=ad.add (i * kd.sz)
  K:kd.K W u cs
  cell:∀ j v,cs[j]?=some v→W.cell? (adr e j)=some v
theorem Kd.C.elm {α:Type}{kd:Kd α}{W:World}{A:Option Addr}{xs:List α}{i:Nat}{u:α}(hC:kd.C W A xs) (hu:xs[i]?=some u):∃ e cs,Elm kd W A i u e cs:=by
 obtain ⟨hi,rfl⟩:=List.getElem?_eq_some_iff.1 hu
 obtain ⟨_,hC⟩:=hC
 obtain ⟨ad,rfl,hc⟩:=hC (by omega)
 obtain ⟨cs,hK,hcell⟩:=hc i _ hu
 exact ⟨_,cs,⟨ad,rfl,rfl⟩,hK,fun j v hv=>by
  have e1:adr (ad.add (i * kd.sz)) j=ad.add (i * kd.sz+j):=by unfold adr;exact Addr.add_add _ _ _
  rw [e1];exact hcell j v hv⟩
section
variable {c : Cx} {M : Md c} {d : Nat} {ty t : TypeId} {pos : String} {af : Array Edge} {rest : List Oper} {E : Env} {D : List Deferred} {H : List Res} {x y : Operand}
theorem oIdxE {α:Type}{kd:Kd α}{k:IntKind}{A:Option Addr}{i:Nat}{n cp:Nat}{e:TypeId}{s:Nat}{u:α}{e':Addr}{cs:List Value}(hx:E.op x=some (.slice A n cp)) (hy:E.op y=some (.int k (i:Int))) (hE:Elm kd c.B.e A i u e' cs) (hi:i<n) (ht:elemT c.P t=some (e,s)) (hsz:kd.sz=s)
 (h:O M rest ((d,.pointer (some (adr e' 0))) :: E) D H) (hN:Nat.blt d c.N=true:=by rfl):O M (⟨some d,.indexAddr t x y,ty,pos,af,none⟩ :: rest) E D H:=by
 subst hsz
 obtain ⟨ad,rfl,rfl⟩:=hE.at_
 refine oC (.pointer (some (adr (ad.add (i * kd.sz)) 0))) rfl hN (fun u w ha hw=>?_) h
 have e1:adr (ad.add (i * kd.sz)) 0=ad.add (i * kd.sz):=by unfold adr;rfl
 simp [execOp,ha.op hx,ha.op hy,run_indexAt ht ad _ cp i hi k w,e1]
end
theorem row_Cs {α:Type}{enc:α→Value}{h1:∀ x,(enc x).oneCell'=true}{W w:World}{e:TypeId}{A:Option Addr}{n cp:Nat}{xs:List α}(h:(row (Kd.scalar enc h1) W e (.slice A n cp) xs).q w):(Kd.scalar enc h1).C w A xs:=by
 obtain ⟨cs,ho,hr⟩:=h
 exact (row_C (kd:=Kd.scalar enc h1) (W:=w) (e:=e) (n:=n) (cp:=cp) ⟨cs,ho,cat_scalar.2 (cat_scalar.1 hr)⟩ (Grow.refl _)).2.2.1
theorem blk_row {α:Type}{B:Base}{Φ Φ':List Res}{enc:α→Value}{h1:∀ x,(enc x).oneCell'=true}{W:World}{xs:List α}{e:TypeId}{b n:Nat}{cs:List Value}(hp:Pick Φ (blk b e cs) Φ') (hc:cs=xs.map enc) (hn:xs.length=n) (hm:n≤maxLen):Leads B Φ (row (Kd.scalar enc h1) W e (.slice (some ⟨b,0,none⟩) n n) xs :: Φ'):=fun w h=>
  (h.perm hp.perm).conv .here (fun hq=>by
    subst hn hc
    exact row_mk (cur:=(xs.map enc).toArray) hq (Nat.le_refl _) hm (by simp) (by rw [← List.length_map (f:=enc),List.take_length])) (fun k hk=>by
      have:some b=some k:=hk
      injection this with h;exact h.symm)
end Go.Proofs.YtpmdhkjbhjgoaaaGreatDoorK
namespace Go.Proofs.YtpmdhkjbhjgoaaaGreatDoorK
open Go.RowKit
section
variable {c : Cx} {M : Md c} {d : Nat} {ty : TypeId} {pos : String} {af : Array Edge} {rest : List Oper} {E : Env} {D : List Deferred} {H H' : List Res} {x y : Operand} {t t' : TypeId} {v : Value}
def byteAt (s:ByteArray) (i:Nat):Int:=((s[i]?).map fun b=>(b.toNat:Int)).getD 0
theorem byteAt_eq {s:ByteArray}{i:Nat}(h:i<s.size):byteAt s i=((s[i]'h).toNat:Int):=by
 unfold byteAt
 rw [getElem?_pos s i h];rfl
theorem oIndexStr {s:ByteArray}{k:IntKind}{i:Nat}(hx:E.op x=some (.string s)) (hy:E.op y=some (.int k (i:Int))) (ht:c.P.underlying t=some .string) (hi:i<s.size) (h:O M rest ((d,.int .u8 (byteAt s i)) :: E) D H) (hN:Nat.blt d c.N=true:=by rfl):O M (⟨some d,.index t x y,ty,pos,af,none⟩ :: rest) E D H:=
 oC _ rfl hN (fun u w ha hw=>by
  have e1:s[i]?=some (s[i]'hi):=getElem?_pos s i hi
  simp [execOp,ha.op hx,ha.op hy,Instr.index,asIntOf,run_underlying ht,e1,byteAt_eq hi]) h
theorem oIndexArr {cs:List Value}{k:IntKind}{i n:Nat}{v:Value}{z:Int}(hx:E.op x=some (.agg cs.toArray)) (hy:E.op y=some (.int k z)) (hz:z=(i:Int)) (ht:arrT c.P t=some (n,1)) (hs:((match c.P.underlying t with | some (.array _ e)=>scalT c.P e | _=>false))=true) (hi:i<n) (hv:cs[i]?=some v) (h:O M rest ((d,v) :: E) D H) (hN:Nat.blt d c.N=true:=by rfl):O M (⟨some d,.index t x y,ty,pos,af,none⟩ :: rest) E D H:=
 oC _ rfl hN (fun u w ha hw=>by
  subst hz
  unfold arrT at ht
  cases hu:c.P.underlying t with
  | none=>rw [hu] at ht;cases ht
  | some ut=>
   rw [hu] at ht hs
   cases ut <;> simp only [Option.map_eq_some_iff,reduceCtorEq,false_and,exists_false] at ht
   case array n' e'=>
    obtain ⟨inf,h2,h3⟩:=ht
    injection h3 with h4 h5
    subst h4
    have h6:=run_isAgg_s hs w
    simp [execOp,ha.op hx,ha.op hy,Instr.index,asIntOf,run_underlying hu,sizeOf,typeInfo,h2,h5,hi,part,h6,hv]) h
theorem oBuildArr {ps:Array (Nat×Operand)}{vs:List (Nat×Value)}{zs us:List Value}{n s:Nat}(hx:Parts E ps.toList vs) (hz:((c.P.info? t).map (·.zero))=some (some (.agg zs.toArray))) (ht:arrT c.P t=some (n,s)) (hb:Built (fun i=>some (i * s,s)) zs vs us) (h:O M rest ((d,.agg us.toArray) :: E) D H) (hN:Nat.blt d c.N=true:=by rfl):O M (⟨some d,.build t ps,ty,pos,af,none⟩ :: rest) E D H:=
 oC _ rfl hN (fun u w hf hw=>by
  have h2:(ps.map fun (i,x)=>(i,u.eval x))=vs.toArray:=by
   apply Array.toList_inj.1
   simpa using hx.spec hf
  obtain ⟨i,hi,hz⟩:=Option.map_eq_some_iff.1 hz
  unfold arrT at ht
  have key:(Instr.build t vs.toArray).run c.P w=.ok (.agg us.toArray) w:=by
   cases hu:c.P.underlying t with
   | none=>rw [hu] at ht;cases ht
   | some ut=>
    rw [hu] at ht
    cases ut <;> simp only [Option.map_eq_some_iff,reduceCtorEq,false_and,exists_false] at ht
    case array n' e'=>
     obtain ⟨inf,h3,h4⟩:=ht
     injection h4 with h5 h6
     have hbs:=hb.spec
     simp [Instr.build,zeroValue,typeInfo,hi,hz,run_underlying hu,sizeOf,h3,h6,Value.cells,hbs]
  simp only [execOp,Sem.run_bind,h2,key,Result.andThen_ok,Sem.run_pure]) h
theorem wCondTd {x' y':Code}{Q:Post}{D':List Deferred}{H':List Res}{o:Operand}{p:Prop} [Decidable p] (hp:p) (hc:E.op o=some (.bool (decide p))) (h:W c x' Q E D' H'):W c (.cond o x' y') Q E D' H':=wCondT (by rw [hc,decide_eq_true hp]) h
theorem wCondFd {x' y':Code}{Q:Post}{D':List Deferred}{H':List Res}{o:Operand}{p:Prop} [Decidable p] (hp:¬ p) (hc:E.op o=some (.bool (decide p))) (h:W c y' Q E D' H'):W c (.cond o x' y') Q E D' H':=wCondF (by rw [hc,decide_eq_false hp]) h
theorem wCondTb {x' y':Code}{Q:Post}{D':List Deferred}{H':List Res}{o:Operand}{b:Bool}(hp:b=true) (hc:E.op o=some (.bool b)) (h:W c x' Q E D' H'):W c (.cond o x' y') Q E D' H':=wCondT (by rw [hc,hp]) h
theorem wCondFb {x' y':Code}{Q:Post}{D':List Deferred}{H':List Res}{o:Operand}{b:Bool}(hp:b=false) (hc:E.op o=some (.bool b)) (h:W c y' Q E D' H'):W c (.cond o x' y') Q E D' H':=wCondF (by rw [hc,hp]) h
def nextV (s:ByteArray) (p:Nat):Value:=if p<s.size then .tuple #[.bool true,.int .i64 (p:Int),.int .i32 ((Utf8.decode s p).1:Int)] else .tuple #[.bool false]
def nextP (s:ByteArray) (p:Nat):Nat:=if p<s.size then p+(Utf8.decode s p).2 else p
theorem nextV_T {s:ByteArray}{p:Nat}(h:p<s.size) (ha:byteAt s p<128):nextV s p=.tuple #[.bool true,.int .i64 (p:Int),.int .i32 (byteAt s p)]:=by
 rw [byteAt_eq h] at *
 unfold nextV
 rw [if_pos h,decode_ascii s p h (by omega)]
theorem nextP_T {s:ByteArray}{p:Nat}(h:p<s.size) (ha:byteAt s p<128):nextP s p=p+1:=by
 rw [byteAt_eq h] at ha
 unfold nextP
 rw [if_pos h,decode_ascii s p h (by omega)]
theorem oRangeStr {M:Me c}{s:ByteArray}(hx:E.op x=some (.string s)) (ht:c.P.underlying t=some .string) (h:∀ b,O M.toMd rest ((d,.pointer (some ⟨b,0,none⟩)) :: E) D (ob b (.stringIter s 0) :: H)) (hN:Nat.blt d c.N=true:=by rfl):O M.toMd (⟨some d,.range t x,ty,pos,af,none⟩ :: rest) E D H:=
 oEff rfl hN fun a w ha hw=>by
  refine ⟨_,w.alloc (.stringIter s 0),_,?_,hw.alloc _,h w.heap.size⟩
  simp [execOp,ha.op hx,run_range_string w t s ht,World.iter]
theorem oNextStr {M:Me c}{s:ByteArray}{b p:Nat}(hx:E.op x=some (.pointer (some ⟨b,0,none⟩))) (hp:Pick H (ob b (.stringIter s p)) H') (h:O M.toMd rest ((d,nextV s p) :: E) D (ob b (.stringIter s (nextP s p)) :: H')) (hN:Nat.blt d c.N=true:=by rfl):O M.toMd (⟨some d,.next x true,ty,pos,af,none⟩ :: rest) E D H:=
 oEff rfl hN fun a w ha hw=>by
  have hb:w.heap[b]?=some (.stringIter s p):=hw.get hp
  by_cases hps:p<s.size
  · refine ⟨_,w.putObj b (.stringIter s (nextP s p)),ob b (.stringIter s (nextP s p)) :: H',?_,hw.upd' hp (Chg.putObj w b _) (World.putObj_heap_same (Array.getElem?_eq_some_iff.1 hb).1) (fun k hk=>.inl hk),h⟩
    simp [execOp,ha.op hx,Instr.next,getObj,setObj,Sem.run,hb,hps,nextV,nextP,goInt,World.putObj]
  · refine ⟨_,w,_,?_,?_,h⟩
    · simp [execOp,ha.op hx,Instr.next,getObj,Sem.run,hb,hps,nextV]
    · unfold nextP;rw [if_neg hps];exact hw.perm hp.perm
theorem oExtN {s:ByteArray}{p:Nat}(hx:E.op x=some (nextV s p)) (h:O M rest ((d,.bool (decide (p<s.size))) :: E) D H) (hN:Nat.blt d c.N=true:=by rfl):O M (⟨some d,.extract x 0,ty,pos,af,none⟩ :: rest) E D H:=
 oC _ rfl hN (fun u w ha hw=>by
  unfold nextV at hx
  by_cases hps:p<s.size
  · rw [if_pos hps] at hx;simp [execOp,ha.op hx,Instr.extract,hps]
  · rw [if_neg hps] at hx;simp [execOp,ha.op hx,Instr.extract,hps]) h
theorem oSliceArr {b o l m n s:Nat}{k k':IntKind}{z1 z2:Operand}(hx:E.op x=some (.pointer (some ⟨b,o,none⟩))) (hl:E.op z1=some (.int k (l:Int))) (hm:E.op z2=some (.int k' (m:Int))) (ht:arrT c.P t=some (n,s)) (h1:l<n) (h2:l≤m∧m≤n)
 (h:O M rest ((d,.slice (some ⟨b,o+l * s,none⟩) (m-l) (n-l)) :: E) D H) (hN:Nat.blt d c.N=true:=by rfl):O M (⟨some d,.slice t x (some z1) (some z2) none,ty,pos,af,none⟩ :: rest) E D H:=
 oC _ rfl hN (fun u w ha hw=>by
  unfold arrT at ht
  cases hu:c.P.underlying t with
  | none=>rw [hu] at ht;cases ht
  | some ut=>
   rw [hu] at ht
   cases ut <;> simp only [Option.map_eq_some_iff,reduceCtorEq,false_and,exists_false] at ht
   case array n' e'=>
    obtain ⟨inf,h3,h4⟩:=ht
    injection h4 with h5 h6
    subst h5
    have e1:¬ n'=l:=by omega
    simp [execOp,ha.op hx,ha.op hl,ha.op hm,Instr.sliceAt,run_underlying hu,Instr.sureAddr,Instr.sliceBounds,Instr.sliceBound,asIntOf,h2,sizeOf,typeInfo,h3,h6,e1,add_at]) h
theorem oIdxB {b o i n cp s m:Nat}{k:IntKind}{e:TypeId}(hx:E.op x=some (.slice (some ⟨b,o,none⟩) n cp)) (hy:E.op y=some (.int k (i:Int))) (ht:elemT c.P t=some (e,s)) (hi:i<n) (hm:o+i * s=m) (h:O M rest ((d,.pointer (some ⟨b,m,none⟩)) :: E) D H) (hN:Nat.blt d c.N=true:=by rfl):O M (⟨some d,.indexAddr t x y,ty,pos,af,none⟩ :: rest) E D H:=
 oC _ rfl hN (fun u w ha hw=>by
  have e1:(⟨b,o,none⟩:Addr).add (i * s)=⟨b,m,none⟩:=by rw [add_at,hm]
  simp [execOp,ha.op hx,ha.op hy,run_indexAt ht ⟨b,o,none⟩ n cp i hi k w,e1]) h
def Asc (s:ByteArray):Prop:=∀ i,i<s.size→byteAt s i<128
end
end Go.Proofs.YtpmdhkjbhjgoaaaGreatDoorK
namespace Go.Proofs.YtpmdhkjbhjgoaaaGreatDoorK
open Go.RowKit Go.Shelf Go.Sort
section
variable {B : Base} {w : World} {P : Program} {ρ : Ren} {W : World} {e : TypeId} {A : Option Addr} {n cp : Nat} {zs : List ByteArray}
def toL (s:ByteArray):List UInt8:=s.data.toList
def ofL (l:List UInt8):ByteArray:=⟨l.toArray⟩
theorem ofL_toL (s:ByteArray):ofL (toL s)=s:=by cases s;rfl
def Keeps (B B':Base):Prop:=∀ (k:Nat) (cs:Array Value) (t:TypeId) (f:Nat×Nat),B.e.heap[k]?=some (Obj.cells cs t f)→B'.e.heap[k]?=some (Obj.cells cs t f)
theorem Keeps.trans {B B' B'':Base}(h:Keeps B B') (k:Keeps B' B''):Keeps B B'':=fun i cs t f hi=>k i cs t f (h i cs t f hi)
theorem tab_of {e e':World}{name:String}{k:IntKind}{zs:List Int}(h:∀ (i:Nat) (cs:Array Value) (t:TypeId) (f:Nat×Nat),e.heap[i]?=some (Obj.cells cs t f)→e'.heap[i]?=some (Obj.cells cs t f)) (hT:Lib.TabIs P e name k zs):Lib.TabIs P e' name k zs:=by
 unfold Lib.TabIs World.var? at *
 cases hg:P.globalNamed name with
 | none=>rw [hg] at hT;simp at hT
 | some g=>
  rw [hg] at hT
  simp only [Option.bind_some] at hT ⊢
  split at hT
  · rename_i cs t f hh
    rw [h _ _ _ _ hh];exact hT
  · cases hT
theorem Keeps.tab {B B':Base}{name:String}{k:IntKind}{zs:List Int}(h:Keeps B B') (hT:Lib.TabIs P B.e name k zs):Lib.TabIs P B'.e name k zs:=tab_of h hT
theorem base_block {B:Base}{w:World}(hB:B.ok w) {i:Nat}{cs:Array Value}{t:TypeId}{f:Nat×Nat}(h:B.e.heap[i]?=some (Obj.cells cs t f)):¬ B.O i∧i<B.w.heap.size∧w.heap[i]?=some (Obj.cells cs t f):=by
 rw [B.e_heap] at h
 by_cases ho:B.O i
 · rw [if_pos ho] at h
   cases hb:B.w.heap[i]? <;> simp [hb] at h
 · rw [if_neg ho] at h
   have hk:=(Array.getElem?_eq_some_iff.1 h).1
   exact ⟨ho,hk,(hB.block _ hk ho).trans h⟩
theorem tab_now {B:Base}{w:World}{name:String}{k:IntKind}{zs:List Int}(hB:B.ok w) (hT:Lib.TabIs P B.e name k zs):Lib.TabIs P w name k zs:=tab_of (fun i cs t f h=>(base_block hB h).2.2) hT
theorem frameK {Φ Φ' Ψ:List Res}{ι:Type}{inv:ι→Prop}{val:ι→Value}{post:ι→List Res}{g:FuncId}{args:Array Value}(hS:St B Φ w) (hs:Split Φ Ψ Φ') (h:∀ B',Grow B.e B'.e→Keeps B B'→St B' Ψ w→CallsIn Fence.wide 0 P g args w (Ret B' inv val post)) :
 CallsIn Fence.wide 0 P g args w (Ret B inv val (fun i=>post i++Φ')):=by
 have hS':=hS.perm hs.perm
 refine (h (B.call w Ψ) hS'.egrow (fun i cs t f hi=>?_) hS'.lend).mono ?_
 · obtain ⟨h1,h2,h3⟩:=base_block hS'.ok hi
   rw [Base.e_heap,if_neg]
   · exact h3
   · rintro ⟨s,hs,hsk⟩
     obtain ⟨k1,k2⟩:=(Sep.all _ _ _).1 hS'.head.sep
     rcases (k1 s hs).2 i hsk with h4 | h4
     · exact h1 h4
     · exact absurd h2 (by have h5:B.w.heap.size≤i:=h4;omega)
 · rintro e w' ⟨i,hi,he,hw⟩
   exact ⟨i,hi,he,hS'.give hw⟩
def TabP (P:Program) (e:World):Prop:=Lib.TabIs P e "internal/strconv.uint64pow10" .u64 Lib.pow10Tab
theorem itoa (Ly:LaysM.n171 P ρ) (hS:St B [] w) (hT:TabP P B.e) (z:Int) (h0 : -9223372036854775808≤z) (h1:z≤9223372036854775807) :
 CallsIn Fence.wide 0 P (ρ.f 171) #[.int .i64 z] w (Ret B (fun _:Unit=>True) (fun _=>.string ⟨(Lib.itoa z).toArray⟩) (fun _=>[])):=by
 refine callsIn_wide.2 ?_
 refine (Any.strconv_Itoa Ly z h0 h1 w (tab_now hS.ok hT)).mono ?_
 rintro e' w' ⟨rfl,k,os,rfl⟩
 refine ⟨(),trivial,rfl,hS.keep ⟨rfl,rfl,rfl,?_,fun k hk _=>?_⟩⟩
 · show w.heap.size≤(w.heap++os).size
   rw [Array.size_append];omega
 · show (w.heap++os)[k]?=_
   exact Array.getElem?_append_left hk
end
section
variable {c : Cx} {M : Md c} {d : Nat} {ty : TypeId} {pos : String} {af : Array Edge} {rest : List Oper} {E : Env} {D : List Deferred} {H : List Res} {x y : Operand} {t t' : TypeId}
end
end Go.Proofs.YtpmdhkjbhjgoaaaGreatDoorK
namespace Go.Proofs.YtpmdhkjbhjgoaaaGreatDoorK
open Go.RowKit Go.Shelf Go.Sort
section
variable {B : Base} {w : World} {P : Program} {ρ : Ren} {e : TypeId} {A : Option Addr} {n cp : Nat} {zs : List ByteArray}
def IntAt (e:World) (g:Nat):Prop:=∃ m,e.cell? ⟨g,0,none⟩=some (.int .i64 m)
def ErrAt (e:World) (g:Nat):Prop:=∃ v,e.cell? ⟨g,0,none⟩=some v∧(v=.nilIface∨∃ te pe,v=.iface te pe)
structure LibP (P:Program) (gm gs gr:Nat) (e:World):Prop where
  tab:TabP P e
  max:IntAt e gm
  syn:ErrAt e gs
  rng:ErrAt e gr
theorem IntAt.grow {e e':World}{g:Nat}(h:IntAt e g) (k:Grow e e'):IntAt e' g:=by
 obtain ⟨m,h⟩:=h;exact ⟨m,k _ _ h⟩
theorem ErrAt.grow {e e':World}{g:Nat}(h:ErrAt e g) (k:Grow e e'):ErrAt e' g:=by
 obtain ⟨v,h,h2⟩:=h;exact ⟨v,k _ _ h,h2⟩
theorem LibP.keep {B B':Base}{gm gs gr:Nat}(h:LibP P gm gs gr B.e) (k:Grow B.e B'.e) (hk:Keeps B B'):LibP P gm gs gr B'.e:=
 ⟨Keeps.tab hk h.tab,h.max.grow k,h.syn.grow k,h.rng.grow k⟩
def decS (z:Int):ByteArray:=⟨(Lib.itoa z).toArray⟩
theorem fmtInt (Ly:LaysM.n173 P ρ) (hS:St B [] w) (hT:TabP P B.e) (z:Int) (h0 : -9223372036854775808≤z) (h1:z≤9223372036854775807) :
 CallsIn Fence.wide 0 P (ρ.f 173) #[.int .i64 z,.int .i64 10] w (Ret B (fun _:Unit=>True) (fun _=>.string (decS z)) (fun _=>[])):=by
 refine callsIn_wide.2 ?_
 refine (Any.strconv_FormatInt_10 Ly z h0 h1 w (tab_now hS.ok hT)).mono ?_
 rintro e' w' ⟨rfl,k,os,rfl⟩
 refine ⟨(),trivial,rfl,hS.keep ⟨rfl,rfl,rfl,?_,fun k hk _=>?_⟩⟩
 · show w.heap.size≤(w.heap++os).size
   rw [Array.size_append];omega
 · show (w.heap++os)[k]?=_
   exact Array.getElem?_append_left hk
def trimS (s p:ByteArray):ByteArray:=⟨(Lib.trimSuffix s.data.toList p.data.toList).toArray⟩
theorem trimSuf (Ly:Lays.n102 P ρ) (hS:St B [] w) (s p:ByteArray) (hs:s.size≤9223372036854775807) :
 CallsIn Fence.wide 0 P (ρ.f 102) #[.string s,.string p] w (Ret B (fun _:Unit=>True) (fun _=>.string (trimS s p)) (fun _=>[])):=by
 refine callsIn_wide.2 ?_
 refine (Any.strings_TrimSuffix Ly s p w hs).mono ?_
 rintro e' w' ⟨rfl,rfl⟩
 exact ⟨(),trivial,rfl,hS⟩
def pieces (s sep:ByteArray):List ByteArray:=Lib.splitB sep 0 (Lib.countB s sep) s
theorem pieces_len (s sep:ByteArray) (h1:1≤sep.size):(pieces s sep).length=Lib.countB s sep+1:=Lib.splitB_all sep h1 0 _ s rfl
theorem pieces_le (s sep:ByteArray) (h1:1≤sep.size):(pieces s sep).length≤s.size+1:=by
 rw [pieces_len s sep h1]
 have:=Lib.countB_le sep h1 s.size s (Nat.le_refl _)
 omega
theorem splitLib (Ly:Lays.n146 P ρ) (hi9:(P.info? (ρ.t 9)).map (fun i=>(i.zero,i.size,i.bytes))=some (some (.string ByteArray.empty),1,16)) (hS:St B [] w) (W0:World) (hm:IntAt B.e (ρ.g 1)) (s sep:ByteArray) (hs:s.size<4294967281) (h1:1≤sep.size) :
 CallsIn Fence.wide 0 P (ρ.f 146) #[.string s,.string sep] w (Ret B (fun _:Nat=>True) (fun b=>.slice (some ⟨b,0,none⟩) (pieces s sep).length (pieces s sep).length) (fun b=>[row Kd.string W0 (ρ.t 9) (.slice (some ⟨b,0,none⟩) (pieces s sep).length (pieces s sep).length) (pieces s sep)])):=by
 refine callsIn_wide.2 ?_
 obtain ⟨m,hm⟩:=hm
 have hle:=pieces_le s sep h1
 refine (Any.strings_Split Ly hi9 s sep m w hs (hS.ext hm) h1).mono ?_
 rintro e' w' ⟨rfl,rfl⟩
 refine ⟨w.heap.size,trivial,by rw [pieces_len s sep h1],?_⟩
 exact blk_row (enc:=Value.string) (h1:=fun _=>rfl) (xs:=pieces s sep) .here rfl rfl (Nat.le_trans (show _≤4294967298 by omega) (by decide)) _ (hS.alloc _)
def joinT (zs:List ByteArray) (sep:ByteArray):ByteArray:=⟨(Lib.join (zs.map (·.data.toList)) sep.data.toList).toArray⟩
theorem joinT_size (zs:List ByteArray) (sep:ByteArray):(joinT zs sep).size=(Lib.join (zs.map (·.data.toList)) sep.data.toList).length:=by simp [joinT,ByteArray.size]
theorem joinA (Ly:Lays.n156 P ρ) (X:Builder.Extra P ρ) (hS:St B [] w) (hC:Kd.string.C B.e A zs) (sep:ByteArray) (hcp:zs.length≤cp) (hl:(joinT zs sep).size≤140737488355328) (hN:zs.length≤140737488355328) :
 CallsIn Fence.wide 0 P (ρ.f 156) #[.slice A zs.length cp,.string sep] w (Ret B (fun _:Unit=>True) (fun _=>.string (joinT zs sep)) (fun _=>[])):=by
 refine callsIn_wide.2 ?_
 rcases Nat.eq_zero_or_pos zs.length with h0 | h0
 · have:zs=[]:=List.eq_nil_of_length_eq_zero h0
   subst this
   refine (Any.strings_Join_none Ly X A cp sep w).mono ?_
   rintro e' w' ⟨rfl,rfl⟩
   exact ⟨(),trivial,rfl,hS⟩
 · obtain ⟨hln,hc⟩:=Kd.C_grow (Base.grow hS.ok) hC
   obtain ⟨⟨b,o,p⟩,rfl,hd⟩:=hc h0
   have hcell:∀ j x,zs[j]?=some x→w.cell? ((⟨b,o,p⟩:Addr).add j)=some (.string x):=fun j x hj=>by
    obtain ⟨c,hK,h⟩:=hd j x hj
    have hK':c=[Value.string x]:=hK
    have h1:=h 0 (.string x) (by rw [hK'];rfl)
    rw [show j * (Kd.string).sz+0=j from Nat.mul_one j] at h1
    exact h1
   obtain rfl:p=none:=by
    cases p with
    | none=>rfl
    | some q=>
     have h1:=hcell 0 _ (List.getElem?_eq_getElem h0)
     unfold World.cell? Addr.add at h1
     simp only [if_true,Option.isSome_some] at h1
     split at h1 <;> cases h1
   have hcell:∀ j x,zs[j]?=some x→w.cell? ⟨b,o+j,none⟩=some (.string x):=fun j x hj=>by
    have h1:=hcell j x hj
    unfold Addr.add at h1
    split at h1
    · rename_i e;subst e;exact h1
    · exact h1
   have hb:b<w.heap.size:=by
    have:=World.block_lt_of_cell? _ _ (hcell 0 _ (List.getElem?_eq_getElem h0))
    exact this
   refine (Any.strings_Join Ly X b o cp zs sep w hcell hb hN hcp (by rw [← joinT_size];exact hl)).mono ?_
   rintro e' w' ⟨rfl,hw⟩
   exact ⟨(),trivial,rfl,hS.keep (Chg.of_below hw _)⟩
def parsed (s:ByteArray):Option Int:=match Lib.parseIntB 64 s.data.toList with
  | .ok v=>some v
  | _=>none
theorem parseOk (Ly:LaysC.n174 P ρ) (hS:St B [] w) (s:ByteArray) (hs:s.size≤281474976710656) (v:Int) (h:parsed s=some v) :
 CallsIn Fence.wide 0 P (ρ.f 174) #[.string s,.int .i64 10,.int .i64 64] w (Ret B (fun _:Unit=>True) (fun _=>.tuple #[.int .i64 v,.nilIface]) (fun _=>[])):=by
 refine callsIn_wide.2 ?_
 have h':Lib.parseIntB 64 s.data.toList=.ok v:=by
  unfold parsed at h
  split at h
  · next u hu=>rw [hu];simpa using h
  · cases h
 refine (Any.strconv_ParseInt_10_at64_ok Ly s (by omega) v h' w).mono ?_
 rintro e' w' ⟨rfl,hw⟩
 refine ⟨(),trivial,rfl,?_⟩
 rcases hw with rfl | ⟨t,rfl⟩
 · exact hS
 · exact hS.keep (Chg.of_below (Lib.bytesWorld_below _ _ _) _)
theorem parseNo (Ly:LaysC.n174 P ρ) (hS:St B [] w) (hs1:ErrAt B.e (ρ.g 15)) (hr1:ErrAt B.e (ρ.g 16)) (s:ByteArray) (hs:s.size≤281474976710656) (h:parsed s=none) :
 CallsIn Fence.wide 0 P (ρ.f 174) #[.string s,.int .i64 10,.int .i64 64] w (Ret B (fun _:Int×TypeId×Value=>True) (fun z=>.tuple #[.int .i64 z.1,.iface z.2.1 z.2.2]) (fun _=>[])):=by
 refine callsIn_wide.2 ?_
 obtain ⟨v1,k1,k2⟩:=hs1
 obtain ⟨v2,k3,k4⟩:=hr1
 cases hp:Lib.parseIntB 64 s.data.toList
 · unfold parsed at h;rw [hp] at h;cases h
 · refine (Any.strconv_ParseInt_10_at64_syntax Ly s hs hp v1 w (hS.ext k1) k2).mono ?_
   rintro e' w' ⟨N,rfl,_,_,hw⟩
   exact ⟨(_,_,_),trivial,rfl,hS.keep (Chg.of_below hw _)⟩
 · refine (Any.strconv_ParseInt_10_at64_range Ly s hs hp v2 w (hS.ext k3) k4).mono ?_
   rintro e' w' ⟨N,rfl,_,_,hw⟩
   exact ⟨(_,_,_),trivial,rfl,hS.keep (Chg.of_below hw _)⟩
end
section
variable {c : Cx} {M : Md c} {d : Nat} {ty : TypeId} {pos : String} {af : Array Edge} {rest : List Oper} {E : Env} {D : List Deferred} {H : List Res} {x : Operand} {t t' : TypeId}
def isIface (P:Program) (t:TypeId):Bool:=match P.underlying t with
  | some (.interface _)=>true
  | _=>false
theorem run_ifaceEq0 {P:Program}{t:TypeId}(ht:isIface P t=true) (w:World):(Op.equal t .nilIface .nilIface).run P w=.ok true w:=by
 unfold isIface at ht
 cases hu:P.underlying t with
 | none=>rw [hu] at ht;cases ht
 | some u=>
  rw [hu] at ht
  cases u <;> simp only [reduceCtorEq,Bool.false_eq_true] at ht
  simp only [Op.equal,Op.maxDepth]
  rw [Op.equalIn.eq_def]
  simp [run_underlying hu]
theorem run_ifaceEq1 {P:Program}{t ti:TypeId}{v:Value}(ht:isIface P t=true) (w:World):(Op.equal t (.iface ti v) .nilIface).run P w=.ok false w:=by
 unfold isIface at ht
 cases hu:P.underlying t with
 | none=>rw [hu] at ht;cases ht
 | some u=>
  rw [hu] at ht
  cases u <;> simp only [reduceCtorEq,Bool.false_eq_true] at ht
  simp only [Op.equal,Op.maxDepth]
  rw [Op.equalIn.eq_def]
  simp [run_underlying hu]
theorem oNeqI0 (hx:E.op x=some .nilIface) (ht:isIface c.P t=true) (h:O M rest ((d,.bool false) :: E) D H) (hN:Nat.blt d c.N=true:=by rfl):O M (⟨some d,.binOp .neq t x (.const .nilIface) t',ty,pos,af,none⟩ :: rest) E D H:=
 oC _ rfl hN (fun a w ha hw=>by
  have h1:(eqGuard .neq t x (.const .nilIface) .nilIface .nilIface).run c.P w=.ok () w:=by unfold eqGuard;simp
  have h2:(binOp .neq t .nilIface .nilIface).run c.P w=.ok (.bool false) w:=by simp [binOp,run_ifaceEq0 ht]
  have h3:a.eval (.const .nilIface)=.nilIface:=rfl
  simp [execOp,ha.op hx,h3,h1,h2]) h
theorem oNeqI1 {ti:TypeId}{v:Value}(hx:E.op x=some (.iface ti v)) (ht:isIface c.P t=true) (h:O M rest ((d,.bool true) :: E) D H) (hN:Nat.blt d c.N=true:=by rfl):O M (⟨some d,.binOp .neq t x (.const .nilIface) t',ty,pos,af,none⟩ :: rest) E D H:=
 oC _ rfl hN (fun a w ha hw=>by
  have h1:(eqGuard .neq t x (.const .nilIface) (.iface ti v) .nilIface).run c.P w=.ok () w:=by unfold eqGuard;simp
  have h2:(binOp .neq t (.iface ti v) .nilIface).run c.P w=.ok (.bool true) w:=by simp [binOp,run_ifaceEq1 ht]
  have h3:a.eval (.const .nilIface)=.nilIface:=rfl
  simp [execOp,ha.op hx,h3,h1,h2]) h
theorem oSliceS {s:ByteArray}{l m:Nat}{k k':IntKind}{z1 z2:Operand}(hx:E.op x=some (.string s)) (hl:E.op z1=some (.int k (l:Int))) (hm:E.op z2=some (.int k' (m:Int))) (ht:c.P.underlying t=some .string) (h2:l≤m∧m≤s.size)
 (h:O M rest ((d,.string (s.extract l m)) :: E) D H) (hN:Nat.blt d c.N=true:=by rfl):O M (⟨some d,.slice t x (some z1) (some z2) none,ty,pos,af,none⟩ :: rest) E D H:=
 oC _ rfl hN (fun u w ha hw=>by
  simp [execOp,ha.op hx,ha.op hl,ha.op hm,Instr.sliceAt,Instr.slice,run_underlying ht,Instr.sliceBounds,Instr.sliceBound,asIntOf,h2]) h
theorem oSliceAr {b n s:Nat}(hx:E.op x=some (.pointer (some ⟨b,0,none⟩))) (ht:arrT c.P t=some (n,s)) (h0:0<n)
 (h:O M rest ((d,.slice (some ⟨b,0,none⟩) n n) :: E) D H) (hN:Nat.blt d c.N=true:=by rfl):O M (⟨some d,.slice t x none none none,ty,pos,af,none⟩ :: rest) E D H:=
 oC _ rfl hN (fun u w ha hw=>by
  unfold arrT at ht
  cases hu:c.P.underlying t with
  | none=>rw [hu] at ht;cases ht
  | some ut=>
   rw [hu] at ht
   cases ut <;> simp only [Option.map_eq_some_iff,reduceCtorEq,false_and,exists_false] at ht
   case array n' e'=>
    obtain ⟨inf,h3,h4⟩:=ht
    injection h4 with h5 h6
    subst h5
    have e1:¬ n'=0:=by omega
    simp [execOp,ha.op hx,Instr.sliceAt,run_underlying hu,Instr.sureAddr,Instr.sliceBounds,Instr.sliceBound,asIntOf,sizeOf,typeInfo,h3,h6,e1,add_at]) h
theorem oMaxJ {y:Operand}{k:IntKind}{a b:Int}(hx:E.op x=some (.int k a)) (hy:E.op y=some (.int k b)) (h:O M rest ((d,.int k (if a<b then b else a)) :: E) D H) (hN:Nat.blt d c.N=true:=by rfl):O M (⟨some d,.call { callee:=.builtin .max,args:=#[x,y],argTypes:=#[t,t'] },ty,pos,af,none⟩ :: rest) E D H:=
 oC _ rfl hN (fun u w ha hw=>by
  simp only [execOp,resolve,ha.op hx,ha.op hy,invoke,builtin,Builtin.max_,List.map_cons,List.map_nil,Array.toList_map]
  simp [ha.op hx,ha.op hy,Builtin.max2]) h
theorem oBinJ {op:BinOp}{y:Operand}{a b r:Value}(hx:E.op x=some a) (hy:E.op y=some b) (hg:∀ w,(eqGuard op t x y a b).run c.P w=.ok () w) (hr:∀ w,(binOp op t a b).run c.P w=.ok r w) (h:O M rest ((d,r) :: E) D H) (hN:Nat.blt d c.N=true:=by rfl):O M (⟨some d,.binOp op t x y t',ty,pos,af,none⟩ :: rest) E D H:=
 oC _ rfl hN (fun u w ha hw=>by simp [execOp,ha.op hx,ha.op hy,hg,hr]) h
end
end Go.Proofs.YtpmdhkjbhjgoaaaGreatDoorK
namespace Go.Proofs.YtpmdhkjbhjgoaaaGreatDoorK
open Go.RowKit Go.ChangeShapes
theorem returns_laid {H:Type}{enc:TypeId×Value→H}{a:Assume}{C:Checked}{os:Os}{f:FuncId}{fn:Func}{s:ChangeSpec}{conds:List PathCond}{apart fresh handsOn again:Bool}{X:World→Array Value→Prop}
 (hX:∀ (w w':World) (args:Array Value),w.heap=w'.heap→X w args→X w' args)
 (own:ownKnob C.prog.godebug=none) (started:os.Started) (noInit:C.prog.inits.idxOf? f=none) (hfn:C.prog.funcs[f]?=some fn)
 (witness:∃ (w:World) (tape:Tape) (i:Input),w.os=os∧(w.forCall tape i).Shaped C.prog∧i.vars=[]∧Input.okWide C.prog (w.forCall tape i) .any w.heap.size f i∧
  ((s.pre enc C.prog fn conds apart (w.forCall tape i).memory i.args∧X (w.forCall tape i).memory i.args)∧sizedMet enc C.prog fn (OpenSpec.ofChange s) apart (w.forCall tape i).memory i.args)∧a.holds C.prog (lone (Frame.enter C.prog f i.args .normal) [] (w.forCall tape i)))
 (contract:∀ (W:World) (base:Nat) (args:Array Value) (ds gs:List (DataW H)) (before:List MemPlace),
  (∀ (j:Nat) t v,fn.params[j]?=some t→args[j]?=some v→Value.okWide C.prog W .any base t v)→
  DataW.Whole enc C.prog fn.params.toList s.vars apart W args.toList ds gs before→
  conds.all (PathCond.test C.prog ⟨fn.params.toList,ds,s.plain.varTypes C.prog,gs⟩)=true→
  (DataW.weightsEach C.prog (fn.params.toList++s.plain.varTypes C.prog) (ds++gs)).all (·≤reachBytes)=true→X W args→W.ShapedOpen C.prog→
  a.holds C.prog (lone (Frame.enter C.prog f args .normal) [] W)→
  Calls C.prog f args W fun e W'=>∃ v,e=.returned v∧s.post enc C.prog fn apart fresh handsOn again W args v W') :
 ReturnsInHanded a C os f .any (fun w args=>(s.pre enc C.prog fn conds apart w args∧X w args)∧sizedMet enc C.prog fn (OpenSpec.ofChange s) apart w args) (s.post enc C.prog fn apart fresh handsOn again):=by
 refine returnsInHanded_of_calls own started noInit witness ?_
 intro w tape i _ hsh _ hok hpre hholds
 obtain ⟨_,_,_,fn',hfn',_,_,_,_,hval⟩:=hok
 have e:fn'=fn:=Option.some.inj (hfn'.symm.trans hfn)
 subst e
 obtain ⟨⟨⟨ds,gs,before,hw,hc⟩,hx⟩,hz⟩:=hpre
 have hw':=DataW.Whole.of_heap (w':=w.forCall tape i) (by rfl) hw
 refine (contract (w.forCall tape i) w.heap.size i.args ds gs before hval hw' hc (hz.weights hw) (hX _ _ _ (by rfl) hx) hsh hholds).mono fun e W' ⟨v,he,hp⟩=>?_
 subst he
 exact ChangeSpec.post_blind hp
theorem errAt_laid {P:Program}{n nm:String}{text:List UInt8}{r:List (String×DataW Unit)}{W:World}{g:Nat}{ti tp te ts:TypeId}{ms:Array (String×TypeId)}{f:Field}
 (h:laidMet P ((n,.iface nm (.ptr (.agg [.lit (.string text)]))) :: r) W)
 (hg:P.globalNamed n=some g) (ht:(P.globals[g]?).map (·.type)=some ti) (hi:P.underlying ti=some (.interface ms)) (hrow:∀ u,P.typeName? 3 u=some nm→u=tp)
 (hp:P.underlying tp=some (.pointer te)) (he:P.underlying te=some (.struct #[f])) (hft:f.type=ts) (hfo:f.offset=0) (hs:P.underlying ts=some .string) (hc:P.cellsOf te=1) (hcs:P.cellsOf ts=1):ErrAt W g:=by
 obtain ⟨a,s,hv,_⟩:=laid_sentinel h hg ht hi hrow hp he hft hfo hs hc hcs
 exact ⟨_,by simpa using World.var?_cell hg hv 0,.inr ⟨_,_,rfl⟩⟩
end Go.Proofs.YtpmdhkjbhjgoaaaGreatDoorK
namespace Go.Proofs.YtpmdhkjbhjgoaaaGreatDoorR
set_option maxRecDepth 100000
set_option maxHeartbeats 4000000
open Go.RowKit Go.Proofs.YtpmdhkjbhjgoaaaGreatDoorK

def splitA (c:UInt8) (acc:List UInt8):List UInt8→List (List UInt8)
  | []=>[acc]
  | b :: l=>if b=c then acc :: splitA c [] l else splitA c (acc++[b]) l
theorem splitA_acc (c:UInt8):∀ (l acc:List UInt8),∃ p r,splitA c [] l=p :: r∧splitA c acc l=(acc++p) :: r
 | [],acc=>⟨[],[],rfl,by simp [splitA]⟩
 | b :: l,acc=>by
  by_cases h:b=c
  · exact ⟨[],splitA c [] l,by simp [splitA,h],by simp [splitA,h]⟩
  · obtain ⟨p,r,h1,h2⟩:=splitA_acc c l [b]
    obtain ⟨p',r',h3,h4⟩:=splitA_acc c l (acc++[b])
    rw [h1] at h3
    injection h3 with h5 h6
    subst h5 h6
    refine ⟨[b]++p,r,?_,?_⟩
    · show (if b=c then _ else splitA c ([]++[b]) l)=_
      rw [if_neg h,List.nil_append,h2]
    · show (if b=c then _ else splitA c (acc++[b]) l)=_
      rw [if_neg h,h4,List.append_assoc]
theorem index_ne (b c:UInt8) (l:List UInt8) (h:b≠c):Lib.index (b :: l) [c]=if Lib.index l [c] == -1 then -1 else Lib.index l [c]+1:=by
 have hp:([c]:List UInt8).isPrefixOf (b :: l)=false:=by simp [List.isPrefixOf,Ne.symm h]
 rw [Lib.index,hp];simp
theorem index_eq0 (c:UInt8) (l:List UInt8):Lib.index (c :: l) [c]=0:=by
 rw [Lib.index];simp [List.isPrefixOf]
theorem splitK_eq (c:UInt8) (k:Nat) (l:List UInt8):Lib.splitK [c] 0 (k+1) (c :: l)=[] :: Lib.splitK [c] 0 k l:=by
 show (if Lib.index (c :: l) [c] == -1 then _ else _)=_
 rw [index_eq0]
 simp
theorem splitK_ne (b c:UInt8) (h:b≠c) (k:Nat) (l:List UInt8):∃ p r,Lib.splitK [c] 0 k l=p :: r∧Lib.splitK [c] 0 k (b :: l)=(b :: p) :: r:=by
 cases k with
 | zero=>exact ⟨l,[],rfl,rfl⟩
 | succ k=>
  have hi:=index_ne b c l h
  by_cases hm:Lib.index l [c] = -1
  · rw [hm] at hi
    refine ⟨l,[],?_,?_⟩
    · show (if Lib.index l [c] == -1 then _ else _)=_
      rw [hm];rfl
    · show (if Lib.index (b :: l) [c] == -1 then _ else _)=_
      rw [hi];rfl
  · have hge:=Lib.index_ge l [c]
    obtain ⟨j,hj⟩:∃ j:Nat,Lib.index l [c]=j:=⟨(Lib.index l [c]).toNat,by omega⟩
    have hi2:Lib.index (b :: l) [c]=((j+1:Nat):Int):=by rw [hi,if_neg (fun e=>hm (beq_iff_eq.1 e)),hj];omega
    refine ⟨l.take j,Lib.splitK [c] 0 k (l.drop (j+1)),?_,?_⟩
    · show (if Lib.index l [c] == -1 then _ else _)=_
      rw [if_neg (fun e=>hm (beq_iff_eq.1 e)),hj]
      simp
    · show (if Lib.index (b :: l) [c] == -1 then _ else _)=_
      rw [if_neg (fun e=>by have:=beq_iff_eq.1 e;omega),hi2]
      simp
theorem splitK_all (c:UInt8):∀ l:List UInt8,Lib.splitK [c] 0 (l.count c) l=splitA c [] l
 | []=>rfl
 | b :: l=>by
  by_cases h:b=c
  · subst h
    rw [List.count_cons_self,splitK_eq,splitK_all b l]
    simp [splitA]
  · rw [List.count_cons_of_ne (by simpa using h)]
    obtain ⟨p,r,h1,h2⟩:=splitK_ne b c h (l.count c) l
    rw [splitK_all c l] at h1
    obtain ⟨p',r',h3,h4⟩:=splitA_acc c l [b]
    rw [h1] at h3
    injection h3 with h5 h6
    subst h5 h6
    rw [h2]
    show _=(if b=c then _ else splitA c ([]++[b]) l)
    rw [if_neg h,List.nil_append,h4];rfl
theorem map_toL_inj {a b:List ByteArray}(h:a.map toL=b.map toL):a=b:=by
 have:=congrArg (List.map ofL) h
 rw [List.map_map,List.map_map] at this
 have e:ofL ∘ toL=id:=funext fun s=>ofL_toL s
 rw [e,List.map_id,List.map_id] at this
 exact this
theorem pieces_L (s:ByteArray) (c:UInt8):(pieces s ⟨#[c]⟩).map toL=splitA c [] (toL s):=by
 have h:=Lib.splitB_data ⟨#[c]⟩ 0 (Lib.countB s ⟨#[c]⟩) s
 have e1:Lib.countB s ⟨#[c]⟩=(toL s).count c:=Lib.count_one c (toL s)
 rw [e1] at h
 have h2:=splitK_all c (toL s)
 unfold pieces
 rw [e1]
 exact h.trans h2

def nonE (l:List UInt8):Bool:=match l with
  | []=>false
  | _ :: _=>true
def wordsL (l:List UInt8):List (List UInt8):=(splitA 32 [] l).filter nonE
theorem splitA_app (c:UInt8) (b:List UInt8):∀ (a acc:List UInt8),splitA c acc (a++c :: b)=splitA c acc a++splitA c [] b
 | [],acc=>by simp [splitA]
 | x :: a,acc=>by
  rw [List.cons_append]
  show (if x=c then acc :: splitA c [] (a++c :: b) else splitA c (acc++[x]) (a++c :: b))=(if x=c then acc :: splitA c [] a else splitA c (acc++[x]) a)++_
  rw [splitA_app c b a,splitA_app c b a]
  split <;> rfl
theorem join_snoc (sep x:List UInt8) (r:List (List UInt8)) (h:r≠[]):Lib.join (r++[x]) sep=Lib.join r sep++sep++x:=by
 cases r with
 | nil=>exact absurd rfl h
 | cons y r=>
  rw [List.cons_append,Lib.join_cons,Lib.join_cons]
  unfold Lib.joinTail
  simp
def dropE:List (List UInt8)→List (List UInt8)
  | []=>[]
  | [p]=>if nonE p then [p] else []
  | p :: q :: r=>p :: dropE (q :: r)
theorem splitA_ne (c:UInt8) (acc l:List UInt8):splitA c acc l≠[]:=by
 obtain ⟨p,r,_,h⟩:=splitA_acc c l acc
 rw [h];exact List.cons_ne_nil _ _
theorem dropE_cons {p:List UInt8}{r:List (List UInt8)}(h:r≠[]):dropE (p :: r)=p :: dropE r:=by
 cases r with
 | nil=>exact absurd rfl h
 | cons q r=>rfl
theorem dropE_snoc:∀ r:List (List UInt8),dropE (r++[[]])=r
 | []=>rfl
 | p :: r=>by
  rw [List.cons_append,dropE_cons (by simp),dropE_snoc r]
theorem dropE_full (c:UInt8):∀ (l acc:List UInt8),acc++l≠[]→(¬ ∃ t,l=t++[c])→dropE (splitA c acc l)=splitA c acc l
 | [],acc,h,_=>by
  cases acc with
  | nil=>exact absurd rfl h
  | cons b acc=>rfl
 | b :: l,acc,h,hn=>by
  by_cases hb:b=c
  · subst hb
    have hl:l≠[]:=by intro e;subst e;exact hn ⟨[],rfl⟩
    have e:splitA b acc (b :: l)=acc :: splitA b [] l:=by simp [splitA]
    rw [e,dropE_cons (splitA_ne _ _ _),dropE_full b l [] (by simpa using hl) (fun ⟨t,ht⟩=>hn ⟨b :: t,by rw [ht];rfl⟩)]
  · have e:splitA c acc (b :: l)=splitA c (acc++[b]) l:=by simp [splitA,hb]
    rw [e,dropE_full c l (acc++[b]) (by simp) (fun ⟨t,ht⟩=>hn ⟨b :: t,by rw [ht];rfl⟩)]
theorem trim_lines (c:UInt8) (l:List UInt8) (h:l≠[]):splitA c [] (Lib.trimSuffix l [c])=dropE (splitA c [] l):=by
 unfold Lib.trimSuffix Lib.hasSuffix
 by_cases hs:([c]:List UInt8).isSuffixOf l=true
 · rw [if_pos hs]
   obtain ⟨t,rfl⟩:=List.isSuffixOf_iff_suffix.1 hs
   have e:(t++[c]).take ((t++[c]).length-[c].length)=t:=by simp
   rw [e,splitA_app]
   exact (dropE_snoc _).symm
 · rw [if_neg hs,dropE_full c l [] (by simpa using h) (fun ⟨t,ht⟩=>hs (List.isSuffixOf_iff_suffix.2 ⟨t,ht.symm⟩))]

def wordR (s:ByteArray):Nat→Nat→List ByteArray
  | 0,a=>[]
  | n+1,a=>if n=0∨byteAt s (s.size-n)=32 then (if a<s.size-n then [s.extract a (s.size-n)] else [])++wordR s n (s.size-n+1) else wordR s n a
def linesF (s:ByteArray):List ByteArray:=if s=ByteArray.empty then [] else pieces (trimS s ⟨#[10]⟩) ⟨#[10]⟩
def fullB (s:ByteArray):Bool:=decide (¬ s=ByteArray.empty)
def wordsF (s:ByteArray):List ByteArray:=(pieces s ⟨#[32]⟩).filter fullB
theorem toL_size (s:ByteArray):(toL s).length=s.size:=(Lib.size_eq s).symm
theorem toL_extract (s:ByteArray) (a b:Nat):toL (s.extract a b)=((toL s).drop a).take (b-a):=Lib.extract_data s a b
theorem toL_empty {s:ByteArray} : toL s=[]↔s=ByteArray.empty:=by
 constructor
 · intro h;rw [← ofL_toL s,h];rfl
 · rintro rfl;rfl
theorem fullB_eq (s:ByteArray):fullB s=nonE (toL s):=by
 unfold fullB
 by_cases h:s=ByteArray.empty
 · subst h;rfl
 · have h2:toL s≠[]:=fun e=>h (toL_empty.1 e)
   rw [decide_eq_true h]
   cases hl:toL s with
   | nil=>exact absurd hl h2
   | cons b l=>rfl
theorem wordsF_L (s:ByteArray):(wordsF s).map toL=wordsL (toL s):=by
 unfold wordsF wordsL
 rw [← pieces_L s 32,List.filter_map]
 congr 1
 apply List.filter_congr
 intro x _
 exact fullB_eq x
theorem linesF_L (s:ByteArray):(linesF s).map toL=if s=ByteArray.empty then [] else dropE (splitA 10 [] (toL s)):=by
  unfold linesF
  split
  · rfl
  · next h => rw [pieces_L]
              exact trim_lines 10 (toL s) (fun e=>h (toL_empty.1 e))
theorem byte_is {s:ByteArray}{i:Nat}(h:i<s.size) (c:UInt8):byteAt s i=(c.toNat:Int)↔(toL s)[i]'(by rw [toL_size];exact h)=c:=by
 have e:(toL s)[i]'(by rw [toL_size];exact h)=s[i]'h:=rfl
 rw [byteAt_eq h,e]
 constructor
 · intro k;exact UInt8.toNat_inj.1 ZO
 · intro k;rw [k]
theorem drop_here {s:ByteArray}{i:Nat}(h:i<s.size):(toL s).drop i=(toL s)[i]'(by rw [toL_size];exact h) :: (toL s).drop (i+1):=List.drop_eq_getElem_cons (by rw [toL_size];exact h)
theorem seg_next {l:List UInt8}{a i:Nat}(ha:a≤i) (h:i<l.length):(l.drop a).take (i+1-a)=(l.drop a).take (i-a)++[l[i]]:=by
 rw [show i+1-a=(i-a)+1 by omega,List.take_add_one]
 congr 1
 rw [List.getElem?_drop,show a+(i-a)=i by omega,List.getElem?_eq_getElem h];rfl
theorem wordR_L (s:ByteArray):∀ (n a:Nat),n≤s.size→a≤s.size-n→(wordR s (n+1) a).map toL=(splitA 32 (((toL s).drop a).take (s.size-n-a)) ((toL s).drop (s.size-n))).filter nonE
 | 0,a,_,ha=>by
  rw [Nat.sub_zero,show (toL s).drop s.size=[] from List.drop_eq_nil_of_le (by rw [toL_size];exact Nat.le_refl _)]
  show (if _∨_ then (if a<s.size-0 then [s.extract a (s.size-0)] else [])++[] else _).map toL=_
  rw [if_pos (.inl rfl),List.append_nil,Nat.sub_zero]
  have hl:(((toL s).drop a).take (s.size-a)).length=s.size-a:=by rw [List.length_take,List.length_drop,toL_size];omega
  show _=List.filter nonE [_]
  split
  · next h=>
    show [toL _]=_
    rw [toL_extract]
    cases hq:((toL s).drop a).take (s.size-a) with
    | nil=>rw [hq] at hl;simp at hl;omega
    | cons b l=>rfl
  · next h=>
    rw [show s.size-a=0 by omega,List.take_zero];rfl
 | n+1,a,hn,ha=>by
  have hi:s.size-(n+1)<s.size:=by omega
  have hil:s.size-(n+1)<(toL s).length:=by rw [toL_size];exact hi
  have e1:s.size-n=s.size-(n+1)+1:=by omega
  rw [drop_here hi]
  show (if n+1=0∨byteAt s (s.size-(n+1))=((32:UInt8).toNat:Int) then _ else _:List ByteArray).map toL=(if _=(32:UInt8) then _ else _:List (List UInt8)).filter nonE
  by_cases hb:byteAt s (s.size-(n+1))=((32:UInt8).toNat:Int)
  · rw [if_pos (.inr hb),if_pos ((byte_is hi 32).1 hb),List.map_append,wordR_L s n _ ZO ZO,e1,Nat.sub_self,List.take_zero,List.filter_cons]
    have hl:(((toL s).drop a).take (s.size-(n+1)-a)).length=s.size-(n+1)-a:=by rw [List.length_take,List.length_drop,toL_size];omega
    by_cases h:a<s.size-(n+1)
    · rw [if_pos h]
      have hne:nonE (((toL s).drop a).take (s.size-(n+1)-a))=true:=by
       cases hq:((toL s).drop a).take (s.size-(n+1)-a) with
       | nil=>rw [hq] at hl;simp at hl;omega
       | cons b l=>rfl
      rw [if_pos hne,← toL_extract];rfl
    · rw [if_neg h,show s.size-(n+1)-a=0 by omega,List.take_zero];rfl
  · rw [if_neg (fun k=>k.elim ZO hb),if_neg (fun k=>hb ((byte_is hi 32).2 k)),wordR_L s n a ZO ZO,e1,seg_next ha hil]
theorem words_law (s:ByteArray):wordR s (s.size+1) 0=wordsF s:=by
 apply map_toL_inj
 rw [wordR_L s s.size 0 (Nat.le_refl _) (Nat.zero_le _),wordsF_L,Nat.sub_self]
 rfl
end Go.Proofs.YtpmdhkjbhjgoaaaGreatDoorR
namespace Go.Proofs.YtpmdhkjbhjgoaaaGreatDoorK
open Go.RowKit
section
variable {c : Cx} {M : Md c} {d : Nat} {ty : TypeId} {pos : String} {af : Array Edge} {rest : List Oper} {E : Env} {D : List Deferred} {H H' : List Res} {x y : Operand} {t t' : TypeId} {v : Value}
theorem oConvInt {k k':IntKind}{n m:Int}(hx:E.op x=some (.int k n)) (hs:(c.P.underlying t).isSome=true) (hd:c.P.underlying t'=some (.int k')) (hw:k'.wrap n=m) (h:O M rest ((d,.int k' m) :: E) D H) (hN:Nat.blt d c.N=true:=by rfl):O M (⟨some d,.convert t t' x,ty,pos,af,none⟩ :: rest) E D H:=
 oC _ rfl hN (fun u w ha hw'=>by
  obtain ⟨ut,hu⟩:=Option.isSome_iff_exists.1 hs
  subst hw
  simp [execOp,ha.op hx,convert,run_underlying hu,run_underlying hd,Conv.intToInt]) h
theorem oAddStr {s r:ByteArray}(hx:E.op x=some (.string s)) (hy:E.op y=some (.string r)) (hl:s.size+r.size≤1000000000) (h:O M rest ((d,.string (s++r)) :: E) D H) (hN:Nat.blt d c.N=true:=by rfl):O M (⟨some d,.binOp .add t x y t',ty,pos,af,none⟩ :: rest) E D H:=
 oC _ rfl hN (fun u w ha hw=>by
  have hg:(eqGuard .add t x y (.string s) (.string r)).run c.P w=.ok () w:=by unfold eqGuard;split <;> simp
  have hm:¬ ((s.size+r.size:Nat):Int) > IntKind.i64.max:=by have:IntKind.i64.max=9223372036854775807:=rfl;omega
  simp only [execOp,ha.op hx,ha.op hy,Sem.run_bind,hg,Result.andThen_ok,binOp,Op.stringOp,if_neg hm]
  simp) h
def bytesS (xs:List Int):ByteArray:=⟨(xs.map fun v=>UInt8.ofNat v.toNat).toArray⟩
theorem u8_ofNat (n:Nat) (h:n<256):(UInt8.ofNat n).toNat=n:=by
 show (BitVec.ofNat 8 n).toNat=n
 rw [BitVec.toNat_ofNat]
 exact Nat.mod_eq_of_lt h
theorem oConvBS {b n cp:Nat}{e:TypeId}{tb:TypeId}{cs:List Value}{xs:List Int}(hx:E.op x=some (.slice (some ⟨b,0,none⟩) n cp)) (hs:c.P.underlying t=some (.slice e)) (he:c.P.underlying e=some (.int .u8)) (hd:c.P.underlying t'=some .string) (hp:Pick H (blk b tb cs) H') (hc:cs=xs.map (Value.int .u8)) (hn:n=xs.length) (hr:∀ v ∈ xs,0≤v∧v<256)
 (h:O M rest ((d,.string (bytesS xs)) :: E) D H) (hN:Nat.blt d c.N=true:=by rfl):O M (⟨some d,.convert t t' x,ty,pos,af,none⟩ :: rest) E D H:=
 oC _ rfl hN (fun u w ha hw=>by
  subst hc hn
  have hb:w.heap[b]?=some (.cells (xs.map (Value.int .u8)).toArray tb (0,0)):=hw.get hp
  have key:=run_convert_bytes_back (P:=c.P) w t t' e ⟨b,0,none⟩ cp (xs.map fun v=>UInt8.ofNat v.toNat) hs he hd (fun j hj=>by
   rw [List.length_map] at hj
   rw [add_at,Nat.zero_add,cell_of hb]
   have h0:=hr _ (List.getElem_mem hj)
   simp only [List.getElem?_map,List.getElem?_eq_getElem hj,List.getElem_map,Option.map_some]
   congr 2
   have h8:=u8_ofNat xs[j].toNat (by omega)
   rw [h8]
   omega)
  rw [List.length_map] at key
  simp only [execOp,ha.op hx,Sem.run_bind,key,Result.andThen_ok]
  rfl) h
end
end Go.Proofs.YtpmdhkjbhjgoaaaGreatDoorK
namespace Go.Proofs.YtpmdhkjbhjgoaaaGreatDoorT
open Go.RowKit Go.Proofs.YtpmdhkjbhjgoaaaGreatDoorK Go.ChangeShapes Go.WideShapes
structure ApiInstr where
  fOp:Int
  fA:Int
  fB:Int
  fC:Int
  fN:Int
instance:Inhabited ApiInstr:=⟨⟨0,0,0,0,0⟩⟩
def kApiInstr:Kd ApiInstr:=Kd.iso (Kd.pair (Kd.int .i64) (Kd.pair (Kd.int .i64) (Kd.pair (Kd.int .i64) (Kd.pair (Kd.int .i64) (Kd.int .i64))))) (fun x=>(x.fOp,x.fA,x.fB,x.fC,x.fN))
theorem kApiInstr_open {w:World}{x:ApiInstr}{cs:List Value}(h:kApiInstr.K w x cs):cs=[.int .i64 x.fOp,.int .i64 x.fA,.int .i64 x.fB,.int .i64 x.fC,.int .i64 x.fN]:=by
 obtain ⟨_,_,rfl,rfl,⟨_,_,rfl,rfl,⟨_,_,rfl,rfl,⟨_,_,rfl,rfl,rfl⟩⟩⟩⟩:=h
 exact rfl
theorem kApiInstr_mk (w:World) (x:ApiInstr):kApiInstr.K w x [.int .i64 x.fOp,.int .i64 x.fA,.int .i64 x.fB,.int .i64 x.fC,.int .i64 x.fN]:=⟨_,_,rfl,rfl,⟨_,_,rfl,rfl,⟨_,_,rfl,rfl,⟨_,_,rfl,rfl,rfl⟩⟩⟩⟩
def vApiInstr (x:ApiInstr):Prop:=in64 x.fOp∧in64 x.fA∧in64 x.fB∧in64 x.fC∧in64 x.fN
set_option maxRecDepth 100000 in
theorem opApiInstr:Opens Tryz.prog 23 kApiInstr vApiInstr:=Opens.weak (opens_struct (fun p=>(⟨p.1,p.2.1,p.2.2.1,p.2.2.2.1,p.2.2.2.2⟩:ApiInstr)) (fun _=>rfl) Tryz.underlying23 (opensF_cons (opens_i64 rfl) rfl (opensF_cons (opens_i64 rfl) rfl (opensF_cons (opens_i64 rfl) rfl (opensF_cons (opens_i64 rfl) rfl (opensF_one (opens_i64 rfl) rfl rfl)))))) (fun _ h=>h)
end Go.Proofs.YtpmdhkjbhjgoaaaGreatDoorT
namespace Go.Proofs.YtpmdhkjbhjgoaaaGreatDoorK
open Go.RowKit Go.Proofs.YtpmdhkjbhjgoaaaGreatDoorT
abbrev tT:=true
abbrev fF:=false
noncomputable abbrev CW:=CallsIn Fence.wide 0 Tryz.prog
end Go.Proofs.YtpmdhkjbhjgoaaaGreatDoorK
namespace Go.Proofs.YtpmdhkjbhjgoaaaGreatDoorL
set_option maxRecDepth 100000
open Go.Shelf Go.Proofs
def laysn146_ren:Go.Shelf.Ren:=⟨fun | 138=>192 | 143=>193 | 146=>86 | 195=>228 | 197=>229 | 217=>264 | 218=>230 | 219=>231 | 221=>151 | 224=>266 | 225=>265 | 260=>263 | 266=>290 | 267=>267 | 268=>191 | 314=>291 | n=>n,fun | 0=>0 | 1=>1 | 2=>2 | 3=>3 | 4=>4 | 5=>5 | 6=>6 | 7=>7 | 8=>8 | 9=>9 | 10=>10 | 11=>11 | 12=>12 | 13=>13 | 14=>14 | 15=>15 | 16=>16 | 17=>17 | 18=>18 | 19=>19 | 20=>20 | 21=>21 | 22=>101 | 23=>137 | 27=>233 | 28=>78 | 31=>59 | 32=>148 | 35=>313 | 37=>121 | 46=>228 | 47=>275 | 51=>273 | 52=>290 | 53=>225 | 54=>235 | 55=>270 | 61=>136 | 67=>85 | 68=>60 | 69=>264 | 70=>120 | 71=>122 | 72=>123 | 73=>171 | 74=>132 | 75=>133 | 76=>168 | 77=>169 | 78=>170 | 80=>129 | 81=>339 | 83=>65 | 84=>138 | 85=>134 | 86=>135 | 103=>67 | 104=>100 | 105=>268 | 106=>269 | 108=>267 | 111=>64 | 112=>324 | 113=>197 | 114=>202 | 119=>303 | 127=>194 | 128=>196 | 131=>146 | 132=>147 | 134=>318 | 137=>304 | 138=>305 | 139=>306 | 143=>287 | 144=>288 | 145=>289 | 146=>307 | 150=>232 | 151=>308 | 164=>243 | 165=>244 | 166=>245 | 167=>224 | 168=>229 | 169=>230 | 170=>231 | 171=>234 | 172=>236 | 173=>237 | 174=>238 | 175=>226 | 176=>227 | 181=>319 | 182=>320 | 183=>321 | 184=>322 | 185=>323 | 186=>325 | 187=>326 | 209=>265 | 210=>266 | 211=>271 | 212=>272 | 213=>274 | 214=>263 | 218=>327 | 219=>328 | 220=>329 | 221=>330 | 222=>150 | 223=>331 | 228=>332 | 229=>182 | 230=>333 | 232=>309 | 233=>310 | 238=>334 | 239=>335 | 240=>336 | 241=>337 | 242=>338 | 243=>340 | 244=>341 | 245=>342 | 246=>343 | 247=>344 | 248=>345 | 249=>346 | n=>n,fun | 1=>3 | 3=>4 | 4=>5 | n=>n⟩
theorem laysn146_at:Go.Proofs.Lays.n146 Tryz.prog laysn146_ren:={
 mixed:=by kernel_rfl
 f138:=Tryz.func192.trans (congrArg some (by kernel_rfl))
 f143:=Tryz.func193.trans (congrArg some (by kernel_rfl))
 f146:=Tryz.func86.trans (congrArg some (by kernel_rfl))
 f195:=Tryz.func228.trans (congrArg some (by kernel_rfl))
 f197:=Tryz.func229.trans (congrArg some (by kernel_rfl))
 f217:=Tryz.func264.trans (congrArg some (by kernel_rfl))
 f218:=Tryz.func230.trans (congrArg some (by kernel_rfl))
 f219:=Tryz.func231.trans (congrArg some (by kernel_rfl))
 f221:=Tryz.func151.trans (congrArg some (by kernel_rfl))
 f224:=Tryz.func266.trans (congrArg some (by kernel_rfl))
 f225:=Tryz.func265.trans (congrArg some (by kernel_rfl))
 f260:=Tryz.func263.trans (congrArg some (by kernel_rfl))
 f266:=Tryz.func290.trans (congrArg some (by kernel_rfl))
 f267:=Tryz.func267.trans (congrArg some (by kernel_rfl))
 f268:=Tryz.func191.trans (congrArg some (by kernel_rfl))
 f314:=Tryz.func291.trans (congrArg some (by kernel_rfl))
 t0:=Tryz.underlying0
 a0:=Tryz.isAgg0
 z0:=Tryz.sizeOf0
 v0:=Tryz.zeroValue0
 t3:=Tryz.underlying3
 a3:=Tryz.isAgg3
 z3:=Tryz.sizeOf3
 v3:=Tryz.zeroValue3
 t4:=Tryz.underlying4
 a4:=Tryz.isAgg4
 z4:=Tryz.sizeOf4
 v4:=Tryz.zeroValue4
 t5:=Tryz.underlying5
 a5:=Tryz.isAgg5
 z5:=Tryz.sizeOf5
 v5:=Tryz.zeroValue5
 t9:=Tryz.underlying9
 a9:=Tryz.isAgg9
 z9:=Tryz.sizeOf9
 v9:=Tryz.zeroValue9
 t21:=Tryz.underlying21
 a21:=Tryz.isAgg21
 z21:=Tryz.sizeOf21
 v21:=Tryz.zeroValue21
 t31:=Tryz.underlying59
 a31:=Tryz.isAgg59
 z31:=Tryz.sizeOf59
 v31:=Tryz.zeroValue59
 t46:=Tryz.underlying228
 a46:=Tryz.isAgg228
 z46:=Tryz.sizeOf228
 v46:=Tryz.zeroValue228
 t51:=Tryz.underlying273
 a51:=Tryz.isAgg273
 z51:=Tryz.sizeOf273
 v51:=Tryz.zeroValue273
 t105:=Tryz.underlying268
 a105:=Tryz.isAgg268
 z105:=Tryz.sizeOf268
 v105:=Tryz.zeroValue268
 t119:=Tryz.underlying303
 a119:=Tryz.isAgg303
 z119:=Tryz.sizeOf303
 t138:=Tryz.underlying305
 a138:=Tryz.isAgg305
 z138:=Tryz.sizeOf305
 v138:=Tryz.zeroValue305
 t139:=Tryz.underlying306
 a139:=Tryz.isAgg306
 z139:=Tryz.sizeOf306
 v139:=Tryz.zeroValue306
 t146:=Tryz.underlying307
 a146:=Tryz.isAgg307
 z146:=Tryz.sizeOf307
 v146:=Tryz.zeroValue307
 g1:=by kernel_rfl
 g3:=by kernel_rfl
 g4:=by kernel_rfl }
def laysn102_ren:Go.Shelf.Ren:=⟨fun | 102=>87 | 207=>132 | 209=>152 | n=>n,fun | 0=>0 | 1=>1 | 2=>2 | 3=>3 | 4=>4 | 5=>5 | 6=>6 | 7=>7 | 8=>8 | 9=>9 | 10=>10 | 11=>11 | 12=>12 | 13=>13 | 14=>14 | 15=>15 | 16=>16 | 17=>17 | 18=>18 | 19=>19 | 20=>20 | 21=>21 | 22=>101 | 23=>137 | 27=>233 | 28=>78 | 31=>59 | 32=>148 | 35=>313 | 37=>121 | 46=>228 | 47=>275 | 51=>273 | 52=>290 | 53=>225 | 54=>235 | 55=>270 | 61=>136 | 67=>85 | 68=>60 | 69=>264 | 70=>120 | 71=>122 | 72=>123 | 73=>171 | 74=>132 | 75=>133 | 76=>168 | 77=>169 | 78=>170 | 80=>129 | 81=>339 | 83=>65 | 84=>138 | 85=>134 | 86=>135 | 103=>67 | 104=>100 | 105=>268 | 106=>269 | 108=>267 | 111=>64 | 112=>324 | 113=>197 | 114=>202 | 119=>303 | 127=>194 | 128=>196 | 131=>146 | 132=>147 | 134=>318 | 137=>304 | 138=>305 | 139=>306 | 143=>287 | 144=>288 | 145=>289 | 146=>307 | 150=>232 | 151=>308 | 164=>243 | 165=>244 | 166=>245 | 167=>224 | 168=>229 | 169=>230 | 170=>231 | 171=>234 | 172=>236 | 173=>237 | 174=>238 | 175=>226 | 176=>227 | 181=>319 | 182=>320 | 183=>321 | 184=>322 | 185=>323 | 186=>325 | 187=>326 | 209=>265 | 210=>266 | 211=>271 | 212=>272 | 213=>274 | 214=>263 | 218=>327 | 219=>328 | 220=>329 | 221=>330 | 222=>150 | 223=>331 | 228=>332 | 229=>182 | 230=>333 | 232=>309 | 233=>310 | 238=>334 | 239=>335 | 240=>336 | 241=>337 | 242=>338 | 243=>340 | 244=>341 | 245=>342 | 246=>343 | 247=>344 | 248=>345 | 249=>346 | n=>n,fun n=>n⟩
theorem laysn102_at:Go.Proofs.Lays.n102 Tryz.prog laysn102_ren:={
 mixed:=by kernel_rfl
 f102:=Tryz.func87.trans (congrArg some (by kernel_rfl))
 f207:=Tryz.func132.trans (congrArg some (by kernel_rfl))
 f209:=Tryz.func152.trans (congrArg some (by kernel_rfl))
 t3:=Tryz.underlying3
 a3:=Tryz.isAgg3
 z3:=Tryz.sizeOf3
 v3:=Tryz.zeroValue3
 t4:=Tryz.underlying4
 a4:=Tryz.isAgg4
 z4:=Tryz.sizeOf4
 v4:=Tryz.zeroValue4
 t9:=Tryz.underlying9
 a9:=Tryz.isAgg9
 z9:=Tryz.sizeOf9
 v9:=Tryz.zeroValue9 }
def laysn156_ren:Go.Shelf.Ren:=⟨fun | 156=>61 | 165=>121 | 166=>118 | 169=>81 | 240=>167 | 241=>168 | 276=>205 | 277=>206 | n=>n,fun | 0=>0 | 1=>1 | 2=>2 | 3=>3 | 4=>4 | 5=>5 | 6=>6 | 7=>7 | 8=>8 | 9=>9 | 10=>10 | 11=>11 | 12=>12 | 13=>13 | 14=>14 | 15=>15 | 16=>16 | 17=>17 | 18=>18 | 19=>19 | 20=>20 | 21=>21 | 22=>101 | 23=>137 | 27=>233 | 28=>78 | 31=>59 | 32=>148 | 35=>313 | 37=>121 | 46=>228 | 47=>275 | 51=>273 | 52=>290 | 53=>225 | 54=>235 | 55=>270 | 61=>136 | 67=>85 | 68=>60 | 69=>264 | 70=>120 | 71=>122 | 72=>123 | 73=>171 | 74=>132 | 75=>133 | 76=>168 | 77=>169 | 78=>170 | 80=>129 | 81=>339 | 83=>65 | 84=>138 | 85=>134 | 86=>135 | 103=>67 | 104=>100 | 105=>268 | 106=>269 | 108=>267 | 111=>64 | 112=>324 | 113=>197 | 114=>202 | 119=>303 | 127=>194 | 128=>196 | 131=>146 | 132=>147 | 134=>318 | 137=>304 | 138=>305 | 139=>306 | 143=>287 | 144=>288 | 145=>289 | 146=>307 | 150=>232 | 151=>308 | 164=>243 | 165=>244 | 166=>245 | 167=>224 | 168=>229 | 169=>230 | 170=>231 | 171=>234 | 172=>236 | 173=>237 | 174=>238 | 175=>226 | 176=>227 | 181=>319 | 182=>320 | 183=>321 | 184=>322 | 185=>323 | 186=>325 | 187=>326 | 209=>265 | 210=>266 | 211=>271 | 212=>272 | 213=>274 | 214=>263 | 218=>327 | 219=>328 | 220=>329 | 221=>330 | 222=>150 | 223=>331 | 228=>332 | 229=>182 | 230=>333 | 232=>309 | 233=>310 | 238=>334 | 239=>335 | 240=>336 | 241=>337 | 242=>338 | 243=>340 | 244=>341 | 245=>342 | 246=>343 | 247=>344 | 248=>345 | 249=>346 | n=>n,fun n=>n⟩
theorem laysn156_at:Go.Proofs.Lays.n156 Tryz.prog laysn156_ren:={
 mixed:=by kernel_rfl
 f156:=Tryz.func61.trans (congrArg some (by kernel_rfl))
 f165:=Tryz.func121.trans (congrArg some (by kernel_rfl))
 f166:=Tryz.func118.trans (congrArg some (by kernel_rfl))
 f169:=Tryz.func81.trans (congrArg some (by kernel_rfl))
 f240:=Tryz.func167.trans (congrArg some (by kernel_rfl))
 f241:=Tryz.func168.trans (congrArg some (by kernel_rfl))
 f276:=Tryz.func205.trans (congrArg some (by kernel_rfl))
 f277:=Tryz.func206.trans (congrArg some (by kernel_rfl))
 t0:=Tryz.underlying0
 a0:=Tryz.isAgg0
 z0:=Tryz.sizeOf0
 v0:=Tryz.zeroValue0
 t3:=Tryz.underlying3
 a3:=Tryz.isAgg3
 z3:=Tryz.sizeOf3
 v3:=Tryz.zeroValue3
 t4:=Tryz.underlying4
 a4:=Tryz.isAgg4
 z4:=Tryz.sizeOf4
 v4:=Tryz.zeroValue4
 t9:=Tryz.underlying9
 a9:=Tryz.isAgg9
 z9:=Tryz.sizeOf9
 v9:=Tryz.zeroValue9
 t20:=Tryz.underlying20
 a20:=Tryz.isAgg20
 z20:=Tryz.sizeOf20
 v20:=Tryz.zeroValue20
 t31:=Tryz.underlying59
 a31:=Tryz.isAgg59
 z31:=Tryz.sizeOf59
 v31:=Tryz.zeroValue59
 t37:=Tryz.underlying121
 a37:=Tryz.isAgg121
 z37:=Tryz.sizeOf121
 v37:=Tryz.zeroValue121
 t70:=Tryz.underlying120
 a70:=Tryz.isAgg120
 z70:=Tryz.sizeOf120
 v70:=Tryz.zeroValue120
 t72:=Tryz.underlying123
 a72:=Tryz.isAgg123
 z72:=Tryz.sizeOf123
 v72:=Tryz.zeroValue123
 t75:=Tryz.underlying133
 a75:=Tryz.isAgg133
 z75:=Tryz.sizeOf133
 v75:=Tryz.zeroValue133
 t76:=Tryz.underlying168
 a76:=Tryz.isAgg168
 z76:=Tryz.sizeOf168
 v76:=Tryz.zeroValue168
 t127:=Tryz.underlying194
 a127:=Tryz.isAgg194
 z127:=Tryz.sizeOf194
 v127:=Tryz.zeroValue194
 t164:=Tryz.underlying243
 a164:=Tryz.isAgg243
 z164:=Tryz.sizeOf243
 v164:=Tryz.zeroValue243 }
def laysmn173_ren:Go.Shelf.Ren:=⟨fun | 129=>233 | 173=>88 | 246=>153 | 283=>194 | 284=>195 | 285=>196 | 286=>197 | 317=>232 | 318=>234 | 319=>235 | 320=>236 | 337=>268 | 338=>269 | n=>n,fun | 0=>0 | 1=>1 | 2=>2 | 3=>3 | 4=>4 | 5=>5 | 6=>6 | 7=>7 | 8=>8 | 9=>9 | 10=>10 | 11=>11 | 12=>12 | 13=>13 | 14=>14 | 15=>15 | 16=>16 | 17=>17 | 18=>18 | 19=>19 | 20=>20 | 21=>21 | 22=>101 | 23=>137 | 27=>233 | 28=>78 | 31=>59 | 32=>148 | 35=>313 | 37=>121 | 46=>228 | 47=>275 | 51=>273 | 52=>290 | 53=>225 | 54=>235 | 55=>270 | 61=>136 | 67=>85 | 68=>60 | 69=>264 | 70=>120 | 71=>122 | 72=>123 | 73=>171 | 74=>132 | 75=>133 | 76=>168 | 77=>169 | 78=>170 | 80=>129 | 81=>339 | 83=>65 | 84=>138 | 85=>134 | 86=>135 | 103=>67 | 104=>100 | 105=>268 | 106=>269 | 108=>267 | 111=>64 | 112=>324 | 113=>197 | 114=>202 | 119=>303 | 127=>194 | 128=>196 | 131=>146 | 132=>147 | 134=>318 | 137=>304 | 138=>305 | 139=>306 | 143=>287 | 144=>288 | 145=>289 | 146=>307 | 150=>232 | 151=>308 | 164=>243 | 165=>244 | 166=>245 | 167=>224 | 168=>229 | 169=>230 | 170=>231 | 171=>234 | 172=>236 | 173=>237 | 174=>238 | 175=>226 | 176=>227 | 181=>319 | 182=>320 | 183=>321 | 184=>322 | 185=>323 | 186=>325 | 187=>326 | 209=>265 | 210=>266 | 211=>271 | 212=>272 | 213=>274 | 214=>263 | 218=>327 | 219=>328 | 220=>329 | 221=>330 | 222=>150 | 223=>331 | 228=>332 | 229=>182 | 230=>333 | 232=>309 | 233=>310 | 238=>334 | 239=>335 | 240=>336 | 241=>337 | 242=>338 | 243=>340 | 244=>341 | 245=>342 | 246=>343 | 247=>344 | 248=>345 | 249=>346 | n=>n,fun | 17=>2 | 18=>6 | 19=>7 | n=>n⟩
theorem laysmn173_at:Go.Proofs.LaysM.n173 Tryz.prog laysmn173_ren:={
 mixed:=by kernel_rfl
 f129:=Tryz.func233.trans (congrArg some (by kernel_rfl))
 f173:=Tryz.func88.trans (congrArg some (by kernel_rfl))
 f246:=Tryz.func153.trans (congrArg some (by kernel_rfl))
 f283:=Tryz.func194.trans (congrArg some (by kernel_rfl))
 f284:=Tryz.func195.trans (congrArg some (by kernel_rfl))
 f285:=Tryz.func196.trans (congrArg some (by kernel_rfl))
 f286:=Tryz.func197.trans (congrArg some (by kernel_rfl))
 f317:=Tryz.func232.trans (congrArg some (by kernel_rfl))
 f318:=Tryz.func234.trans (congrArg some (by kernel_rfl))
 f319:=Tryz.func235.trans (congrArg some (by kernel_rfl))
 f320:=Tryz.func236.trans (congrArg some (by kernel_rfl))
 f337:=Tryz.func268.trans (congrArg some (by kernel_rfl))
 f338:=Tryz.func269.trans (congrArg some (by kernel_rfl))
 t0:=Tryz.underlying0
 a0:=Tryz.isAgg0
 z0:=Tryz.sizeOf0
 v0:=Tryz.zeroValue0
 t2:=Tryz.underlying2
 a2:=Tryz.isAgg2
 z2:=Tryz.sizeOf2
 v2:=Tryz.zeroValue2
 t3:=Tryz.underlying3
 a3:=Tryz.isAgg3
 z3:=Tryz.sizeOf3
 v3:=Tryz.zeroValue3
 t4:=Tryz.underlying4
 a4:=Tryz.isAgg4
 z4:=Tryz.sizeOf4
 v4:=Tryz.zeroValue4
 t5:=Tryz.underlying5
 a5:=Tryz.isAgg5
 z5:=Tryz.sizeOf5
 v5:=Tryz.zeroValue5
 t9:=Tryz.underlying9
 a9:=Tryz.isAgg9
 z9:=Tryz.sizeOf9
 v9:=Tryz.zeroValue9
 t20:=Tryz.underlying20
 a20:=Tryz.isAgg20
 z20:=Tryz.sizeOf20
 v20:=Tryz.zeroValue20
 t37:=Tryz.underlying121
 a37:=Tryz.isAgg121
 z37:=Tryz.sizeOf121
 v37:=Tryz.zeroValue121
 t46:=Tryz.underlying228
 a46:=Tryz.isAgg228
 z46:=Tryz.sizeOf228
 v46:=Tryz.zeroValue228
 t51:=Tryz.underlying273
 a51:=Tryz.isAgg273
 z51:=Tryz.sizeOf273
 v51:=Tryz.zeroValue273
 t53:=Tryz.underlying225
 a53:=Tryz.isAgg225
 z53:=Tryz.sizeOf225
 v53:=Tryz.zeroValue225
 t171:=Tryz.underlying234
 a171:=Tryz.isAgg234
 z171:=Tryz.sizeOf234
 v171:=Tryz.zeroValue234
 t173:=Tryz.underlying237
 a173:=Tryz.isAgg237
 z173:=Tryz.sizeOf237
 v173:=Tryz.zeroValue237
 t212:=Tryz.underlying272
 a212:=Tryz.isAgg272
 z212:=Tryz.sizeOf272
 v212:=Tryz.zeroValue272
 t213:=Tryz.underlying274
 a213:=Tryz.isAgg274
 z213:=Tryz.sizeOf274
 t232:=Tryz.underlying309
 a232:=Tryz.isAgg309
 z232:=Tryz.sizeOf309
 v232:=Tryz.zeroValue309
 t233:=Tryz.underlying310
 a233:=Tryz.isAgg310
 z233:=Tryz.sizeOf310
 v233:=Tryz.zeroValue310
 g17:=by kernel_rfl
 g18:=by kernel_rfl
 g19:=by kernel_rfl
 i0:=by kernel_rfl
 i2:=by kernel_rfl
 i3:=by kernel_rfl
 i4:=by kernel_rfl
 i5:=by kernel_rfl
 i9:=by kernel_rfl
 i20:=by kernel_rfl
 i37:=by kernel_rfl
 i46:=by kernel_rfl
 i51:=by kernel_rfl
 i53:=by kernel_rfl
 i171:=by kernel_rfl
 i173:=by kernel_rfl
 i212:=by kernel_rfl
 i232:=by kernel_rfl
 i233:=by kernel_rfl
 m17:=by kernel_rfl
 m18:=by kernel_rfl
 m19:=by kernel_rfl }
def layscn174_ren:Go.Shelf.Ren:=⟨fun | 129=>233 | 171=>227 | 174=>85 | 205=>226 | 243=>262 | 245=>150 | 246=>153 | 247=>149 | 279=>187 | 280=>188 | 281=>189 | 282=>190 | 283=>194 | 284=>195 | 285=>196 | 286=>197 | 287=>186 | 316=>225 | 317=>232 | 318=>234 | 319=>235 | 320=>236 | 321=>223 | 322=>224 | 337=>268 | 338=>269 | n=>n,fun | 0=>0 | 1=>1 | 2=>2 | 3=>3 | 4=>4 | 5=>5 | 6=>6 | 7=>7 | 8=>8 | 9=>9 | 10=>10 | 11=>11 | 12=>12 | 13=>13 | 14=>14 | 15=>15 | 16=>16 | 17=>17 | 18=>18 | 19=>19 | 20=>20 | 21=>21 | 22=>101 | 23=>137 | 27=>233 | 28=>78 | 31=>59 | 32=>148 | 35=>313 | 37=>121 | 46=>228 | 47=>275 | 51=>273 | 52=>290 | 53=>225 | 54=>235 | 55=>270 | 61=>136 | 67=>85 | 68=>60 | 69=>264 | 70=>120 | 71=>122 | 72=>123 | 73=>171 | 74=>132 | 75=>133 | 76=>168 | 77=>169 | 78=>170 | 80=>129 | 81=>339 | 83=>65 | 84=>138 | 85=>134 | 86=>135 | 103=>67 | 104=>100 | 105=>268 | 106=>269 | 108=>267 | 111=>64 | 112=>324 | 113=>197 | 114=>202 | 119=>303 | 127=>194 | 128=>196 | 131=>146 | 132=>147 | 134=>318 | 137=>304 | 138=>305 | 139=>306 | 143=>287 | 144=>288 | 145=>289 | 146=>307 | 150=>232 | 151=>308 | 164=>243 | 165=>244 | 166=>245 | 167=>224 | 168=>229 | 169=>230 | 170=>231 | 171=>234 | 172=>236 | 173=>237 | 174=>238 | 175=>226 | 176=>227 | 181=>319 | 182=>320 | 183=>321 | 184=>322 | 185=>323 | 186=>325 | 187=>326 | 209=>265 | 210=>266 | 211=>271 | 212=>272 | 213=>274 | 214=>263 | 218=>327 | 219=>328 | 220=>329 | 221=>330 | 222=>150 | 223=>331 | 228=>332 | 229=>182 | 230=>333 | 232=>309 | 233=>310 | 238=>334 | 239=>335 | 240=>336 | 241=>337 | 242=>338 | 243=>340 | 244=>341 | 245=>342 | 246=>343 | 247=>344 | 248=>345 | 249=>346 | n=>n,fun | 15=>0 | 16=>1 | 17=>2 | 18=>6 | 19=>7 | n=>n⟩
theorem layscn174_at:Go.Proofs.LaysC.n174 Tryz.prog layscn174_ren:={
 mixed:=by kernel_rfl
 f129:=Tryz.func233.trans (congrArg some (by kernel_rfl))
 f171:=Tryz.func227.trans (congrArg some (by kernel_rfl))
 f174:=Tryz.func85.trans (congrArg some (by kernel_rfl))
 f205:=Tryz.func226.trans (congrArg some (by kernel_rfl))
 f243:=Tryz.func262.trans (congrArg some (by kernel_rfl))
 f245:=Tryz.func150.trans (congrArg some (by kernel_rfl))
 f246:=Tryz.func153.trans (congrArg some (by kernel_rfl))
 f247:=Tryz.func149.trans (congrArg some (by kernel_rfl))
 f279:=Tryz.func187.trans (congrArg some (by kernel_rfl))
 f280:=Tryz.func188.trans (congrArg some (by kernel_rfl))
 f281:=Tryz.func189.trans (congrArg some (by kernel_rfl))
 f282:=Tryz.func190.trans (congrArg some (by kernel_rfl))
 f283:=Tryz.func194.trans (congrArg some (by kernel_rfl))
 f284:=Tryz.func195.trans (congrArg some (by kernel_rfl))
 f285:=Tryz.func196.trans (congrArg some (by kernel_rfl))
 f286:=Tryz.func197.trans (congrArg some (by kernel_rfl))
 f287:=Tryz.func186.trans (congrArg some (by kernel_rfl))
 f316:=Tryz.func225.trans (congrArg some (by kernel_rfl))
 f317:=Tryz.func232.trans (congrArg some (by kernel_rfl))
 f318:=Tryz.func234.trans (congrArg some (by kernel_rfl))
 f319:=Tryz.func235.trans (congrArg some (by kernel_rfl))
 f320:=Tryz.func236.trans (congrArg some (by kernel_rfl))
 f321:=Tryz.func223.trans (congrArg some (by kernel_rfl))
 f322:=Tryz.func224.trans (congrArg some (by kernel_rfl))
 f337:=Tryz.func268.trans (congrArg some (by kernel_rfl))
 f338:=Tryz.func269.trans (congrArg some (by kernel_rfl))
 t0:=Tryz.underlying0
 a0:=Tryz.isAgg0
 z0:=Tryz.sizeOf0
 v0:=Tryz.zeroValue0
 t2:=Tryz.underlying2
 a2:=Tryz.isAgg2
 z2:=Tryz.sizeOf2
 v2:=Tryz.zeroValue2
 t3:=Tryz.underlying3
 a3:=Tryz.isAgg3
 z3:=Tryz.sizeOf3
 v3:=Tryz.zeroValue3
 t4:=Tryz.underlying4
 a4:=Tryz.isAgg4
 z4:=Tryz.sizeOf4
 v4:=Tryz.zeroValue4
 t5:=Tryz.underlying5
 a5:=Tryz.isAgg5
 z5:=Tryz.sizeOf5
 v5:=Tryz.zeroValue5
 t9:=Tryz.underlying9
 a9:=Tryz.isAgg9
 z9:=Tryz.sizeOf9
 v9:=Tryz.zeroValue9
 t20:=Tryz.underlying20
 a20:=Tryz.isAgg20
 z20:=Tryz.sizeOf20
 v20:=Tryz.zeroValue20
 t21:=Tryz.underlying21
 a21:=Tryz.isAgg21
 z21:=Tryz.sizeOf21
 v21:=Tryz.zeroValue21
 t37:=Tryz.underlying121
 a37:=Tryz.isAgg121
 z37:=Tryz.sizeOf121
 v37:=Tryz.zeroValue121
 t46:=Tryz.underlying228
 a46:=Tryz.isAgg228
 z46:=Tryz.sizeOf228
 v46:=Tryz.zeroValue228
 t51:=Tryz.underlying273
 a51:=Tryz.isAgg273
 z51:=Tryz.sizeOf273
 v51:=Tryz.zeroValue273
 t53:=Tryz.underlying225
 a53:=Tryz.isAgg225
 z53:=Tryz.sizeOf225
 v53:=Tryz.zeroValue225
 t75:=Tryz.underlying133
 a75:=Tryz.isAgg133
 z75:=Tryz.sizeOf133
 v75:=Tryz.zeroValue133
 t85:=Tryz.underlying134
 a85:=Tryz.isAgg134
 z85:=Tryz.sizeOf134
 v85:=Tryz.zeroValue134
 t127:=Tryz.underlying194
 a127:=Tryz.isAgg194
 z127:=Tryz.sizeOf194
 v127:=Tryz.zeroValue194
 t143:=Tryz.underlying287
 a143:=Tryz.isAgg287
 z143:=Tryz.sizeOf287
 v143:=Tryz.zeroValue287
 t145:=Tryz.underlying289
 a145:=Tryz.isAgg289
 z145:=Tryz.sizeOf289
 v145:=Tryz.zeroValue289
 t167:=Tryz.underlying224
 a167:=Tryz.isAgg224
 z167:=Tryz.sizeOf224
 v167:=Tryz.zeroValue224
 t168:=Tryz.underlying229
 a168:=Tryz.isAgg229
 z168:=Tryz.sizeOf229
 v168:=Tryz.zeroValue229
 t171:=Tryz.underlying234
 a171:=Tryz.isAgg234
 z171:=Tryz.sizeOf234
 v171:=Tryz.zeroValue234
 t173:=Tryz.underlying237
 a173:=Tryz.isAgg237
 z173:=Tryz.sizeOf237
 v173:=Tryz.zeroValue237
 t175:=Tryz.underlying226
 a175:=Tryz.isAgg226
 z175:=Tryz.sizeOf226
 v175:=Tryz.zeroValue226
 t210:=Tryz.underlying266
 a210:=Tryz.isAgg266
 z210:=Tryz.sizeOf266
 v210:=Tryz.zeroValue266
 t212:=Tryz.underlying272
 a212:=Tryz.isAgg272
 z212:=Tryz.sizeOf272
 v212:=Tryz.zeroValue272
 t213:=Tryz.underlying274
 a213:=Tryz.isAgg274
 z213:=Tryz.sizeOf274
 t232:=Tryz.underlying309
 a232:=Tryz.isAgg309
 z232:=Tryz.sizeOf309
 v232:=Tryz.zeroValue309
 t233:=Tryz.underlying310
 a233:=Tryz.isAgg310
 z233:=Tryz.sizeOf310
 v233:=Tryz.zeroValue310
 g15:=by kernel_rfl
 g16:=by kernel_rfl
 g17:=by kernel_rfl
 g18:=by kernel_rfl
 g19:=by kernel_rfl
 t80:=Tryz.underlying129
 a80:=Tryz.isAgg129
 z80:=Tryz.sizeOf129
 v80:=Tryz.zeroValue129
 i0:=by kernel_rfl
 i2:=by kernel_rfl
 i3:=by kernel_rfl
 i4:=by kernel_rfl
 i5:=by kernel_rfl
 i9:=by kernel_rfl
 i20:=by kernel_rfl
 i21:=by kernel_rfl
 i37:=by kernel_rfl
 i46:=by kernel_rfl
 i51:=by kernel_rfl
 i53:=by kernel_rfl
 i75:=by kernel_rfl
 i80:=by kernel_rfl
 i85:=by kernel_rfl
 i127:=by kernel_rfl
 i143:=by kernel_rfl
 i145:=by kernel_rfl
 i167:=by kernel_rfl
 i168:=by kernel_rfl
 i171:=by kernel_rfl
 i173:=by kernel_rfl
 i175:=by kernel_rfl
 i210:=by kernel_rfl
 i212:=by kernel_rfl
 i232:=by kernel_rfl
 i233:=by kernel_rfl
 m15:=by kernel_rfl
 m16:=by kernel_rfl
 m17:=by kernel_rfl
 m18:=by kernel_rfl
 m19:=by kernel_rfl
 c0:=by kernel_rfl
 c2:=by kernel_rfl
 c3:=by kernel_rfl
 c4:=by kernel_rfl
 c5:=by kernel_rfl
 c9:=by kernel_rfl
 c20:=by kernel_rfl
 c21:=by kernel_rfl
 c37:=by kernel_rfl
 c46:=by kernel_rfl
 c51:=by kernel_rfl
 c53:=by kernel_rfl
 c75:=by kernel_rfl
 c80:=by kernel_rfl
 c85:=by kernel_rfl
 c127:=by kernel_rfl
 c143:=by kernel_rfl
 c145:=by kernel_rfl
 c167:=by kernel_rfl
 c168:=by kernel_rfl
 c171:=by kernel_rfl
 c173:=by kernel_rfl
 c175:=by kernel_rfl
 c210:=by kernel_rfl
 c212:=by kernel_rfl
 c213:=by kernel_rfl
 c232:=by kernel_rfl
 c233:=by kernel_rfl }
theorem builderextra_at:Go.Proofs.Builder.Extra Tryz.prog laysn156_ren:={
 sizeBuilder:=by kernel_rfl
 liesBuilder:=by kernel_rfl
 t5:=Tryz.underlying5
 a5:=Tryz.isAgg5
 z5:=Tryz.sizeOf5
 v5:=Tryz.zeroValue5
 infoByte:=by kernel_rfl
 cellsByte:=by kernel_rfl
 sizeByte:=by kernel_rfl
 neB5:=by decide }
end Go.Proofs.YtpmdhkjbhjgoaaaGreatDoorL
namespace Go.Proofs.YtpmdhkjbhjgoaaaGreatDoorN
set_option maxRecDepth 100000
set_option maxHeartbeats 4000000
open Go.RowKit Go.Proofs.YtpmdhkjbhjgoaaaGreatDoorK Go.Proofs.YtpmdhkjbhjgoaaaGreatDoorT Go.Proofs.YtpmdhkjbhjgoaaaGreatDoorL

theorem any_T {n j:Nat}{p:Nat→Bool}(hj:j<n) (h:p j=true):(List.range n).any p=true:=List.any_eq_true.2 ⟨j,List.mem_range.2 hj,h⟩
theorem any_F {n:Nat}{p:Nat→Bool}(h:∀ j,j<n→p j=false):(List.range n).any p=false:=List.any_eq_false.2 (fun j hj=>by rw [h j (List.mem_range.1 hj)];simp)
def idxI {α:Type}(p:α→Bool) (l:List α):Int:=if l.any p then (l.findIdx p:Int) else -1
theorem idxI_stop {α:Type}{p:α→Bool}{l:List α}{i:Nat}{x:α}(h:∀ y ∈ l.take i,p y=false) (hi:l[i]?=some x) (hp:p x=true):idxI p l=(i:Int):=by
 obtain ⟨hl,rfl⟩:=List.getElem?_eq_some_iff.1 hi
 unfold idxI
 rw [if_pos (List.any_eq_true.2 ⟨_,List.getElem_mem hl,hp⟩)]
 rw [(List.findIdx_eq hl).2 ⟨hp,fun j hj=>h _ (List.mem_take_iff_getElem.2 ⟨j,by omega,rfl⟩)⟩]
theorem idxI_none {α:Type}{p:α→Bool}{l:List α}(h:∀ y ∈ l,p y=false):idxI p l = -1:=by
 unfold idxI
 rw [if_neg]
 intro k
 obtain ⟨x,hx,hp⟩:=List.any_eq_true.1 k
 rw [h x hx] at hp;cases hp
theorem take_not {α:Type}{p:α→Bool}{l:List α}{i:Nat}{x:α}(h:∀ y ∈ l.take i,p y=false) (hi:l[i]?=some x) (hp:p x=false):∀ y ∈ l.take (i+1),p y=false:=by
 intro y hy
 rw [List.take_add_one,hi] at hy
 rcases List.mem_append.1 hy with k | k
 · exact h y k
 · obtain rfl:y=x:=by simpa using k
   exact hp
theorem idxI_iff {α:Type}{p:α→Bool}{l:List α} : 0≤idxI p l↔l.any p=true:=by
 unfold idxI
 split
 · next h=>simp [h] <;> omega
 · next h=>simp [h] <;> omega
theorem idxI_at {α:Type}{p:α→Bool}{l:List α}(h:0≤idxI p l):∃ (k:Nat) (x:α),idxI p l=(k:Int)∧l[k]?=some x∧p x=true:=by
 have ha:=idxI_iff.1 h
 unfold idxI
 rw [if_pos ha]
 have hl:l.findIdx p<l.length:=List.findIdx_lt_length_of_exists (by simpa using ha)
 exact ⟨_,_,rfl,List.getElem?_eq_getElem hl,List.findIdx_getElem⟩
def digB (k:Int):Int:=48+((k.tmod 10).natAbs:Int)
def digS:Nat→Int→ByteArray→ByteArray
  | 0,_,s=>s
  | f+1,k,s=>if k=0 then s else digS f (k.tdiv 10) (bytesS [digB k]++s)
def decF (n:Int):ByteArray:=if n=0 then ⟨#[48]⟩ else if n<0 then ⟨#[45]⟩++digS 20 n ByteArray.empty else digS 20 n ByteArray.empty
theorem digB_in (k:Int):48≤digB k∧digB k≤57:=by
 unfold digB
 have h:(k.tmod 10).natAbs<10:=by
  rw [Int.natAbs_tmod]
  exact Nat.mod_lt _ (by decide)
 omega
theorem bytesS_size (xs:List Int):(bytesS xs).size=xs.length:=by simp [bytesS,ByteArray.size]
theorem digS_size:∀ (f:Nat) (k:Int) (s:ByteArray),(digS f k s).size≤f+s.size
 | 0,_,s=>by simp [digS]
 | f+1,k,s=>by
  unfold digS
  split
  · omega
  · have:=digS_size f (k.tdiv 10) (bytesS [digB k]++s)
    rw [ByteArray.size_append,bytesS_size] at this
    simp only [List.length_cons,List.length_nil] at this
    omega
theorem decF_size (n:Int):(decF n).size≤21:=by
 have h:=digS_size 20 n ByteArray.empty
 have h0:ByteArray.empty.size=0:=rfl
 unfold decF
 split
 · decide
 · split
   · rw [ByteArray.size_append]
     have:(⟨#[45]⟩:ByteArray).size=1:=rfl
     omega
   · omega
theorem wrap8 {n:Int}(h:48≤n∧n≤57):IntKind.u8.wrap n=n:=by
 obtain ⟨m,rfl⟩:=Int.eq_ofNat_of_zero_le (show 0≤n by omega)
 have:∀ m,m<58→IntKind.u8.wrap ((m:Nat):Int)=((m:Nat):Int):=by decide
 exact this m ZO
theorem in64_tdiv {k:Int}(h:in64 k):in64 (k.tdiv 10):=by
 have h1:(k.tdiv 10).natAbs≤k.natAbs / 10:=by rw [Int.natAbs_tdiv];exact Nat.le_refl _
 unfold in64 at *
 omega
theorem tdiv_small {k:Int}{m:Nat}(h:k.natAbs<10 * m):(k.tdiv 10).natAbs<m:=by
 rw [Int.natAbs_tdiv]
 exact Nat.div_lt_of_lt_mul (by simpa using h)
theorem ref_Digits {B:Base}{w:World}(hS:St B [] w) (n:Int) (hn:in64 n) :
 CW 46 #[.int .i64 n] w (Ret B (fun _:Unit=>True) (fun _=>.string (decF n)) (fun _=>[])):=by
 have hnn:n.natAbs<10 ^ 20:=by unfold in64 at hn;omega
 refine ZX Tryz.func46 hS ?_
 refine Zh (Zi (Zp J (Zn (Za (Zh (Zh (Zi (Zo J (Zy J J (Zn (Za (wC (fun h7=>?_) (fun h7=>?_)))))))))))))
 refine Zh (Zzb ?_)
 exact ⟨(),trivial,by unfold decF;rw [if_pos h7];rfl,Lh⟩
 refine Zj (Za (Zh (Zi (Zp J (Zn (Za (Zh (Zh (Zi (Zo J (Zp J (Zn (Za (Zk (wLoop (ι:=Nat×Int×ByteArray) (fun z=>[(0,.int .i64 n),(3,.string z.2.2),(4,.int .i64 z.2.1)]) (fun z=>[]) (fun z=>in64 z.2.1∧z.1≤20∧z.2.1.natAbs<10 ^ z.1∧digS 20 n ByteArray.empty=digS z.1 z.2.1 z.2.2∧z.1+z.2.2.size≤20) (fun z=>z.1) (20,n,ByteArray.empty) ?_ cv (Leads.has ZQ) ?_)))))))))))))))
 exact ⟨hn,Nat.le_refl _,hnn,rfl,Nat.le_refl _⟩
 rintro ⟨f,k,s⟩ ⟨hk64,hf,hk,hd,hsz⟩
 dsimp only at hk64 hf hk hd hsz
 try dsimp only
 refine Zh (Zh (Zi (Zo J (Z0 J J (Zn (Za (wC (fun h10=>?_) (fun h10=>?_))))))))
 obtain ⟨f,rfl⟩:∃ f',f=f'+1:=⟨f-1,by cases f with | zero=>simp at hk;omega | succ f=>rfl⟩
 have hkb:k.natAbs<10 ^ 20:=Nat.lt_of_lt_of_le hk (Nat.pow_le_pow_right (by decide) hf)
 have hdb:=digB_in k
 have hk64':=hk64
 unfold in64 at hk64'
 have hq:∀ z,z=digB k→IntKind.u8.wrap z=digB k:=fun z hz=>by rw [hz];exact wrap8 hdb
 refine Zj (Za (Zh (Zk (Zh (Zi (Zo J (oRem J J (by decide) ?_)))))))
 refine Zp J (Zn (Za (Zh (Zh (Zi (Zo J (Zx J J (Zn (Za (wC (fun h16=>?_) (fun h16=>?_)))))))))))
 refine Zi (Zo J ?_)
 refine oSub J J (by have:=digB_in k;unfold digB at this;omega) ?_
 refine Zp J (Zn (Za (Zi (Zo J ?_))))
 refine oAdd J J (by have:=digB_in k;unfold digB at this;omega) ?_
 refine oConvInt (m:=digB k) J J J (hq _ (by unfold digB;omega)) ?_
 refine oBuildSlice1 J J J J J ZP J (fun b22=>?_)
 refine oConvBS (xs:=[digB k]) J J J J ZP J J (by intro v hv;obtain J:=List.mem_singleton.1 hv;omega) ?_
 refine Zo J ?_
 refine oAddStr rfl rfl (by rw [bytesS_size];simp only [List.length_cons,List.length_nil];omega) ?_
 refine Zp J (Zn (Zd (Za (Zi (Zo J (oQuo J J ZO ?_))))))
 refine Zp J (Zn (Za ?_))
 exact ⟨rfl,(f,k.tdiv 10,bytesS [digB k]++s),⟨in64_tdiv hk64,by show f≤20;omega,tdiv_small (by show k.natAbs<10 * 10 ^ f;rw [Nat.pow_succ] at hk;omega),by rw [hd];show (if k=0 then s else _)=_;rw [if_neg h10],by show f+(bytesS [digB k]++s).size≤20;rw [ByteArray.size_append,bytesS_size];simp only [List.length_cons,List.length_nil];omega⟩,by show f<f+1;omega,cv,Lh⟩
 refine Zj (Za (Zi (Zo J ?_)))
 refine oAdd J J (by have:=digB_in k;unfold digB at this;omega) ?_
 refine oConvInt (m:=digB k) J J J (hq _ (by unfold digB;omega)) ?_
 refine oBuildSlice1 J J J J J ZP J (fun b22=>?_)
 refine oConvBS (xs:=[digB k]) J J J J ZP J J (by intro v hv;obtain J:=List.mem_singleton.1 hv;omega) ?_
 refine Zo J ?_
 refine oAddStr rfl rfl (by rw [bytesS_size];simp only [List.length_cons,List.length_nil];omega) ?_
 refine Zp J (Zn (Zd (Za (Zi (Zo J (oQuo J J ZO ?_))))))
 refine Zp J (Zn (Za ?_))
 exact ⟨rfl,(f,k.tdiv 10,bytesS [digB k]++s),⟨in64_tdiv hk64,by show f≤20;omega,tdiv_small (by show k.natAbs<10 * 10 ^ f;rw [Nat.pow_succ] at hk;omega),by rw [hd];show (if k=0 then s else _)=_;rw [if_neg h10],by show f+(bytesS [digB k]++s).size≤20;rw [ByteArray.size_append,bytesS_size];simp only [List.length_cons,List.length_nil];omega⟩,by show f<f+1;omega,cv,Lh⟩
 obtain rfl:k=0:=by omega
 have hd0:digS 20 n ByteArray.empty=s:=by rw [hd];cases f with | zero=>rfl | succ f=>show (if (0:Int)=0 then s else _)=s;rw [if_pos rfl]
 refine Zm (Zb (Zb (Ze (Za (Zh (Zh (Zi (Zo J (Zx J J (Zn (Za (wC (fun h27=>?_) (fun h27=>?_)))))))))))))
 refine Zh (Zi (Zo J ?_))
 refine oAddStr J J (by show 1+_≤_;omega) ?_
 refine Zp J (Zn (Za (Zl (Zc (Zw (fi1 J ?_))))))
 exact ⟨(),trivial,by unfold decF;rw [if_neg h7,if_pos h27,hd0];rfl,Lh⟩
 refine Zj (Za (Zh (Zi (Zo J (Zp J (Zzc ?_))))))
 exact ⟨(),trivial,by unfold decF;rw [if_neg h7,if_neg h27,hd0];rfl,Lh⟩
def ltS (x y:ByteArray):Prop:=toL x<toL y
instance (x y:ByteArray):Decidable (ltS x y):=inferInstanceAs (Decidable (toL x<toL y))
theorem ofL_append (a b:List UInt8):ofL (a++b)=ofL a++ofL b:=by
 apply ByteArray.ext
 rw [ByteArray.data_append]
 simp [ofL]
theorem app_assoc (a b c:ByteArray):a++b++c=a++(b++c):=by
 apply ByteArray.ext
 simp [ByteArray.data_append]
theorem app_emp (a:ByteArray):a++ByteArray.empty=a:=by
 apply ByteArray.ext
 rw [ByteArray.data_append]
 show a.data++#[]=a.data
 simp
theorem digB_one (k:Int):bytesS [digB k]=ofL [UInt8.ofNat (48+k.natAbs % 10)]:=by
 have:(digB k).toNat=48+k.natAbs % 10:=by
  unfold digB
  rw [Int.natAbs_tmod]
  show (48+((k.natAbs % 10:Nat):Int)).toNat=_
  omega
 unfold bytesS ofL
 simp [this]
theorem digS_eq:∀ (f:Nat) (k:Int) (s:ByteArray),k≠0→k.natAbs<10 ^ f→digS f k s=ofL (Lib.decDigits k.natAbs)++s
  | 0,k,s,h,hk=>by simp at hk;omega
  | f+1,k,s,h,hk=>by
    rw [digS,if_neg h,digB_one]
    have hd:(k.tdiv 10).natAbs=k.natAbs / 10:=by rw [Int.natAbs_tdiv];rfl
    by_cases h10:k.natAbs<10
    · have h0:k.tdiv 10=0:=Int.natAbs_eq_zero.1 ZO
      rw [h0,Lib.decDigits_one h10,Nat.mod_eq_of_lt h10]
      cases f with
      | zero=>rfl
      | succ f=>rw [digS,if_pos rfl]
    · have h0:k.tdiv 10≠0:=fun e=>by rw [e] at hd;simp at hd;omega
      rw [digS_eq f _ _ h0 (by rw [hd,Nat.pow_succ] at *;omega),hd]
      conv=>rhs;rw [Lib.decDigits,dif_neg h10,ofL_append]
      rw [app_assoc]
theorem itoa_eq {z:Int}(hz:in64 z):(⟨(Lib.itoa z).toArray⟩:ByteArray)=decF z:=by
 have hb:z.natAbs<10 ^ 20:=by unfold in64 at hz;omega
 show ofL (Lib.itoa z)=decF z
 unfold Lib.itoa decF
 by_cases h0:z=0
 · subst h0
   rw [if_neg ZO,if_pos rfl,show (0:Int).toNat=0 from rfl,Lib.decDigits_one (by decide)]
   rfl
 · rw [if_neg h0]
   by_cases h1:z<0
   · rw [if_pos h1,if_pos h1,digS_eq 20 z _ h0 hb,app_emp]
     show ofL ([45]++Lib.decDigits z.natAbs)=_
     rw [ofL_append];rfl
   · rw [if_neg h1,if_neg h1,digS_eq 20 z _ h0 hb,app_emp,show z.toNat=z.natAbs by omega]
def dotF:ByteArray:=⟨#[46,102]⟩
def joinT (file:Int) (s:ByteArray):ByteArray:=s++dotF++decF file
end Go.Proofs.YtpmdhkjbhjgoaaaGreatDoorN
namespace Go.Proofs.YtpmdhkjbhjgoaaaGreatDoorR
set_option maxRecDepth 100000
set_option maxHeartbeats 4000000
open Go.RowKit Go.Proofs.YtpmdhkjbhjgoaaaGreatDoorK
open Go.Proofs.YtpmdhkjbhjgoaaaGreatDoorN (itoa_eq decF)

theorem in64_wrap (z:Int):in64 (IntKind.i64.wrap z):=by
 have e:IntKind.i64.wrap z=if 9223372036854775808≤z % 18446744073709551616 then z % 18446744073709551616-18446744073709551616 else z % 18446744073709551616:=by
  simp [IntKind.wrap,IntKind.signed,IntKind.bits]
 rw [e]
 unfold in64
 split <;> omega
theorem decS_eq {z:Int}(h:in64 z):decS z=decF z:=itoa_eq h
theorem digit_nat {d:Nat}(h:d<10):(UInt8.ofNat (48+d)).toNat=48+d:=by
 have:∀ m,m<10→(UInt8.ofNat (48+m)).toNat=48+m:=by decide
 exact this d h
theorem decD_len:∀ (k u:Nat),1≤k→u<10 ^ k→(Lib.decDigits u).length≤k
 | 0,u,h,_=>by omega
 | k+1,u,_,hu=>by
  by_cases h10:u<10
  · rw [Lib.decDigits_one h10];simp
  · rw [Lib.decDigits,dif_neg h10,List.length_append]
    have hk:1≤k:=by
     cases k with
     | zero=>simp at hu;omega
     | succ k=>omega
    have:=decD_len k (u / 10) hk (by rw [Nat.pow_succ] at hu;omega)
    simp only [List.length_cons,List.length_nil];omega
theorem decS_size {z:Int}(h:in64 z):(decS z).size≤20:=by
 have e:(decS z).size=(Lib.itoa z).length:=by simp [decS,ByteArray.size]
 rw [e]
 unfold Lib.itoa
 unfold in64 at h
 split
 · have:=decD_len 19 z.natAbs (by decide) ZO
   simp only [List.length_cons];omega
 · have:=decD_len 19 z.toNat (by decide) ZO
   omega
theorem decD_ne (u:Nat):Lib.decDigits u≠[]:=by
 by_cases h10:u<10
 · rw [Lib.decDigits_one h10];simp
 · rw [Lib.decDigits,dif_neg h10];simp
theorem decD_digit:∀ (f u:Nat),u≤f→∀ b ∈ Lib.decDigits u,48≤b.toNat∧b.toNat≤57
 | f,u,h=>by
  intro b hb
  by_cases h10:u<10
  · rw [Lib.decDigits_one h10] at hb
    obtain rfl:=List.mem_singleton.1 hb
    rw [digit_nat h10];omega
  · rw [Lib.decDigits,dif_neg h10] at hb
    rcases List.mem_append.1 hb with k | k
    · cases f with
      | zero=>omega
      | succ f=>exact decD_digit f (u / 10) ZO b k
    · obtain rfl:=List.mem_singleton.1 k
      rw [digit_nat (Nat.mod_lt _ (by decide))]
      omega
theorem parseM_dec (M:Nat) (hM:M≤18446744073709551615) (r:List UInt8):∀ (f u:Nat),u≤f→u≤M→Lib.parseUintM M 0 (Lib.decDigits u++r)=Lib.parseUintM M u r
 | f,u,hf,hu=>by
  by_cases h10:u<10
  · rw [Lib.decDigits_one h10]
    show (if 48≤(UInt8.ofNat (48+u)).toNat∧(UInt8.ofNat (48+u)).toNat≤57 then _ else _)=_
    rw [digit_nat h10,if_pos ZO,if_neg ZO,if_neg ZO]
    show Lib.parseUintM M (0 * 10+(48+u-48)) r=_
    rw [show 0 * 10+(48+u-48)=u by omega]
  · rw [Lib.decDigits,dif_neg h10,List.append_assoc]
    cases f with
    | zero=>omega
    | succ f=>
     rw [parseM_dec M hM _ f (u / 10) ZO ZO]
     show (if 48≤(UInt8.ofNat (48+u % 10)).toNat∧(UInt8.ofNat (48+u % 10)).toNat≤57 then _ else _)=_
     have hm:u % 10<10:=Nat.mod_lt _ (by decide)
     rw [digit_nat hm,if_pos ZO,if_neg ZO,if_neg ZO]
     show Lib.parseUintM M (u / 10 * 10+(48+u % 10-48)) r=_
     rw [show u / 10 * 10+(48+u % 10-48)=u by omega]
theorem parseB_dec {u:Nat}(h:u≤18446744073709551615):Lib.parseUintB 64 (Lib.decDigits u)=.ok u:=by
 unfold Lib.parseUintB
 rw [if_neg (decD_ne u)]
 have:=parseM_dec 18446744073709551615 (Nat.le_refl _) [] u u (Nat.le_refl _) h
 rw [List.append_nil] at this
 exact this
theorem parsed_dec {z:Int}(h:in64 z):parsed (decS z)=some z:=by
 unfold in64 at h
 have hp:Lib.parseIntB 64 (Lib.itoa z)=.ok z:=by
  unfold Lib.itoa
  split
  · next hz=>
    have hq:=parseB_dec (u:=z.natAbs) ZO
    simp [Lib.parseIntB,hq]
    rw [if_neg ZO]
    exact congrArg _ ZO
  · next hz=>
    have hq:=parseB_dec (u:=z.toNat) ZO
    cases hd:Lib.decDigits z.toNat with
    | nil=>exact absurd hd (decD_ne _)
    | cons c r=>
     have hc:=decD_digit z.toNat z.toNat (Nat.le_refl _) c (by rw [hd];exact List.mem_cons_self)
     rw [hd] at hq
     have n1:¬ c.toNat=43:=by omega
     have n2:¬ c.toNat=45:=by omega
     simp [Lib.parseIntB,n1,n2,hq]
     rw [if_neg ZO]
     exact congrArg _ ZO
 unfold parsed
 have e:(decS z).data.toList=Lib.itoa z:=rfl
 rw [e,hp]
theorem parsed_in {s:ByteArray}{z:Int}(h:parsed s=some z):in64 z:=by
 unfold parsed at h
 split at h
 · next v hv=>
   obtain rfl:v=z:=by simpa using h
   obtain ⟨h1,h2⟩:=Lib.parseIntB_bounds hv
   unfold in64
   have e:((2 ^ (64-1):Nat):Int)=9223372036854775808:=by decide
   rw [e] at h1 h2
   omega
 · cases h
def numF (s:ByteArray):Int×Bool:=match parsed s with
  | some v=>if decS v=s then (v,true) else (0,false)
  | none=>(0,false)
theorem numF_dec {z:Int}(h:in64 z):numF (decS z)=(z,true):=by
 unfold numF
 rw [parsed_dec h]
 show (if _ then _ else _)=_
 rw [if_pos rfl]
theorem numF_no {s:ByteArray}(h:∀ z,in64 z→decS z≠s):numF s=(0,false):=by
 unfold numF
 split
 · next v hv=>rw [if_neg (h v (parsed_in hv))]
 · rfl
def refV:List UInt8→Int→Option Int
  | [],n=>some n
  | b :: l,n=>if b.toNat<48∨57<b.toNat then none else refV l (IntKind.i64.wrap (IntKind.i64.wrap (10 * n)-((b.toNat:Int)-48)))
theorem refV_dec (r:List UInt8):∀ (f u:Nat),u≤f→u≤9223372036854775808→refV (Lib.decDigits u++r) 0=refV r (-(u:Int))
 | f,u,hf,hu=>by
  by_cases h10:u<10
  · rw [Lib.decDigits_one h10]
    show (if (UInt8.ofNat (48+u)).toNat<48∨57<(UInt8.ofNat (48+u)).toNat then none else refV r (IntKind.i64.wrap (IntKind.i64.wrap (10 * 0)-(((UInt8.ofNat (48+u)).toNat:Int)-48))))=_
    rw [digit_nat h10,if_neg ZO,wrap_in (n:=10 * 0) ⟨by omega,by omega⟩,wrap_in ⟨by omega,by omega⟩]
    congr 1;omega
  · rw [Lib.decDigits,dif_neg h10,List.append_assoc]
    cases f with
    | zero=>omega
    | succ f=>
     rw [refV_dec _ f (u / 10) ZO ZO]
     have hm:u % 10<10:=Nat.mod_lt _ (by decide)
     show (if (UInt8.ofNat (48+u % 10)).toNat<48∨57<(UInt8.ofNat (48+u % 10)).toNat then none else refV r (IntKind.i64.wrap (IntKind.i64.wrap (10 * -((u / 10:Nat):Int))-(((UInt8.ofNat (48+u % 10)).toNat:Int)-48))))=_
     rw [digit_nat hm,if_neg ZO,wrap_in (n:=10 * -((u / 10:Nat):Int)) ⟨by omega,by omega⟩,wrap_in ⟨by omega,by omega⟩]
     congr 1;omega
theorem refV_in:∀ (l:List UInt8) (n m:Int),in64 n→refV l n=some m→in64 m
 | [],n,m,hn,h=>by
  obtain rfl:n=m:=by simpa [refV] using h
  exact hn
 | b :: l,n,m,hn,h=>by
  unfold refV at h
  split at h
  · cases h
  · exact refV_in l _ m (in64_wrap _) h
def minus (l:List UInt8):Bool:=decide (l.head?=some 45)
def refN (s:ByteArray):Int×Bool:=
  if s.size<1∨20<s.size then (0,false) else
  match refV ((toL s).drop (if minus (toL s) then 1 else 0)) 0 with
  | none=>(0,false)
  | some n=>if decS (if minus (toL s) then n else IntKind.i64.wrap (0-n))=s then (if minus (toL s) then n else IntKind.i64.wrap (0-n),true) else (0,false)
theorem refN_dec {z:Int}(h:in64 z):refN (decS z)=(z,true):=by
 have hs:=decS_size h
 have hz:=h
 unfold in64 at hz
 have e:toL (decS z)=Lib.itoa z:=rfl
 have hne:Lib.itoa z≠[]:=by
  unfold Lib.itoa
  split
  · simp
  · exact decD_ne _
 have h1:1≤(decS z).size:=by
  rw [← toL_size,e]
  cases hl:Lib.itoa z with
  | nil=>exact absurd hl hne
  | cons b l=>simp
 unfold refN
 rw [if_neg ZO,e]
 by_cases hn:z<0
 · have e2:Lib.itoa z=45 :: Lib.decDigits z.natAbs:=by unfold Lib.itoa;rw [if_pos hn]
   have hm:minus (Lib.itoa z)=true:=by rw [e2];rfl
   have hv:=refV_dec [] z.natAbs z.natAbs (Nat.le_refl _) ZO
   rw [List.append_nil] at hv
   rw [hm,if_pos rfl,e2]
   show (match refV (Lib.decDigits z.natAbs) 0 with | none=>_ | some n=>_)=_
   rw [hv]
   show (if decS (if true=true then -(z.natAbs:Int) else _)=decS z then (if true=true then -(z.natAbs:Int) else _,true) else _)=_
   rw [if_pos rfl,show -(z.natAbs:Int)=z by omega,if_pos rfl]
 · have e2:Lib.itoa z=Lib.decDigits z.toNat:=by unfold Lib.itoa;rw [if_neg hn]
   have hm:minus (Lib.itoa z)=false:=by
    rw [e2]
    unfold minus
    apply decide_eq_false
    intro k
    cases hd:Lib.decDigits z.toNat with
    | nil=>exact absurd hd (decD_ne _)
    | cons c r=>
     have hc:=decD_digit z.toNat z.toNat (Nat.le_refl _) c (by rw [hd];exact List.mem_cons_self)
     rw [hd] at k
     have k2:c=45:=by simpa using k
     subst k2
     exact absurd hc.1 (by decide)
   have hv:=refV_dec [] z.toNat z.toNat (Nat.le_refl _) ZO
   rw [List.append_nil] at hv
   have hw:IntKind.i64.wrap (0 - -(z.toNat:Int))=z:=by rw [show (0 - -(z.toNat:Int))=z by omega];exact wrap_in h
   rw [hm,if_neg (show ¬ (false=true) by simp),e2,List.drop_zero,hv]
   show (if decS (if false=true then _ else IntKind.i64.wrap (0 - -(z.toNat:Int)))=decS z then (if false=true then _ else IntKind.i64.wrap (0 - -(z.toNat:Int)),true) else _)=_
   rw [if_neg (show ¬ (false=true) by simp),hw,if_pos rfl]
theorem refN_law (s:ByteArray):refN s=numF s:=by
 by_cases h:∃ z,in64 z∧decS z=s
 · obtain ⟨z,hz,rfl⟩:=h
   rw [refN_dec hz,numF_dec hz]
 · have hn:∀ z,in64 z→decS z≠s:=fun z hz e=>h ⟨z,hz,e⟩
   rw [numF_no hn]
   unfold refN
   split
   · rfl
   · split
     · rfl
     · next n hv=>
       rw [if_neg (hn _ ?_)]
       have h0:in64 n:=refV_in _ 0 n ⟨by decide,by decide⟩ hv
       split
       · exact h0
       · exact in64_wrap _
end Go.Proofs.YtpmdhkjbhjgoaaaGreatDoorR
namespace Go.Proofs.YtpmdhkjbhjgoaaaGreatDoorV
set_option maxRecDepth 100000
set_option maxHeartbeats 4000000
open Go.RowKit Go.Proofs.YtpmdhkjbhjgoaaaGreatDoorK Go.Proofs.YtpmdhkjbhjgoaaaGreatDoorT Go.Proofs.YtpmdhkjbhjgoaaaGreatDoorL

def isC (c:Int):Bool:=decide (0≤c) && decide (c<8)
theorem isC_iff {c:Int} : isC c=true↔0≤c∧c<8:=by simp [isC]
theorem sig_Is {B:Base}{w:World}(hS:St B [] w) (c:Int) :
 CW 37 #[.int .i64 c] w (Ret B (fun _:Unit=>True) (fun _=>.bool (isC c)) (fun _=>[])):=by
 refine ZX Tryz.func37 hS ?_
 refine Zh (Zi (Zp J (Zn (Za (Zh (Zi (Zo J (Z2 J J (Zo J (ZS (ZT 5) (fun h5=>?_) (fun h5=>?_)))))))))))
 refine Zq J J (Zo J (Zq J J (Zx J J (Zt J J (Zp J (Zzc ?_))))))
 exact ⟨(),trivial,by simp_all [resVal,isC] <;> omega,Lh⟩
 refine Zr J J J J (Zr J J J J (Zu J J (Zp J (Zzc ?_))))
 exact ⟨(),trivial,by simp_all [resVal,isC] <;> omega,Lh⟩
theorem sig_Class {B:Base}{w:World}(hS:St B [] w) (k:Int) :
 CW 97 #[.int .i64 k] w (Ret B (fun _:Unit=>True) (fun _=>.tuple #[.int .i64 (if isC (IntKind.i64.wrap (k-1)) then IntKind.i64.wrap (k-1) else 0),.bool (isC (IntKind.i64.wrap (k-1)))]) (fun _=>[])):=by
 generalize hz:IntKind.i64.wrap (k-1)=z
 refine ZX Tryz.func97 hS ?_
 refine Zh (Zi (Zp J (Zp J (Zn (Za (Zh (Zh (Zi (Zo J (oSubW J J ?_))))))))))
 rw [hz]
 (refine ZC0 rfl ZK (fun w hS=>frame hS ZQ (fun B' hB hS'=>sig_Is hS' z)) ?_;rintro ⟨⟩ -)
 refine Zno ?_
 refine Zn (Za (wC (fun h7=>?_) (fun h7=>?_)))
 refine Zh (Zzd ?_)
 refine ⟨rfl,_,(ResL.cons (ResR.tmp rfl) (ResL.cons (ResR.tmp rfl) ResL.nil)),?_⟩
 exact ⟨(),trivial,by simp_all [resVal],Lh⟩
 refine Zj (Za (Zh (Zi (Zo J (oSubW J J ?_)))))
 rw [hz]
 refine Zp J (Zp J (Zn (Za (Zl (Zw ?_)))))
 refine ⟨rfl,_,(ResL.cons (ResR.tmp rfl) (ResL.cons (ResR.tmp rfl) ResL.nil)),?_⟩
 exact ⟨(),trivial,by simp_all [resVal],Lh⟩
def textsL:List ByteArray:=[⟨#[110]⟩,⟨#[102,48]⟩,⟨#[102,48,114]⟩,⟨#[102,49]⟩,⟨#[102,49,114]⟩,⟨#[102,50]⟩,⟨#[102,50,114]⟩,⟨#[102,51]⟩,⟨#[102,51,114]⟩]
def textF (k:Int):ByteArray:=if 0≤k∧k<9 then textsL.getD k.toNat ByteArray.empty else ByteArray.empty
theorem textF_no {k:Int} : textF k=ByteArray.empty↔¬ (0≤k∧k<9):=by
 unfold textF
 by_cases h:0≤k∧k<9
 · rw [if_pos h]
   obtain ⟨n,rfl⟩:=Int.eq_ofNat_of_zero_le h.1
   have:∀ n,n<9→textsL.getD n ByteArray.empty≠ByteArray.empty:=by decide
   rw [Int.toNat_natCast]
   constructor
   · intro e;exact absurd e (this n ZO)
   · intro e;exact absurd h e
 · rw [if_neg h];simp [h]
theorem strs_at {L:List ByteArray}{k n:Nat}(hn:L.length=n) (h:k<n):(L.map Value.string)[k]?=some (.string (L.getD k ByteArray.empty)):=by
 subst hn
 rw [List.getElem?_map,List.getD_eq_getElem?_getD,List.getElem?_eq_getElem h];rfl
theorem sig_texts {B:Base}{w:World}(hS:St B [] w) (W0:World) :
 CW 92 #[] w (Ret B (fun _:Nat=>True) (fun b=>.slice (some ⟨b,0,none⟩) 9 9) (fun b=>[row Kd.string W0 9 (.slice (some ⟨b,0,none⟩) 9 9) textsL])):=by
 refine ZX Tryz.func92 hS ?_
 refine Zh (Zi (Zp J (Zn (Za (Zh (Zi ?_))))))
 refine oBuildSliceF (Parts.cons J (Parts.cons J (Parts.cons J (Parts.cons J (Parts.cons J (Parts.cons J (Parts.cons J (Parts.cons J (Parts.cons J Parts.nil))))))))) J J J J J (Fulls.cons ZP J (Fulls.cons ZP J (Fulls.cons ZP J (Fulls.cons ZP J (Fulls.cons ZP J (Fulls.cons ZP J (Fulls.cons ZP J (Fulls.cons ZP J (Fulls.cons ZP J Fulls.nil ap) ap) ap) ap) ap) ap) ap) ap) ap) (fun b1=>?_)
 refine Zp J (Zzc ?_)
 exact ⟨b1,trivial,rfl,Leads.trans (blk_row (enc:=Value.string) (h1:=fun _=>rfl) (W:=W0) (xs:=textsL) ZP rfl rfl (by decide)) Lh⟩
theorem sig_Text {B:Base}{w:World}(hS:St B [] w) (k:Int) :
 CW 38 #[.int .i64 k] w (Ret B (fun _:Unit=>True) (fun _=>.string (textF k)) (fun _=>[])):=by
 refine ZX Tryz.func38 hS ?_
 refine Zh (Zi (Zp J (Zn (Za (Zh (Zi ?_))))))
 (refine ZC0 rfl ZK (fun w hS=>frame hS ZQ (fun B' hB hS'=>sig_texts hS' B.e)) ?_;rintro b4 -)
 refine Zp J (Zn (Za (Zh (Zh (Zi (Zo J (Zx J J (Zo J (ZS (ZT 7) (fun h7=>?_) (fun h7=>?_))))))))))
 refine Zr J J J J (Zr J J J J (Zr J J J J (Zr J J J J (Zt J J (Zn (Za (wCondT J (Zh (Zzb ?_)))))))))
 exact ⟨(),trivial,by unfold textF;rw [if_neg ZO];rfl,Lh⟩
 refine Zq J J (Zo J (Zq J J (Zo J (Zq J J (Zv J J (Zq J J (Z2 J J (Zu J J (Zn (Za (wC (fun h12=>?_) (fun h12=>?_))))))))))))
 refine Zh (Zzb ?_)
 exact ⟨(),trivial,by unfold textF;rw [if_neg ZO];rfl,Lh⟩
 obtain ⟨n,rfl⟩:=Int.eq_ofNat_of_zero_le (show 0≤k by omega)
 have hn9:n<9:=by omega
 refine Zj (Za (Zh (Zi (Zo J (Zo J ?_)))))
 refine ZR J J ZP (by first | exact hn9 | (show n<9;omega)) J J (fun g15 hg15=>?_)
 first | subst hg15 | (injection hg15 with hg15;injection hg15 with hg15;subst hg15)
 refine ZR1 J ZP (by first | exact hn9 | (show n<9;omega)) J (fun u16 hu16=>?_)
 obtain rfl:u16=textsL.getD n ByteArray.empty:=by rw [List.getD_eq_getElem?_getD,hu16];rfl
 refine Zp J (Zzc ?_)
 exact ⟨(),trivial,by unfold textF;rw [if_pos ZO,Int.toNat_natCast];rfl,Lh⟩
def ownF (o:Int):Bool:=decide (1≤o) && decide (o≤24)
theorem ownF_iff {o:Int} : ownF o=true↔1≤o∧o≤24:=by simp [ownF]
def shapesL:List ByteArray:=[⟨#[45,45,45,45]⟩,⟨#[119,45,45,110]⟩,⟨#[119,114,45,45]⟩,⟨#[119,114,114,45]⟩,⟨#[119,114,114,45]⟩,⟨#[119,114,114,45]⟩,⟨#[119,114,114,45]⟩,⟨#[119,114,114,45]⟩,⟨#[119,114,114,45]⟩,⟨#[119,114,114,45]⟩,⟨#[45,45,45,116]⟩,⟨#[114,45,45,116]⟩,⟨#[119,45,45,45]⟩,⟨#[114,45,45,45]⟩,⟨#[119,114,45,45]⟩,⟨#[114,114,45,45]⟩,⟨#[103,45,45,45]⟩,⟨#[103,114,45,45]⟩,⟨#[99,45,45,45]⟩,⟨#[99,102,107,45]⟩,⟨#[100,45,45,45]⟩,⟨#[114,45,45,45]⟩,⟨#[119,119,45,45]⟩,⟨#[118,45,45,45]⟩]
def namesL:List ByteArray:=[⟨#[110,111,112]⟩,⟨#[115,101,116]⟩,⟨#[109,111,118,101]⟩,⟨#[97,100,100]⟩,⟨#[115,117,98]⟩,⟨#[109,117,108]⟩,⟨#[100,105,118]⟩,⟨#[109,111,100]⟩,⟨#[108,101,115,115]⟩,⟨#[115,97,109,101]⟩,⟨#[106,117,109,112]⟩,⟨#[122,101,114,111]⟩,⟨#[105,110]⟩,⟨#[111,117,116]⟩,⟨#[108,111,97,100]⟩,⟨#[115,116,111,114,101]⟩,⟨#[102,117,110,99]⟩,⟨#[112,105,99,107]⟩,⟨#[99,97,108,108]⟩,⟨#[118,105,97]⟩,⟨#[100,101,102,101,114]⟩,⟨#[112,97,110,105,99]⟩,⟨#[114,101,99,111,118,101,114]⟩,⟨#[114,101,116,117,114,110]⟩,⟨#[99,104,101,99,107]⟩,⟨#[101,110,116,101,114]⟩,⟨#[98,111,116,116,111,109]⟩,⟨#[100,114,105,118,101,114]⟩]
def shapeF (o:Int):ByteArray:=if ownF o then shapesL.getD (o-1).toNat ByteArray.empty else ByteArray.empty
def nameF (o:Int):ByteArray:=if 1≤o∧o≤28 then namesL.getD (o-1).toNat ByteArray.empty else ByteArray.empty
theorem shapeF_size (o:Int):(shapeF o).size=if ownF o then 4 else 0:=by
 unfold shapeF
 by_cases h:ownF o=true
 · rw [if_pos h,if_pos h]
   have h2:=ownF_iff.1 h
   have:∀ n,n<24→(shapesL.getD n ByteArray.empty).size=4:=by decide
   exact this _ ZO
 · rw [if_neg h,if_neg h];rfl
theorem shapeF_asc (o:Int):Asc (shapeF o):=by
 intro i hi
 have hs:=shapeF_size o
 unfold shapeF at *
 by_cases h:ownF o=true
 · rw [if_pos h] at *
   rw [hs,if_pos h] at hi
   have h2:=ownF_iff.1 h
   have:∀ n,n<24→∀ i,i<4→byteAt (shapesL.getD n ByteArray.empty) i<128:=by decide
   exact this _ ZO i hi
 · rw [if_neg h] at *
   exact absurd hi (Nat.not_lt_zero _)
theorem op_Own {B:Base}{w:World}(hS:St B [] w) (o:Int) :
 CW 34 #[.int .i64 o] w (Ret B (fun _:Unit=>True) (fun _=>.bool (ownF o)) (fun _=>[])):=by
 refine ZX Tryz.func34 hS ?_
 refine Zh (Zi (Zp J (Zn (Za (Zh (Zi (Zo J (Z2 J J (Zo J (ZS (ZT 5) (fun h5=>?_) (fun h5=>?_)))))))))))
 refine Zq J J (Zo J (Zq J J (oLeq J J (Zt J J (Zp J (Zzc ?_))))))
 exact ⟨(),trivial,by simp_all [resVal,ownF] <;> omega,Lh⟩
 refine Zr J J J J (Zr J J J J (Zu J J (Zp J (Zzc ?_))))
 exact ⟨(),trivial,by simp_all [resVal,ownF] <;> omega,Lh⟩
theorem op_shapes {B:Base}{w:World}(hS:St B [] w) :
 CW 91 #[] w (Ret B (fun _:Unit=>True) (fun _=>.agg (shapesL.map Value.string).toArray) (fun _=>[])):=by
 refine ZX Tryz.func91 hS ?_
 refine Zh (Zi (oAlloc J ZP (fun b0=>?_)))
 refine Zn (Za (Zh (Zi (oBuildArr (Parts.cons J (Parts.cons J (Parts.cons J (Parts.cons J (Parts.cons J (Parts.cons J (Parts.cons J (Parts.cons J (Parts.cons J (Parts.cons J (Parts.cons J (Parts.cons J (Parts.cons J (Parts.cons J (Parts.cons J (Parts.cons J (Parts.cons J (Parts.cons J (Parts.cons J (Parts.cons J (Parts.cons J (Parts.cons J (Parts.cons J (Parts.cons J Parts.nil)))))))))))))))))))))))) J J (Built.cons (off:=0) (s:=1) J ZP J ZP (Built.cons (off:=1) (s:=1) J ZP J ZP (Built.cons (off:=2) (s:=1) J ZP J ZP (Built.cons (off:=3) (s:=1) J ZP J ZP (Built.cons (off:=4) (s:=1) J ZP J ZP (Built.cons (off:=5) (s:=1) J ZP J ZP (Built.cons (off:=6) (s:=1) J ZP J ZP (Built.cons (off:=7) (s:=1) J ZP J ZP (Built.cons (off:=8) (s:=1) J ZP J ZP (Built.cons (off:=9) (s:=1) J ZP J ZP (Built.cons (off:=10) (s:=1) J ZP J ZP (Built.cons (off:=11) (s:=1) J ZP J ZP (Built.cons (off:=12) (s:=1) J ZP J ZP (Built.cons (off:=13) (s:=1) J ZP J ZP (Built.cons (off:=14) (s:=1) J ZP J ZP (Built.cons (off:=15) (s:=1) J ZP J ZP (Built.cons (off:=16) (s:=1) J ZP J ZP (Built.cons (off:=17) (s:=1) J ZP J ZP (Built.cons (off:=18) (s:=1) J ZP J ZP (Built.cons (off:=19) (s:=1) J ZP J ZP (Built.cons (off:=20) (s:=1) J ZP J ZP (Built.cons (off:=21) (s:=1) J ZP J ZP (Built.cons (off:=22) (s:=1) J ZP J ZP (Built.cons (off:=23) (s:=1) J ZP J ZP Built.nil)))))))))))))))))))))))) ?_))))
 refine Zsa ?_
 refine Zn (Za (Zl (Zw (ZI ?_))))
 exact ⟨(),trivial,rfl,Lh⟩
theorem op_names {B:Base}{w:World}(hS:St B [] w) :
 CW 90 #[] w (Ret B (fun _:Unit=>True) (fun _=>.agg (namesL.map Value.string).toArray) (fun _=>[])):=by
 refine ZX Tryz.func90 hS ?_
 refine Zh (Zi (oAlloc J ZP (fun b0=>?_)))
 refine Zn (Za (Zh (Zi (oBuildArr (Parts.cons J (Parts.cons J (Parts.cons J (Parts.cons J (Parts.cons J (Parts.cons J (Parts.cons J (Parts.cons J (Parts.cons J (Parts.cons J (Parts.cons J (Parts.cons J (Parts.cons J (Parts.cons J (Parts.cons J (Parts.cons J (Parts.cons J (Parts.cons J (Parts.cons J (Parts.cons J (Parts.cons J (Parts.cons J (Parts.cons J (Parts.cons J (Parts.cons J (Parts.cons J (Parts.cons J (Parts.cons J Parts.nil)))))))))))))))))))))))))))) J J (Built.cons (off:=0) (s:=1) J ZP J ZP (Built.cons (off:=1) (s:=1) J ZP J ZP (Built.cons (off:=2) (s:=1) J ZP J ZP (Built.cons (off:=3) (s:=1) J ZP J ZP (Built.cons (off:=4) (s:=1) J ZP J ZP (Built.cons (off:=5) (s:=1) J ZP J ZP (Built.cons (off:=6) (s:=1) J ZP J ZP (Built.cons (off:=7) (s:=1) J ZP J ZP (Built.cons (off:=8) (s:=1) J ZP J ZP (Built.cons (off:=9) (s:=1) J ZP J ZP (Built.cons (off:=10) (s:=1) J ZP J ZP (Built.cons (off:=11) (s:=1) J ZP J ZP (Built.cons (off:=12) (s:=1) J ZP J ZP (Built.cons (off:=13) (s:=1) J ZP J ZP (Built.cons (off:=14) (s:=1) J ZP J ZP (Built.cons (off:=15) (s:=1) J ZP J ZP (Built.cons (off:=16) (s:=1) J ZP J ZP (Built.cons (off:=17) (s:=1) J ZP J ZP (Built.cons (off:=18) (s:=1) J ZP J ZP (Built.cons (off:=19) (s:=1) J ZP J ZP (Built.cons (off:=20) (s:=1) J ZP J ZP (Built.cons (off:=21) (s:=1) J ZP J ZP (Built.cons (off:=22) (s:=1) J ZP J ZP (Built.cons (off:=23) (s:=1) J ZP J ZP (Built.cons (off:=24) (s:=1) J ZP J ZP (Built.cons (off:=25) (s:=1) J ZP J ZP (Built.cons (off:=26) (s:=1) J ZP J ZP (Built.cons (off:=27) (s:=1) J ZP J ZP Built.nil)))))))))))))))))))))))))))) ?_))))
 refine Zsa ?_
 refine Zn (Za (Zl (Zw (ZI ?_))))
 exact ⟨(),trivial,rfl,Lh⟩
theorem op_Shape {B:Base}{w:World}(hS:St B [] w) (o:Int) :
 CW 36 #[.int .i64 o] w (Ret B (fun _:Unit=>True) (fun _=>.string (shapeF o)) (fun _=>[])):=by
 refine ZX Tryz.func36 hS ?_
 refine Zh (Zi (Zp J (Zn (Za (Zh (Zh (Zi (Zo J ?_))))))))
 (refine ZC0 rfl ZK (fun w hS=>frame hS ZQ (fun B' hB hS'=>op_Own hS' o)) ?_;rintro ⟨⟩ -)
 refine Zno ?_
 refine Zn (Za (wC (fun h5=>?_) (fun h5=>?_)))
 refine Zh (Zzb ?_)
 exact ⟨(),trivial,by unfold shapeF;rw [if_neg (by simpa using h5)];rfl,Lh⟩
 have ho:ownF o=true:=by simpa using h5
 have ho2:=ownF_iff.1 ho
 refine Zj (Za (Zh (Zi ?_)))
 (refine ZC0 rfl ZK (fun w hS=>frame hS ZQ (fun B' hB hS'=>op_shapes hS')) ?_;rintro ⟨⟩ -)
 refine Zo J ?_
 first | refine oSub rfl rfl ZO ?_ | refine oSubW rfl rfl ?_
 refine oIndexArr (i:=(o-1).toNat) J J ZO J J ZO (strs_at J (by show _<24;omega)) ?_
 refine Zp J (Zzc ?_)
 exact ⟨(),trivial,by unfold shapeF;rw [if_pos ho];rfl,Lh⟩
theorem op_Name {B:Base}{w:World}(hS:St B [] w) (o:Int) :
 CW 35 #[.int .i64 o] w (Ret B (fun _:Unit=>True) (fun _=>.string (nameF o)) (fun _=>[])):=by
 refine ZX Tryz.func35 hS ?_
 refine Zh (Zi (Zp J (Zn (Za (Zh (Zi ?_))))))
 (refine ZC0 rfl ZK (fun w hS=>frame hS ZQ (fun B' hB hS'=>op_names hS')) ?_;rintro ⟨⟩ -)
 refine oAlloc J ZP (fun b3=>?_)
 refine Zsa ?_
 refine Zn (Za (Zh (Zh (Zi (Zo J (Zx J J (Zo J (ZS (ZT 7) (fun h7=>?_) (fun h7=>?_)))))))))
 refine Zr J J J J (Zr J J J J (Zt J J (Zn (Za (wCondT J (Zh (Zzb ?_)))))))
 exact ⟨(),trivial,by unfold nameF;rw [if_neg ZO];rfl,Lh⟩
 refine Zq J J (Zo J (Zq J J (Z1 J J (Zu J J (Zn (Za (wC (fun h10=>?_) (fun h10=>?_))))))))
 refine Zh (Zzb ?_)
 exact ⟨(),trivial,by unfold nameF;rw [if_neg ZO];rfl,Lh⟩
 refine Zj (Zzg ?_)
 first | refine oSub rfl rfl ZO ?_ | refine oSubW rfl rfl ?_
 refine oIdxA (s:=1) (i:=(o-1).toNat) (m:=(o-1).toNat) J J ZO J ZO ZO ?_
 refine oLd J ZP (strs_at J (by show _<28;omega)) J ?_
 refine Zp J (Zzc ?_)
 exact ⟨(),trivial,by unfold nameF;rw [if_pos ZO];rfl,Lh⟩
theorem any_T {n j:Nat}{p:Nat→Bool}(hj:j<n) (h:p j=true):(List.range n).any p=true:=List.any_eq_true.2 ⟨j,List.mem_range.2 hj,h⟩
theorem any_F {n:Nat}{p:Nat→Bool}(h:∀ j,j<n→p j=false):(List.range n).any p=false:=List.any_eq_false.2 (fun j hj=>by rw [h j (List.mem_range.1 hj)];simp)
def numsL (x:ApiInstr):List Int:=[x.fOp,x.fA,x.fB,x.fC,x.fN]
theorem nums_at (x:ApiInstr) {k:Nat}(h:k<5):((numsL x).map (Value.int .i64))[k]?=some (.int .i64 ((numsL x).getD k 0)):=by
 rw [List.getElem?_map,List.getD_eq_getElem?_getD,List.getElem?_eq_getElem (show k<(numsL x).length from h)];rfl
def opdF (x:ApiInstr) (i:Int):Int:=if i<0∨3<i then 0 else (numsL x).getD (1+i.toNat) 0
def badA (x:ApiInstr) (j:Nat):Bool:=decide ((numsL x).getD (1+j) 0<0∨255<(numsL x).getD (1+j) 0)
def badS (x:ApiInstr) (j:Nat):Bool:=decide (byteAt (shapeF x.fOp) j=45) && decide ((numsL x).getD (1+j) 0≠0)
def icF (x:ApiInstr):Int:=if nameF x.fOp=ByteArray.empty then 8 else if (List.range 3).any (badA x) then 9 else if x.fN < -2147483648∨2147483647<x.fN then 9 else if (List.range (shapeF x.fOp).size).any (badS x) then 2 else 0
theorem instr_numbers {B:Base}{w:World}(hS:St B [] w) (x:ApiInstr) (xc:List Value) (hx:kApiInstr.K B.e x xc) :
 CW 89 #[.agg xc.toArray] w (Ret B (fun _:Unit=>True) (fun _=>.agg ((numsL x).map (Value.int .i64)).toArray) (fun _=>[])):=by
 obtain rfl:=kApiInstr_open hx
 refine ZX Tryz.func89 hS ?_
 refine Zh (Zi (oBox J ZP (fun b1=>?_)))
 refine oAlloc J ZP (fun b2=>?_)
 refine Zn (Za (Zh (Zi (Zz (n:=0) (m:=0) J J J (Zld ?_)))))
 refine Zz (n:=1) (m:=1) J J J (Zld ?_)
 refine Zz (n:=2) (m:=2) J J J (Zld ?_)
 refine Zz (n:=3) (m:=3) J J J (Zld ?_)
 refine Zz (n:=4) (m:=4) J J J (Zld ?_)
 refine oBuildArr (Parts.cons J (Parts.cons J (Parts.cons J (Parts.cons J (Parts.cons J Parts.nil))))) J J (Built.cons (off:=0) (s:=1) J ZP J ZP (Built.cons (off:=1) (s:=1) J ZP J ZP (Built.cons (off:=2) (s:=1) J ZP J ZP (Built.cons (off:=3) (s:=1) J ZP J ZP (Built.cons (off:=4) (s:=1) J ZP J ZP Built.nil))))) ?_
 refine Zsa ?_
 refine Zn (Za (Zl (Zw (ZI ?_))))
 exact ⟨(),trivial,rfl,Lh⟩
theorem instr_Operand {B:Base}{w:World}(hS:St B [] w) (x:ApiInstr) (xc:List Value) (hx:kApiInstr.K B.e x xc) (i:Int) :
 CW 39 #[.agg xc.toArray,.int .i64 i] w (Ret B (fun _:Unit=>True) (fun _=>.int .i64 (opdF x i)) (fun _=>[])):=by
 obtain rfl:=kApiInstr_open hx
 refine ZX Tryz.func39 hS ?_
 refine Zh (Zi (oBox J ZP (fun b2=>?_)))
 refine Zp J (Zn (Za (Zh (Zh (Zi (Zo J (Zx J J (Zo J (ZS (ZT 7) (fun h7=>?_) (fun h7=>?_))))))))))
 refine Zr J J J J (Zr J J J J (Zt J J (Zn (Za (wCondT J (Zh (Zzb ?_)))))))
 exact ⟨(),trivial,by unfold opdF;rw [if_pos ZO];rfl,Lh⟩
 refine Zq J J (Zo J (Zq J J (Z1 J J (Zu J J (Zn (Za (wC (fun h10=>?_) (fun h10=>?_))))))))
 refine Zh (Zzb ?_)
 exact ⟨(),trivial,by unfold opdF;rw [if_pos ZO];rfl,Lh⟩
 refine Zj (Za (Zh (Zi (Zla ?_))))
 (refine ZC0 rfl ZK (fun w hS=>frame hS ZQ (fun B' hB hS'=>instr_numbers hS' x _ (kApiInstr_mk _ x))) ?_;rintro ⟨⟩ -)
 refine Zo J (oAdd J J ZO ?_)
 refine oIndexArr (i:=1+i.toNat) J J ZO J J ZO (nums_at x ZO) ?_
 refine Zp J (Zzc ?_)
 exact ⟨(),trivial,by unfold opdF;rw [if_neg ZO];rfl,Lh⟩
theorem instr_Check {B:Base}{w:World}(hS:St B [] w) (x:ApiInstr) (xc:List Value) (hx:kApiInstr.K B.e x xc) :
 CW 33 #[.agg xc.toArray] w (Ret B (fun _:Unit=>True) (fun _=>.int .i64 (icF x)) (fun _=>[])):=by
 obtain rfl:=kApiInstr_open hx
 have hsz:=shapeF_size x.fOp
 refine ZX Tryz.func33 hS ?_
 refine Zh (Zi (oBox J ZP (fun b1=>?_)))
 refine Zp J (Zn (Za (Zh (Zh (Zi (Zz (n:=0) (m:=0) J J J (Zld ?_)))))))
 (refine ZC0 rfl ZK (fun w hS=>frame hS ZQ (fun B' hB hS'=>op_Name hS' x.fOp)) ?_;rintro ⟨⟩ -)
 refine oSEq J J (Zn (Za (wC (fun h11=>?_) (fun h11=>?_))))
 refine Zh (Zzb ?_)
 exact ⟨(),trivial,by unfold icF;rw [if_pos (show nameF x.fOp=ByteArray.empty from h11)];rfl,Lh⟩
 refine Zj (Za (Zh (Zi (Zla ?_))))
 (refine ZC0 rfl ZK (fun w hS=>frame hS ZQ (fun B' hB hS'=>instr_numbers hS' x _ (kApiInstr_mk _ x))) ?_;rintro ⟨⟩ -)
 refine oAlloc J ZP (fun b3=>?_)
 refine Zsa ?_
 refine Zn (Za (Zh (Zh (Zi (oSliceArr (l:=1) (m:=4) J J J J (by decide) (by decide) ?_)))))
 refine ZS0 (t:=14) (v':=.slice (some ⟨b3,1,none⟩) 3 4) J J (Zv J J (Zo J (Zn (Za (Zk (wLoop (ι:=Nat) (fun i=>[(1,.pointer (some ⟨b1,0,none⟩)),(3,.pointer (some ⟨b3,0,none⟩)),(14,.slice (some ⟨b3,1,none⟩) 3 4),(15,.int .i64 ((3:Nat):Int)),(16,.int .i64 (i:Int))]) (fun i=>[blk b1 23 [.int .i64 x.fOp,.int .i64 x.fA,.int .i64 x.fB,.int .i64 x.fC,.int .i64 x.fN],blk b3 139 ((numsL x).map (Value.int .i64))]) (fun i=>i≤3∧∀ j,j<i→badA x j=false) (fun i=>3-i) 0 ?_ cv (Leads.has ZQ) ?_))))))
 exact ⟨Nat.zero_le _,fun j hj=>by omega⟩
 rintro i ⟨hi,hs⟩
 try dsimp only
 refine Zh (Zi (Zx J J (Zn (Za (Zh (wC (fun h17=>?_) (fun h17=>?_)))))))
 have hi3:i<3:=by omega
 refine Zj (Za (Zh (Zk (Zh (Zi (oIdxB (s:=1) (m:=1+i) J J J hi3 ZO ?_))))))
 refine oLd J ZP (nums_at x ZO) J ?_
 refine Zp J (Zn (Za (Zh (Zi (Zo J (Zx J J (Zo J (ZS (ZT 22) (fun h22=>?_) (fun h22=>?_)))))))))
 refine Zr J J J J (Zr J J J J (Zt J J (Zn (Za (wCondT J (Zh (Zi (Zp J (Zzf ?_)))))))))
 exact ⟨(),trivial,by unfold icF;rw [if_neg (show ¬ nameF x.fOp=ByteArray.empty from h11),if_pos (any_T hi3 (by unfold badA;exact decide_eq_true (.inl h22)))];rfl,Lh⟩
 refine Zq J J (Zo J (Zq J J (Z1 J J (Zu J J (Zn (Za (wC (fun h25=>?_) (fun h25=>?_))))))))
 refine Zh (Zi (Zp J (Zzf ?_)))
 exact ⟨(),trivial,by unfold icF;rw [if_neg (show ¬ nameF x.fOp=ByteArray.empty from h11),if_pos (any_T hi3 (by unfold badA;exact decide_eq_true (.inr h25)))];rfl,Lh⟩
 refine Zj (Zd (Za (Zi (Zsu ?_))))
 refine Zo J (Zn (Za ?_))
 exact ⟨rfl,i+1,⟨by omega,fun j hj=>by
 by_cases e:j=i
 · subst e;unfold badA;exact decide_eq_false ZO
 · exact hs j ZO⟩,by omega,cv,Lh⟩
 obtain rfl:i=3:=by omega
 have hA:=any_F hs
 refine Zm (Zb (Zb (Ze (Za (Zh (Zh (Zi (Zz (n:=4) (m:=4) J J J (Zld ?_)))))))))
 refine Zx J J (Zo J (ZS (ZT 30) (fun h30=>?_) (fun h30=>?_)))
 refine Zr J J J J (Zr J J J J (Zr J J J J (Zt J J (Zn (Za (wCondT J (Zh (Zzb ?_))))))))
 exact ⟨(),trivial,by unfold icF;rw [if_neg (show ¬ nameF x.fOp=ByteArray.empty from h11),if_neg (by rw [hA];simp),if_pos (.inl h30)];rfl,Lh⟩
 refine Zq J J (Zz (n:=4) (m:=4) J J J (Zq J J (Zld ?_)))
 refine Zq J J (Z1 J J (Zu J J (Zn (Za (wC (fun h34=>?_) (fun h34=>?_))))))
 refine Zh (Zzb ?_)
 exact ⟨(),trivial,by unfold icF;rw [if_neg (show ¬ nameF x.fOp=ByteArray.empty from h11),if_neg (by rw [hA];simp),if_pos (.inr h34)];rfl,Lh⟩
 refine Zj (Za (Zh (Zi (Zz (n:=0) (m:=0) J J J (Zld ?_)))))
 (refine ZC0 rfl ZK (fun w hS=>frame hS ZQ (fun B' hB hS'=>op_Shape hS' x.fOp)) ?_;rintro ⟨⟩ -)
 refine Zp J (Zn (Za (Zh (Zh (Zi (Zo J (oLenStr J J (Zo J (Zn (Za (Zk (wLoop (ι:=Nat) (fun i=>[(3,.pointer (some ⟨b3,0,none⟩)),(6,.string (shapeF x.fOp)),(39,.int .i64 ((shapeF x.fOp).size:Int)),(40,.int .i64 (i:Int))]) (fun i=>[blk b3 139 ((numsL x).map (Value.int .i64))]) (fun i=>i≤(shapeF x.fOp).size∧∀ j,j<i→badS x j=false) (fun i=>(shapeF x.fOp).size-i) 0 ?_ cv (Leads.has ZQ) ?_))))))))))))
 exact ⟨Nat.zero_le _,fun j hj=>by omega⟩
 rintro i ⟨hi,hs⟩
 try dsimp only
 refine Zh (Zi (Zx J J (Zn (Za (Zh (wC (fun h41=>?_) (fun h41=>?_)))))))
 have hi4:i<(shapeF x.fOp).size:=by omega
 have hi5:i<4:=by rw [hsz] at hi4;split at hi4 <;> omega
 refine Zj (Za (Zh (Zk (Zh (Zi (Zo J (Zp J (Zn (Za (Zh (Zi (Zo J (Zo J (oIndexStr J J J hi4 (Zy J J (Zo J (ZS (ZT 47) (fun h47=>?_) (fun h47=>?_))))))))))))))))))
 refine Zq J J (Zo J (Zq J J (oAdd J J ZO ?_)))
 refine Zq J J (oIdxA (s:=1) (i:=1+i) (m:=1+i) J J ZO J ZO ZO ?_)
 refine Zq J J (oLd J ZP (nums_at x ZO) J ?_)
 refine Zq J J (Z0 J J (Zt J J (Zn (Za (wC (fun h53=>?_) (fun h53=>?_))))))
 refine Zh (Zi (Zp J (Zzf ?_)))
 exact ⟨(),trivial,by unfold icF;rw [if_neg (show ¬ nameF x.fOp=ByteArray.empty from h11),if_neg (by rw [hA];simp),if_neg ZO,if_pos (any_T hi4 (by unfold badS;simp_all))];rfl,Lh⟩
 refine Zj (Zd (Za (Zi (Zsu ?_))))
 refine Zo J (Zn (Za ?_))
 exact ⟨rfl,i+1,⟨by omega,fun j hj=>by
 by_cases e:j=i
 · subst e;unfold badS;simp_all
 · exact hs j ZO⟩,by omega,cv,Lh⟩
 refine Zr J J J J (Zr J J J J (Zr J J J J (Zr J J J J (Zr J J J J (Zu J J (Zn (Za (wCondF J (Zj (Zd (Za (Zi (Zsu ?_)))))))))))))
 refine Zo J (Zn (Za ?_))
 exact ⟨rfl,i+1,⟨by omega,fun j hj=>by
 by_cases e:j=i
 · subst e;unfold badS;simp_all
 · exact hs j ZO⟩,by omega,cv,Lh⟩
 refine Zm (Zb (Zb (Ze (Za (Zh (Zi (Zp J (Zzc ?_))))))))
 obtain rfl:i=(shapeF x.fOp).size:=by omega
 exact ⟨(),trivial,by unfold icF;rw [if_neg (show ¬ nameF x.fOp=ByteArray.empty from h11),if_neg (by rw [hA];simp),if_neg ZO,if_neg (by rw [any_F hs];simp)];rfl,Lh⟩
end Go.Proofs.YtpmdhkjbhjgoaaaGreatDoorV
namespace Go.Proofs.YtpmdhkjbhjgoaaaGreatDoorR
set_option maxRecDepth 100000
set_option maxHeartbeats 4000000
open Go.RowKit Go.Proofs.YtpmdhkjbhjgoaaaGreatDoorK Go.Proofs.YtpmdhkjbhjgoaaaGreatDoorT Go.Proofs.YtpmdhkjbhjgoaaaGreatDoorL

abbrev LnE (e:World):Prop:=LibP Tryz.prog (laysn146_ren.g 1) (layscn174_ren.g 15) (layscn174_ren.g 16) e
theorem LnE.of {B B':Base}(h:LnE B.e) (k:Grow B.e B'.e) (hk:Keeps B B'):LnE B'.e:=h.keep k hk
theorem line_Decimal {B:Base}{w:World}(hS:St B [] w) (hT:TabP Tryz.prog B.e) (n:Int) (hn:in64 n) :
 CW 32 #[.int .i64 n] w (Ret B (fun _:Unit=>True) (fun _=>.string (decS n)) (fun _=>[])):=by
 refine ZX Tryz.func32 hS ?_
 refine Zh (Zi (Zp J (Zn (Zzg ?_))))
 (refine ZC0 rfl ZK (fun w hS=>frameK hS ZQ (fun B' hB hK hS'=>fmtInt laysmn173_at hS' (Keeps.tab hK hT) n hn.1 hn.2)) ?_;rintro ⟨⟩ -)
 refine Zp J (Zzc ?_)
 exact ⟨(),trivial,rfl,Lh⟩
theorem line_Number_ok {B:Base}{w:World}(hS:St B [] w) (hT:TabP Tryz.prog B.e) (s:ByteArray) (hs:s.size≤1000000) (v:Int) (hp:parsed s=some v) :
 CW 28 #[.string s] w (Ret B (fun _:Unit=>True) (fun _=>.tuple #[.int .i64 (numF s).1,.bool (numF s).2]) (fun _=>[])):=by
 refine ZX Tryz.func28 hS ?_
 refine Zh (Zi (Zp J (Zp J (Zn (Zzg ?_)))))
 (refine ZC0 rfl ZK (fun w hS=>frame hS ZQ (fun B' hB hS'=>parseOk layscn174_at hS' s ZO v hp)) ?_;rintro ⟨⟩ -)
 refine Zo J (oExt J ZP ?_)
 refine oExt J ZP ?_
 refine Zp J (Zp J (Zn (Za (Zh (Zh (Zi (Zo J (oNeqI0 J J (Zo J (Zq J J (Zo J (Zq J J ?_))))))))))))
 (refine ZC0 rfl ZK (fun w hS=>frameK hS ZQ (fun B' hB hK hS'=>line_Decimal hS' (Keeps.tab hK hT) v (parsed_in hp))) ?_;rintro ⟨⟩ -)
 refine Zq J J (Zo J (Zq J J (oSNe J J (Zu J J (Zn (Za (wC (fun h18=>?_) (fun h18=>?_))))))))
 refine Zh (Zzd ?_)
 refine ⟨rfl,_,(ResL.cons (ResR.tmp rfl) (ResL.cons (ResR.tmp rfl) ResL.nil)),?_⟩
 exact ⟨(),trivial,by unfold numF;rw [hp];show _=Value.tuple #[.int .i64 (if _ then _ else _:Int×Bool).1,.bool (if _ then _ else _:Int×Bool).2];rw [if_neg h18];rfl,Lh⟩
 refine Zj (Za (Zh (Zi (Zo J (Zp J (Zp J (Zn (Za (Zl (Zw ?_))))))))))
 refine ⟨rfl,_,(ResL.cons (ResR.tmp rfl) (ResL.cons (ResR.tmp rfl) ResL.nil)),?_⟩
 exact ⟨(),trivial,by unfold numF;rw [hp];show _=Value.tuple #[.int .i64 (if _ then _ else _:Int×Bool).1,.bool (if _ then _ else _:Int×Bool).2];rw [if_pos (Classical.not_not.1 h18)];rfl,Lh⟩
theorem line_Number_no {B:Base}{w:World}(hS:St B [] w) (hL:LnE B.e) (s:ByteArray) (hs:s.size≤1000000) (hp:parsed s=none) :
 CW 28 #[.string s] w (Ret B (fun _:Unit=>True) (fun _=>.tuple #[.int .i64 (numF s).1,.bool (numF s).2]) (fun _=>[])):=by
 refine ZX Tryz.func28 hS ?_
 refine Zh (Zi (Zp J (Zp J (Zn (Zzg ?_)))))
 (refine ZC0 rfl ZK (fun w hS=>frame hS ZQ (fun B' hB hS'=>parseNo layscn174_at hS' (hL.syn.grow hB) (hL.rng.grow hB) s ZO hp)) ?_;rintro ⟨n8,t8,v8⟩ -)
 refine Zo J (oExt J ZP ?_)
 refine oExt J ZP ?_
 refine Zp J (Zp J (Zn (Za (Zh (Zh (Zi (Zo J (oNeqI1 J J (Zo J (Zr J J J J (Zr J J J J (Zr J J J J (Zr J J J J (Zt J J (Zn (Za (wCondT J (Zh (Zzd ?_)))))))))))))))))))
 refine ⟨rfl,_,(ResL.cons (ResR.tmp rfl) (ResL.cons (ResR.tmp rfl) ResL.nil)),?_⟩
 exact ⟨(),trivial,by unfold numF;rw [hp];rfl,Lh⟩
theorem line_Number {B:Base}{w:World}(hS:St B [] w) (hL:LnE B.e) (s:ByteArray) (hs:s.size≤1000000) :
 CW 28 #[.string s] w (Ret B (fun _:Unit=>True) (fun _=>.tuple #[.int .i64 (numF s).1,.bool (numF s).2]) (fun _=>[])):=by
 cases hp:parsed s with
 | none=>exact line_Number_no hS hL s hs hp
 | some v=>exact line_Number_ok hS hL.tab s hs v hp
theorem line_Join {B:Base}{w:World}(hS:St B [] w) (A:Option Addr) (cp:Nat) (l:List ByteArray) (hC:Kd.string.C B.e A l) (hcp:l.length≤cp) (hl:(joinT l ⟨#[32]⟩).size≤1000000) (hn:l.length≤1000000) :
 CW 31 #[.slice A l.length cp] w (Ret B (fun _:Unit=>True) (fun _=>.string (joinT l ⟨#[32]⟩)) (fun _=>[])):=by
 refine ZX Tryz.func31 hS ?_
 refine Zh (Zi (Zp J (Zn (Zzg ?_))))
 (refine ZC0 rfl ZK (fun w hS=>frame hS ZQ (fun B' hB hS'=>joinA laysn156_at builderextra_at hS' (Kd.C_grow hB hC) ⟨#[32]⟩ hcp ZO ZO)) ?_;rintro ⟨⟩ -)
 refine Zp J (Zzc ?_)
 exact ⟨(),trivial,rfl,Lh⟩
theorem emp_app (x:ByteArray):joinT [] ⟨#[32]⟩++x=x:=by
 apply ByteArray.ext
 rw [ByteArray.data_append]
 show #[]++x.data=x.data
 simp
theorem toL_joinT (l:List ByteArray):toL (joinT l ⟨#[32]⟩)=Lib.join (l.map toL) [32]:=rfl
theorem joinT_snoc (l:List ByteArray) (x:ByteArray):joinT (l++[x]) ⟨#[32]⟩=if 0<l.length then joinT l ⟨#[32]⟩++⟨#[32]⟩++x else x:=by
 rw [← ofL_toL (joinT (l++[x]) ⟨#[32]⟩),toL_joinT,List.map_append]
 cases l with
 | nil=>exact (congrArg ofL (Lib.join_one _ _)).trans (ofL_toL x)
 | cons y l=>
  rw [if_pos (by simp)]
  refine (congrArg ofL (join_snoc [32] (toL x) ((y :: l).map toL) (by simp))).trans ?_
  rw [← toL_joinT,← ofL_toL (joinT (y :: l) ⟨#[32]⟩++⟨#[32]⟩++x)]
  simp [toL,ByteArray.data_append]
end Go.Proofs.YtpmdhkjbhjgoaaaGreatDoorR
