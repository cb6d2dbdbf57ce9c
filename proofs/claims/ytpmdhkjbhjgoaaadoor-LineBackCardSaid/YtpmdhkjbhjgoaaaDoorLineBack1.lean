/-
  Part 1 of the proof of LineBack: contracts of functions, and what follows from them; without conditions.
-/
import Derived.Below
import Derived.WalkKit
import Derived.KernelRfl
import Derived.RangeFuncRecord
import Derived.Laws.AppendOwn
import Derived.Maps.OwnIn
import Derived.Lib.Hide
import Derived.TacticsIn
import Derived.StillTail
import Derived.Calls
import Derived.BigFrameIn
import Derived.LoopNIn
import Derived.RangeFuncCalls
import Derived.IntWalk
import Derived.WideLaws
import Derived.Laws.Strings
import Derived.Laws.Tables
import Derived.Laws.OwnMore
import Derived.Laws.MakeOwn
import Derived.Laws.Cells
import Derived.Laws.Entries
import Derived.Maps.AppendAt
import Derived.DataElems
import Derived.Deep.Slices
import Derived.DataReads
import Derived.RangeFuncBound
import Derived.RangeFuncLeaves
import Derived.Laws.IdiomCopy
import Derived.Shelf.Sort.Plain
import Derived.Shelf.Slices.In.SortNone
import Derived.Shelf.Slices.CompactI
import Derived.OrdersIn
import Derived.OpenShut
import Derived.Laws.RangeAny
import Derived.Laws.IdiomStrings
import Derived.Shelf.Slices.In.CompactS
import Derived.Shelf.Slices.In.Reads
import Derived.Shelf.Strconv.Itoa3
import Derived.Shelf.Strings.Split
import Derived.Shelf.Strings.Prefix
import Derived.Shelf.Strings.OnBuilder
import Derived.Shelf.Strconv.Itoa4
import Derived.Shelf.Strconv.ParseIntPublic10
import Derived.Handed
import Derived.SizedLaws
import Derived.Shelf.Vars
import Derived.Stop.LaidErr
import Derived.Test.YtpmdhkjbhjgoaaaDoorProg
import Derived.Shelf.Lays
import Derived.Shelf.LaysC
import Derived.Shelf.LaysM
import Derived.Shelf.Strings.BuilderX
set_option linter.unusedVariables false
set_option linter.unusedSimpArgs false
set_option linter.defProp false
/-
  The ground of the walks: how data lie (kinds), resources with footprints, and the state of a walk: what it owns, and what lies around it.
-/
namespace Go.Proofs.YtpmdhkjbhjgoaaaDoorK
open Classical Go.RowKit

def Grow (w w':World):Prop:=∀ a v,w.cell? a=some v→w'.cell? a=some v
theorem Grow.refl (w:World):Grow w w:=fun _ _ h=>h
theorem Grow.trans {a b c:World}(h:Grow a b) (k:Grow b c):Grow a c:=fun x v hx=>k x v (h x v hx)

structure Base where
  w:World
  O:Nat→Prop
noncomputable def Base.e (B:Base):World:={ B.w with heap:=B.w.heap.mapIdx fun k o=>if B.O k then .deferred none else o }
structure Base.ok (B:Base) (w:World):Prop where
  os:w.os=B.w.os
  tape:w.tape=B.w.tape
  output:w.output=B.w.output
  size:B.w.heap.size≤w.heap.size
  block:∀ k,k<B.w.heap.size→¬ B.O k→w.heap[k]?=B.w.heap[k]?
def Base.mine (B:Base) (k:Nat):Prop:=B.O k∨B.w.heap.size≤k
def Base.at (w:World):Base:=⟨w,fun _=>False⟩

theorem Base.e_heap (B:Base) (k:Nat):B.e.heap[k]?=if B.O k then B.w.heap[k]?.map fun _=>.deferred none else B.w.heap[k]?:=by
 simp only [Base.e,Array.getElem?_mapIdx]
 split <;> cases B.w.heap[k]? <;> simp_all
theorem Base.grow {B:Base}{w:World}(h:B.ok w):Grow B.e w:=by
 intro a v hv
 unfold World.cell? at hv ⊢
 rw [B.e_heap] at hv
 by_cases ho:B.O a.block
 · rw [if_pos ho] at hv
   cases hb:B.w.heap[a.block]? <;> simp [hb] at hv
 · rw [if_neg ho] at hv
   by_cases hk:a.block<B.w.heap.size
   · rw [h.block _ hk ho];exact hv
   · rw [Array.getElem?_eq_none (by omega)] at hv;cases hv
theorem Base.at_e (w:World):(Base.at w).e=w:=by
 have h:(Base.at w).e.heap=w.heap:=by
  apply Array.ext_getElem?
  intro i
  rw [Base.e_heap,if_neg (show ¬ (Base.at w).O i from fun h=>h)]
  rfl
 show ({ w with heap:=(Base.at w).e.heap } : World)=w
 rw [h]
theorem Base.at_ok (w:World):(Base.at w).ok w:=⟨rfl,rfl,rfl,Nat.le_refl _,fun _ _ _=>rfl⟩
theorem Base.at_below {w w':World}(h:(Base.at w).ok w'):Below w.heap.size w w':=⟨h.os,h.tape,h.output,h.size,fun k hk=>h.block k hk (fun h=>h)⟩

structure Kd (α:Type) where
  sz:Nat
  K:World→α→List Value→Prop
  K_len:∀ {w x cs},K w x cs→cs.length=sz
  K_one:∀ {w x cs},K w x cs→∀ u ∈ cs,u.oneCell'=true
  K_grow:∀ {w w':World}{x cs},Grow w w'→K w x cs→K w' x cs
def Kd.C {α:Type}(d:Kd α) (w:World) (A:Option Addr) (xs:List α):Prop:=
  xs.length≤9223372036854775807∧(0<xs.length→∃ ad,A=some ad∧∀ j x,xs[j]?=some x→∃ c,d.K w x c∧∀ i u,c[i]?=some u→w.cell? (ad.add (j * d.sz+i))=some u)
namespace Kd
variable {α β : Type} {d : Kd α} {w w' : World} {A : Option Addr} {xs : List α}
theorem C_grow (g:Grow w w') (h:d.C w A xs):d.C w' A xs:=⟨h.1,fun hn=>by
 obtain ⟨ad,e,hc⟩:=h.2 hn
 exact ⟨ad,e,fun j x hx=>by
  obtain ⟨c,hK,hcell⟩:=hc j x hx
  exact ⟨c,d.K_grow g hK,fun i u hu=>g _ _ (hcell i u hu)⟩⟩⟩
theorem C_nil (d:Kd α) (w:World) (A:Option Addr):d.C w A []:=⟨by simp,fun h=>by simp at h⟩
def scalar (enc:α→Value) (h1:∀ x,(enc x).oneCell'=true):Kd α where
  sz:=1
  K:=fun _ x cs=>cs=[enc x]
  K_len:=fun h=>by rw [h];rfl
  K_one:=fun h u hu=>by
    rw [h] at hu
    rw [List.mem_singleton.1 hu]
    exact h1 _
  K_grow:=fun _ h=>h
def int (k:IntKind):Kd Int:=scalar (Value.int k) (fun _=>rfl)
def bool:Kd Bool:=scalar Value.bool (fun _=>rfl)
def string:Kd ByteArray:=scalar Value.string (fun _=>rfl)
def slice (d:Kd α):Kd (List α) where
  sz:=1
  K:=fun w xs cs=>∃ A c,cs=[.slice A xs.length c]∧xs.length≤c∧d.C w A xs
  K_len:=by
    rintro w x cs ⟨A,c,rfl,_⟩
    rfl
  K_one:=by
    rintro w x cs ⟨A,c,rfl,_⟩ u hu
    rw [List.mem_singleton.1 hu]
    rfl
  K_grow:=by
    rintro w w' x cs g ⟨A,c,rfl,hl,hC⟩
    exact ⟨A,c,rfl,hl,C_grow g hC⟩
def pair (a:Kd α) (b:Kd β):Kd (α×β) where
  sz:=a.sz+b.sz
  K:=fun w x cs=>∃ c1 c2,cs=c1++c2∧a.K w x.1 c1∧b.K w x.2 c2
  K_len:=by
    rintro w x cs ⟨c1,c2,rfl,h1,h2⟩
    rw [List.length_append,a.K_len h1,b.K_len h2]
  K_one:=by
    rintro w x cs ⟨c1,c2,rfl,h1,h2⟩ u hu
    rcases List.mem_append.1 hu with h | h
    · exact a.K_one h1 u h
    · exact b.K_one h2 u h
  K_grow:=by
    rintro w w' x cs g ⟨c1,c2,rfl,h1,h2⟩
    exact ⟨c1,c2,rfl,a.K_grow g h1,b.K_grow g h2⟩
def iso (d:Kd α) (f:β→α):Kd β where
  sz:=d.sz
  K:=fun w x cs=>d.K w (f x) cs
  K_len:=fun h=>d.K_len h
  K_one:=fun h=>d.K_one h
  K_grow:=fun g h=>d.K_grow g h
end Kd

structure Chg (w w':World) (S:Nat→Prop):Prop where
  os:w'.os=w.os
  tape:w'.tape=w.tape
  output:w'.output=w.output
  size:w.heap.size≤w'.heap.size
  block:∀ k,k<w.heap.size→¬ S k→w'.heap[k]?=w.heap[k]?
theorem Chg.refl (w:World) (S:Nat→Prop):Chg w w S:=⟨rfl,rfl,rfl,Nat.le_refl _,fun _ _ _=>rfl⟩
theorem Chg.trans {a b c:World}{S:Nat→Prop}(h:Chg a b S) (k:Chg b c S):Chg a c S:=
 ⟨k.os.trans h.os,k.tape.trans h.tape,k.output.trans h.output,Nat.le_trans h.size k.size,fun i hi hn=>(k.block i (Nat.lt_of_lt_of_le hi h.size) hn).trans (h.block i hi hn)⟩
theorem Chg.of_grown {w w':World}{row:Option Nat}(h:w.grownBy w' row):Chg w w' (fun k=>some k=row):=⟨h.os,h.tape,h.output,h.size,h.block⟩
theorem Chg.of_below {w w':World}(h:Below w.heap.size w w') (S:Nat→Prop):Chg w w' S:=⟨h.os,h.tape,h.output,h.size,fun k hk _=>h.block k hk⟩
theorem Chg.mono {w w':World}{S S':Nat→Prop}(h:Chg w w' S) (hs:∀ k,S k→S' k):Chg w w' S':=⟨h.os,h.tape,h.output,h.size,fun k hk hn=>h.block k hk (fun h'=>hn (hs k h'))⟩
theorem Chg.alloc (w:World) (o:Obj) (S:Nat→Prop):Chg w (w.alloc o) S:=⟨rfl,rfl,rfl,by simp,fun k hk _=>Below.heap_alloc _ _ _ hk⟩
theorem Chg.setCell (w:World) (a:Addr) (v:Value):Chg w (w.setCell a v) (fun k=>k=a.block):=⟨rfl,rfl,rfl,by simp [World.setCell],fun k _ hn=>Below.heap_setCell _ _ _ _ hn⟩
theorem Chg.putObj (w:World) (b:Nat) (o:Obj):Chg w (w.putObj b o) (fun k=>k=b):=⟨rfl,rfl,rfl,by simp,fun k _ hn=>World.putObj_heap_other hn⟩
theorem Chg.drew (w:World) (S:Nat→Prop):Chg w w.drew S:=⟨rfl,rfl,rfl,Nat.le_refl _,fun _ _ _=>rfl⟩

structure Res where
  fp:Nat→Prop
  q:World→Prop
  inb:∀ w,q w→∀ k,fp k→k<w.heap.size
  st:∀ w w',q w→(∀ k,fp k→w'.heap[k]?=w.heap[k]?)→q w'

def Sep (M:Nat→Prop) (w:World):List Res→Prop
  | []=>True
  | r :: Φ=>r.q w∧(∀ k,r.fp k→M k)∧(∀ s ∈ Φ,∀ k,r.fp k→¬ s.fp k)∧Sep M w Φ

structure St (B:Base) (Φ:List Res) (w:World):Prop where
  ok:B.ok w
  sep:Sep B.mine w Φ

inductive Upd:List Res→Res→Res→List Res→Prop
  | here {r r':Res}{Φ:List Res} : Upd (r :: Φ) r r' (r' :: Φ)
  | there {x r r':Res}{Φ Φ':List Res}(h:Upd Φ r r' Φ'):Upd (x :: Φ) r r' (x :: Φ')
inductive Pick:List Res→Res→List Res→Prop
  | here {r:Res}{Φ:List Res} : Pick (r :: Φ) r Φ
  | there {x r:Res}{Φ Φ':List Res}(h:Pick Φ r Φ'):Pick (x :: Φ) r (x :: Φ')
inductive Split:List Res→List Res→List Res→Prop
  | nil {Φ:List Res} : Split Φ [] Φ
  | cons {r:Res}{Ψ Φ Φ' Φ'':List Res}(h:Pick Φ r Φ') (k:Split Φ' Ψ Φ''):Split Φ (r :: Ψ) Φ''

inductive Has:List Res→List Res→Prop
  | nil {Φ:List Res} : Has Φ []
  | cons {r:Res}{Ψ Φ Φ':List Res}(h:Pick Φ r Φ') (k:Has Φ' Ψ):Has Φ (r :: Ψ)
theorem Has.split {Φ Ψ:List Res}(h:Has Φ Ψ):∃ Φ',Split Φ Ψ Φ':=by
 induction h with
 | nil=>exact ⟨_,.nil⟩
 | cons h _ ih=>obtain ⟨Φ',h'⟩:=ih;exact ⟨Φ',.cons h h'⟩

theorem Upd.mem {Φ Φ':List Res}{r r':Res}(h:Upd Φ r r' Φ'):r ∈ Φ:=by
 induction h with
 | here=>exact List.mem_cons_self
 | there _ ih=>exact List.mem_cons_of_mem _ ih
theorem Upd.from_ {Φ Φ':List Res}{r r':Res}(h:Upd Φ r r' Φ'):∀ s ∈ Φ',s=r'∨s ∈ Φ:=by
 induction h with
 | here=>exact fun s hs=>(List.mem_cons.1 hs).imp id (List.mem_cons_of_mem _)
 | there _ ih=>exact fun s hs=>(List.mem_cons.1 hs).elim (fun h=>.inr (h ▸ List.mem_cons_self)) (fun h=>(ih s h).imp id (List.mem_cons_of_mem _))
theorem Pick.mem {Φ Φ':List Res}{r:Res}(h:Pick Φ r Φ'):r ∈ Φ:=by
 induction h with
 | here=>exact List.mem_cons_self
 | there _ ih=>exact List.mem_cons_of_mem _ ih
theorem Pick.perm {Φ Φ':List Res}{r:Res}(hp:Pick Φ r Φ'):Φ.Perm (r :: Φ'):=by
 induction hp with
 | here=>exact .refl _
 | there _ ih=>exact (ih.cons _).trans (.swap _ _ _)
theorem Split.perm {Φ Ψ Φ':List Res}(h:Split Φ Ψ Φ'):Φ.Perm (Ψ++Φ'):=by
 induction h with
 | nil=>exact .refl _
 | cons hp _ ih=>exact hp.perm.trans (ih.cons _)

variable {M : Nat → Prop} {B : Base} {w w' : World} {Φ Φ' Ψ : List Res} {r r' : Res}

theorem Sep.get (h:Sep M w Φ) (hm:r ∈ Φ):r.q w∧∀ k,r.fp k→M k:=by
 induction Φ with
 | nil=>cases hm
 | cons x Φ ih=>
  obtain ⟨h1,h2,_,h4⟩:=h
  rcases List.mem_cons.1 hm with rfl | hm
  · exact ⟨h1,h2⟩
  · exact ih h4 hm
theorem Sep.keep (h:Sep M w Φ) {S:Nat→Prop}(hc:Chg w w' S) (hd:∀ s ∈ Φ,∀ k,S k→¬ s.fp k):Sep M w' Φ:=by
 induction Φ with
 | nil=>trivial
 | cons x Φ ih=>
  obtain ⟨h1,h2,h3,h4⟩:=h
  exact ⟨x.st w w' h1 (fun k hk=>hc.block k (x.inb w h1 k hk) (fun hs=>hd x List.mem_cons_self k hs hk)),h2,h3,ih h4 (fun s hs=>hd s (List.mem_cons_of_mem _ hs))⟩
theorem Sep.upd (h:Sep M w Φ) (hu:Upd Φ r r' Φ') (hn:∀ k,w.heap.size≤k→M k) (hc:Chg w w' r.fp) (hq:r'.q w') (hf:∀ k,r'.fp k→r.fp k∨w.heap.size≤k):Sep M w' Φ':=by
 induction hu with
 | @here r r' Φ=>
  obtain ⟨h1,h2,h3,h4⟩:=h
  refine ⟨hq,fun k hk=>?_,fun s hs k hk hsk=>?_,h4.keep hc h3⟩
  · rcases hf k hk with h | h
    · exact h2 k h
    · exact hn k h
  · rcases hf k hk with h | h
    · exact h3 s hs k h hsk
    · have:=s.inb w (h4.get hs).1 k hsk;omega
 | @there x r r' Φ Φ' hu ih=>
  obtain ⟨h1,h2,h3,h4⟩:=h
  refine ⟨x.st w w' h1 (fun k hk=>hc.block k (x.inb w h1 k hk) (h3 r hu.mem k hk)),h2,fun s hs k hk hsk=>?_,ih h4 hc hq hf⟩
  rcases hu.from_ s hs with rfl | hs'
  · rcases hf k hsk with h | h
    · exact h3 r hu.mem k hk h
    · have:=x.inb w h1 k hk;omega
  · exact h3 s hs' k hk hsk
theorem Sep.all (M:Nat→Prop) (w:World) (Φ:List Res):Sep M w Φ↔(∀ r ∈ Φ,r.q w∧∀ k,r.fp k→M k)∧Φ.Pairwise (fun r s=>∀ k,r.fp k→¬ s.fp k):=by
 induction Φ with
 | nil=>simp [Sep]
 | cons r Φ ih=>
  simp only [Sep,ih,List.mem_cons,List.pairwise_cons,forall_eq_or_imp]
  constructor
  · rintro ⟨a,b,c,d,e⟩;exact ⟨⟨⟨a,b⟩,d⟩,c,e⟩
  · rintro ⟨⟨⟨a,b⟩,d⟩,c,e⟩;exact ⟨a,b,c,d,e⟩
theorem St.perm (h:St B Φ w) (hp:Φ.Perm Φ'):St B Φ' w:=by
 refine ⟨h.ok,(Sep.all _ _ _).2 ?_⟩
 obtain ⟨h1,h2⟩:=(Sep.all _ _ _).1 h.sep
 exact ⟨fun r hr=>h1 r (hp.mem_iff.2 hr),(hp.pairwise_iff (fun {a b} hab k hb ha=>hab k ha hb)).1 h2⟩
theorem St.swap (h:St B (Φ++Ψ) w):St B (Ψ++Φ) w:=h.perm List.perm_append_comm
theorem St.tail (h:St B (Φ++Ψ) w):St B Ψ w:=by
 obtain ⟨h1,h2⟩:=(Sep.all _ _ _).1 h.sep
 exact ⟨h.ok,(Sep.all _ _ _).2 ⟨fun r hr=>h1 r (List.mem_append_right _ hr),(List.pairwise_append.1 h2).2.1⟩⟩
theorem St.head (h:St B (Φ++Ψ) w):St B Φ w:=h.swap.tail
theorem St.drop (h:St B (r :: Φ) w):St B Φ w:=⟨h.ok,h.sep.2.2.2⟩
theorem St.sub (h:St B Φ w) (hs:Split Φ Ψ Φ'):St B Ψ w:=(h.perm hs.perm).head
theorem St.has (h:St B Φ w) (hs:Has Φ Ψ):St B Ψ w:=by obtain ⟨_,hs⟩:=hs.split;exact h.sub hs
def Leads (B:Base) (Φ Ψ:List Res):Prop:=∀ w,St B Φ w→St B Ψ w
theorem Leads.has (h:Has Φ Ψ):Leads B Φ Ψ:=fun _ hS=>hS.has h
theorem Leads.trans {Ψ':List Res}(h:Leads B Φ Ψ) (k:Leads B Ψ Ψ'):Leads B Φ Ψ':=fun w hS=>k w (h w hS)
theorem St.get (h:St B Φ w) (hm:Pick Φ r Φ'):r.q w:=(h.sep.get hm.mem).1
theorem St.new (h:St B Φ w):∀ k,w.heap.size≤k→B.mine k:=fun k hk=>.inr (Nat.le_trans h.ok.size hk)
theorem Base.ok.chg {S:Nat→Prop}(h:B.ok w) (hc:Chg w w' S) (hS:∀ k,S k→B.mine k):B.ok w':=
 ⟨hc.os.trans h.os,hc.tape.trans h.tape,hc.output.trans h.output,Nat.le_trans h.size hc.size,fun k hk hn=>(hc.block k (Nat.lt_of_lt_of_le hk h.size) (fun hs=>by
  rcases hS k hs with h1 | h1
  · exact hn h1
  · omega)).trans (h.block k hk hn)⟩
theorem St.upd (h:St B Φ w) (hu:Upd Φ r r' Φ') (hc:Chg w w' r.fp) (hq:r'.q w') (hf:∀ k,r'.fp k→r.fp k∨w.heap.size≤k):St B Φ' w':=
 ⟨h.ok.chg hc (fun k hk=>(h.sep.get hu.mem).2 k hk),h.sep.upd hu h.new hc hq hf⟩
theorem St.keep (h:St B Φ w) (hc:Chg w w' (fun _=>False)):St B Φ w':=
 ⟨h.ok.chg hc (fun k hk=>hk.elim),h.sep.keep hc (fun _ _ _ hk=>hk.elim)⟩
theorem St.drew (h:St B Φ w):St B Φ w.drew:=h.keep (Chg.drew _ _)
theorem St.add (h:St B Φ w) (hc:Chg w w' (fun _=>False)) (hq:r.q w') (hf:∀ k,r.fp k→w.heap.size≤k):St B (r :: Φ) w':=by
 have hk:=h.keep hc
 refine ⟨hk.ok,hq,fun k hk'=>h.new k (hf k hk'),fun s hs k hrk hsk=>?_,hk.sep⟩
 have:=s.inb w (h.sep.get hs).1 k hsk
 have:=hf k hrk
 omega
theorem St.start (w:World):St (Base.at w) [] w:=⟨Base.at_ok w,trivial⟩
theorem St.conv (h:St B Φ w) (hu:Upd Φ r r' Φ') (hq:r.q w→r'.q w) (hf:∀ k,r'.fp k→r.fp k):St B Φ' w:=
  h.upd hu (Chg.refl _ _) (hq (h.sep.get hu.mem).1) (fun k hk=>.inl (hf k hk))

def Base.call (B:Base) (w:World) (Ψ:List Res):Base:=⟨w,fun k=>∃ r ∈ Ψ,r.fp k⟩
theorem St.lend (h:St B (Ψ++Φ) w):St (B.call w Ψ) Ψ w:=by
 refine ⟨⟨rfl,rfl,rfl,Nat.le_refl _,fun _ _ _=>rfl⟩,(Sep.all _ _ _).2 ?_⟩
 obtain ⟨h1,h2⟩:=(Sep.all _ _ _).1 h.head.sep
 exact ⟨fun r hr=>⟨(h1 r hr).1,fun k hk=>.inl ⟨r,hr,hk⟩⟩,h2⟩
theorem St.give {Ψ':List Res}(h:St B (Ψ++Φ) w) (h':St (B.call w Ψ) Ψ' w'):St B (Ψ'++Φ) w':=by
 have hs:=h.sep
 obtain ⟨h1,h2⟩:=(Sep.all _ _ _).1 hs
 have hpre:∀ k,(∃ r ∈ Ψ,r.fp k)→B.mine k∧k<w.heap.size:=by
  rintro k ⟨r,hr,hk⟩
  exact ⟨(h1 r (List.mem_append_left _ hr)).2 k hk,r.inb w (h1 r (List.mem_append_left _ hr)).1 k hk⟩
 have hc:Chg w w' (fun k=>∃ r ∈ Ψ,r.fp k):=⟨h'.ok.os,h'.ok.tape,h'.ok.output,h'.ok.size,h'.ok.block⟩
 have hok:B.ok w':=h.ok.chg hc (fun k hk=>(hpre k hk).1)
 have hdis:∀ s ∈ Φ,∀ k,(∃ r ∈ Ψ,r.fp k)→¬ s.fp k:=by
  rintro s hs' k ⟨r,hr,hk⟩ hsk
  exact (List.pairwise_append.1 h2).2.2 r hr s hs' k hk hsk
 have hΦ:Sep B.mine w' Φ:=(h.tail.sep).keep hc hdis
 obtain ⟨k1,k2⟩:=(Sep.all _ _ _).1 hΦ
 obtain ⟨g1,g2⟩:=(Sep.all _ _ _).1 h'.sep
 refine ⟨hok,(Sep.all _ _ _).2 ⟨fun r hr=>?_,List.pairwise_append.2 ⟨g2,k2,fun r hr s hs' k hk hsk=>?_⟩⟩⟩
 · rcases List.mem_append.1 hr with hr | hr
   · refine ⟨(g1 r hr).1,fun k hk=>?_⟩
     rcases (g1 r hr).2 k hk with h3 | h3
     · exact (hpre k h3).1
     · exact h.new k h3
   · exact k1 r hr
 · rcases (g1 r hr).2 k hk with h3 | h3
   · exact hdis s hs' k h3 hsk
   · have h4:=(h1 s (List.mem_append_right _ hs')).1
     have:=s.inb w h4 k hsk
     have h5:w.heap.size≤k:=h3
     omega
theorem St.egrow (h:St B (Ψ++Φ) w):Grow B.e (B.call w Ψ).e:=by
 intro a v hv
 obtain ⟨h1,_⟩:=(Sep.all _ _ _).1 h.head.sep
 have h0:B.e.heap[a.block]?=B.w.heap[a.block]?∧¬ B.O a.block∧a.block<B.w.heap.size:=by
  unfold World.cell? at hv
  rw [B.e_heap] at hv ⊢
  by_cases ho:B.O a.block
  · rw [if_pos ho] at hv
    cases hb:B.w.heap[a.block]? <;> simp [hb] at hv
  · rw [if_neg ho] at hv
    refine ⟨by rw [if_neg ho],ho,?_⟩
    by_cases hk:a.block<B.w.heap.size
    · exact hk
    · rw [Array.getElem?_eq_none (by omega)] at hv;cases hv
 obtain ⟨h0,ho,hk⟩:=h0
 have hno:¬ ∃ r ∈ Ψ,r.fp a.block:=by
  rintro ⟨r,hr,hf⟩
  rcases (h1 r hr).2 _ hf with h3 | h3
  · exact ho h3
  · omega
 have h3:(B.call w Ψ).e.heap[a.block]?=B.e.heap[a.block]?:=by
  rw [Base.e_heap,h0,if_neg (show ¬ (B.call w Ψ).O a.block from hno)]
  exact h.ok.block _ hk ho
 unfold World.cell? at hv ⊢
 rw [h3];exact hv

def ob (b:Nat) (o:Obj):Res where
  fp k:=k=b
  q w:=w.heap[b]?=some o
  inb w h k hk:=by subst hk;exact (Array.getElem?_eq_some_iff.1 h).1
  st w w' h hk:=(hk b rfl).trans h
abbrev blk (b:Nat) (t:TypeId) (cs:List Value):Res:=ob b (.cells cs.toArray t (0,0))
theorem St.alloc (h:St B Φ w) (o:Obj):St B (ob w.heap.size o :: Φ) (w.alloc o):=
 h.add (Chg.alloc w o _) (World.alloc_heap_new w o) (fun k hk=>by have:k=w.heap.size:=hk;omega)
theorem St.put (h:St B Φ w) {b:Nat}{o o':Obj}(hu:Upd Φ (ob b o) (ob b o') Φ'):St B Φ' (w.putObj b o'):=
 h.upd hu (Chg.putObj w b o') (World.putObj_heap_same (Array.getElem?_eq_some_iff.1 ((h.sep.get hu.mem).1:w.heap[b]?=some o)).1) (fun k hk=>.inl hk)
theorem cell_of {b i:Nat}{t:TypeId}{cs:List Value}{fz:Nat×Nat}(h:w.heap[b]?=some (.cells cs.toArray t fz)):w.cell? ⟨b,i,none⟩=cs[i]?:=by
 unfold World.cell?;simp [h]
theorem frozen_of {b i:Nat}{t:TypeId}{cs:Array Value}(h:w.heap[b]?=some (.cells cs t (0,0))):w.frozen? ⟨b,i,none⟩=false:=by
 unfold World.frozen?;simp [h]
theorem St.cell {b:Nat}{t:TypeId}{cs:List Value}(h:St B Φ w) (hm:Pick Φ (blk b t cs) Φ') (i:Nat) {v:Value}(hv:cs[i]?=some v):w.cell? ⟨b,i,none⟩=some v:=by
 rw [cell_of (h.get hm)];exact hv
theorem St.ext (h:St B Φ w) {a:Addr}{v:Value}(hc:B.e.cell? a=some v):w.cell? a=some v:=Base.grow h.ok a v hc
theorem set_heap {b i:Nat}{t:TypeId}{cs:List Value}{v:Value}(h:w.heap[b]?=some (.cells cs.toArray t (0,0))):(w.setCell ⟨b,i,none⟩ v).heap[b]?=some (.cells (cs.set i v).toArray t (0,0)):=by
 simp [World.setCell,Array.getElem?_modify,h]
theorem St.set {b:Nat}{t:TypeId}{cs:List Value}(h:St B Φ w) (i:Nat) (v:Value) (hu:Upd Φ (blk b t cs) (blk b t (cs.set i v)) Φ'):St B Φ' (w.setCell ⟨b,i,none⟩ v):=
 h.upd hu (Chg.setCell w ⟨b,i,none⟩ v) (set_heap (h.sep.get hu.mem).1) (fun k hk=>.inl hk)
end Go.Proofs.YtpmdhkjbhjgoaaaDoorK


/-
  The walk over named slots: a state is a list of slots with values, the deferred calls, the resources; one rule for each form of code, and for each operation that leaves the world alone.
-/
namespace Go.Proofs.YtpmdhkjbhjgoaaaDoorK
open Go.RowKit

abbrev Env:=List (Nat×Value)
def Env.find:Env→Nat→Option Value
  | [],_=>none
  | (k,v) :: E,t=>bif Nat.beq k t then some v else Env.find E t
def Env.op (E:Env):Operand→Option Value
  | .tmp t=>E.find t
  | .const v=>some v
  | .global g=>some (.pointer (some ⟨g,0,none⟩))
  | .func f=>some (.func (.func f) #[] #[])
def Env.ops (E:Env):List Operand→Option (List Value)
  | []=>some []
  | x :: xs=>match E.op x with
    | none=>none
    | some v=>match Env.ops E xs with
      | none=>none
      | some vs=>some (v :: vs)
def Fits (E:Env) (a:Act):Prop:=∀ t v,E.find t=some v→a.tmps.getD t undef=v
structure Ok (N:Nat) (E:Env) (D:List Deferred) (a:Act):Prop where
  size:a.tmps.size=N
  fit:Fits E a
  dfr:a.defers=D
theorem Fits.op {E:Env}{a:Act}(h:Fits E a) {x:Operand}{v:Value}(hx:E.op x=some v):a.eval x=v:=by
 cases x with
 | tmp t=>exact h t v hx
 | const u=>exact Option.some.inj hx
 | global g=>exact Option.some.inj hx
 | func f=>exact Option.some.inj hx
theorem Fits.ops {E:Env}{a:Act}(h:Fits E a):∀ {xs:List Operand}{vs:List Value},E.ops xs=some vs→xs.map a.eval=vs
 | [],vs,hx=>by simp only [Env.ops,Option.some.injEq] at hx;subst hx;rfl
 | x :: xs,vs,hx=>by
  simp only [Env.ops] at hx
  split at hx
  · cases hx
  · rename_i v hv
    split at hx
    · cases hx
    · rename_i us hus
      injection hx with hx
      subst hx
      simp [h.op hv,Fits.ops h hus]
theorem Env.find_cons (k t:Nat) (v:Value) (E:Env):Env.find ((k,v) :: E) t=if k=t then some v else E.find t:=by
 show (bif Nat.beq k t then some v else Env.find E t)=_
 by_cases h:k=t
 · subst h;simp
 · have:Nat.beq k t=false:=by cases hb:Nat.beq k t <;> simp_all [Nat.beq_eq]
   rw [this,if_neg h];rfl
theorem Ok.put {N:Nat}{E:Env}{D:List Deferred}{a:Act}(h:Ok N E D a) {d:Nat}{v:Value}(hd:Nat.blt d N=true):Ok N ((d,v) :: E) D (a.put (some d) v):=by
  have hd' : d < a.tmps.size := by have := h.size; have : d < N := by simpa [Nat.blt_eq] using hd
                                   omega
  refine ⟨by simpa [Act.put] using h.size,fun t u hu=>?_,h.dfr⟩
  rw [Env.find_cons] at hu
  simp only [Act.put,Array.getD_eq_getD_getElem?,Array.getElem?_setIfInBounds]
  split at hu
  · rename_i e;subst e;injection hu with hu;subst hu;simp [hd']
  · rename_i hne
    rw [if_neg hne]
    have:=h.fit t u hu
    rwa [Array.getD_eq_getD_getElem?] at this
theorem Ok.put_none {N:Nat}{E:Env}{D:List Deferred}{a:Act}(h:Ok N E D a) {v:Value} : Ok N E D (a.put none v):=h
def Cov (E:Env):Env→Prop
  | []=>True
  | (t,v) :: E'=>E.find t=some v∧Cov E E'
theorem Cov.find {E:Env} : ∀ {E':Env}{t:Nat}{v:Value},Cov E E'→E'.find t=some v→E.find t=some v
 | (k,u) :: E',t,v,h,hf=>by
  rw [Env.find_cons] at hf
  split at hf
  · rename_i e;subst e;injection hf with hf;subst hf;exact h.1
  · exact Cov.find h.2 hf
theorem Ok.cov {N:Nat}{E E':Env}{D:List Deferred}{a:Act}(h:Ok N E D a) (hc:Cov E E'):Ok N E' D a:=⟨h.size,fun t v hv=>h.fit t v (hc.find hv),h.dfr⟩
theorem Ok.enter (N:Nat) (args:List Value) (h:args.length≤N):Ok N ((args.zipIdx).map fun p=>(p.2,p.1)) [] { tmps:=args.toArray++Array.replicate (N-args.toArray.size) undef,defers:=[] }:=by
 refine ⟨by simp;omega,?_,rfl⟩
 have key:∀ (l:List Value) (k t:Nat) (v:Value),Env.find ((l.zipIdx k).map fun p=>(p.2,p.1)) t=some v→k≤t∧l[t-k]?=some v:=by
  intro l
  induction l with
  | nil=>intro k t v h;cases h
  | cons x l ih=>
   intro k t v h
   rw [List.zipIdx_cons,List.map_cons,Env.find_cons] at h
   split at h
   · rename_i e;subst e;injection h with h;subst h;simp
   · obtain ⟨h1,h2⟩:=ih _ _ _ h
     refine ⟨by omega,?_⟩
     have:t-k=(t-(k+1))+1:=by omega
     rw [this,List.getElem?_cons_succ];exact h2
 intro t v hv
 obtain ⟨_,h2⟩:=key args 0 t v hv
 have ht:t<args.length:=(List.getElem?_eq_some_iff.1 h2).1
 simp only [Array.getD_eq_getD_getElem?]
 rw [Array.getElem?_append_left (by simpa using ht)]
 simp at h2
 simp [h2]

structure Cx where
  P:Program
  F:Fence
  N:Nat
  B:Base
  fn:∀ f,F.fn f
  dp:F.depth.isSome=false
  call:∀ {g:FuncId}{args:Array Value}{w:World}{R:Ending→World→Prop},CallsIn Fence.wide 0 P g args w R→CallsIn F 0 P g args w R
abbrev Post:=Exit→Env→List Deferred→List Res→Prop
def okE:Exit→Prop
  | .panic _=>False
  | _=>True
def lift (c:Cx) (Q:Post):Exit→Act→World→Prop:=fun e a w=>∃ E D H,Ok c.N E D a∧St c.B H w∧Q e E D H∧okE e
def W (c:Cx) (x:Code) (Q:Post) (E:Env) (D:List Deferred) (H:List Res):Prop:=∀ a w,Ok c.N E D a→St c.B H w→x.wpIn c.F 0 c.P (lift c Q) a w
@[reducible] def thn (K:Env→List Deferred→List Res→Prop) (Q:Post):Post
  | .normal,E,D,H=>K E D H
  | e,E,D,H=>Q e E D H
@[reducible] def inBlk (id:Nat) (Q:Post):Post
  | .exit i,E,D,H=>bif Nat.beq i id then Q .normal E D H else Q (.exit i) E D H
  | e,E,D,H=>Q e E D H
theorem lift_mono {c:Cx}{Q Q':Post}(h:∀ e E D H,Q e E D H→Q' e E D H):∀ e a w,lift c Q e a w→lift c Q' e a w:=fun _ _ _ ⟨E,D,H,h1,h2,h3,h4⟩=>⟨E,D,H,h1,h2,h _ _ _ _ h3,h4⟩
section
variable {c : Cx} {Q Q' : Post} {E E' : Env} {D : List Deferred} {H H' : List Res} {x y : Code}
theorem wSeq (h:W c x (thn (W c y Q) Q) E D H):W c (x.seq y) Q E D H:=fun a w ha hw=>wpIn_seq (wpIn_mono (h a w ha hw) (by
 rintro e a w ⟨E,D,H,h1,h2,h3⟩
 cases e with
 | normal=>exact h3.1 a w h1 h2
 | _=>exact ⟨E,D,H,h1,h2,h3⟩))
theorem wSkip (h:Q .normal E D H):W c .skip Q E D H:=fun a w ha hw=>wpIn_skip ⟨E,D,H,ha,hw,h,trivial⟩
theorem wRet (h:Q .ret E D H):W c .ret Q E D H:=fun a w ha hw=>wpIn_ret ⟨E,D,H,ha,hw,h,trivial⟩
theorem wExit {id:Nat}(h:Q (.exit id) E D H):W c (.exit id) Q E D H:=fun a w ha hw=>wpIn_exit ⟨E,D,H,ha,hw,h,trivial⟩
theorem wCondT {o:Operand}(hc:E.op o=some (.bool true)) (h:W c x Q E D H):W c (.cond o x y) Q E D H:=fun a w ha hw=>wpIn_cond_true (ha.fit.op hc) (h a w ha hw)
theorem wCondF {o:Operand}(hc:E.op o=some (.bool false)) (h:W c y Q E D H):W c (.cond o x y) Q E D H:=fun a w ha hw=>wpIn_cond_false (ha.fit.op hc) (h a w ha hw)
theorem wCond {o:Operand}{p:Prop} [Decidable p] (hc:E.op o=some (.bool (decide p))) (h1:p→W c x Q E D H) (h0:¬ p→W c y Q E D H):W c (.cond o x y) Q E D H:=by
 intro a w ha hw
 by_cases hp:p
 · exact wpIn_cond_true (by rw [ha.fit.op hc];simp [hp]) (h1 hp a w ha hw)
 · exact wpIn_cond_false (by rw [ha.fit.op hc];simp [hp]) (h0 hp a w ha hw)
theorem wCondB {o:Operand}{p:Bool}(hc:E.op o=some (.bool p)) (h1:p=true→W c x Q E D H) (h0:p=false→W c y Q E D H):W c (.cond o x y) Q E D H:=by
 intro a w ha hw
 cases p
 · exact wpIn_cond_false (ha.fit.op hc) (h0 rfl a w ha hw)
 · exact wpIn_cond_true (ha.fit.op hc) (h1 rfl a w ha hw)
theorem wBlock {id:Nat}(h:W c x (inBlk id Q) E D H):W c (.block id x) Q E D H:=fun a w ha hw=>wpIn_block (wpIn_mono (h a w ha hw) (by
 rintro e a w ⟨E,D,H,h1,h2,h3⟩
 cases e with
 | exit i=>
  simp only [Exit.inBlock]
  by_cases hi:i=id
  · rw [if_pos hi]
    have:Nat.beq i id=true:=by simpa [Nat.beq_eq] using hi
    simp only [inBlk,this,cond_true] at h3
    exact ⟨E,D,H,h1,h2,h3.1,trivial⟩
  · rw [if_neg hi]
    have:Nat.beq i id=false:=by cases hb:Nat.beq i id <;> simp_all [Nat.beq_eq]
    simp only [inBlk,this,cond_false] at h3
    exact ⟨E,D,H,h1,h2,h3⟩
 | _=>exact ⟨E,D,H,h1,h2,h3⟩))
theorem wLoop {ι:Type}(Ei:ι→Env) (Hi:ι→List Res) (inv:ι→Prop) (μ:ι→Nat) (i0:ι) (h0:inv i0) (hE:Cov E (Ei i0)) (hH:Leads c.B H (Hi i0))
 (round:∀ i,inv i→W c x (thn (fun E' D' H'=>D'=D∧∃ i',inv i'∧μ i'<μ i∧Cov E' (Ei i')∧Leads c.B H' (Hi i')) Q) (Ei i) D (Hi i)):W c (.loop x) Q E D H:=by
 have key:∀ m i a w,μ i<m→inv i→Ok c.N (Ei i) D a→St c.B (Hi i) w→Code.roundsIn c.F 0 c.P x (lift c Q) m a w:=by
  intro m
  induction m with
  | zero=>intro i a w h;omega
  | succ m ih=>
   intro i a w hm hi ha hw
   rw [roundsIn_succ]
   refine wpIn_mono (round i hi a w ha hw) ?_
   rintro e a' w' ⟨E',D',H',h1,h2,h3⟩
   cases e with
   | normal=>
    obtain ⟨⟨rfl,i',hi',hlt,hcov,hsp⟩,_⟩:=h3
    exact ih i' a' w' (by omega) hi' (h1.cov hcov) (hsp _ h2)
   | _=>exact ⟨E',D',H',h1,h2,h3⟩
 intro a w ha hw
 exact wpIn_loop_rounds (μ i0+1) (key _ i0 a w (Nat.lt_succ_self _) h0 (ha.cov hE) (hH _ hw))
end

def plain:Op→Bool
  | .defer _=>false
  | _=>true
theorem semAt_plain' (F:Fence) (ρ:Operand→Value) (o:Oper) (h:plain o.op=true):o.semAt F.round ρ=execOp ρ o:=
 Oper.semAt_plain F ρ o (fun c hc=>by rw [hc] at h;simp [plain] at h)
structure Md (c:Cx) where
  X:List Oper→Act→World→Prop
  ops:Array Oper
  calm:∀ o rest a w v,Region.wanted o (yielded ops a.tmps)=true→plain o.op=true→(execOp a.eval o).run c.P w=.ok (.value v) w→X rest (a.put o.dst v) w→X (o :: rest) a w
  skip:∀ o rest a w,Region.wanted o (yielded ops a.tmps)=false→X rest (a.put o.dst undef) w→X (o :: rest) a w
  want:∀ (dst:Option Tmp) (op:Op) (ty:TypeId) (pos:String) (af:Array Edge) (g:Nat×Bool) rest (a:Act) w,Region.wanted ⟨dst,op,ty,pos,af,some g⟩ (yielded ops a.tmps)=true→X (⟨dst,op,ty,pos,af,none⟩ :: rest) a w→X (⟨dst,op,ty,pos,af,some g⟩ :: rest) a w
def O {c:Cx}(M:Md c) (l:List Oper) (E:Env) (D:List Deferred) (H:List Res):Prop:=∀ a w,Ok c.N E D a→St c.B H w→M.X l a w
def Md.list (c:Cx) (ops:Array Oper) (Q:Post):Md c where
  X:=wpListIn c.F 0 c.P ops (lift c Q)
  ops:=ops
  calm o rest a w v hw hp hr hK:=by
    simp only [wpListIn,hw,if_true]
    exact ⟨fun f _=>c.fn f,by rw [semAt_plain' _ _ _ hp,hr];exact hK⟩
  skip o rest a w hw hK:=by
    simp only [wpListIn,hw]
    exact ⟨fun f _=>c.fn f,hK⟩
  want dst op ty pos af g rest a w hw h:=by
    simp only [wpListIn] at h ⊢
    rw [if_pos hw]
    rw [if_pos (show Region.wanted { dst:=dst,op:=op,type:=ty,pos:=pos,after:=af,guard:=none } (yielded ops a.tmps)=true from rfl)] at h
    exact h
section
variable {c : Cx} {Q : Post} {E : Env} {D : List Deferred} {H : List Res}
theorem oNil {ops:Array Oper}(h:Q .normal E D H):O (Md.list c ops Q) [] E D H:=fun a w ha hw=>⟨E,D,H,ha,hw,h,trivial⟩
structure Me (c:Cx) extends Md c where
  eff:∀ o rest a w v w',Region.wanted o (yielded ops a.tmps)=true→plain o.op=true→(execOp a.eval o).run c.P w=.ok (.value v) w'→X rest (a.put o.dst v) w'→X (o :: rest) a w
  effs:∀ o rest a w w',Region.wanted o (yielded ops a.tmps)=true→plain o.op=true→(execOp a.eval o).run c.P w=.ok .skip w'→X rest (a.put o.dst undef) w'→X (o :: rest) a w
  enter:∀ o rest a w g args w1,Region.wanted o (yielded ops a.tmps)=true→plain o.op=true→(execOp a.eval o).run c.P w=.ok (.enter g args) w1→
    CallsIn Fence.wide 0 c.P g args w1 (fun e w2=>∃ v,e=.returned v∧X rest (a.put o.dst v) w2)→X (o :: rest) a w
def Me.list (c:Cx) (ops:Array Oper) (Q:Post):Me c where
  toMd:=Md.list c ops Q
  eff o rest a w v w' hw hp hr hK:=by
    show wpListIn _ _ _ _ _ _ _ _
    simp only [wpListIn]
    rw [if_pos (show Region.wanted o (yielded ops a.tmps)=true from hw)]
    exact ⟨fun f _=>c.fn f,by rw [semAt_plain' _ _ _ hp,hr];exact hK⟩
  effs o rest a w w' hw hp hr hK:=by
    show wpListIn _ _ _ _ _ _ _ _
    simp only [wpListIn]
    rw [if_pos (show Region.wanted o (yielded ops a.tmps)=true from hw)]
    exact ⟨fun f _=>c.fn f,by rw [semAt_plain' _ _ _ hp,hr];exact hK⟩
  enter o rest a w g args w1 hw hp hr hK:=by
    show wpListIn _ _ _ _ _ _ _ _
    simp only [wpListIn]
    rw [if_pos (show Region.wanted o (yielded ops a.tmps)=true from hw)]
    refine ⟨fun f _=>c.fn f,?_⟩
    rw [semAt_plain' _ _ _ hp,hr]
    refine ⟨fun h=>absurd h (by rw [c.dp];simp),(c.call hK).mono ?_⟩
    rintro e w2 ⟨v,rfl,hx⟩
    exact hx
def Me.tail (c:Cx) (ops:Array Oper) (Q:Post):Me c where
  X:=wpList c.P ops (lift c Q)
  ops:=ops
  calm o rest a w v hw hp hr hK:=by
    simp only [wpList,hw,if_true]
    exact .inl (by simp only [Oper.wp,hr];exact hK)
  skip o rest a w hw hK:=by simp only [wpList,hw];exact hK
  want dst op ty pos af g rest a w hw h:=by
    simp only [wpList] at h ⊢
    rw [if_pos hw]
    rw [if_pos (show Region.wanted { dst:=dst,op:=op,type:=ty,pos:=pos,after:=af,guard:=none } (yielded ops a.tmps)=true from rfl)] at h
    exact h
  eff o rest a w v w' hw hp hr hK:=by
    simp only [wpList,hw,if_true]
    exact .inl (by simp only [Oper.wp,hr];exact hK)
  effs o rest a w w' hw hp hr hK:=by
    simp only [wpList,hw,if_true]
    exact .inl (by simp only [Oper.wp,hr];exact hK)
  enter o rest a w g args w1 hw hp hr hK:=by
    simp only [wpList,hw,if_true]
    refine .inl ?_
    simp only [Oper.wp,hr]
    refine Calls.mono (callsIn_wide.1 hK) ?_
    rintro e w2 ⟨v,rfl,hx⟩
    exact hx
def Md.head (c:Cx) (ops:Array Oper) (w0:World) (tail:List Oper) (Q:Post):Md c where
  X:=fun l a w=>w=w0→wpStill c.P ops w0 (fun a'=>wpList c.P ops (lift c Q) tail a' w0) l a
  ops:=ops
  calm o rest a w v hw hp hr hK:=by
    rintro rfl
    simp only [wpStill,hw,if_true,Oper.still,hr,Oper.stillUpon]
    exact ⟨trivial,hK rfl⟩
  skip o rest a w hw hK:=by
    rintro rfl
    simp only [wpStill,hw]
    exact hK rfl
  want dst op ty pos af g rest a w hw h:=by
    rintro rfl
    have h:=h rfl
    simp only [wpStill] at h ⊢
    rw [if_pos hw]
    rw [if_pos (show Region.wanted { dst:=dst,op:=op,type:=ty,pos:=pos,after:=af,guard:=none } (yielded ops a.tmps)=true from rfl)] at h
    exact h
theorem oHead {ops:Array Oper}{w0:World}{tail:List Oper}(h:O (Me.tail c ops Q).toMd tail E D H):O (Md.head c ops w0 tail Q) [] E D H:=by
 rintro a w ha hw rfl
 exact h a w ha hw
theorem oNilT {ops:Array Oper}(h:Q .normal E D H):O (Me.tail c ops Q).toMd [] E D H:=fun a w ha hw=>⟨E,D,H,ha,hw,h,trivial⟩
theorem wRegion' {id:Nat}{l:List Oper}(h:O (Me.list c l.toArray Q).toMd l E D H):W c (.region id l.toArray false) Q E D H:=fun a w ha hw=>wpIn_region_lit (h a w ha hw)
end
end Go.Proofs.YtpmdhkjbhjgoaaaDoorK


/-
  The walk's rules for operations that leave the world alone.
-/
namespace Go.Proofs.YtpmdhkjbhjgoaaaDoorK
open Go.RowKit
variable {c : Cx} {M : Md c} {d : Nat} {ty : TypeId} {pos : String} {af : Array Edge} {rest : List Oper} {E : Env} {D : List Deferred} {H H' : List Res} {v : Value} {x y z : Operand} {k : IntKind} {t t' : TypeId}

theorem oC {op:Op}(v:Value) (hp:plain op=true) (hN:Nat.blt d c.N=true) (hy:∀ a w,Fits E a→St c.B H w→(execOp a.eval ⟨some d,op,ty,pos,af,none⟩).run c.P w=.ok (.value v) w)
 (k:O M rest ((d,v) :: E) D H):O M (⟨some d,op,ty,pos,af,none⟩ :: rest) E D H:=
 fun a w ha hw=>M.calm _ _ _ _ v rfl hp (hy a w ha.fit hw) (k _ _ (ha.put hN) hw)

theorem bool_find {E:Env}{a:Act}(h:Fits E a) {t:Nat}{b:Bool}(hf:E.find t=some (.bool b)):a.tmps[t]?=some (.bool b):=by
 have:=h t _ hf
 rw [Array.getD_eq_getD_getElem?] at this
 cases hx:a.tmps[t]? with
 | none=>rw [hx] at this;simp [undef] at this
 | some u=>rw [hx] at this;simp at this;rw [this]
theorem yielded_of {E:Env}{a:Act}(h:Fits E a) {ops:Array Oper}{j t:Nat}{b:Bool}(hj:(ops[j]?).bind (·.dst)=some t) (hf:E.find t=some (.bool b)):yielded ops a.tmps j=some b:=by
 unfold yielded
 rw [hj]
 simp only [Option.bind_some,bool_find h hf]
theorem oSkip {op:Op}{j t:Nat}{b b':Bool}(hj:(M.ops[j]?).bind (·.dst)=some t) (hf:E.find t=some (.bool b)) (hb:(b == b')=false) (hN:Nat.blt d c.N=true)
 (k:O M rest ((d,undef) :: E) D H):O M (⟨some d,op,ty,pos,af,some (j,b')⟩ :: rest) E D H:=
 fun a w ha hw=>M.skip _ _ _ _ (by
  simp only [Region.wanted,yielded_of ha.fit hj hf]
  simpa using hb) (k _ _ (ha.put hN) hw)
theorem oWant {op:Op}{dst:Option Tmp}{j t:Nat}{b':Bool}(hj:(M.ops[j]?).bind (·.dst)=some t) (hf:E.find t=some (.bool b'))
 (k:O M (⟨dst,op,ty,pos,af,none⟩ :: rest) E D H):O M (⟨dst,op,ty,pos,af,some (j,b')⟩ :: rest) E D H:=
 fun a w ha hw=>M.want _ _ _ _ _ _ _ _ _ (by
  simp only [Region.wanted,yielded_of ha.fit hj hf]
  simp) (k a w ha hw)
theorem Ok.over {N:Nat}{a:Act}(h:Ok N E D a) {t:Nat}{v:Value}(hf:E.find t=some v):Ok N ((t,v) :: E) D a:=⟨h.size,fun s u hu=>by
 rw [Env.find_cons] at hu
 split at hu
 · rename_i e;subst e;injection hu with hu;subst hu;exact h.fit _ _ hf
 · exact h.fit _ _ hu,h.dfr⟩
theorem oSplit {l:List Oper}{t:Nat}{p:Prop} [Decidable p] (hf:E.find t=some (.bool (decide p))) (k1:p→O M l ((t,.bool true) :: E) D H) (k0:¬ p→O M l ((t,.bool false) :: E) D H):O M l E D H:=by
 intro a w ha hw
 by_cases hp:p
 · exact k1 hp a w (ha.over (by rw [hf];simp [hp])) hw
 · exact k0 hp a w (ha.over (by rw [hf];simp [hp])) hw
theorem oSplitB {l:List Oper}{t:Nat}{p:Bool}(hf:E.find t=some (.bool p)) (k1:p=true→O M l ((t,.bool true) :: E) D H) (k0:p=false→O M l ((t,.bool false) :: E) D H):O M l E D H:=by
 intro a w ha hw
 cases p
 · exact k0 rfl a w (ha.over hf) hw
 · exact k1 rfl a w (ha.over hf) hw
theorem oSet {l:List Oper}{t:Nat}{v':Value}(hf:E.find t=some v) (e:v=v') (k:O M l ((t,v') :: E) D H):O M l E D H:=fun a w ha hw=>k a w (ha.over (by rw [hf,e])) hw

theorem oMove (h:E.op x=some v) (k:O M rest ((d,v) :: E) D H) (hN:Nat.blt d c.N=true:=by rfl):O M (⟨some d,.move x,ty,pos,af,none⟩ :: rest) E D H:=
 oC v rfl hN (fun a w ha hw=>by simp [execOp,ha.op h]) k
theorem oAssign (h:E.op x=some v) (k:O M rest ((d,v) :: E) D H) (hN:Nat.blt d c.N=true:=by rfl):O M (⟨some d,.assign x,ty,pos,af,none⟩ :: rest) E D H:=
 oC v rfl hN (fun a w ha hw=>by simp [execOp,ha.op h]) k
theorem oPickT (hx:E.op x=some (.bool true)) (h:E.op y=some v) (k:O M rest ((d,v) :: E) D H) (hN:Nat.blt d c.N=true:=by rfl):O M (⟨some d,.pick x y z,ty,pos,af,none⟩ :: rest) E D H:=
 oC v rfl hN (fun a w ha hw=>by simp [execOp,ha.op hx,ha.op h,asBool]) k
theorem oPickF (hx:E.op x=some (.bool false)) (h:E.op z=some v) (k:O M rest ((d,v) :: E) D H) (hN:Nat.blt d c.N=true:=by rfl):O M (⟨some d,.pick x y z,ty,pos,af,none⟩ :: rest) E D H:=
 oC v rfl hN (fun a w ha hw=>by simp [execOp,ha.op hx,ha.op h,asBool]) k
theorem oNot {p:Prop} [Decidable p] (hx:E.op x=some (.bool (decide p))) (k:O M rest ((d,.bool (decide (¬ p))) :: E) D H) (hN:Nat.blt d c.N=true:=by rfl):O M (⟨some d,.unOp .not t x,ty,pos,af,none⟩ :: rest) E D H:=
 oC _ rfl hN (fun a w ha hw=>by simp [execOp,ha.op hx,Op.unary]) k
theorem oNotB {p:Bool}(hx:E.op x=some (.bool p)) (k:O M rest ((d,.bool (!p)) :: E) D H) (hN:Nat.blt d c.N=true:=by rfl):O M (⟨some d,.unOp .not t x,ty,pos,af,none⟩ :: rest) E D H:=
 oC _ rfl hN (fun a w ha hw=>by simp [execOp,ha.op hx,Op.unary]) k
theorem run_eqGuard (op:BinOp) (t:TypeId) (x y:Operand) (k k':IntKind) (a b:Int) (P:Program) (w:World):(eqGuard op t x y (.int k a) (.int k' b)).run P w=.ok () w:=by
 unfold eqGuard;split <;> simp
section
variable {a b : Int}
theorem oCmp {op:BinOp}(r:Bool) (hx:E.op x=some (.int k a)) (hy:E.op y=some (.int k b)) (hr:∀ P w,(binOp op t (.int k a) (.int k b)).run P w=.ok (.bool r) w) (k:O M rest ((d,.bool r) :: E) D H) (hN:Nat.blt d c.N=true:=by rfl):O M (⟨some d,.binOp op t x y t',ty,pos,af,none⟩ :: rest) E D H:=
 oC _ rfl hN (fun u w ha hw=>by simp [execOp,ha.op hx,ha.op hy,run_eqGuard,hr]) k
theorem oLss (hx:E.op x=some (.int k a)) (hy:E.op y=some (.int k b)) (k:O M rest ((d,.bool (decide (a<b))) :: E) D H) (hN:Nat.blt d c.N=true:=by rfl):O M (⟨some d,.binOp .lss t x y t',ty,pos,af,none⟩ :: rest) E D H:=
 oCmp _ hx hy (fun P w=>by simp [binOp,Op.intCmp]) k hN
theorem oLeq (hx:E.op x=some (.int k a)) (hy:E.op y=some (.int k b)) (k:O M rest ((d,.bool (decide (a≤b))) :: E) D H) (hN:Nat.blt d c.N=true:=by rfl):O M (⟨some d,.binOp .leq t x y t',ty,pos,af,none⟩ :: rest) E D H:=
 oCmp _ hx hy (fun P w=>by simp [binOp,Op.intCmp]) k hN
theorem oGtr (hx:E.op x=some (.int k a)) (hy:E.op y=some (.int k b)) (k:O M rest ((d,.bool (decide (b<a))) :: E) D H) (hN:Nat.blt d c.N=true:=by rfl):O M (⟨some d,.binOp .gtr t x y t',ty,pos,af,none⟩ :: rest) E D H:=
 oCmp _ hx hy (fun P w=>by simp [binOp,Op.intCmp]) k hN
theorem oGeq (hx:E.op x=some (.int k a)) (hy:E.op y=some (.int k b)) (k:O M rest ((d,.bool (decide (b≤a))) :: E) D H) (hN:Nat.blt d c.N=true:=by rfl):O M (⟨some d,.binOp .geq t x y t',ty,pos,af,none⟩ :: rest) E D H:=
 oCmp _ hx hy (fun P w=>by simp [binOp,Op.intCmp]) k hN
theorem oEql (hx:E.op x=some (.int k a)) (hy:E.op y=some (.int k b)) (k:O M rest ((d,.bool (decide (a=b))) :: E) D H) (hN:Nat.blt d c.N=true:=by rfl):O M (⟨some d,.binOp .eql t x y t',ty,pos,af,none⟩ :: rest) E D H:=
 oCmp _ hx hy (fun P w=>by simp [binOp,Op.intCmp];rfl) k hN
theorem oNeq (hx:E.op x=some (.int k a)) (hy:E.op y=some (.int k b)) (k:O M rest ((d,.bool (decide (¬ a=b))) :: E) D H) (hN:Nat.blt d c.N=true:=by rfl):O M (⟨some d,.binOp .neq t x y t',ty,pos,af,none⟩ :: rest) E D H:=
 oCmp _ hx hy (fun P w=>by simp [binOp,Op.intCmp,bne];rfl) k hN
theorem oAri {op:BinOp}(r:Int) (hx:E.op x=some (.int k a)) (hy:E.op y=some (.int k b)) (hr:∀ P w,(binOp op t (.int k a) (.int k b)).run P w=.ok (.int k r) w) (k:O M rest ((d,.int k r) :: E) D H) (hN:Nat.blt d c.N=true:=by rfl):O M (⟨some d,.binOp op t x y t',ty,pos,af,none⟩ :: rest) E D H:=
 oC _ rfl hN (fun u w ha hw=>by simp [execOp,ha.op hx,ha.op hy,run_eqGuard,hr]) k
theorem oAddW (hx:E.op x=some (.int k a)) (hy:E.op y=some (.int k b)) (h:O M rest ((d,.int k (k.wrap (a+b))) :: E) D H) (hN:Nat.blt d c.N=true:=by rfl):O M (⟨some d,.binOp .add t x y t',ty,pos,af,none⟩ :: rest) E D H:=
 oAri _ hx hy (fun P w=>by simp [binOp,Op.intArith]) h hN
theorem oSubW (hx:E.op x=some (.int k a)) (hy:E.op y=some (.int k b)) (h:O M rest ((d,.int k (k.wrap (a-b))) :: E) D H) (hN:Nat.blt d c.N=true:=by rfl):O M (⟨some d,.binOp .sub t x y t',ty,pos,af,none⟩ :: rest) E D H:=
 oAri _ hx hy (fun P w=>by simp [binOp,Op.intArith]) h hN
def in64 (n:Int):Prop:=-9223372036854775808≤n∧n≤9223372036854775807
theorem wrap_in {n:Int}(h:in64 n):IntKind.i64.wrap n=n:=by
 obtain ⟨h1,h2⟩:=h
 exact IntWalk.i64_in n (by omega)
theorem oAdd (hx:E.op x=some (.int .i64 a)) (hy:E.op y=some (.int .i64 b)) (hr : -9223372036854775808≤a+b∧a+b≤9223372036854775807) (h:O M rest ((d,.int .i64 (a+b)) :: E) D H) (hN:Nat.blt d c.N=true:=by rfl):O M (⟨some d,.binOp .add t x y t',ty,pos,af,none⟩ :: rest) E D H:=
 oAddW hx hy (by rw [wrap_in hr];exact h) hN
theorem oSub (hx:E.op x=some (.int .i64 a)) (hy:E.op y=some (.int .i64 b)) (hr : -9223372036854775808≤a-b∧a-b≤9223372036854775807) (h:O M rest ((d,.int .i64 (a-b)) :: E) D H) (hN:Nat.blt d c.N=true:=by rfl):O M (⟨some d,.binOp .sub t x y t',ty,pos,af,none⟩ :: rest) E D H:=
 oSubW hx hy (by rw [wrap_in hr];exact h) hN
theorem oSucc {n:Nat}(hx:E.op x=some (.int .i64 (n:Int))) (hy:E.op y=some (.int .i64 1)) (hr:n≤9223372036854775806) (h:O M rest ((d,.int .i64 ((n+1:Nat):Int)) :: E) D H) (hN:Nat.blt d c.N=true:=by rfl):O M (⟨some d,.binOp .add t x y t',ty,pos,af,none⟩ :: rest) E D H:=
 oAdd hx hy (by omega) (by simpa using h) hN
theorem oRem (hx:E.op x=some (.int k a)) (hy:E.op y=some (.int k b)) (hr:b≠0) (h:O M rest ((d,.int k (a.tmod b)) :: E) D H) (hN:Nat.blt d c.N=true:=by rfl):O M (⟨some d,.binOp .rem t x y t',ty,pos,af,none⟩ :: rest) E D H:=
 oAri _ hx hy (fun P w=>by simp [binOp,Op.intDiv,hr]) h hN
end
section
variable {s r : ByteArray}
theorem toList_eq (s r:ByteArray):(s.toList == r.toList)=decide (s=r):=by
 rw [Bool.eq_iff_iff]
 simp only [beq_iff_eq,decide_eq_true_eq]
 constructor
 · intro h
   rw [ByteArray.toList_eq,ByteArray.toList_eq] at h
   cases s;cases r;simp_all [Array.toList_inj]
 · rintro rfl;rfl
theorem oStr {op:BinOp}(p:Bool) (hx:E.op x=some (.string s)) (hy:E.op y=some (.string r)) (hr:∀ P w,(binOp op t (.string s) (.string r)).run P w=.ok (.bool p) w) (k:O M rest ((d,.bool p) :: E) D H) (hN:Nat.blt d c.N=true:=by rfl):O M (⟨some d,.binOp op t x y t',ty,pos,af,none⟩ :: rest) E D H:=
 oC _ rfl hN (fun u w ha hw=>by
  have:(eqGuard op t x y (.string s) (.string r)).run c.P w=.ok () w:=by unfold eqGuard;split <;> simp
  simp [execOp,ha.op hx,ha.op hy,this,hr]) k
theorem oSEq (hx:E.op x=some (.string s)) (hy:E.op y=some (.string r)) (k:O M rest ((d,.bool (decide (s=r))) :: E) D H) (hN:Nat.blt d c.N=true:=by rfl):O M (⟨some d,.binOp .eql t x y t',ty,pos,af,none⟩ :: rest) E D H:=
 oStr _ hx hy (fun P w=>by simp [binOp,Op.stringOp,toList_eq]) k hN
theorem oSNe (hx:E.op x=some (.string s)) (hy:E.op y=some (.string r)) (k:O M rest ((d,.bool (decide (¬ s=r))) :: E) D H) (hN:Nat.blt d c.N=true:=by rfl):O M (⟨some d,.binOp .neq t x y t',ty,pos,af,none⟩ :: rest) E D H:=
 oStr _ hx hy (fun P w=>by simp [binOp,Op.stringOp,toList_eq]) k hN
end
end Go.Proofs.YtpmdhkjbhjgoaaaDoorK


/-
  Lists of cells: what is read, set, cut and built, as relations whose proofs spell the outcome.
-/
namespace Go.Proofs.YtpmdhkjbhjgoaaaDoorK
open Go.RowKit
section
variable {α : Type}
inductive SetAt:List α→Nat→α→List α→Prop
  | here {c v:α}{cs:List α} : SetAt (c :: cs) 0 v (v :: cs)
  | there {c v:α}{cs ds:List α}{n:Nat}(h:SetAt cs n v ds):SetAt (c :: cs) (n+1) v (c :: ds)
theorem SetAt.spec {cs ds:List α}{n:Nat}{v:α}(h:SetAt cs n v ds):n<cs.length∧cs.set n v=ds:=by
 induction h with
 | here=>simp
 | there _ ih=>simp [ih.1,ih.2]
inductive SubL:List α→Nat→Nat→List α→Prop
  | done {cs:List α} : SubL cs 0 0 []
  | take {c:α}{cs ds:List α}{n:Nat}(h:SubL cs 0 n ds):SubL (c :: cs) 0 (n+1) (c :: ds)
  | drop {c:α}{cs ds:List α}{i n:Nat}(h:SubL cs i n ds):SubL (c :: cs) (i+1) n ds
theorem SubL.spec {cs ds:List α}{i n:Nat}(h:SubL cs i n ds):(cs.drop i).take n=ds∧ds.length=n:=by
 induction h with
 | done=>simp
 | take _ ih=>simp [ih.1,ih.2];simpa using ih.1
 | drop _ ih=>simpa using ih
inductive PutL:List α→Nat→List α→List α→Prop
  | done {cs:List α} : PutL cs 0 [] cs
  | put {c v:α}{cs vs ds:List α}(h:PutL cs 0 vs ds):PutL (c :: cs) 0 (v :: vs) (v :: ds)
  | skip {c:α}{cs vs ds:List α}{n:Nat}(h:PutL cs n vs ds):PutL (c :: cs) (n+1) vs (c :: ds)
theorem PutL.len {cs vs ds:List α}{n:Nat}(h:PutL cs n vs ds):n+vs.length≤cs.length∧ds.length=cs.length:=by
 induction h with
 | done=>simp
 | put _ ih=>simp;omega
 | skip _ ih=>simp;omega
theorem PutL.step {cs vs ds:List α}{v:α}{n:Nat}(h:PutL cs n (v :: vs) ds):PutL (cs.set n v) (n+1) vs ds:=by
 generalize he:v :: vs=us at h
 induction h with
 | done=>cases he
 | put h ih=>
  injection he with e1 e2
  subst e1 e2
  exact .skip h
 | skip h ih=>exact .skip (ih he)
theorem PutL.nil {cs ds:List α}{n:Nat}(h:PutL cs n [] ds):cs=ds:=by
 generalize he:([]:List α)=us at h
 induction h with
 | done=>rfl
 | put h ih=>cases he
 | skip h ih=>rw [ih he]
theorem PutL.fold {off:Nat} : ∀ {vs cs ds:List α}(k:Nat),PutL cs (off+k) vs ds→(vs.zipIdx k).foldl (fun (cs:Array α) (p:α×Nat)=>cs.setIfInBounds (off+p.2) p.1) cs.toArray=ds.toArray
 | [],cs,ds,k,h=>by rw [h.nil];rfl
 | v :: vs,cs,ds,k,h=>by
  rw [List.zipIdx_cons,List.foldl_cons]
  simp only [List.setIfInBounds_toArray]
  exact PutL.fold (k+1) h.step
end
inductive CellsOf:Value→List Value→Prop
  | agg {vs:List Value} : CellsOf (.agg vs.toArray) vs
  | one {v:Value}(h:v.cells=#[v]):CellsOf v [v]
theorem CellsOf.spec {v:Value}{vs:List Value}(h:CellsOf v vs):v.cells=vs.toArray:=by
 cases h with
 | agg=>rfl
 | one h=>exact h
inductive Built (place:Nat→Option (Nat×Nat)):List Value→List (Nat×Value)→List Value→Prop
  | nil {cs:List Value} : Built place cs [] cs
  | cons {cs ds es vs:List Value}{i off s:Nat}{v:Value}{rest:List (Nat×Value)}(h:place i=some (off,s)) (hc:CellsOf v vs) (hl:vs.length=s) (hp:PutL cs off vs ds) (k:Built place ds rest es):Built place cs ((i,v) :: rest) es
theorem Built.spec {place:Nat→Option (Nat×Nat)}{cs es:List Value}{ps:List (Nat×Value)}(h:Built place cs ps es):Instr.fill place cs.toArray ps=some es.toArray:=by
 induction h with
 | nil=>rfl
 | @cons cs ds es vs i off s v rest h hc hl hp k ih=>
  have h1:=hc.spec
  have h2:=hp.len
  rw [Instr.fill,h]
  simp only []
  rw [if_neg (by rw [h1];simp;omega),h1]
  have h3:=PutL.fold (off:=off) 0 (by simpa using hp)
  rw [show vs.toArray.zipIdx=(vs.zipIdx 0).toArray by simp,List.foldl_toArray']
  · exact h3 ▸ ih
  · simp
inductive Parts (E:Env):List (Nat×Operand)→List (Nat×Value)→Prop
  | nil:Parts E [] []
  | cons {i:Nat}{x:Operand}{v:Value}{ps:List (Nat×Operand)}{vs:List (Nat×Value)}(h:E.op x=some v) (k:Parts E ps vs):Parts E ((i,x) :: ps) ((i,v) :: vs)
theorem Parts.spec {E:Env}{a:Act}(ha:Fits E a) {ps:List (Nat×Operand)}{vs:List (Nat×Value)}(h:Parts E ps vs):ps.map (fun p=>(p.1,a.eval p.2))=vs:=by
 induction h with
 | nil=>rfl
 | cons h _ ih=>simp [ha.op h,ih]
end Go.Proofs.YtpmdhkjbhjgoaaaDoorK


/-
  The walk's rules for memory: fields, elements, loads, stores, new variables, rows that grow, maps.
-/
namespace Go.Proofs.YtpmdhkjbhjgoaaaDoorK
open Go.RowKit
section
variable {c : Cx} {M : Md c} {d : Nat} {ty : TypeId} {pos : String} {af : Array Edge} {rest : List Oper} {E : Env} {D : List Deferred} {H H' H'' : List Res} {v : Value} {x y z : Operand} {k : IntKind} {t t' : TypeId}

def scalT (P:Program) (t:TypeId):Bool:=match P.underlying t with
  | some (.struct _)=>false
  | some (.array _ _)=>false
  | some _=>true
  | none=>false
def aggN (P:Program) (t:TypeId):Option Nat:=match P.underlying t with
  | some (.struct _)=>(P.info? t).map (·.size)
  | some (.array _ _)=>(P.info? t).map (·.size)
  | _=>none
def fplace (P:Program) (s:TypeId) (j:Nat):Option Nat:=match P.underlying s with
  | some (.struct fs)=>match fs[j]? with
    | some f=>match P.info? f.type with
      | some i=>bif Nat.beq i.size 0 then none else some f.offset
      | none=>none
    | none=>none
  | _=>none
def elemT (P:Program) (t:TypeId):Option (TypeId×Nat):=match P.underlying t with
  | some (.slice e)=>(P.info? e).map fun i=>(e,i.size)
  | _=>none
theorem run_isAgg_s {P:Program}{t:TypeId}(h:scalT P t=true) (w:World):(isAgg t).run P w=.ok false w:=by
 unfold scalT at h
 unfold isAgg
 cases hu:P.underlying t with
 | none=>rw [hu] at h;cases h
 | some u=>
  rw [hu] at h
  rw [Sem.run_bind,run_underlying hu w]
  cases u <;> simp_all
theorem run_isAgg_a {P:Program}{t:TypeId}{n:Nat}(h:aggN P t=some n) (w:World):(isAgg t).run P w=.ok true w∧(sizeOf t).run P w=.ok n w:=by
 unfold aggN at h
 unfold isAgg
 cases hu:P.underlying t with
 | none=>rw [hu] at h;cases h
 | some u=>
  rw [hu] at h
  rw [Sem.run_bind,run_underlying hu w]
  cases u <;> simp only [reduceCtorEq,Option.map_eq_some_iff] at h
  all_goals
   obtain ⟨i,hi,rfl⟩:=h
   exact ⟨by simp,by simp [sizeOf,typeInfo,hi]⟩
theorem run_fieldAt {P:Program}{s:TypeId}{j n:Nat}(h:fplace P s j=some n) (a:Addr) (w:World):(Instr.fieldAt s (.pointer (some a)) j).run P w=.ok (.pointer (some (a.add n))) w:=by
 unfold fplace at h
 cases hu:P.underlying s with
 | none=>rw [hu] at h;cases h
 | some u=>
  rw [hu] at h
  cases u with
  | struct fs=>
   simp only [] at h
   cases hf:fs[j]? with
   | none=>rw [hf] at h;cases h
   | some f=>
    rw [hf] at h
    simp only [] at h
    cases hi:P.info? f.type with
    | none=>rw [hi] at h;cases h
    | some i=>
     rw [hi] at h
     simp only [] at h
     cases hb:Nat.beq i.size 0 with
     | true=>rw [hb] at h;cases h
     | false=>
      rw [hb] at h
      injection h with h
      subst h
      have hs:i.size≠0:=by intro e;rw [e] at hb;cases hb
      simp [Instr.fieldAt,Instr.sureAddr,run_underlying hu,hf,fieldPlace,sizeOf,typeInfo,hi,hs]
  | _=>cases h
theorem run_elemT {P:Program}{t e:TypeId}{n:Nat}(h:elemT P t=some (e,n)):P.underlying t=some (.slice e)∧∃ i,P.info? e=some i∧i.size=n:=by
 unfold elemT at h
 cases hu:P.underlying t with
 | none=>rw [hu] at h;cases h
 | some u=>
  rw [hu] at h
  cases u <;> simp only [reduceCtorEq,Option.map_eq_some_iff,Prod.mk.injEq] at h
  obtain ⟨i,hi,rfl,rfl⟩:=h
  exact ⟨rfl,i,hi,rfl⟩
theorem add_at (b i j:Nat):(⟨b,i,none⟩:Addr).add j=⟨b,i+j,none⟩:=by unfold Addr.add;split <;> simp_all

@[irreducible] def adr (e:Addr) (k:Nat):Addr:=e.add k
theorem adr_add (e:Addr) (k j:Nat):(adr e k).add j=adr e (k+j):=by unfold adr;exact Addr.add_add _ _ _
@[irreducible] def elt (g i s k:Nat):Addr:=⟨g,i * s+k,none⟩
theorem elt_add (g i s k j:Nat):(elt g i s k).add j=elt g i s (k+j):=by unfold elt;rw [add_at,Nat.add_assoc]
theorem oPtr {a:Addr}(hx:E.op x=some (.pointer (some a))) (h:O M rest ((d,.pointer (some a)) :: E) D H) (hN:Nat.blt d c.N=true:=by rfl):O M (⟨some d,.nilCheck x,ty,pos,af,none⟩ :: rest) E D H:=
 oC _ rfl hN (fun u w ha hw=>by simp [execOp,ha.op hx]) h
theorem oFld {b i j n m:Nat}(hx:E.op x=some (.pointer (some ⟨b,i,none⟩))) (hf:fplace c.P t j=some n) (hm:i+n=m) (h:O M rest ((d,.pointer (some ⟨b,m,none⟩)) :: E) D H) (hN:Nat.blt d c.N=true:=by rfl):O M (⟨some d,.fieldAddr t x j,ty,pos,af,none⟩ :: rest) E D H:=
 oC _ rfl hN (fun u w ha hw=>by simp [execOp,ha.op hx,run_fieldAt hf,add_at,hm]) h
theorem oLd {b i:Nat}{tb:TypeId}{cs:List Value}(hx:E.op x=some (.pointer (some ⟨b,i,none⟩))) (hp:Pick H (blk b tb cs) H') (hv:cs[i]?=some v) (hs:scalT c.P t=true) (h:O M rest ((d,v) :: E) D H) (hN:Nat.blt d c.N=true:=by rfl):O M (⟨some d,.load t x,ty,pos,af,none⟩ :: rest) E D H:=
 oC _ rfl hN (fun u w ha hw=>by
  have hc:=hw.cell hp i hv
  simp [execOp,ha.op hx,Instr.loadAt,Instr.sureAddr,loadVar,run_isAgg_s hs,hc]) h
theorem oLdA {b i n:Nat}{tb:TypeId}{cs vs:List Value}(hx:E.op x=some (.pointer (some ⟨b,i,none⟩))) (hp:Pick H (blk b tb cs) H') (hs:aggN c.P t=some n) (hv':SubL cs i n vs) (h:O M rest ((d,.agg vs.toArray) :: E) D H) (hN:Nat.blt d c.N=true:=by rfl):O M (⟨some d,.load t x,ty,pos,af,none⟩ :: rest) E D H:=
 oC _ rfl hN (fun u w ha hw=>by
  obtain ⟨hv,hl⟩:=hv'.spec
  have h1:=run_isAgg_a hs w
  have h2:=run_loadCells_list (P:=c.P) w ⟨b,i,none⟩ vs (fun j u hu=>by
   rw [add_at]
   refine hw.cell hp (i+j) ?_
   rw [← hv,List.getElem?_take,List.getElem?_drop] at hu
   split at hu
   · exact hu
   · cases hu)
  rw [hl] at h2
  simp [execOp,ha.op hx,Instr.loadAt,Instr.sureAddr,loadVar,h1.1,h1.2,h2]) h

theorem oLdX {e:Addr}{i:Nat}{cs:List Value}(hx:E.op x=some (.pointer (some (adr e i)))) (hc:∀ j u,cs[j]?=some u→c.B.e.cell? (adr e j)=some u) (hv:cs[i]?=some v) (hs:scalT c.P t=true) (h:O M rest ((d,v) :: E) D H) (hN:Nat.blt d c.N=true:=by rfl):O M (⟨some d,.load t x,ty,pos,af,none⟩ :: rest) E D H:=
 oC _ rfl hN (fun u w ha hw=>by
  have hc:=hw.ext (hc i v hv)
  simp [execOp,ha.op hx,Instr.loadAt,Instr.sureAddr,loadVar,run_isAgg_s hs,hc]) h
theorem oLdXA {e:Addr}{i n:Nat}{cs vs:List Value}(hx:E.op x=some (.pointer (some (adr e i)))) (hc:∀ j u,cs[j]?=some u→c.B.e.cell? (adr e j)=some u) (hs:aggN c.P t=some n) (hv':SubL cs i n vs) (h:O M rest ((d,.agg vs.toArray) :: E) D H) (hN:Nat.blt d c.N=true:=by rfl):O M (⟨some d,.load t x,ty,pos,af,none⟩ :: rest) E D H:=
 oC _ rfl hN (fun u w ha hw=>by
  obtain ⟨hv,hl⟩:=hv'.spec
  have h1:=run_isAgg_a hs w
  have h2:=run_loadCells_list (P:=c.P) w (adr e i) vs (fun j u hu=>by
   rw [adr_add]
   refine hw.ext (hc (i+j) u ?_)
   rw [← hv,List.getElem?_take,List.getElem?_drop] at hu
   split at hu
   · exact hu
   · cases hu)
  rw [hl] at h2
  simp [execOp,ha.op hx,Instr.loadAt,Instr.sureAddr,loadVar,h1.1,h1.2,h2]) h
theorem run_indexAt {P:Program}{t e:TypeId}{s:Nat}(ht:elemT P t=some (e,s)) (b:Addr) (n cp i:Nat) (hi:i<n) (k:IntKind) (w:World):(Instr.indexAt t (.slice (some b) n cp) (.int k (i:Int))).run P w=.ok (.pointer (some (b.add (i * s)))) w:=by
 obtain ⟨h1,inf,h2,rfl⟩:=run_elemT ht
 simp [Instr.indexAt,asIntOf,run_underlying h1,sizeOf,typeInfo,h2,hi]
theorem oIdx {α:Type}{kd:Kd α}{A:Option Addr}{xs:List α}{i:Nat}{n cp:Nat}{e:TypeId}{s:Nat}(hx:E.op x=some (.slice A n cp)) (hy:E.op y=some (.int k (i:Int))) (hC:kd.C c.B.e A xs) (hn:xs.length=n) (hi:i<n) (ht:elemT c.P t=some (e,s)) (hsz:kd.sz=s)
 (h:∀ e' u cs,xs[i]?=some u→kd.K c.B.e u cs→(∀ j v,cs[j]?=some v→c.B.e.cell? (adr e' j)=some v)→O M rest ((d,.pointer (some (adr e' 0))) :: E) D H) (hN:Nat.blt d c.N=true:=by rfl):O M (⟨some d,.indexAddr t x y,ty,pos,af,none⟩ :: rest) E D H:=by
 subst hn hsz
 obtain ⟨_,hC⟩:=hC
 obtain ⟨ad,rfl,hc⟩:=hC (by omega)
 obtain ⟨cs,hK,hcell⟩:=hc i _ (List.getElem?_eq_getElem hi)
 refine oC (.pointer (some (adr (ad.add (i * kd.sz)) 0))) rfl hN (fun u w ha hw=>?_) (h (ad.add (i * kd.sz)) _ cs (List.getElem?_eq_getElem hi) hK (fun j v hv=>?_))
 · have e1:adr (ad.add (i * kd.sz)) 0=ad.add (i * kd.sz):=by unfold adr;rfl
   simp [execOp,ha.op hx,ha.op hy,run_indexAt ht ad _ cp i hi k w,e1]
 · have e1:adr (ad.add (i * kd.sz)) j=ad.add (i * kd.sz+j):=by unfold adr;exact Addr.add_add _ _ _
   rw [e1];exact hcell j v hv
theorem oLenS {A:Option Addr}{n cp:Nat}{e:TypeId}{s:Nat}(hx:E.op x=some (.slice A n cp)) (ht:elemT c.P t=some (e,s)) (h:O M rest ((d,.int .i64 (n:Int)) :: E) D H) (hN:Nat.blt d c.N=true:=by rfl):O M (⟨some d,.call { callee:=.builtin .len,args:=#[x],argTypes:=#[t] },ty,pos,af,none⟩ :: rest) E D H:=
 oC _ rfl hN (fun u w ha hw=>by
  obtain ⟨h1,_⟩:=run_elemT ht
  simp [execOp,resolve,ha.op hx,invoke,builtin,Builtin.len_,run_underlying h1,goInt]) h
theorem oLenStr {s:ByteArray}(hx:E.op x=some (.string s)) (ht:c.P.underlying t=some .string) (h:O M rest ((d,.int .i64 (s.size:Int)) :: E) D H) (hN:Nat.blt d c.N=true:=by rfl):O M (⟨some d,.call { callee:=.builtin .len,args:=#[x],argTypes:=#[t] },ty,pos,af,none⟩ :: rest) E D H:=
 oC _ rfl hN (fun u w ha hw=>by
  simp [execOp,resolve,ha.op hx,invoke,builtin,Builtin.len_,run_underlying ht,goInt]) h
inductive GetAt:List Value→Nat→Value→Prop
  | here {v:Value}{cs:List Value} : GetAt (v :: cs) 0 v
  | there {c v:Value}{cs:List Value}{n:Nat}(h:GetAt cs n v):GetAt (c :: cs) (n+1) v
theorem GetAt.spec {cs:List Value}{n:Nat}{v:Value}(h:GetAt cs n v):cs[n]?=some v:=by
 induction h with
 | here=>rfl
 | there _ ih=>simpa using ih
theorem oExt {vs:List Value}{j:Nat}(hx:E.op x=some (.tuple vs.toArray)) (hv:GetAt vs j v) (h:O M rest ((d,v) :: E) D H) (hN:Nat.blt d c.N=true:=by rfl):O M (⟨some d,.extract x j,ty,pos,af,none⟩ :: rest) E D H:=
 oC _ rfl hN (fun u w ha hw=>by simp [execOp,ha.op hx,Instr.extract,hv.spec]) h
def placeS (P:Program) (t:TypeId) (i:Nat):Option (Nat×Nat):=match P.underlying t with
  | some (.struct fs)=>(fs[i]?).map fun f=>(f.offset,P.cellsOf f.type)
  | _=>none
def allS (P:Program) (t:TypeId):Bool:=match P.underlying t with
  | some (.struct fs)=>fs.toList.all fun f=>(P.info? f.type).isSome
  | _=>false
theorem run_places {P:Program} : ∀ (l:List Field) (w:World),(l.all fun f=>(P.info? f.type).isSome)=true→Sem.run P (l.mapM fun (f:Field)=>Prod.mk f.offset <$> sizeOf f.type) w=.ok (l.map fun f=>(f.offset,P.cellsOf f.type)) w
 | [],w,h=>by simp
 | f :: l,w,h=>by
  simp only [List.all_cons,Bool.and_eq_true] at h
  obtain ⟨i,hi⟩:=Option.isSome_iff_exists.1 h.1
  have ih:=run_places l w h.2
  rw [List.mapM_cons]
  have h1:Sem.run P (Prod.mk f.offset <$> sizeOf f.type) w=.ok (f.offset,P.cellsOf f.type) w:=by simp [sizeOf,typeInfo,hi,Program.cellsOf]
  simp only [Sem.run_bind,h1,Result.andThen_ok,ih,Sem.run_pure,List.map_cons]
theorem run_build {P:Program}{t:TypeId}{zs us:List Value}{vs:List (Nat×Value)}(hz:((P.info? t).map (·.zero))=some (some (.agg zs.toArray))) (ha:allS P t=true) (hb:Built (placeS P t) zs vs us) (w:World):(Instr.build t vs.toArray).run P w=.ok (.agg us.toArray) w:=by
 obtain ⟨i,hi,hz⟩:=Option.map_eq_some_iff.1 hz
 unfold allS at ha
 cases hu:P.underlying t with
 | none=>rw [hu] at ha;cases ha
 | some un=>
  rw [hu] at ha
  cases un <;> simp only [Bool.false_eq_true] at ha
  rename_i fs
  have hp:Sem.run P (fs.mapM fun (f:Field)=>Prod.mk f.offset <$> sizeOf f.type) w=.ok ((fs.toList.map fun f=>(f.offset,P.cellsOf f.type)).toArray) w:=by
   rw [Array.mapM_eq_mapM_toList]
   simp [run_places fs.toList w ha]
  have he:placeS P t=fun x=>Option.map (fun f=>(f.offset,P.cellsOf f.type)) fs[x]?:=by
   funext i
   simp [placeS,hu]
  have hf:=hb.spec
  rw [he] at hf
  simp only [Instr.build,Sem.run_bind,zeroValue,typeInfo,Sem.run_pure]
  simp [hi,hz,run_underlying hu,Value.cells,hp]
  rw [hf]
  simp
theorem oBuild {ps:Array (Nat×Operand)}{vs:List (Nat×Value)}{zs us:List Value}(hx:Parts E ps.toList vs) (hz:((c.P.info? t).map (·.zero))=some (some (.agg zs.toArray))) (ha:allS c.P t=true) (hb:Built (placeS c.P t) zs vs us) (h:O M rest ((d,.agg us.toArray) :: E) D H) (hN:Nat.blt d c.N=true:=by rfl):O M (⟨some d,.build t ps,ty,pos,af,none⟩ :: rest) E D H:=
 oC _ rfl hN (fun u w hf hw=>by
  have h2:(ps.map fun (i,x)=>(i,u.eval x))=vs.toArray:=by
   apply Array.toList_inj.1
   simpa using hx.spec hf
  simp only [execOp,Sem.run_bind,h2,run_build hz ha hb w,Result.andThen_ok,Sem.run_pure]) h
end
end Go.Proofs.YtpmdhkjbhjgoaaaDoorK


/-
  The walk's rules for operations that turn the world: new variables, stores, rows, maps, calls; and how a function is entered and left.
-/
namespace Go.Proofs.YtpmdhkjbhjgoaaaDoorK
open Go.RowKit
section
variable {c : Cx} {M : Me c} {d : Nat} {dst : Option Nat} {ty : TypeId} {pos : String} {af : Array Edge} {rest : List Oper} {E : Env} {D : List Deferred} {H H' H'' : List Res} {v : Value} {x y z : Operand} {k : IntKind} {t t' : TypeId}
variable {B : Base} {w w' : World} {Φ Φ' Φ'' : List Res}

theorem oEff {op:Op}(hp:plain op=true) (hN:Nat.blt d c.N=true) (hy:∀ a w,Fits E a→St c.B H w→∃ v w' H',(execOp a.eval ⟨some d,op,ty,pos,af,none⟩).run c.P w=.ok (.value v) w'∧St c.B H' w'∧O M.toMd rest ((d,v) :: E) D H') :
 O M.toMd (⟨some d,op,ty,pos,af,none⟩ :: rest) E D H:=by
 intro a w ha hw
 obtain ⟨v,w',H',h1,h2,h3⟩:=hy a w ha.fit hw
 exact M.eff _ _ _ _ v w' rfl hp h1 (h3 _ _ (ha.put hN) h2)
theorem oEffs {op:Op}(hp:plain op=true) (hy:∀ a w,Fits E a→St c.B H w→∃ w' H',(execOp a.eval ⟨none,op,ty,pos,af,none⟩).run c.P w=.ok .skip w'∧St c.B H' w'∧O M.toMd rest E D H') :
 O M.toMd (⟨none,op,ty,pos,af,none⟩ :: rest) E D H:=by
 intro a w ha hw
 obtain ⟨w',H',h1,h2,h3⟩:=hy a w ha.fit hw
 exact M.effs _ _ _ _ w' rfl hp h1 (h3 _ _ ha.put_none h2)

theorem St.upd' {r r':Res}(h:St B Φ w) (hu:Pick Φ r Φ') (hc:Chg w w' r.fp) (hq:r'.q w') (hf:∀ k,r'.fp k→r.fp k∨w.heap.size≤k):St B (r' :: Φ') w':=
 (h.perm hu.perm).upd .here hc hq hf
theorem oAlloc {zv:Value}{cs:List Value}(hz:((c.P.info? t).map (·.zero))=some (some zv)) (hcs:CellsOf zv cs) (h:∀ b,O M.toMd rest ((d,.pointer (some ⟨b,0,none⟩)) :: E) D (blk b t cs :: H)) (hN:Nat.blt d c.N=true:=by rfl):O M.toMd (⟨some d,.alloc t,ty,pos,af,none⟩ :: rest) E D H:=
 oEff rfl hN fun a w ha hw=>by
  obtain ⟨i,hi,hz⟩:=Option.map_eq_some_iff.1 hz
  refine ⟨_,w.alloc (.cells zv.cells t),_,?_,?_,h w.heap.size⟩
  · simp [execOp,Instr.alloc,zeroValue,typeInfo,hi,hz,newVar,newRow]
  · rw [hcs.spec];exact hw.alloc (.cells cs.toArray t)
theorem oBox {cs:List Value}(hx:E.op x=some v) (hcs:CellsOf v cs) (h:∀ b,O M.toMd rest ((d,.pointer (some ⟨b,0,none⟩)) :: E) D (blk b t cs :: H)) (hN:Nat.blt d c.N=true:=by rfl):O M.toMd (⟨some d,.box t x,ty,pos,af,none⟩ :: rest) E D H:=
 oEff rfl hN fun a w ha hw=>by
  refine ⟨_,w.alloc (.cells v.cells t),_,?_,?_,h w.heap.size⟩
  · simp [execOp,Instr.box,newVar,newRow,ha.op hx]
  · rw [hcs.spec];exact hw.alloc (.cells cs.toArray t)
theorem run_store1 {P:Program}{b i:Nat}{t tb:TypeId}{cs:List Value}{v:Value}(hb:w.heap[b]?=some (.cells cs.toArray tb (0,0))) (hi:i<cs.length) (hv:v.cells=#[v]) (h1:v.oneCell'=true) (hs:(P.info? t).map (·.size)=some 1) :
 (Instr.storeAt t (.pointer (some ⟨b,i,none⟩)) v).run P w=.ok () (w.setCell ⟨b,i,none⟩ v):=by
 obtain ⟨inf,hi',hs⟩:=Option.map_eq_some_iff.1 hs
 have hc:w.cell? ⟨b,i,none⟩=some cs[i]:=by rw [cell_of hb];simp [hi]
 have hf:w.frozen? ⟨b,i,none⟩=false:=frozen_of hb
 have hst:(storeCells ⟨b,i,none⟩ [v]).run P w=.ok () (w.setCell ⟨b,i,none⟩ v):=by
  cases v <;> simp_all [storeCells,store,Sem.run,Value.oneCell',Addr.add,Sem.run_bind]
 simp [Instr.storeAt,Instr.sureAddr,storeVar,sizeOf,typeInfo,hi',hs,hv,hst]
theorem oSt {b i:Nat}{tb:TypeId}{cs cs':List Value}(hx:E.op x=some (.pointer (some ⟨b,i,none⟩))) (hy:E.op y=some v) (hv:v.cells=#[v]) (h1:v.oneCell'=true) (hs:(c.P.info? t).map (·.size)=some 1) (hp:Pick H (blk b tb cs) H') (hcs':SetAt cs i v cs')
 (h:O M.toMd rest E D (blk b tb cs' :: H')):O M.toMd (⟨none,.store t x y,ty,pos,af,none⟩ :: rest) E D H:=
 oEffs rfl fun a w ha hw=>by
  obtain ⟨hi,hcs⟩:=hcs'.spec
  subst hcs
  have hb:w.heap[b]?=some (.cells cs.toArray tb (0,0)):=hw.get hp
  refine ⟨w.setCell ⟨b,i,none⟩ v,blk b tb (cs.set i v) :: H',?_,hw.upd' hp (Chg.setCell w ⟨b,i,none⟩ v) (set_heap hb) (fun k hk=>.inl hk),h⟩
  simp [execOp,ha.op hx,ha.op hy,run_store1 hb hi hv h1 hs]
theorem oStA {b:Nat}{tb:TypeId}{cs vs:List Value}(hx:E.op x=some (.pointer (some ⟨b,0,none⟩))) (hy:E.op y=some (.agg vs.toArray)) (h1:vs.all (·.oneCell')=true) (hs:(c.P.info? t).map (·.size)=some vs.length) (hp:Pick H (blk b tb cs) H') (hl:cs.length=vs.length)
 (h:O M.toMd rest E D (blk b tb vs :: H')):O M.toMd (⟨none,.store t x y,ty,pos,af,none⟩ :: rest) E D H:=
 oEffs rfl fun a w ha hw=>by
  have hb:w.heap[b]?=some (.cells cs.toArray tb (0,0)):=hw.get hp
  have hrun:=run_storeVar_row (P:=c.P) w b tb t cs.toArray vs.toArray hb (by simpa using hs) (by simpa using hl) (by simpa using h1)
  have hc:Chg w (w.setRow b vs.toArray) (fun k=>k=b):=⟨rfl,rfl,rfl,by simp [World.setRow],fun k _ hn=>by rw [World.setRow];simp only [Array.getElem?_modify];rw [if_neg (fun h=>hn h.symm)]⟩
  refine ⟨w.setRow b vs.toArray,blk b tb vs :: H',?_,hw.upd' hp hc ?_ (fun k hk=>.inl hk),h⟩
  · simp [execOp,ha.op hx,ha.op hy,Instr.storeAt,Instr.sureAddr,hrun]
  · show (w.setRow b vs.toArray).heap[b]?=_
    rw [World.setRow];simp only [Array.getElem?_modify,if_true,hb,Option.map_some]

def Cat {α:Type}(kd:Kd α) (w:World):List α→List Value→Prop
  | [],cs=>cs=[]
  | x :: xs,cs=>∃ a rest,cs=a++rest∧kd.K w x a∧Cat kd w xs rest
theorem Cat.len {α:Type}{kd:Kd α}{w:World} : ∀ {xs:List α}{cs:List Value},Cat kd w xs cs→cs.length=xs.length * kd.sz
 | [],cs,h=>by rw [h];simp
 | x :: xs,cs,⟨a,rest,e,hK,hR⟩=>by rw [e,List.length_append,kd.K_len hK,hR.len,List.length_cons,Nat.succ_mul];omega
theorem Cat.at {α:Type}{kd:Kd α}{w:World} : ∀ {xs:List α}{cs:List Value},Cat kd w xs cs→∀ j x,xs[j]?=some x→∃ a,kd.K w x a∧∀ i u,a[i]?=some u→cs[j * kd.sz+i]?=some u
 | [],_,_,j,x,hj=>by simp at hj
 | y :: xs,cs,⟨a,rest,e,hK,hR⟩,0,x,hj=>by
  obtain rfl:y=x:=by simpa using hj
  refine ⟨a,hK,fun i u hu=>?_⟩
  have hi:i<a.length:=(List.getElem?_eq_some_iff.1 hu).1
  rw [e,Nat.zero_mul,Nat.zero_add,List.getElem?_append_left hi,hu]
 | y :: xs,cs,⟨a,rest,e,hK,hR⟩,j+1,x,hj=>by
  obtain ⟨c2,h1,h2⟩:=Cat.at hR j x (by simpa using hj)
  refine ⟨c2,h1,fun i u hu=>?_⟩
  have hl:=kd.K_len hK
  rw [e,List.getElem?_append_right (by rw [hl,Nat.succ_mul];omega),hl,show (j+1) * kd.sz+i-kd.sz=j * kd.sz+i by rw [Nat.succ_mul];omega]
  exact h2 i u hu
theorem Cat.app {α:Type}{kd:Kd α}{w:World} : ∀ {xs ys:List α}{cs ds:List Value},Cat kd w xs cs→Cat kd w ys ds→Cat kd w (xs++ys) (cs++ds)
 | [],ys,cs,ds,h,k=>by rw [h];simpa using k
 | x :: xs,ys,cs,ds,⟨a,rest,e,hK,hR⟩,k=>⟨a,rest++ds,by rw [e,List.append_assoc],hK,hR.app k⟩
theorem Cat.one {α:Type}{kd:Kd α}{w:World}{x:α}{a:List Value}(h:kd.K w x a):Cat kd w [x] a:=⟨a,[],by simp,h,rfl⟩
theorem Cat.ones {α:Type}{kd:Kd α}{w:World} : ∀ {xs:List α}{cs:List Value},Cat kd w xs cs→∀ u ∈ cs,u.oneCell'=true
 | [],cs,h=>by rw [h];simp
 | x :: xs,cs,⟨a,rest,e,hK,hR⟩=>by
  intro u hu
  rw [e] at hu
  rcases List.mem_append.1 hu with h | h
  · exact kd.K_one hK u h
  · exact hR.ones u h
theorem Cat.take {α:Type}{kd:Kd α}{w:World} : ∀ {xs:List α}{cs:List Value}(n:Nat),Cat kd w xs cs→Cat kd w (xs.take n) (cs.take (n * kd.sz))
 | [],cs,n,h=>by rw [h];simp [Cat]
 | x :: xs,cs,0,h=>by simp [Cat]
 | x :: xs,cs,n+1,⟨a,rest,e,hK,hR⟩=>by
  refine ⟨a,rest.take (n * kd.sz),?_,hK,hR.take n⟩
  have hl:=kd.K_len hK
  rw [e,List.take_append,List.take_of_length_le (by rw [hl,Nat.succ_mul];omega),hl,show (n+1) * kd.sz-kd.sz=n * kd.sz by rw [Nat.succ_mul];omega]
theorem Cat.grow {α:Type}{kd:Kd α}{w w':World}(g:Grow w w'):∀ {xs:List α}{cs:List Value},Cat kd w xs cs→Cat kd w' xs cs
 | [],cs,h=>h
 | x :: xs,cs,⟨a,rest,e,hK,hR⟩=>⟨a,rest,e,kd.K_grow g hK,Cat.grow g hR⟩
def row {α:Type}(kd:Kd α) (W:World) (e:TypeId) (v:Value) (xs:List α):Res where
  fp k:=v.ownBlock=some k
  q w:=∃ cs,w.ownsRow 0 e kd.sz v xs.length cs∧Cat kd W xs cs
  inb w h k hk:=by obtain ⟨cs,ho,_⟩:=h;exact (ho.lt k hk).2
  st w w' h hk:=by
    obtain ⟨cs,ho,hr⟩:=h
    refine ⟨cs,?_,hr⟩
    obtain ⟨h1,h2⟩:=ho
    refine ⟨h1,?_⟩
    rcases h2 with h2 | ⟨g,cap,cur,rfl,hg,hh,r⟩
    · exact .inl h2
    · exact .inr ⟨g,cap,cur,rfl,hg,(hk g (by simp [Value.ownBlock])).trans hh,r⟩
theorem St.nilrow {α:Type}(kd:Kd α) (W:World) (e:TypeId) (h:St B Φ w):St B (row kd W e (.slice none 0 0) [] :: Φ) w:=
 h.add (Chg.refl _ _) ⟨[],World.ownsRow_nil _ _ _ _,rfl⟩ (fun k hk=>by simp [row,Value.ownBlock] at hk)
theorem Leads.nilrow {α:Type}{kd:Kd α}{W:World}{e:TypeId} : Leads B Φ (row kd W e (.slice none 0 0) [] :: Φ):=fun _ h=>h.nilrow kd W e
theorem row_C {α:Type}{kd:Kd α}{W:World}{e:TypeId}{A:Option Addr}{n cp:Nat}{xs:List α}(h:(row kd W e (.slice A n cp) xs).q w) (g:Grow W w):n=xs.length∧n≤cp∧kd.C w A xs∧(0<n→∃ b,A=some ⟨b,0,none⟩):=by
 obtain ⟨cs,⟨hl,ho⟩,hr⟩:=h
 rcases ho with ⟨e1,e2⟩ | ⟨b,cap,cur,e1,_,hh,h1,h2,h3,h4⟩
 · injection e1 with e1 e3 e4
   subst e1 e3 e4
   have:xs=[]:=List.eq_nil_of_length_eq_zero e2
   subst this
   exact ⟨rfl,Nat.le_refl _,Kd.C_nil _ _ _,fun h=>absurd h (by omega)⟩
 · injection e1 with e1 e3 e4
   subst e1 e3 e4
   have hm:maxLen=9223372036854775807:=rfl
   refine ⟨rfl,h1,⟨by omega,fun _=>⟨_,rfl,fun j x hx=>?_⟩⟩,fun _=>⟨b,rfl⟩⟩
   obtain ⟨a,hK,hc⟩:=hr.at j x hx
   refine ⟨a,kd.K_grow g hK,fun i u hu=>?_⟩
   have:=hc i u hu
   rw [add_at,Nat.zero_add]
   unfold World.cell?
   rw [hh]
   simp only [Option.isSome_none,Bool.false_eq_true,if_false]
   rw [← h4,List.getElem?_take] at this
   split at this
   · simpa using this
   · cases this
theorem oIdxR {α:Type}{kd:Kd α}{W:World}{e e':TypeId}{A:Option Addr}{n cp i s:Nat}{xs:List α}(hx:E.op x=some (.slice A n cp)) (hy:E.op y=some (.int k (i:Int))) (hp:Pick H (row kd W e (.slice A n cp) xs) H') (hi:i<n) (ht:elemT c.P t=some (e',s)) (hsz:kd.sz=s) {N:Md c}
 (h:∀ g,A=some ⟨g,0,none⟩→O N rest ((d,.pointer (some (elt g i s 0))) :: E) D H) (hN:Nat.blt d c.N=true:=by rfl):O N (⟨some d,.indexAddr t x y,ty,pos,af,none⟩ :: rest) E D H:=by
 intro a w ha hw
 subst hsz
 obtain ⟨cs,⟨hl,ho⟩,hr⟩:(row kd W e (.slice A n cp) xs).q w:=hw.get hp
 rcases ho with ⟨e1,e2⟩ | ⟨b,cap,cur,e1,_⟩
 · injection e1 with e1 e3 e4;omega
 · injection e1 with e1 e3 e4
   subst e1 e3 e4
   refine oC (.pointer (some (elt b i kd.sz 0))) rfl hN (fun u w ha hw=>?_) (h b rfl) a w ha hw
   have e1:elt b i kd.sz 0=(⟨b,0,none⟩:Addr).add (i * kd.sz):=by rw [add_at];unfold elt;simp
   simp [execOp,ha.op hx,ha.op hy,run_indexAt ht ⟨b,0,none⟩ _ cp i hi k w,e1]
theorem oLdR {α:Type}{kd:Kd α}{W:World}{e:TypeId}{g n cp i j s:Nat}{xs:List α}(hx:E.op x=some (.pointer (some (elt g i s j)))) (hp:Pick H (row kd W e (.slice (some ⟨g,0,none⟩) n cp) xs) H') (hi:i<xs.length) (hsz:kd.sz=s) (hs:scalT c.P t=true) {N:Md c}
 (h:∀ u cs,xs[i]?=some u→kd.K W u cs→∃ v,cs[j]?=some v∧O N rest ((d,v) :: E) D H) (hN:Nat.blt d c.N=true:=by rfl):O N (⟨some d,.load t x,ty,pos,af,none⟩ :: rest) E D H:=by
 intro a w ha hw
 subst hsz
 obtain ⟨cs0,ho,hr⟩:(row kd W e (.slice (some ⟨g,0,none⟩) n cp) xs).q w:=hw.get hp
 obtain ⟨cs,hK,hc⟩:=hr.at i _ (List.getElem?_eq_getElem hi)
 obtain ⟨v,hv,hO⟩:=h _ cs (List.getElem?_eq_getElem hi) hK
 have hcell:=ho.cells (g:=g) rfl _ v (hc j v hv)
 rw [add_at,Nat.zero_add] at hcell
 refine N.calm _ _ _ _ v rfl rfl ?_ (hO _ _ (ha.put hN) hw)
 have e1:elt g i kd.sz j=⟨g,i * kd.sz+j,none⟩:=by unfold elt;rfl
 simp [execOp,ha.fit.op hx,Instr.loadAt,Instr.sureAddr,loadVar,run_isAgg_s hs,e1,hcell]
theorem oLdR1 {α:Type}{enc:α→Value}{h1:∀ x,(enc x).oneCell'=true}{W:World}{e:TypeId}{g n cp i:Nat}{xs:List α}(hx:E.op x=some (.pointer (some (elt g i 1 0)))) (hp:Pick H (row (Kd.scalar enc h1) W e (.slice (some ⟨g,0,none⟩) n cp) xs) H') (hi:i<xs.length) (hs:scalT c.P t=true) {N:Md c}
 (h:∀ u,xs[i]?=some u→O N rest ((d,enc u) :: E) D H) (hN:Nat.blt d c.N=true:=by rfl):O N (⟨some d,.load t x,ty,pos,af,none⟩ :: rest) E D H:=
 oLdR hx hp hi rfl hs (fun u cs hu hK=>by obtain rfl:=hK;exact ⟨_,rfl,h u hu⟩) hN
end
end Go.Proofs.YtpmdhkjbhjgoaaaDoorK


/-
  The walk's rules: rows that are made, grown and written; maps; calls; how a function is entered and left.
-/
namespace Go.Proofs.YtpmdhkjbhjgoaaaDoorK
open Go.RowKit
section
variable {c : Cx} {M : Me c} {d : Nat} {dst : Option Nat} {ty : TypeId} {pos : String} {af : Array Edge} {rest : List Oper} {E : Env} {D : List Deferred} {H H' H'' : List Res} {v : Value} {x y z : Operand} {k : IntKind} {t t' : TypeId}
variable {B : Base} {w w' : World} {Φ Φ' Φ'' Ψ : List Res} {P : Program}

theorem oBuildSlice {len:Nat}{ps:Array (Nat×Operand)}{vs:List (Nat×Value)}{zs cs:List Value}{e:TypeId}{s:Nat}{zv:Value}(hx:Parts E ps.toList vs) (ht:elemT c.P t=some (e,s)) (hz:((c.P.info? e).map (·.zero))=some (some zv))
 (hsm:Nat.ble (len * s) 16777216=true) (h0:Nat.beq (len * s) 0=false) (hzs:((Array.range (len * s)).map (zv.cells[· % zv.cells.size]!)).toList=zs) (hf:Built (fun i=>some (i * s,s)) zs vs cs)
 (h:∀ b,O M.toMd rest ((d,.slice (some ⟨b,0,none⟩) len len) :: E) D (blk b e cs :: H)) (hN:Nat.blt d c.N=true:=by rfl):O M.toMd (⟨some d,.buildSlice t len ps,ty,pos,af,none⟩ :: rest) E D H:=
 oEff rfl hN fun a w ha hw=>by
  have hsm:len * s≤16777216:=Nat.le_of_ble_eq_true hsm
  have h0:len * s≠0:=by intro e;rw [e] at h0;cases h0
  obtain ⟨ht1,inf,hi1,hs⟩:=run_elemT ht
  obtain ⟨inf',hi2,hz⟩:=Option.map_eq_some_iff.1 hz
  have he:inf'=inf:=by rw [hi1] at hi2;exact (Option.some.inj hi2).symm
  subst he
  refine ⟨_,w.alloc (.cells cs.toArray e),_,?_,by simpa using hw.alloc (.cells cs.toArray e),h w.heap.size⟩
  have h3:=hx.spec ha
  have hf:=hf.spec
  have hzs:(Array.range (len * s)).map (zv.cells[· % zv.cells.size]!)=zs.toArray:=by rw [← hzs]
  rw [← hzs,← h3] at hf
  simp only [execOp,Sem.run_bind,Instr.buildSlice,run_underlying ht1,Result.andThen_ok,sizeOf,typeInfo,zeroValue]
  simp [hi1,hs,hz,h0,hf,newRow,show ¬ (16777216<len * s) by omega]
theorem oBuildSlice1 {e:TypeId}{s:Nat}{zv:Value}{cs:List Value}(hx:E.op x=some v) (ht:elemT c.P t=some (e,s)) (hz:((c.P.info? e).map (·.zero))=some (some zv)) (hsm:Nat.ble s 16777216=true) (h0:Nat.beq s 0=false) (hc:CellsOf v cs) (hl:cs.length=s)
 (h:∀ b,O M.toMd rest ((d,.slice (some ⟨b,0,none⟩) 1 1) :: E) D (blk b e cs :: H)) (hN:Nat.blt d c.N=true:=by rfl):O M.toMd (⟨some d,.buildSlice t 1 #[(0,x)],ty,pos,af,none⟩ :: rest) E D H:=by
 refine oBuildSlice (zs:=((Array.range (1 * s)).map (zv.cells[· % zv.cells.size]!)).toList) (.cons hx .nil) ht hz (by simpa using hsm) (by simpa using h0) rfl ?_ h hN
 refine Built.cons (off:=0) (s:=s) (by simp) hc hl (ds:=cs) ?_ .nil
 have key:∀ (cs ds:List Value),cs.length=ds.length→PutL ds 0 cs cs:=by
  intro cs
  induction cs with
  | nil=>intro ds h;cases ds with
   | nil=>exact .done
   | cons=>simp at h
  | cons u cs ih=>
   intro ds h
   cases ds with
   | nil=>simp at h
   | cons d ds=>exact .put (ih ds (by simpa using h))
 exact key cs _ (by simp [hl])
def elemI (P:Program) (t:TypeId):Option (TypeId×Value×Nat×Nat):=match P.underlying t with
  | some (.slice e)=>match P.info? e with
    | some i=>match i.zero with
      | some z=>bif Nat.beq z.cells.size i.size && Nat.blt 0 i.size then some (e,z,i.size,i.bytes) else none
      | none=>none
    | none=>none
  | _=>none
theorem elemI_spec {e:TypeId}{zv:Value}{s by_:Nat}(h:elemI P t=some (e,zv,s,by_)):P.underlying t=some (.slice e)∧∃ i,P.info? e=some i∧i.zero=some zv∧i.size=s∧i.bytes=by_∧zv.cells.size=s∧0<s:=by
 unfold elemI at h
 cases hu:P.underlying t with
 | none=>rw [hu] at h;cases h
 | some u=>
  rw [hu] at h
  cases u with
  | slice e'=>
   simp only [] at h
   cases hi:P.info? e' with
   | none=>rw [hi] at h;cases h
   | some i=>
    rw [hi] at h
    simp only [] at h
    cases hz:i.zero with
    | none=>rw [hz] at h;cases h
    | some z=>
     rw [hz] at h
     simp only [] at h
     cases hb:(Nat.beq z.cells.size i.size && Nat.blt 0 i.size) with
     | false=>rw [hb] at h;cases h
     | true=>
      rw [hb] at h
      simp only [cond_true,Option.some.injEq,Prod.mk.injEq] at h
      obtain ⟨rfl,rfl,rfl,rfl⟩:=h
      simp only [Bool.and_eq_true,Nat.beq_eq,Nat.blt_eq] at hb
      exact ⟨rfl,i,hi,hz,rfl,rfl,hb.1,hb.2⟩
  | _=>cases h
theorem oApp1 {α:Type}{kd:Kd α}{W:World}{e tb:TypeId}{zv:Value}{s by_ b cp:Nat}{xs:List α}{news:List Value}(u:α) (hx:E.op x=some v) (hy:E.op y=some (.slice (some ⟨b,0,none⟩) 1 cp)) (ht:elemI c.P t=some (e,zv,s,by_)) (hsz:kd.sz=s)
 (hp:Pick H (row kd W e v xs) H') (hpb:Pick H' (blk b tb news) H'') (hK:kd.K W u news) (hl:xs.length+1≤1000000000) (hby:Nat.ble by_ 140000=true)
 (h:∀ g cp',O M.toMd rest ((d,.slice (some ⟨g,0,none⟩) (xs.length+1) cp') :: E) D (row kd W e (.slice (some ⟨g,0,none⟩) (xs.length+1) cp') (xs++[u]) :: H'')) (hN:Nat.blt d c.N=true:=by rfl) :
 O M.toMd (⟨some d,.call { callee:=.builtin .append,args:=#[x,y],argTypes:=#[t,t] },ty,pos,af,none⟩ :: rest) E D H:=
 oEff rfl hN fun a w ha hw=>by
  have hbb:w.heap[b]?=some (.cells news.toArray tb (0,0)):=(hw.perm hp.perm).drop.get hpb
  have hb2:by_≤140000:=Nat.le_of_ble_eq_true hby
  have hml:maxLen=9223372036854775807:=rfl
  subst hsz
  obtain ⟨ht1,i0,hi,hz0,hz1,hz2,hzs,hsp⟩:=elemI_spec ht
  obtain ⟨cs,ho,hr⟩:(row kd W e v xs).q w:=hw.get hp
  have hcat:Cat kd W [u] news:=Cat.one hK
  have hlb:(xs.length+1) * by_≤140737488355328:=Nat.le_trans (Nat.mul_le_mul hl hb2) (by decide)
  obtain ⟨v',w',hrun,hown,hgr,_,hat⟩:=run_append_own_at (P:=c.P) (w:=w) 0 t ty e i0 zv kd.sz by_ ht1 hi hz0 hz1 hz2 hzs hsp v xs.length cs ho ⟨b,0,none⟩ 1 cp news (by rw [hcat.len];rfl) (fun j u hu=>by
   rw [add_at,Nat.zero_add,cell_of hbb];exact hu) hcat.ones (by omega) hlb (Nat.zero_le _)
  have hown0:=hown
  obtain ⟨_,ho2⟩:=hown
  rcases ho2 with ⟨_,e2⟩ | ⟨g,cap,cur,rfl,_⟩
  · omega
  · refine ⟨_,w',_,?_,?_,h g cap⟩
    · simp [execOp,resolve,invoke,builtin,ha.op hx,ha.op hy,hrun]
    · have hup : St c.B (row kd W e (.slice (some ⟨g, 0, none⟩) (xs.length + 1) cap) (xs ++ [u]) :: H') w' := by
       refine hw.upd' hp ((Chg.of_grown hgr).mono (fun k hk=>hk.symm)) ⟨cs++news,by rw [List.length_append];exact hown0,hr.app hcat⟩ ?_
       intro k hk
       have hk:(Value.slice (some ⟨g,0,none⟩) (xs.length+1) cap).ownBlock=some k:=hk
       rcases hat with h1 | h1
       · exact .inl (show v.ownBlock=some k from h1 ▸ hk)
       · right;rw [h1] at hk;have:=Option.some.inj hk;omega
      exact (hup.perm ((hpb.perm.cons _).trans (List.Perm.swap _ _ _))).drop
def goodF (P:Program) (g:FuncId):Bool:=match P.funcs[g]? with
  | some fn=>fn.name != "runtime.NumGoroutine" && fn.body.isSome
  | none=>false
theorem run_callFunc {g:FuncId}(h:goodF P g=true) (args:Array Value) (w:World):(callFunc g args).run P w=.ok (.enter g args) w:=by
 unfold goodF at h
 cases hf:P.funcs[g]? with
 | none=>rw [hf] at h;cases h
 | some fn=>
  rw [hf] at h
  simp only [Bool.and_eq_true,bne_iff_ne,ne_eq] at h
  cases hb:fn.body with
  | none=>rw [hb] at h;simp at h
  | some body=>simp [callFunc,hf,h.1,hb]
def Ret {ι:Type}(B:Base) (inv:ι→Prop) (val:ι→Value) (post:ι→List Res) (e:Ending) (w:World):Prop:=∃ i,inv i∧e=.returned (val i)∧St B (post i) w
theorem frame {ι:Type}{inv:ι→Prop}{val:ι→Value}{post:ι→List Res}{g:FuncId}{args:Array Value}(hS:St B Φ w) (hs:Split Φ Ψ Φ') (h:∀ B',Grow B.e B'.e→St B' Ψ w→CallsIn Fence.wide 0 P g args w (Ret B' inv val post)) :
 CallsIn Fence.wide 0 P g args w (Ret B inv val (fun i=>post i++Φ')):=by
 have hS':=hS.perm hs.perm
 refine (h (B.call w Ψ) hS'.egrow hS'.lend).mono ?_
 rintro e w' ⟨i,hi,he,hw⟩
 exact ⟨i,hi,he,hS'.give hw⟩
theorem oCallV {ι:Type}{inv:ι→Prop}{val:ι→Value}{post:ι→List Res}{f:Operand}{args:Array Operand}{ats:Array TypeId}{g:FuncId}{fst cap:Array Value}{vs:List Value}{az:Array Value}(hf:E.op f=some (.func (.func g) fst cap)) (hargs:E.ops args.toList=some vs) (has:fst++vs.toArray++cap=az) (hg:goodF c.P g=true)
 (hc:∀ w,St c.B H w→CallsIn Fence.wide 0 c.P g az w (Ret c.B inv val post)) (h:∀ i,inv i→O M.toMd rest ((d,val i) :: E) D (post i)) (hN:Nat.blt d c.N=true:=by rfl) :
 O M.toMd (⟨some d,.call { callee:=.value f,args:=args,argTypes:=ats },ty,pos,af,none⟩ :: rest) E D H:=by
 intro a w ha hw
 refine M.enter _ _ _ _ g az w rfl rfl ?_ ((hc w hw).mono ?_)
 · have h1 : args.map a.eval = vs.toArray := by
    apply Array.toList_inj.1
    simpa using ha.fit.ops hargs
   subst has
   simp only [execOp,resolve,Sem.run_bind,ha.fit.op hf,h1,Deferred.ofValue,Sem.run_pure,Result.andThen_ok,invoke,run_callFunc hg]
 · rintro e w' ⟨i,hi,rfl,hw'⟩
   exact ⟨val i,rfl,h i hi _ _ (ha.put hN) hw'⟩
theorem oCall {ι:Type}{inv:ι→Prop}{val:ι→Value}{post:ι→List Res}{args:Array Operand}{ats:Array TypeId}{g:FuncId}{vs:List Value}(hargs:E.ops args.toList=some vs) (hg:goodF c.P g=true)
 (hc:∀ w,St c.B H w→CallsIn Fence.wide 0 c.P g vs.toArray w (Ret c.B inv val post)) (h:∀ i,inv i→O M.toMd rest ((d,val i) :: E) D (post i)) (hN:Nat.blt d c.N=true:=by rfl) :
 O M.toMd (⟨some d,.call { callee:=.value (.func g),args:=args,argTypes:=ats },ty,pos,af,none⟩ :: rest) E D H:=
 oCallV rfl hargs (by simp) hg hc h hN

inductive ResR (P:Program) (E:Env) (H:List Res):ResultVar→Value→Prop
  | tmp {t:Tmp}{v:Value}(h:E.find t=some v):ResR P E H (.tmp t) v
  | cell {a b:Nat}{t tb:TypeId}{v:Value}{H':List Res}(h:E.find a=some (.pointer (some ⟨b,0,none⟩))) (hp:Pick H (blk b tb [v]) H') (hs:scalT P t=true):ResR P E H (.cell a t) v
  | agg {a b n:Nat}{t tb:TypeId}{vs:List Value}{H':List Res}(h:E.find a=some (.pointer (some ⟨b,0,none⟩))) (hp:Pick H (blk b tb vs) H') (hs:aggN P t=some n) (hl:vs.length=n):ResR P E H (.cell a t) (.agg vs.toArray)
inductive ResL (P:Program) (E:Env) (H:List Res):List ResultVar→List Value→Prop
  | nil:ResL P E H [] []
  | cons {r:ResultVar}{v:Value}{rs:List ResultVar}{vs:List Value}(h:ResR P E H r v) (k:ResL P E H rs vs):ResL P E H (r :: rs) (v :: vs)
def resVal:List Value→Value
  | [v]=>v
  | vs=>.tuple vs.toArray
def fin (P:Program) (rs:List ResultVar) (R:Value→List Res→Prop):Post
  | .ret,E,D,H=>D=[]∧∃ vs,ResL P E H rs vs∧R (resVal vs) H
  | .normal,E,D,H=>D=[]∧∃ vs,ResL P E H rs vs∧R (resVal vs) H
  | _,_,_,_=>False
def resV (tmps:Array Value):ResultVar→Sem Value
  | .tmp t=>pure (tmps.getD t undef)
  | .cell a t=>do loadVar t (← asAddr (tmps.getD a undef))
theorem results_eq (fn:Func) (tmps:Array Value):results fn tmps=(do let vs ← fn.results.mapM (resV tmps);pure (if h:vs.size=1 then vs[0] else .tuple vs)):=rfl
theorem ResR.run {P:Program}{E:Env}{H:List Res}{r:ResultVar}{v:Value}(h:ResR P E H r v) {a:Act}(ha:Fits E a) (hw:St B H w):(resV a.tmps r).run P w=.ok v w:=by
 cases h with
 | tmp h=>simp [resV,ha _ _ h]
 | cell h hp hs=>
  have hc:=hw.cell hp 0 rfl
  show (Sem.run P (do loadVar _ (← asAddr (a.tmps.getD _ undef))) w)=_
  rw [ha _ _ h]
  simp [asAddr,loadVar,run_isAgg_s hs,hc]
 | @agg a' b n t tb vs H' h hp hs hl=>
  have h1:=run_isAgg_a hs w
  have h2:=run_loadCells_list (P:=P) w ⟨b,0,none⟩ vs (fun j u hu=>by
   rw [add_at,Nat.zero_add];exact hw.cell hp j hu)
  rw [hl] at h2
  show (Sem.run P (do loadVar _ (← asAddr (a.tmps.getD _ undef))) w)=_
  rw [ha _ _ h]
  simp [asAddr,loadVar,h1.1,h1.2,h2]
theorem ResL.run {P:Program}{E:Env}{H:List Res}{rs:List ResultVar}{vs:List Value}(h:ResL P E H rs vs) {a:Act}(ha:Fits E a) (hw:St B H w):(rs.mapM (resV a.tmps)).run P w=.ok vs w:=by
 induction h with
 | nil=>simp
 | cons h k ih=>simp [h.run ha hw,ih]
theorem ResL.results {P:Program}{E:Env}{H:List Res}{fn:Func}{vs:List Value}(h:ResL P E H fn.results.toList vs) {a:Act}(ha:Fits E a) (hw:St B H w):(results fn a.tmps).run P w=.ok (resVal vs) w:=by
  rw [results_eq]
  have h1:=h.run ha hw
  have h2:(fn.results.mapM (resV a.tmps)).run P w=.ok vs.toArray w:=by
    rw [Array.mapM_eq_mapM_toList];simp [h1]
  simp only [Sem.run_bind,h2,Result.andThen_ok]
  match vs with
  | []=>simp [resVal]
  | [v]=>simp [resVal]
  | v :: u :: vs=>simp [resVal]
theorem enter {ι:Type}{inv:ι→Prop}{val:ι→Value}{post:ι→List Res}{f:FuncId}{fn:Func}{body:Code}{args:List Value}(hf:P.funcs[f]?=some fn) (hb:fn.body=some body) (hl:Nat.ble args.length fn.ntmps=true) (hS:St B Ψ w)
 (h:W ⟨P,Fence.wide,fn.ntmps,B,fun _=>trivial,rfl,fun h=>h⟩ body (fin P fn.results.toList (fun v H=>∃ i,inv i∧v=val i∧Leads B H (post i))) ((args.zipIdx).map fun p=>(p.2,p.1)) [] Ψ) :
 CallsIn Fence.wide 0 P f args.toArray w (Ret B inv val post):=by
 refine callsIn_of_wp hf hb trivial (wpIn_mono (h _ w (Ok.enter fn.ntmps args (Nat.le_of_ble_eq_true hl)) hS) ?_) rfl
 rintro e a w' ⟨E,D,H,h1,h2,h3,_⟩
 have key:D=[]→(∃ vs,ResL P E H fn.results.toList vs∧∃ i,inv i∧resVal vs=val i∧Leads B H (post i))→a.defers=[]∧∃ v,(results fn a.tmps).run P w'=.ok v w'∧Ret B inv val post (.returned v) w':=by
  rintro hD ⟨vs,hr,i,hi,hv,hsp⟩
  exact ⟨h1.dfr.trans hD,_,hr.results h1.fit h2,i,hi,by rw [hv],hsp _ h2⟩
 cases e with
 | normal=>exact key h3.1 h3.2
 | ret=>exact key h3.1 h3.2
 | _=>exact h3.elim
end
end Go.Proofs.YtpmdhkjbhjgoaaaDoorK


/-
  The walk's rules: ways out of a piece of code; pointers against nil; maps; stores into rows; a slice's beginning; methods of an interface's value.
-/
namespace Go.Proofs.YtpmdhkjbhjgoaaaDoorK
open Go.RowKit
section
variable {K : Env → List Deferred → List Res → Prop} {Q : Post} {E : Env} {D : List Deferred} {H : List Res} {id i : Nat}
theorem thn_n (h:K E D H):thn K Q .normal E D H:=h
theorem thn_r (h:Q .ret E D H):thn K Q .ret E D H:=h
theorem thn_x (h:Q (.exit i) E D H):thn K Q (.exit i) E D H:=h
theorem blk_n (h:Q .normal E D H):inBlk id Q .normal E D H:=h
theorem blk_r (h:Q .ret E D H):inBlk id Q .ret E D H:=h
theorem blk_x (h:Q .normal E D H):inBlk id Q (.exit id) E D H:=by
 show (bif Nat.beq id id then Q .normal E D H else Q (.exit id) E D H)
 rw [Nat.beq_refl];exact h
theorem fin_r {P:Program}{rs:List ResultVar}{R:Value→List Res→Prop}(h:D=[]∧∃ vs,ResL P E H rs vs∧R (resVal vs) H):fin P rs R .ret E D H:=h
end
section
variable {c : Cx} {N : Md c} {M : Me c} {d : Nat} {ty : TypeId} {pos : String} {af : Array Edge} {rest : List Oper} {E : Env} {D : List Deferred} {H H' H'' : List Res} {v : Value} {x y z : Operand} {k : IntKind} {t t' : TypeId}
variable {B : Base} {w w' : World} {Φ Φ' Φ'' Ψ : List Res} {P : Program}
section
variable {κ β : Type} [DecidableEq κ] {enc : κ → Value} {ev : β → Value} {kd : TypeDesc}
end
end
end Go.Proofs.YtpmdhkjbhjgoaaaDoorK


/-
  The walk's rules: stores into rows, a row's beginning, methods of an interface's value, other operations.
-/
namespace Go.Proofs.YtpmdhkjbhjgoaaaDoorK
open Go.RowKit
section
variable {c : Cx} {N : Md c} {M : Me c} {d : Nat} {ty : TypeId} {pos : String} {af : Array Edge} {rest : List Oper} {E : Env} {D : List Deferred} {H H' H'' : List Res} {v : Value} {x y z : Operand} {k : IntKind} {t t' : TypeId}
variable {B : Base} {w w' : World} {Φ Φ' Φ'' Ψ : List Res} {P : Program}

end
end Go.Proofs.YtpmdhkjbhjgoaaaDoorK


/-
  A region that draws its order, once more: what is copied out of slots at any time; what only looks, in some order; then the others, one behind the other.
-/
namespace Go.Proofs.YtpmdhkjbhjgoaaaDoorK
open Go.RowKit
section
variable {P : Program} {ops : Array Oper} {md : Region.Mode} {w : World}
def sinkB' (md:Region.Mode) (ops:Array Oper) (l0:Array Bool) (n:Nat):Bool:=
  (List.range n).all fun i=>l0.getD i true || (List.range (n+1)).any fun j=>decide (i<j) && Region.waitsFor md ops j i && !(l0.getD j false)
theorem tail_waits' {n:Nat}{l0 listed:Array Bool}(hl:∀ i,listed.getD i true=false→l0.getD i true=false) (hs:sinkB' md ops l0 n=true) (hc:Region.chainB md ops n=true) (hn:n<ops.size) (inv:HeadInv md ops n listed) :
 ∀ (d i:Nat),n-i=d→i<n→listed.getD i true=false→∀ t,n≤t→t ∉ Region.ready md ops listed:=by
 intro d
 induction d using Nat.strongRecOn with
 | _ d ih=>
  intro i hd hi hun t ht hr
  obtain ⟨_,ot,hot,hall⟩:=mem_ready.1 hr
  have htlt:t<ops.size:=(Array.getElem?_eq_some_iff.1 hot).1
  by_cases htn:t=n
  · subst htn
    have h1:=List.all_eq_true.1 hs i (List.mem_range.2 hi)
    rw [hl i hun,Bool.false_or] at h1
    obtain ⟨j,hj,hj2⟩:=List.any_eq_true.1 h1
    simp only [Bool.and_eq_true,decide_eq_true_eq] at hj2
    obtain ⟨oj,hoj,e,he,hb,hon⟩:=Region.waitsFor_spec hj2.1.2
    have hjle:j≤t:=by have:=List.mem_range.1 hj;omega
    by_cases hjt:j=t
    · subst hjt
      have:oj=ot:=Option.some.inj (hoj.symm.trans hot)
      subst this
      have h2:=hall e he hb
      rw [hon,getD_both hun] at h2
      cases h2
    · cases hlj:listed.getD j false with
      | true=>
       have h2:=inv.closed j oj hoj hlj e he hb
       rw [hon,getD_both hun] at h2
       cases h2
      | false=>
       have hjs:j<listed.size:=by rw [inv.size];omega
       exact ih (t-j) (by omega) j rfl (by omega) (getD_in hjs hlj) t (Nat.le_refl _) hr
  · have h1:=List.all_eq_true.1 hc t (List.mem_range.2 htlt)
    simp only [Bool.or_eq_true,decide_eq_true_eq] at h1
    rcases h1 with h1 | h1
    · omega
    · obtain ⟨o',ho',e,he,hb,hon⟩:=Region.waitsFor_spec h1
      have:o'=ot:=Option.some.inj (ho'.symm.trans hot)
      subst this
      have h2:=hall e he hb
      rw [hon,getD_both (inv.tail (t-1) (by omega) (by omega))] at h2
      cases h2
theorem wpAnyL_first' {n i:Nat}{oi:Oper}{v:Value}{l0:Array Bool}{L:Array Bool→Act→Prop}(hi:ops[i]?=some oi) (hsel:∀ (j:Nat) (o:Oper) cs b,ops[j]?=some o→o.op≠.select cs b)
 (hs:sinkB' md ops l0 n=true) (hc:Region.chainB md ops n=true) (hn:n<ops.size) (hin:i<n)
 (hdone:∀ listed a,L listed a→∀ j ∈ Region.ready md ops listed,n≤j) :
 ∀ (f:Nat) (listed:Array Bool) (a:Act),(∀ i,listed.getD i true=false→l0.getD i true=false)→HeadInv md ops n listed→
  (∀ j oj,ops[j]?=some oj→j≠i→listed.getD j true=false→(∀ e ∈ oj.after,Region.binds md e=true→e.on≠i)→oi.apart ops oj=true)→
  i ∈ Region.ready md ops listed→YieldsAt P ops w oi v a→
  wpAnyL P md ops w n L f (listed.setIfInBounds i true) (a.put oi.dst v)→wpAnyL P md ops w n L (f+1) listed a:=by
 intro f
 induction f with
 | zero=>
  intro listed a hl inv _ hr hy H
  have hun:=(mem_ready.1 hr).1
  refine ⟨fun h=>(by rw [h] at hr;cases hr),fun j hj=>?_⟩
  have hjn:j<n:=by
   rcases Nat.lt_or_ge j n with h | h
   · exact h
   · exact absurd hj (tail_waits' hl hs hc hn inv _ i rfl hin hun j h)
  refine ⟨hjn,?_⟩
  by_cases hji:j=i
  · subst hji;exact hy.stOp hi H
  · have:=hdone _ _ H j (ready_mono hj hji)
    omega
 | succ f ih=>
  intro listed a hl inv hfree hr hy H
  have hun:=(mem_ready.1 hr).1
  refine ⟨fun h=>(by rw [h] at hr;cases hr),fun j hj=>?_⟩
  have hjn:j<n:=by
   rcases Nat.lt_or_ge j n with h | h
   · exact h
   · exact absurd hj (tail_waits' hl hs hc hn inv _ i rfl hin hun j h)
  refine ⟨hjn,?_⟩
  by_cases hji:j=i
  · subst hji;exact hy.stOp hi H
  · have h1:=(H.2 j (ready_mono hj hji)).2
    obtain ⟨hjun,oj,hoj,hall⟩:=mem_ready.1 hj
    have hnot:∀ e ∈ oj.after,Region.binds md e=true→e.on≠i:=fun e he hb heq=>by
     have h1:=hall e he hb
     rw [heq,getD_both hun] at h1
     cases h1
    have h2:=stOp_put hoj (hfree j oj hoj hji hjun hnot) (fun cs b=>hsel i oi cs b hi) (fun cs b=>hsel j oj cs b hoj) hy h1
    have hfree' : ∀ k ok, ops[k]? = some ok → k ≠ i → (listed.setIfInBounds j true).getD k true = false →
     (∀ e ∈ ok.after,Region.binds md e=true→e.on≠i)→oi.apart ops ok=true:=fun k ok hk hki hun hno=>by
     refine hfree k ok hk hki ?_ hno
     by_cases hjk:j=k
     · subst hjk;exact hjun
     · rw [getD_set_ne true hjk] at hun;exact hun
    have hl':∀ k,(listed.setIfInBounds j true).getD k true=false→l0.getD k true=false:=fun k hk=>by
     by_cases hjk:j=k
     · subst hjk;exact hl j hjun
     · rw [getD_set_ne true hjk] at hk;exact hl k hk
    refine stOp_mono (fun a' h3=>ih (listed.setIfInBounds j true) a' hl' (inv.set hj hjn) hfree' (ready_mono hr (Ne.symm hji)) h3.1 ?_) h2
    rw [Array.setIfInBounds_comm _ _ hji]
    exact h3.2
def lexG (md:Region.Mode) (ops:Array Oper) (n:Nat):List Nat→Array Bool→Bool
  | [],listed=>Region.seqB md ops (ops.size-n) n listed
  | k :: ks,listed=>decide (k<n) && (Region.ready md ops listed).contains k && Region.free md ops listed k && lexG md ops n ks (listed.setIfInBounds k true)
theorem wpAnyL_lexG {n:Nat}{l0:Array Bool}{Lq:Act→Prop}(hsel:Region.noSelect ops=true) (hs:sinkB' md ops l0 n=true) (hc:Region.chainB md ops n=true) (hn:n<ops.size) :
 ∀ (ks:List Nat) (l:List Oper) (listed:Array Bool) (a:Act),ks.mapM (fun k=>ops[k]?)=some l→(∀ i,listed.getD i true=false→l0.getD i true=false)→HeadInv md ops n listed→
 lexG md ops n ks listed=true→wpStill P ops w Lq l a→
 wpAnyL P md ops w n (fun listed' a'=>Region.seqB md ops (ops.size-n) n listed'=true∧Lq a') ks.length listed a
 | [],l,listed,a,hk,hl,inv,hB,h=>by
  simp at hk
  subst hk
  exact ⟨hB,h⟩
 | k :: ks,l,listed,a,hk,hl,inv,hB,h=>by
  rw [List.mapM_cons] at hk
  cases h0:ops[k]? with
  | none=>rw [h0] at hk;simp at hk
  | some o=>
   rw [h0] at hk
   cases hks:ks.mapM (fun k=>ops[k]?) with
   | none=>rw [hks] at hk;simp at hk
   | some l'=>
    rw [hks] at hk
    simp at hk
    subst hk
    simp only [lexG,Bool.and_eq_true,decide_eq_true_eq] at hB
    obtain ⟨⟨⟨hkn,hr⟩,hf⟩,hB'⟩:=hB
    have hr':k ∈ Region.ready md ops listed:=by simpa using hr
    have hst:stOp P ops w k (wpStill P ops w Lq l') a:=by unfold stOp;simp only [h0];exact h
    obtain ⟨v,hy,hK⟩:=yieldsAt_of_stOp h0 hst
    have hl':∀ i,(listed.setIfInBounds k true).getD i true=false→l0.getD i true=false:=fun i hi=>by
     by_cases hjk:k=i
     · subst hjk;exact hl k (mem_ready.1 hr').1
     · rw [getD_set_ne true hjk] at hi;exact hl i hi
    exact wpAnyL_first' h0 (Region.noSelect_spec hsel) hs hc hn hkn (fun listed' a' hL=>seqB_ready hL.1) ks.length listed a hl inv (Region.free_spec h0 hf) hr' hy
     (wpAnyL_lexG hsel hs hc hn ks l' _ _ hks hl' (inv.set hr' hkn) hB' hK)
def preB (md:Region.Mode) (ops:Array Oper) (n:Nat):List Nat→Array Bool→Option (Array Bool)
  | [],listed=>some listed
  | k :: ks,listed=>match ops[k]? with
    | some ⟨some _,.move _,_,_,_,none⟩=>bif decide (k<n) && (Region.ready md ops listed).contains k && Region.free md ops listed k then preB md ops n ks (listed.setIfInBounds k true) else none
    | _=>none
def preE (ops:Array Oper):List Nat→Env→Option Env
  | [],E=>some E
  | k :: ks,E=>match ops[k]? with
    | some ⟨some d,.move x,_,_,_,none⟩=>match E.op x with
      | some v=>preE ops ks ((d,v) :: E)
      | none=>none
    | _=>none
theorem pre_take {n:Nat}{Q':Exit→Act→World→Prop}(hsel:Region.noSelect ops=true) (hQ:∀ c a w,¬ Q' (.panic c) a w) {N:Nat}{D:List Deferred}(hN:ops.all (fun o=>o.dst.all fun d=>Nat.blt d N)=true):∀ (ks:List Nat) (listed l1:Array Bool) (E E':Env) (a:Act) (f:Nat),Ok N E D a→preB md ops n ks listed=some l1→preE ops ks E=some E'→HeadInv md ops n listed→
 (∀ a',Ok N E' D a'→HeadInv md ops n l1→wpAny P md ops Q' f l1 a' w)→wpAny P md ops Q' (ks.length+f) listed a w
 | [],listed,l1,E,E',a,f,ha,hb,he,inv,h=>by
  simp only [preB,Option.some.injEq] at hb
  simp only [preE,Option.some.injEq] at he
  subst hb he
  rw [List.length_nil,Nat.zero_add]
  exact h a ha inv
 | k :: ks,listed,l1,E,E',a,f,ha,hb,he,inv,h=>by
  simp only [preB] at hb
  simp only [preE] at he
  split at hb
  · rename_i d x ty pos af hk
    rw [hk] at he
    simp only [] at he
    split at he
    · rename_i v hv
      cases hcond:(decide (k<n) && (Region.ready md ops listed).contains k && Region.free md ops listed k) with
      | false=>rw [hcond] at hb;cases hb
      | true=>
       rw [hcond] at hb
       simp only [cond_true] at hb
       simp only [Bool.and_eq_true,decide_eq_true_eq] at hcond
       obtain ⟨⟨hkn,hr⟩,hf⟩:=hcond
       have hr':k ∈ Region.ready md ops listed:=by simpa using hr
       have hd:Nat.blt d N=true:=by
        have hm:=Array.all_eq_true.1 hN k (Array.getElem?_eq_some_iff.1 hk).1
        rw [Array.getElem?_eq_getElem (Array.getElem?_eq_some_iff.1 hk).1] at hk
        rw [Option.some.inj hk] at hm
        simpa using hm
       rw [List.length_cons,show ks.length+1+f=(ks.length+f)+1 by omega]
       refine wpAny_take (v:=v) hk hsel hf hr (fun c a w h=>(hQ c _ _ h).elim) (.inl ⟨rfl,fun w=>by simp [execOp,ha.fit.op hv]⟩) ?_
       exact pre_take hsel hQ hN ks _ l1 _ E' _ f (ha.put hd) hb he (inv.set hr' hkn) h
    · cases he
  · cases hb
end
section
variable {c : Cx} {Q : Post} {E E' : Env} {D : List Deferred} {H : List Res}
def drawB (ops:Array Oper) (N:Nat) (ps ks:List Nat) (n:Nat):Bool:=
  Region.noSelect ops && decide (n<ops.size) && ops.all (fun o=>o.dst.all fun d=>Nat.blt d N) && Nat.beq (ps.length+ks.length) n && Region.chainB .any ops n &&
    match preB .any ops n ps (Array.replicate ops.size false) with
    | some l1=>sinkB' .any ops l1 n && lexG .any ops n ks l1
    | none=>false
theorem wDraw2 (hF:c.F=Fence.wide) (hm:c.P.follows .mixedOrders=true) {id:Nat}{l hd:List Oper}(ps ks:List Nat) (n:Nat) (hB:drawB l.toArray c.N ps ks n=true) (hE:preE l.toArray ps E=some E') (hk:ks.mapM (fun k=>l[k]?)=some hd) {tl:List Oper}(htl:l.drop n=tl)
 (h:∀ w0,O (Md.head c l.toArray w0 tl Q) hd E' D H):W c (.region id l.toArray true) Q E D H:=by
 subst htl
 intro a w ha hw
 rw [hF]
 refine wpIn_wide.2 ?_
 refine wp_region_any hm ?_
 simp only [drawB,Bool.and_eq_true,decide_eq_true_eq,Nat.beq_eq] at hB
 obtain ⟨⟨⟨⟨⟨hsel,hn⟩,hN⟩,hlen⟩,hc⟩,hB⟩:=hB
 split at hB
 · rename_i l1 hl1
   simp only [Bool.and_eq_true] at hB
   obtain ⟨hs,hlex⟩:=hB
   have inv0:HeadInv .any l.toArray n (Array.replicate l.toArray.size false):=
    ⟨by simp,fun j oj _ hl=>(by rw [getD_replicate_false] at hl;cases hl),fun t _ ht=>getD_in (by simpa using ht) (getD_replicate_false _ _)⟩
   have hn':n<l.length:=by simpa using hn
   have htot:l.toArray.size=ps.length+(ks.length+(l.toArray.size-n)):=by omega
   have hgo:wpAny c.P .any l.toArray (lift c Q) (ps.length+(ks.length+(l.toArray.size-n))) (Array.replicate l.toArray.size false) a w.drew:=by
    refine pre_take (D:=D) hsel (fun c a w ⟨E,D,H,h1,h2,h3,h4⟩=>h4) hN ps _ l1 E E' a (ks.length+(l.toArray.size-n)) ha hl1 hE inv0 (fun a' ha' inv1=>?_)
    have hks:ks.mapM (fun k=>l.toArray[k]?)=some hd:=by simpa using hk
    have H1:=wpAnyL_lexG (md:=.any) (w:=w.drew) (Lq:=fun a'=>wpList c.P l.toArray (lift c Q) (l.drop n) a' w.drew) hsel hs hc hn ks hd l1 a' hks (fun i hi=>hi) inv1 hlex (h w.drew a' w.drew ha' hw.drew rfl)
    refine wpAny_of_head (Q':=lift c Q) (g:=l.toArray.size-n) (fun listed a' hL=>?_) _ _ _ H1
    have hdl:(l.drop n).length=l.toArray.size-n:=by simp
    have:=wpAny_of_seq (md:=.any) (Q':=lift c Q) (l.drop n) n listed a' w.drew (fun j=>by simp [List.getElem?_drop]) (by rw [hdl];exact hL.1) hL.2
    rwa [hdl] at this
   rw [htot]
   rw [← htot] at hgo ⊢
   exact hgo
 · cases hB
end
end Go.Proofs.YtpmdhkjbhjgoaaaDoorK


/-
  A region that draws its order, with a new variable that waits for nothing amid what only looks: it may be drawn at any time ahead of the store.
-/
namespace Go.Proofs.YtpmdhkjbhjgoaaaDoorK
open Go.RowKit
section
def Stab (P:Program) {α:Type}(s:Sem α):Prop:=∀ (w:World) (o:Obj) (v:α) (w':World),s.run P w=.ok v w'→w'=w∧s.run P (w.alloc o)=.ok v (w.alloc o)
variable {P : Program}
theorem Stab.pure {α:Type}(a:α):Stab P (Pure.pure a:Sem α):=fun w o v w' h=>by
 simp only [Sem.run_pure,Result.ok.injEq] at h ⊢
 exact ⟨h.2.symm,h.1,trivial⟩
theorem Stab.halt {α:Type}(x:Halt):Stab P (Sem.halt x:Sem α):=fun w o v w' h=>by
 simp [Sem.run] at h
theorem Stab.bind {α β:Type}{s:Sem α}{f:α→Sem β}(h:Stab P s) (hf:∀ a,Stab P (f a)):Stab P (s >>= f):=fun w o v w' hr=>by
 rw [Sem.run_bind] at hr ⊢
 cases hs:s.run P w with
 | halt x w1=>rw [hs] at hr;simp [Result.andThen] at hr
 | ok a w1=>
  rw [hs,Result.andThen_ok] at hr
  obtain ⟨rfl,h2⟩:=h w o a w1 hs
  rw [h2,Result.andThen_ok]
  exact hf a _ o v w' hr
theorem alloc_old (w:World) (o:Obj) {b:Nat}{x:Obj}(h:w.heap[b]?=some x):(w.alloc o).heap[b]?=some x:=by
 have hb:b<w.heap.size:=(Array.getElem?_eq_some_iff.1 h).1
 show (w.heap.push o)[b]?=_
 rw [Array.getElem?_push_lt hb,← h,Array.getElem?_eq_getElem hb]
theorem seen_none {p:Program}{w:World}{a:Addr}{u:TypeId}{k:Addr}{at_:Bool}(h:w.heap[a.block]?=none) {r} : w.seen p a u k at_≠.ok r:=by
 unfold World.seen
 rw [h]
 intro hr
 simp only [bind,Except.bind,throw,throwThe,MonadExceptOf.throw,pure,Except.pure] at hr
 repeat' split at hr
 all_goals first | cases hr | skip
 all_goals (repeat' split at hr) 
 all_goals first | cases hr | skip
theorem viewLoad_alloc {p:Program}{w:World}{a:Addr}{u:TypeId}{k:Addr}{at_:Bool}{r} (h:w.viewLoad p a u k at_=.ok r) (o:Obj):(w.alloc o).viewLoad p a u k at_=.ok r:=by
 cases hb:w.heap[a.block]? with
 | none=>
  unfold World.viewLoad at h
  cases hs:w.seen p a u k at_ with
  | ok x=>exact (seen_none hb hs).elim
  | error e=>rw [hs] at h;simp [bind,Except.bind] at h
 | some x=>
  rw [← h]
  unfold World.viewLoad World.seen
  rw [alloc_old w o hb,hb]
theorem Stab.load (a:Addr):Stab P (Go.load a):=fun w o v w' h=>by
 simp only [Go.load,Sem.run] at h ⊢
 cases hc:w.cell? a with
 | some u=>
  rw [hc] at h
  simp only [Result.ok.injEq] at h
  obtain ⟨rfl,rfl⟩:=h
  have:(w.alloc o).cell? a=some u:=by
   unfold World.cell? at hc ⊢
   cases hb:w.heap[a.block]? with
   | none=>rw [hb] at hc;cases hc
   | some x=>rw [alloc_old w o hb];rw [hb] at hc;exact hc
  rw [this]
  exact ⟨rfl,rfl⟩
 | none=>
  rw [hc] at h
  simp only [] at h
  split at h
  · rename_i v1 l1 hf
    simp only [Sem.run,Result.ok.injEq] at h
    obtain ⟨rfl,rfl⟩:=h
    unfold World.farLoad at hf
    cases hb:w.heap[a.block]? with
    | none=>rw [hb] at hf;cases hf
    | some x=>
     have hc':(w.alloc o).cell? a=none:=by
      unfold World.cell? at hc ⊢
      rw [alloc_old w o hb];rw [hb] at hc;exact hc
     rw [hc']
     refine ⟨rfl,?_⟩
     have hf':(w.alloc o).farLoad P a (Mode.plain == .atomic)=.ok (v1,l1):=by
      unfold World.farLoad
      rw [alloc_old w o hb]
      rw [hb] at hf
      cases x with
      | view at1 u=>
       simp only [] at hf ⊢
       cases hvl:w.viewLoad P at1 u a (Mode.plain == .atomic) with
       | ok r=>rw [viewLoad_alloc hvl o];rw [hvl] at hf;exact hf
       | error e=>rw [hvl] at hf;cases hf
      | _=>simp at hf
     rw [hf']
  · cases h
theorem Stab.program:Stab P Go.program:=fun w o v w' h=>by
 simp only [Go.program,Sem.run,Result.ok.injEq] at h ⊢
 exact ⟨h.2.symm,h.1,trivial⟩
theorem Stab.stuck {α:Type}(s:String):Stab P (Go.stuck s:Sem α):=Stab.halt _
theorem Stab.unsupported {α:Type}(s:Unsupported):Stab P (Go.unsupported s:Sem α):=Stab.halt _
theorem Stab.never {α:Type}{s:Sem α}(h:∀ w v w',s.run P w≠.ok v w'):Stab P s:=fun w o v w' hr=>(h w v w' hr).elim
theorem Stab.typeInfo (t:TypeId):Stab P (Go.typeInfo t):=by
 unfold Go.typeInfo
 refine .bind .program fun p=>?_
 split
 · exact .pure _
 · exact .stuck _
theorem Stab.underlying (t:TypeId):Stab P (Go.underlying t):=by
 unfold Go.underlying
 refine .bind .program fun p=>?_
 split
 · exact .pure _
 · exact .stuck _
theorem Stab.sizeOf (t:TypeId):Stab P (Go.sizeOf t):=.bind (.typeInfo t) fun _=>.pure _
theorem Stab.isAgg (t:TypeId):Stab P (Go.isAgg t):=by
 unfold Go.isAgg
 refine .bind (.underlying t) fun p=>?_
 split <;> exact .pure _
theorem Stab.loadCellsFrom (a:Addr):∀ (n i:Nat) (acc:Array Value),Stab P (Go.loadCellsFrom a i n acc)
 | 0,_,_=>.pure _
 | n+1,i,acc=>.bind (.load _) fun _=>Stab.loadCellsFrom a n _ _
theorem Stab.loadVar (t:TypeId) (a:Addr):Stab P (Go.loadVar t a):=by
 unfold Go.loadVar
 refine .bind (.isAgg t) fun b=>?_
 split
 · exact .bind (.sizeOf t) fun n=>.bind (.loadCellsFrom a _ _ _) fun _=>.pure _
 · exact .load _
theorem Stab.sureAddr (v:Value):Stab P (Instr.sureAddr v):=by
 unfold Instr.sureAddr
 split
 · exact .pure _
 · exact .stuck _
theorem Stab.asIntOf (v:Value):Stab P (Go.asIntOf v):=by
 unfold Go.asIntOf
 split
 · exact .pure _
 · exact .unsupported _
 · exact .stuck _
theorem runtimePanic_bounds {α:Type}(x y:Int) (s:Bool) (c:BoundsCode) (w:World) (v:α) (w':World):(Go.runtimePanic (.bounds x y s c):Sem α).run P w≠.ok v w':=by
 simp [Go.runtimePanic,Go.program,Sem.run,Sem.run_bind,goPanic,Result.andThen]
theorem never_bind {α β:Type}{s:Sem α}{f:α→Sem β}(hf:∀ a w v w',(f a).run P w≠.ok v w') (w:World) (v:β) (w':World):(s >>= f).run P w≠.ok v w':=by
 rw [Sem.run_bind]
 cases s.run P w with
 | halt x w1=>simp [Result.andThen]
 | ok a w1=>exact hf a w1 v w'
theorem Stab.boundsPanic {α:Type}(k:IntKind) (x y:Int) (c:BoundsCode):Stab P (Go.boundsPanic k x y c:Sem α):=.never fun w v w'=>by
 unfold Go.boundsPanic
 split
 · exact never_bind (fun a w v w'=>runtimePanic_bounds _ _ _ _ _ _ _) w v w'
 · exact never_bind (fun a w v w'=>runtimePanic_bounds _ _ _ _ _ _ _) w v w'
theorem Stab.indexAt (t:TypeId) (x i:Value):Stab P (Instr.indexAt t x i):=by
 unfold Instr.indexAt
 repeat' (first | exact Stab.pure _ | exact Stab.stuck _ | exact Stab.unsupported _ | exact Stab.boundsPanic _ _ _ _ | exact Stab.sizeOf _ | exact Stab.underlying _ | exact Stab.sureAddr _ | exact Stab.asIntOf _ | exact Stab.loadVar _ _ | exact Stab.typeInfo _ | refine Stab.bind ?_ (fun _=>?_) | split | dsimp only)
theorem Stab.loadAt (t:TypeId) (x:Value):Stab P (Instr.loadAt t x):=by
 unfold Instr.loadAt
 repeat' (first | exact Stab.pure _ | exact Stab.stuck _ | exact Stab.unsupported _ | exact Stab.boundsPanic _ _ _ _ | exact Stab.sizeOf _ | exact Stab.underlying _ | exact Stab.sureAddr _ | exact Stab.asIntOf _ | exact Stab.loadVar _ _ | exact Stab.typeInfo _ | refine Stab.bind ?_ (fun _=>?_) | split | dsimp only)
theorem Stab.extract (t:Value) (i:Nat):Stab P (Instr.extract t i):=by
 unfold Instr.extract
 repeat' (first | exact Stab.pure _ | exact Stab.stuck _ | exact Stab.unsupported _ | exact Stab.boundsPanic _ _ _ _ | exact Stab.sizeOf _ | exact Stab.underlying _ | exact Stab.sureAddr _ | exact Stab.asIntOf _ | exact Stab.loadVar _ _ | exact Stab.typeInfo _ | refine Stab.bind ?_ (fun _=>?_) | split | dsimp only)
def fieldB (P:Program) (s:TypeId) (j:Nat):Bool:=match P.underlying s with
  | some (.struct fs)=>match fs[j]? with
    | some f=>match P.info? f.type with
      | some i=>!(Nat.beq i.size 0)
      | none=>false
    | none=>false
  | _=>false
theorem Stab.fieldAt {s:TypeId}{j:Nat}(h:fieldB P s j=true) (x:Value):Stab P (Instr.fieldAt s x j):=by
 intro w o v w'
 unfold fieldB at h
 split at h
 · rename_i fs hu
   split at h
   · rename_i f hf
     split at h
     · rename_i i hi
       have hsz:i.size≠0:=by intro h0;rw [h0] at h;simp at h
       cases x with
       | pointer a=>
        cases a with
        | none=>simp [Instr.fieldAt,run_underlying hu,hf,Instr.sureAddr,stuck,Sem.run,Result.andThen,Sem.run_bind]
        | some a=>
         simp [Instr.fieldAt,run_underlying hu,hf,Instr.sureAddr,fieldPlace,Go.sizeOf,Go.typeInfo,hi,hsz]
         rintro rfl rfl;exact ⟨rfl,rfl⟩
       | _=>simp [Instr.fieldAt,run_underlying hu,hf,Instr.sureAddr,stuck,Sem.run,Result.andThen,Sem.run_bind]
     · cases h
   · cases h
 · cases h
end
section
variable {P : Program} {ops ops' : Array Oper} {md : Region.Mode} {w w1 : World} {n dn g : Nat} {on : Oper} {v : Value} {Q' : Exit → Act → World → Prop}
end
section
variable {c : Cx} {Q : Post} {E E' : Env} {D : List Deferred} {H : List Res}
end
end Go.Proofs.YtpmdhkjbhjgoaaaDoorK


/-
  Rows that are only read from now on; calls that read what the walk owns.
-/
namespace Go.Proofs.YtpmdhkjbhjgoaaaDoorK
open Go.RowKit
section
variable {c : Cx} {N : Md c} {M : Me c} {d : Nat} {ty : TypeId} {pos : String} {af : Array Edge} {rest : List Oper} {E : Env} {D : List Deferred} {H H' H'' : List Res} {v : Value} {x y z : Operand} {k : IntKind} {t t' : TypeId}
variable {B : Base} {w w' : World} {Φ Φ' Φ'' Ψ : List Res} {P : Program} {α : Type} {kd : Kd α} {W : World} {S : Nat → Prop} {A : Option Addr} {xs : List α}

theorem frame' {ι:Type}{inv:ι→Prop}{val:ι→Value}{post:ι→List Res}{g:FuncId}{args:Array Value}(hS:St B Φ w) (hs:Split Φ Ψ Φ') (h:∀ B',Grow B.e B'.e→(∀ r Φ'',Pick Φ' r Φ''→r.q B'.e)→St B' Ψ w→CallsIn Fence.wide 0 P g args w (Ret B' inv val post)) :
 CallsIn Fence.wide 0 P g args w (Ret B inv val (fun i=>post i++Φ')):=by
 have hS':=hS.perm hs.perm
 refine (h (B.call w Ψ) hS'.egrow (fun r Φ'' hp=>?_) hS'.lend).mono ?_
 · obtain ⟨h1,h2⟩:=(Sep.all _ _ _).1 hS'.sep
   refine r.st w _ (h1 r (List.mem_append_right _ hp.mem)).1 (fun k hk=>?_)
   rw [Base.e_heap,if_neg]
   · rfl
   · rintro ⟨s,hs,hsk⟩
     exact (List.pairwise_append.1 h2).2.2 s hs r hp.mem k hsk hk
 · rintro e w' ⟨i,hi,he,hw⟩
   exact ⟨i,hi,he,hS'.give hw⟩
def rdr (W:World) (S:Nat→Prop) (kd:Kd α) (A:Option Addr) (xs:List α):Res where
  fp:=S
  q w:=(∀ k,S k→k<w.heap.size)∧∀ w',Grow W w'→(∀ k,S k→w'.heap[k]?=w.heap[k]?)→kd.C w' A xs
  inb w h k hk:=h.1 k hk
  st w w' h hk:=⟨fun k hs=>by
    have h1:=h.1 k hs
    have h2:=hk k hs
    rw [Array.getElem?_eq_getElem h1] at h2
    exact (Array.getElem?_eq_some_iff.1 h2).1,fun w2 g h2=>h.2 w2 g (fun k hs=>(h2 k hs).trans (hk k hs))⟩
theorem rdr_C (h:(rdr W S kd A xs).q w) (g:Grow W w):kd.C w A xs:=h.2 w g (fun _ _=>rfl)
@[irreducible] def elx (a:Addr) (i s k:Nat):Addr:=a.add (i * s+k)
theorem elx_add (a:Addr) (i s k j:Nat):(elx a i s k).add j=elx a i s (k+j):=by unfold elx;rw [Addr.add_add,Nat.add_assoc]
theorem oIdxD {n cp i s:Nat}{e':TypeId}(hx:E.op x=some (.slice A n cp)) (hy:E.op y=some (.int k (i:Int))) (hp:Pick H (rdr c.B.e S kd A xs) H') (hn:xs.length=n) (hi:i<n) (ht:elemT c.P t=some (e',s)) (hsz:kd.sz=s)
 (h:∀ g,A=some g→O N rest ((d,.pointer (some (elx g i s 0))) :: E) D H) (hN:Nat.blt d c.N=true:=by rfl):O N (⟨some d,.indexAddr t x y,ty,pos,af,none⟩ :: rest) E D H:=by
 intro a w ha hw
 subst hsz hn
 obtain ⟨_,hC⟩:=rdr_C (hw.get hp) (Base.grow hw.ok)
 obtain ⟨ad,rfl,hc⟩:=hC (by omega)
 refine oC (.pointer (some (elx ad i kd.sz 0))) rfl hN (fun u w ha hw=>?_) (h ad rfl) a w ha hw
 have e1:elx ad i kd.sz 0=ad.add (i * kd.sz):=by unfold elx;rfl
 simp [execOp,ha.op hx,ha.op hy,run_indexAt ht ad _ cp i hi k w,e1]
theorem oLdD {g:Addr}{i j s:Nat}(hx:E.op x=some (.pointer (some (elx g i s j)))) (hp:Pick H (rdr c.B.e S kd A xs) H') (hA:A=some g) (hi:i<xs.length) (hsz:kd.sz=s) (hs:scalT c.P t=true)
 (h:∀ u cs,xs[i]?=some u→(∃ w,kd.K w u cs)→∃ v,cs[j]?=some v∧O N rest ((d,v) :: E) D H) (hN:Nat.blt d c.N=true:=by rfl):O N (⟨some d,.load t x,ty,pos,af,none⟩ :: rest) E D H:=by
 intro a w ha hw
 subst hsz hA
 obtain ⟨_,hC⟩:=rdr_C (hw.get hp) (Base.grow hw.ok)
 obtain ⟨ad,e,hc⟩:=hC (by omega)
 injection e with e
 subst e
 obtain ⟨cs,hK,hcell⟩:=hc i _ (List.getElem?_eq_getElem hi)
 obtain ⟨v,hv,hO⟩:=h _ cs (List.getElem?_eq_getElem hi) ⟨w,hK⟩
 have hc1:=hcell j v hv
 refine N.calm _ _ _ _ v rfl rfl ?_ (hO _ _ (ha.put hN) hw)
 have e1:elx g i kd.sz j=g.add (i * kd.sz+j):=by unfold elx;rfl
 simp [execOp,ha.fit.op hx,Instr.loadAt,Instr.sureAddr,loadVar,run_isAgg_s hs,e1,hc1]
theorem oSliceFrom {n cp m s:Nat}{e':TypeId}(hx:E.op x=some (.slice A n cp)) (hy:E.op y=some (.int k (m:Int))) (hp:Pick H (rdr c.B.e S kd A xs) H') (hn:xs.length=n) (hm:m≤n) (hnc:n≤cp) (ht:elemT c.P t=some (e',s)) (hsz:kd.sz=s)
 (h:∀ A' cp',n-m≤cp'→O M.toMd rest ((d,.slice A' (n-m) cp') :: E) D (rdr c.B.e S kd A' (xs.drop m) :: H')) (hN:Nat.blt d c.N=true:=by rfl):O M.toMd (⟨some d,.slice t x (some y) none none,ty,pos,af,none⟩ :: rest) E D H:=
 oEff rfl hN fun a w ha hw=>by
  subst hsz hn
  obtain ⟨h1,inf,h2,h3⟩:=run_elemT ht
  refine ⟨.slice (if cp=m then A else A.map (·.add (m * kd.sz))) (xs.length-m) (cp-m),w,_,?_,?_,h _ _ (by omega)⟩
  · simp [execOp,ha.op hx,ha.op hy,Instr.sliceAt,Instr.slice,run_underlying h1,Instr.sliceBounds,Instr.sliceBound,asIntOf,hm,sizeOf,typeInfo,h2,h3]
  · refine hw.upd' hp (Chg.refl _ _) ⟨fun k hk=>(hw.get hp).1 k hk,fun w' g hs=>?_⟩ (fun k hk=>.inl hk)
    obtain ⟨hl,hC⟩:=(hw.get hp).2 w' g hs
    refine ⟨by rw [List.length_drop];omega,fun h0=>?_⟩
    rw [List.length_drop] at h0
    obtain ⟨ad,rfl,hc⟩:=hC (by omega)
    refine ⟨ad.add (m * kd.sz),by rw [if_neg (by omega)];rfl,fun j u hj=>?_⟩
    rw [List.getElem?_drop] at hj
    obtain ⟨cs,hK,hcell⟩:=hc (m+j) u hj
    refine ⟨cs,hK,fun i v hv=>?_⟩
    rw [Addr.add_add,show m * kd.sz+(j * kd.sz+i)=(m+j) * kd.sz+i by rw [Nat.add_mul];omega]
    exact hcell i v hv
theorem oRoom {W0:World}{e:TypeId}{n cp:Nat}(hp:Pick H (row kd W0 e (.slice A n cp) xs) H') (h:n=xs.length→n≤cp→O N rest E D H):O N rest E D H:=fun a w ha hw=>by
 obtain ⟨cs,⟨hl,ho⟩,hr⟩:(row kd W0 e (.slice A n cp) xs).q w:=hw.get hp
 rcases ho with ⟨e1,e2⟩ | ⟨b,cap,cur,e1,_,hh,h1,h2,h3,h4⟩
 · injection e1 with e1 e3 e4
   exact h (by omega) (by omega) a w ha hw
 · injection e1 with e1 e3 e4
   exact h (by omega) (by omega) a w ha hw
end
end Go.Proofs.YtpmdhkjbhjgoaaaDoorK


/-
  What came in, opened by its kind: a reading of an argument's cells gives a value of the kind, and what is well-formed of it.
-/
namespace Go.Proofs.YtpmdhkjbhjgoaaaDoorK
open Go.RowKit Go.ChangeShapes Go.WideShapes
variable {P : Program}

structure Opens (P:Program) (t:TypeId) {α:Type}(d:Kd α) (V:α→Prop):Prop where
  get:∀ {H:Type}(enc:TypeId×Value→H) (w:World) (base:Nat) (held:Bool) (fuel:Nat) (cs:List Value) (x:DataW H×List MemPlace),DataW.trod enc P w base (fun _=>true) held fuel t cs=some x→∃ a,d.K w a cs∧V a

theorem Opens.weak {t:TypeId}{α:Type}{d:Kd α}{V V':α→Prop}(h:Opens P t d V) (hv:∀ a,V a→V' a):Opens P t d V':=⟨fun enc w base held fuel cs x hx=>by
 obtain ⟨a,hK,hV⟩:=h.get enc w base held fuel cs x hx
 exact ⟨a,hK,hv a hV⟩⟩
theorem opens_int {t:TypeId}{k:IntKind}(ht:P.underlying t=some (.int k)):Opens P t (Kd.int k) (fun n=>(Lit.int k n).wf=true):=by
 constructor
 intro H enc w base held fuel cs x h
 cases fuel with
 | zero=>simp [DataW.trod] at h
 | succ n=>
  unfold DataW.trod at h
  rw [ht] at h
  split at h <;> simp_all
  rename_i k' n' _
  obtain ⟨⟨rfl,hw⟩,_⟩:=h
  exact ⟨n',rfl,hw⟩
theorem opens_i64 {t:TypeId}(ht:P.underlying t=some (.int .i64)):Opens P t (Kd.int .i64) in64:=(opens_int ht).weak (fun n h=>by
 simp only [Lit.wf,Bool.and_eq_true,decide_eq_true_eq] at h
 exact ⟨h.1,h.2⟩)
theorem opens_string {t:TypeId}(ht:P.underlying t=some .string):Opens P t Kd.string (fun s=>s.size≤maxLen):=by
 constructor
 intro H enc w base held fuel cs x h
 cases fuel with
 | zero=>simp [DataW.trod] at h
 | succ n=>
  unfold DataW.trod at h
  rw [ht] at h
  split at h <;> simp_all
  exact ⟨_,rfl,h.1⟩
theorem list_of {α:Type}{Q:Nat→α→Prop} : ∀ (m:Nat),(∀ i,i<m→∃ y,Q i y)→∃ ys:List α,ys.length=m∧∀ i y,ys[i]?=some y→Q i y
 | 0,_=>⟨[],rfl,fun i y h=>by simp at h⟩
 | m+1,h=>by
  obtain ⟨ys,hl,hy⟩:=list_of m (fun i hi=>h i (by omega))
  obtain ⟨y,hq⟩:=h m (by omega)
  refine ⟨ys++[y],by simp [hl],fun i z hz=>?_⟩
  rcases Nat.lt_or_ge i ys.length with hi | hi
  · rw [List.getElem?_append_left hi] at hz;exact hy i z hz
  · rw [List.getElem?_append_right hi] at hz
    have:i=m:=by
     have:=(List.getElem?_eq_some_iff.1 hz).1
     simp at this;omega
    subst this
    rw [hl] at hz
    simp at hz
    subst hz
    exact hq
theorem opens_slice {t e:TypeId}{α:Type}{d:Kd α}{V:α→Prop}(ht:P.underlying t=some (.slice e)) (hc:P.cellsOf e=d.sz) (he:Opens P e d V):Opens P t (Kd.slice d) (fun xs=>xs.length≤maxLen∧∀ x ∈ xs,V x):=by
 constructor
 intro H enc w base held fuel cs x h
 rcases Go.Deep.open_slice ht h with ⟨rfl,_⟩ | ⟨a,len,cap,m,n,D,Pl,rfl,hb,hl,hm,hmm,rfl,hx⟩
 · exact ⟨[],⟨none,0,rfl,Nat.le_refl _,Kd.C_nil _ _ _⟩,by simp,by simp⟩
 · simp only [if_true] at hmm
   subst hmm
   have each:∀ i,i<m→∃ y:α,(∃ c,c.length=d.sz∧d.K w y c∧∀ j u,c[j]?=some u→w.cell? (a.add (i * d.sz+j))=some u)∧V y:=by
    intro i hi
    obtain ⟨cs',h1,h2⟩:=hx i hi
    obtain ⟨y,hK,hV⟩:=he.get enc w base held n cs' _ h2
    obtain ⟨_,h3,h4⟩:=World.cells?_some h1
    refine ⟨y,⟨cs',d.K_len hK,hK,fun j u hu=>?_⟩,hV⟩
    have hj:j<P.cellsOf e:=by rw [← h3];exact (List.getElem?_eq_some_iff.1 hu).1
    have:=h4 j hj
    rw [Go.Deep.add_add,hc,hu] at this
    exact this
   obtain ⟨ys,hlen,hy⟩:=list_of m each
   have hml:maxLen=9223372036854775807:=rfl
   have htl:(ys.take len).length=len:=by rw [List.length_take];omega
   refine ⟨ys.take len,⟨some a,m,by rw [htl],by omega,by omega,fun _=>⟨a,rfl,fun j p hj=>?_⟩⟩,by omega,fun z hz=>?_⟩
   · have hj2 : ys[j]? = some p := by
      have hjl:=(List.getElem?_eq_some_iff.1 hj).1
      rw [List.getElem?_take] at hj;split at hj
      · exact hj
      · cases hj
     obtain ⟨c,_,h1,h2⟩:=(hy j p hj2).1
     exact ⟨c,h1,h2⟩
   · obtain ⟨j,hj⟩:=List.getElem?_of_mem (List.mem_of_mem_take hz)
     exact (hy j z hj).2

structure OpensF (P:Program) (fs:List Field) (o tot:Nat) {α:Type}(d:Kd α) (V:α→Prop):Prop where
  get:∀ {H:Type}(enc:TypeId×Value→H) (w:World) (base:Nat) (held:Bool) (fuel:Nat) (cs:List Value),cs.length=tot→
    (∀ f ∈ fs,∃ x,DataW.trod enc P w base (fun _=>true) held fuel f.type ((cs.drop f.offset).take (P.cellsOf f.type))=some x)→∃ a,d.K w a (cs.drop o)∧V a
theorem opensF_one {f:Field}{o tot:Nat}{α:Type}{d:Kd α}{V:α→Prop}(h:Opens P f.type d V) (ho:f.offset=o) (ht:o+P.cellsOf f.type=tot):OpensF P [f] o tot d V:=by
 constructor
 intro H enc w base held fuel cs hl hf
 obtain ⟨x,hx⟩:=hf f (by simp)
 rw [ho,List.take_of_length_le (by simp;omega)] at hx
 exact h.get enc w base held fuel _ x hx
theorem opensF_cons {f:Field}{fs:List Field}{o tot:Nat}{α β:Type}{d:Kd α}{V:α→Prop}{d':Kd β}{V':β→Prop}(h:Opens P f.type d V) (ho:f.offset=o) (hs:OpensF P fs (o+P.cellsOf f.type) tot d' V') :
 OpensF P (f :: fs) o tot (Kd.pair d d') (fun p=>V p.1∧V' p.2):=by
 constructor
 intro H enc w base held fuel cs hl hf
 obtain ⟨x,hx⟩:=hf f (by simp)
 obtain ⟨a,hK,hV⟩:=h.get enc w base held fuel _ x hx
 obtain ⟨b,hK',hV'⟩:=hs.get enc w base held fuel cs hl (fun g hg=>hf g (List.mem_cons_of_mem _ hg))
 refine ⟨(a,b),⟨_,_,?_,hK,hK'⟩,hV,hV'⟩
 rw [ho,← List.drop_drop,List.take_append_drop]
theorem opens_struct {t:TypeId}{fs:Array Field}{α β:Type}{d:Kd α}{V:α→Prop}{g:β→α}(b:α→β) (hb:∀ a,g (b a)=a) (ht:P.underlying t=some (.struct fs)) (h:OpensF P fs.toList 0 (P.cellsOf t) d V):Opens P t (Kd.iso d g) (fun x=>V (g x)):=by
 constructor
 intro H enc w base held fuel cs x hx
 obtain ⟨xs,m,_,rfl,hl,hlen,hf⟩:=DataW.trod_struct ht hx
 obtain ⟨a,hK,hV⟩:=h.get enc w base held m cs hl (fun f hfm=>by
  obtain ⟨i,hi⟩:=List.getElem?_of_mem hfm
  have h1:=hf i f (by simpa using hi)
  have hlt:i<xs.length:=by
   have:=(List.getElem?_eq_some_iff.1 hi).1
   rw [hlen];simpa using this
  rw [List.getElem?_eq_getElem hlt] at h1
  exact ⟨_,h1⟩)
 exact ⟨b a,by show d.K w (g (b a)) cs;rw [hb];exact hK,by show V (g (b a));rw [hb];exact hV⟩
theorem law_of {P:Program}{f:FuncId}{args:Array Value}{W:World}(h:CallsIn Fence.wide 0 P f args W (Ret (Base.at W) (fun _:Unit=>True) (fun _=>.bool true) (fun _=>[]))):Calls P f args W (fun e w'=>e=.returned (.bool true)∧Below W.heap.size W w'):=
 Calls.mono (callsIn_wide.1 h) (by rintro e w' ⟨_,_,rfl,hS⟩;exact ⟨rfl,Base.at_below hS.ok⟩)
theorem C_at {α:Type}{kd:Kd α}{W:World}{A:Option Addr}{xs:List α}(h:kd.C W A xs):kd.C (Base.at W).e A xs:=by rw [Base.at_e];exact h
end Go.Proofs.YtpmdhkjbhjgoaaaDoorK
namespace Go.Proofs.YtpmdhkjbhjgoaaaDoorK
open Go.RowKit
/-! ### said short -/
theorem J {α:Sort _}{a:α} : a=a:=rfl
theorem ZP {P:Prop}(h:P:=by repeat constructor):P:=h
theorem ZQ {P:Prop}(h:P:=by repeat' constructor):P:=h
theorem ZK {P:Prop}(h:P:=by kernel_rfl):P:=h
theorem ZO {P:Prop}(h:P:=by omega):P:=h
theorem cv {E E':Env}(h:Cov E E':=by repeat (first | exact trivial | refine And.intro rfl ?_)):Cov E E':=h
theorem Lh {B:Base}{H H':List Res}(h:Has H H':=by repeat' constructor):Leads B H H':=Leads.has h
theorem wC {P Q1 Q0:Prop}(k1:Q1) (k0:Q0) (h:Q1→Q0→P:=by intro a b;first | exact wCond rfl a b | exact wCondB rfl a b):P:=h k1 k0
theorem fi1 {P:Program}{E:Env}{H:List Res}{t:Tmp}{v:Value}{K:List Value→Prop}(h:E.find t=some v) (k:K [v]):([]:List Deferred)=[]∧∃ vs,ResL P E H [.tmp t] vs∧K vs:=⟨rfl,_,.cons (.tmp h) .nil,k⟩
theorem ZI {P Q:Prop}(k:Q) (h:Q→P:=by intro a;exact ⟨rfl,_,(ResL.cons (by first | exact ResR.cell rfl (by repeat constructor) rfl | exact ResR.agg rfl (by repeat constructor) rfl rfl) ResL.nil),a⟩):P:=h k
theorem ZI2 {P Q:Prop}(k:Q) (h:Q→P:=by intro a;exact ⟨rfl,_,(ResL.cons (by first | exact ResR.cell rfl (by repeat constructor) rfl | exact ResR.agg rfl (by repeat constructor) rfl rfl) (ResL.cons (ResR.tmp rfl) ResL.nil)),a⟩):P:=h k
theorem ZX {F S P Q:Prop}(f:F) (s:S) (k:Q) (h:F→S→Q→P:=by intro f s a;refine enter f rfl rfl s ?_;simp only [List.zipIdx_cons,List.zipIdx_nil,List.map_cons,List.map_nil,Nat.reduceAdd,Nat.zero_add];exact a):P:=h f s k
theorem Zld {P Q:Prop}(k:Q) (h:Q→P:=by intro a;exact oLd rfl (by repeat constructor) rfl rfl a):P:=h k
theorem Zla {P Q:Prop}(k:Q) (h:Q→P:=by intro a;exact oLdA rfl (by repeat constructor) rfl (by repeat constructor) a):P:=h k
theorem Zst {P Q:Prop}(k:Q) (h:Q→P:=by intro a;exact oSt rfl rfl rfl rfl rfl (by repeat constructor) (by repeat constructor) a):P:=h k
theorem Zsa {P Q:Prop}(k:Q) (h:Q→P:=by intro a;exact oStA rfl rfl rfl rfl (by repeat constructor) (by rfl) a):P:=h k
theorem Zsu {P Q:Prop}(k:Q) (h:Q→P:=by intro a;exact oSucc rfl rfl (by omega) a):P:=h k
theorem Zfi {P Q:Prop}(k:Q) (h:Q→P:=by intro a;first | exact oField rfl rfl rfl (by repeat constructor) a | exact oFieldA rfl rfl rfl (by repeat constructor) a):P:=h k
theorem Zno {P Q:Prop}(k:Q) (h:Q→P:=by intro a;first | exact oNot rfl a | exact oNotB rfl a):P:=h k
theorem Zlx {P Q S:Prop}(c:S) (k:Q) (h:S→Q→P:=by intro c a;first | exact oLdX rfl c rfl rfl a | exact oLdXA rfl c rfl (by repeat constructor) a):P:=h c k
structure TT (n:Nat):Prop where
  mk ::
theorem ZT (n:Nat):TT n:=⟨⟩
section
variable {c : Cx} {M : Md c} {l : List Oper} {E : Env} {D : List Deferred} {H : List Res}
theorem oSplitT {t:Nat}{p:Prop} [Decidable p] (_:TT t) (hf:E.find t=some (.bool (decide p))) (k1:p→O M l ((t,.bool true) :: E) D H) (k0:¬ p→O M l ((t,.bool false) :: E) D H):O M l E D H:=oSplit hf k1 k0
theorem oSplitBT {t:Nat}{p:Bool}(_:TT t) (hf:E.find t=some (.bool p)) (k1:p=true→O M l ((t,.bool true) :: E) D H) (k0:p=false→O M l ((t,.bool false) :: E) D H):O M l E D H:=oSplitB hf k1 k0
end
theorem ZS {P T Q1 Q0:Prop}(t:T) (k1:Q1) (k0:Q0) (h:T→Q1→Q0→P:=by intro t a b;first | exact oSplitT t rfl a b | exact oSplitBT t rfl a b):P:=h t k1 k0
theorem ZY {P Q S:Prop}(x:S) (k:Q) (h:S→Q→P:=by intro x a;first | exact wCondT rfl a | exact wCondTd x rfl a | exact wCondTb x rfl a | exact wCondF rfl a | exact wCondFd x rfl a | exact wCondFb x rfl a):P:=h x k
section
variable {c : Cx} {M : Me c} {d : Nat} {ty : TypeId} {pos : String} {af : Array Edge} {rest : List Oper} {E : Env} {D : List Deferred} {H Ψ Φ' : List Res}
theorem ZC {ι:Type}{inv:ι→Prop}{val:ι→Value}{post:ι→List Res}{args:Array Operand}{ats:Array TypeId}{g:FuncId}{vs:List Value}
 (hargs:E.ops args.toList=some vs) (hs:Split H Ψ Φ') (hc:∀ w B',Grow c.B.e B'.e→St B' Ψ w→CallsIn Fence.wide 0 c.P g vs.toArray w (Ret B' inv val post)) (h:∀ i,inv i→O M.toMd rest ((d,val i) :: E) D (post i++Φ'))
 (hg:goodF c.P g=true:=by kernel_rfl) (hN:Nat.blt d c.N=true:=by rfl) :
 O M.toMd (⟨some d,.call { callee:=.value (.func g),args:=args,argTypes:=ats },ty,pos,af,none⟩ :: rest) E D H:=
 oCall hargs hg (fun w hS=>frame hS hs (fun B' hB hS'=>hc w B' hB hS')) h hN
theorem ZD {ι:Type}{inv:ι→Prop}{val:ι→Value}{post:ι→List Res}{args:Array Operand}{ats:Array TypeId}{g:FuncId}{vs:List Value}
 (hargs:E.ops args.toList=some vs) (hc:∀ w B',Grow c.B.e B'.e→(∀ r Φ'',Pick H r Φ''→r.q B'.e)→St B' [] w→CallsIn Fence.wide 0 c.P g vs.toArray w (Ret B' inv val post)) (h:∀ i,inv i→O M.toMd rest ((d,val i) :: E) D (post i++H))
 (hg:goodF c.P g=true:=by kernel_rfl) (hN:Nat.blt d c.N=true:=by rfl) :
 O M.toMd (⟨some d,.call { callee:=.value (.func g),args:=args,argTypes:=ats },ty,pos,af,none⟩ :: rest) E D H:=
 oCall hargs hg (fun w hS=>frame' hS .nil (fun B' hB hR hS'=>hc w B' hB hR hS')) h hN
end
section
variable {c : Cx} {M : Md c} {d : Nat} {ty t : TypeId} {pos : String} {af : Array Edge} {rest : List Oper} {E : Env} {D : List Deferred} {H : List Res} {x : Operand}
end
theorem ZF {P T1 T2 Q:Prop}(n:T1) (m:T2) (k:Q) (h:T1→T2→Q→P:=by intro n m a;first | exact zFX n m a | exact zFR n m a | exact zFD n m a):P:=h n m k
def Za:=@thn_n
def Zb:=@thn_x
def Zc:=@thn_r
def Zd:=@blk_n
def Ze:=@blk_x
def Zf:=@blk_r
def Zh:=@wSeq
def Zi:=@wRegion'
def Zj:=@wSkip
def Zk:=@wBlock
def Zl:=@wRet
def Zm:=@wExit
def Zn:=@oNil
def Zo:=@oMove
def Zp:=@oAssign
def Zq:=@oWant
def Zr:=@oSkip
def Zt:=@oPickT
def Zu:=@oPickF
def Zv:=@oLenS
def Zw:=@fin_r
def Zx:=@oLss
def Zy:=@oEql
def Zz:=@oFld
def Z0:=@oNeq
def Z1:=@oGtr
def Z2:=@oGeq
def Z3:=@oPtr
def ZR:=@oIdxR
def ZC0:=@oCall
def ZR1:=@oLdR1
def ZS0:=@oSet
end Go.Proofs.YtpmdhkjbhjgoaaaDoorK
/-
  A range over a function: what an iterator owes, a call of yield, the loop, and how a function with such loops is left.
-/
namespace Go.Proofs.YtpmdhkjbhjgoaaaDoorK
open Go.RowKit

section
variable {B : Base} {w w' : World} {Φ Φ' Ψ Fr : List Res}
end

section
variable {c : Cx} {Q : Post} {ops : Array Oper} {d : Nat} {ty : TypeId} {pos : String} {af : Array Edge} {rest : List Oper} {E : Env} {D : List Deferred} {H H' : List Res} {f : Operand}
def Cx.round (c:Cx) (l:Nat) (B':Base):Cx:=⟨c.P,Fence.wide.inRound l,c.N,B',fun _=>trivial,rfl,fun h=>h.inRound l⟩
end
section
variable {c : Cx} {N : Md c} {d : Nat} {ty : TypeId} {pos : String} {af : Array Edge} {rest : List Oper} {E : Env} {D : List Deferred} {H : List Res}
end
section
variable {c : Cx} {Q : Post} {E : Env} {D : List Deferred} {H : List Res} {x : Code}
end
end Go.Proofs.YtpmdhkjbhjgoaaaDoorK


/-
  What the walk has built, as data that are read from now on (seal); rows of raw cells; append of a whole slice.
-/
namespace Go.Proofs.YtpmdhkjbhjgoaaaDoorK
open Go.RowKit
section
variable {c : Cx} {N : Md c} {M : Me c} {d : Nat} {ty : TypeId} {pos : String} {af : Array Edge} {rest : List Oper} {E : Env} {D : List Deferred} {H H' H'' : List Res} {v : Value} {x y z : Operand} {k : IntKind} {t t' : TypeId}
variable {B : Base} {w w' : World} {Φ Φ' Φ'' Ψ : List Res} {P : Program} {α : Type} {kd : Kd α} {W : World} {S : Nat → Prop} {A : Option Addr} {xs : List α}
theorem oConv (hL:Leads c.B H H') (h:O N rest E D H'):O N rest E D H:=fun a w ha hw=>h a w ha (hL w hw)
theorem Has.refl:∀ (H:List Res),Has H H
 | []=>.nil
 | r :: H=>.cons .here (Has.refl H)
theorem sealed (hs:Split Φ Ψ Φ') (h:∀ w,(∀ r Φ'',Pick Ψ r Φ''→r.q w)→Grow W w→kd.C w A xs):Leads B Φ (rdr W (fun k=>∃ r ∈ Ψ,r.fp k) kd A xs :: Φ'):=by
 intro w hS
 have hS:=hS.perm hs.perm
 obtain ⟨ok,sep⟩:=hS
 obtain ⟨h1,h2⟩:=(Sep.all _ _ _).1 sep
 obtain ⟨h3,h4,h5⟩:=List.pairwise_append.1 h2
 refine ⟨ok,(Sep.all _ _ _).2 ⟨?_,?_⟩⟩
 · intro r hr
   rcases List.mem_cons.1 hr with rfl | hr
   · refine ⟨⟨?_,fun w' g hk=>h w' (fun r Φ'' hp=>r.st w w' (h1 r (List.mem_append_left _ hp.mem)).1 (fun k hf=>hk k ⟨r,hp.mem,hf⟩)) g⟩,?_⟩
     · rintro k ⟨r,hr,hf⟩
       exact r.inb w (h1 r (List.mem_append_left _ hr)).1 k hf
     · rintro k ⟨r,hr,hf⟩
       exact (h1 r (List.mem_append_left _ hr)).2 k hf
   · exact h1 r (List.mem_append_right _ hr)
 · refine List.pairwise_cons.2 ⟨?_,h4⟩
   rintro s hs k ⟨r,hr,hf⟩
   exact h5 r hr s hs k hf
theorem oSeal (Ψ:List Res) (hs:Split H Ψ H') (hC:∀ w,(∀ r Φ'',Pick Ψ r Φ''→r.q w)→Grow W w→kd.C w A xs) (h:∀ S,O N rest E D (rdr W S kd A xs :: H')):O N rest E D H:=
 oConv (sealed hs hC) (h _)
theorem C_blk {b:Nat}{tb:TypeId}{cs:List Value}(h:(blk b tb cs).q w) (hl:xs.length≤9223372036854775807) (hc:Cat kd w xs cs):kd.C w (some ⟨b,0,none⟩) xs:=by
 refine ⟨hl,fun _=>⟨_,rfl,fun j u hj=>?_⟩⟩
 obtain ⟨a,hK,ha⟩:=hc.at j u hj
 refine ⟨a,hK,fun i v hv=>?_⟩
 rw [add_at,Nat.zero_add,cell_of h]
 exact ha i v hv
def Raws (kd:Kd α) (W:World):List α→List (List Value)→Prop
  | [],rs=>rs=[]
  | x :: xs,rs=>∃ r rest,rs=r :: rest∧kd.K W x r∧Raws kd W xs rest
theorem Raws.length:∀ {xs:List α}{rs:List (List Value)},Raws kd W xs rs→rs.length=xs.length
 | [],rs,h=>by rw [show rs=[] from h];rfl
 | x :: xs,rs,⟨r,rest,e,_,h⟩=>by rw [e,List.length_cons,List.length_cons,Raws.length h]
theorem Raws.app:∀ {xs ys:List α}{rs qs:List (List Value)},Raws kd W xs rs→Raws kd W ys qs→Raws kd W (xs++ys) (rs++qs)
 | [],ys,rs,qs,h,k=>by rw [h];exact k
 | x :: xs,ys,rs,qs,⟨r,rest,e,hK,h⟩,k=>⟨r,rest++qs,by rw [e];rfl,hK,h.app k⟩
theorem Raws.one {u:α}{r:List Value}(h:kd.K W u r):Raws kd W [u] [r]:=⟨r,[],rfl,h,rfl⟩
theorem Raws.grow (g:Grow W w):∀ {xs:List α}{rs:List (List Value)},Raws kd W xs rs→Raws kd w xs rs
 | [],rs,h=>h
 | x :: xs,rs,⟨r,rest,e,hK,h⟩=>⟨r,rest,e,kd.K_grow g hK,Raws.grow g h⟩
inductive AppL {α:Type} : List α→List α→List α→Prop
  | nil {es} : AppL [] es es
  | cons {x cs es r} : AppL cs es r→AppL (x :: cs) es (x :: r)
theorem AppL.spec {α:Type}{cs es r:List α}(h:AppL cs es r):r=cs++es:=by
 induction h with
 | nil=>rfl
 | cons _ ih=>rw [ih];rfl
inductive Fulls (s:Nat):Nat→List (Nat×Value)→List Value→Prop
  | nil {i:Nat} : Fulls s i [] []
  | cons {i:Nat}{v:Value}{cs es ds:List Value}{r:List (Nat×Value)} : CellsOf v cs→cs.length=s→Fulls s (i+1) r es→AppL cs es ds→Fulls s i ((i,v) :: r) ds
theorem putL_at {α:Type}{vs:List α} : ∀ (off:Nat) (cs:List α),off+vs.length≤cs.length→PutL cs off vs (cs.take off++vs++cs.drop (off+vs.length))
 | 0,cs,h=>by
  have key:∀ (vs cs:List α),vs.length≤cs.length→PutL cs 0 vs (vs++cs.drop vs.length):=by
   intro vs
   induction vs with
   | nil=>intro cs h;exact .done
   | cons v vs ih=>
    intro cs h
    cases cs with
    | nil=>simp at h
    | cons c cs=>exact .put (ih cs (by simpa using h))
  simpa using key vs cs (by simpa using h)
 | off+1,cs,h=>by
  cases cs with
  | nil=>simp at h
  | cons c cs=>
   have:=putL_at (vs:=vs) off cs (by simp at h;omega)
   have e:(c :: cs).take (off+1)++vs++(c :: cs).drop (off+1+vs.length)=c :: (cs.take off++vs++cs.drop (off+vs.length)):=by
    rw [List.take_succ_cons,show off+1+vs.length=(off+vs.length)+1 by omega,List.drop_succ_cons];rfl
   rw [e]
   exact .skip this
theorem Fulls.built {s:Nat} : ∀ {vs:List (Nat×Value)}{k:Nat}{es zs:List Value},Fulls s k vs es→zs.length=(k+vs.length) * s→Built (fun i=>some (i * s,s)) zs vs (zs.take (k * s)++es)∧es.length=vs.length * s
 | [],k,es,zs,h,hz=>by
  cases h
  rw [List.append_nil,List.take_of_length_le (by rw [hz];simp)]
  exact ⟨.nil,by simp⟩
 | (i,v) :: r,k,ds,zs,h,hz=>by
  cases h with
  | cons hc hl hr ha=>
   rename_i cs es
   have hz':zs.length=i * s+s+r.length * s:=by rw [hz,List.length_cons];simp [Nat.add_mul];omega
   have hp:=putL_at (vs:=cs) (i * s) zs (by rw [hz',hl];omega)
   have hln:(zs.take (i * s)++cs++zs.drop (i * s+cs.length)).length=(i+1+r.length) * s:=by
    rw [List.length_append,List.length_append,List.length_take,List.length_drop,hz',hl];simp [Nat.add_mul];omega
   obtain ⟨h1,h2⟩:=Fulls.built hr hln
   have e:(zs.take (i * s)++cs++zs.drop (i * s+cs.length)).take ((i+1) * s)=zs.take (i * s)++cs:=by
    rw [List.take_append_of_le_length (by rw [List.length_append,List.length_take,hz',hl];simp [Nat.add_mul];omega),List.take_of_length_le]
    rw [List.length_append,List.length_take,hz',hl];simp [Nat.add_mul];omega
   rw [e] at h1
   rw [ha.spec]
   refine ⟨.cons (off:=i * s) (s:=s) rfl hc hl hp (by rw [← List.append_assoc];exact h1),?_⟩
   rw [List.length_append,hl,h2,List.length_cons,Nat.succ_mul];omega
theorem oBuildSliceF {len:Nat}{ps:Array (Nat×Operand)}{vs:List (Nat×Value)}{cs:List Value}{e:TypeId}{s:Nat}{zv:Value}(hx:Parts E ps.toList vs) (ht:elemT c.P t=some (e,s)) (hz:((c.P.info? e).map (·.zero))=some (some zv))
 (hsm:Nat.ble (len * s) 16777216=true) (h0:Nat.beq (len * s) 0=false) (hv:vs.length=len) (hf:Fulls s 0 vs cs)
 (h:∀ b,O M.toMd rest ((d,.slice (some ⟨b,0,none⟩) len len) :: E) D (blk b e cs :: H)) (hN:Nat.blt d c.N=true:=by rfl):O M.toMd (⟨some d,.buildSlice t len ps,ty,pos,af,none⟩ :: rest) E D H:=by
 subst hv
 have hb:=(hf.built (zs:=((Array.range (vs.length * s)).map (zv.cells[· % zv.cells.size]!)).toList) (by simp)).1
 rw [Nat.zero_mul,List.take_zero,List.nil_append] at hb
 exact oBuildSlice hx ht hz hsm h0 rfl hb h hN
def Src (kd:Kd α) (W w:World) (A:Option Addr) (ys:List α):Prop:=(0<ys.length→∃ ad,A=some ad)∧∀ ad,A=some ad→∃ news,Cat kd W ys news∧∀ j u,news[j]?=some u→w.cell? (ad.add j)=some u
theorem src_row {e:TypeId}{n cp:Nat}(h:(row kd W e (.slice A n cp) xs).q w):Src kd W w A xs:=by
 obtain ⟨cs,ho,hr⟩:=h
 refine ⟨fun h0=>?_,?_⟩
 · obtain ⟨hl,ho⟩:=ho
   rcases ho with ⟨e1,e2⟩ | ⟨b,cap,cur,e1,_⟩
   · omega
   · injection e1 with e1;exact ⟨_,e1⟩
 · rintro ad rfl
   refine ⟨cs,hr,fun j u hj=>?_⟩
   have ho':=ho
   obtain ⟨hl,ho⟩:=ho
   rcases ho with ⟨e1,e2⟩ | ⟨b,cap,cur,e1,_⟩
   · injection e1 with e1;cases e1
   · injection e1 with e1
     injection e1 with e1
     subst e1
     exact ho'.cells (g:=b) rfl j u hj
theorem oAppA {e:TypeId}{zv:Value}{s by_ m cp:Nat}{ys:List α}(hx:E.op x=some v) (hy:E.op y=some (.slice A m cp)) (ht:elemI c.P t=some (e,zv,s,by_)) (hsz:kd.sz=s)
 (hp:Pick H (row kd W e v xs) H') (hm:ys.length=m) (hsrc:∀ w,St c.B H w→Src kd W w A ys) (hl:xs.length+m≤1000000000) (hby:Nat.ble by_ 140000=true)
 (h:∀ A' cp',xs.length+m≤cp'→O M.toMd rest ((d,.slice A' (xs.length+m) cp') :: E) D (row kd W e (.slice A' (xs.length+m) cp') (xs++ys) :: H')) (hN:Nat.blt d c.N=true:=by rfl) :
 O M.toMd (⟨some d,.call { callee:=.builtin .append,args:=#[x,y],argTypes:=#[t,t] },ty,pos,af,none⟩ :: rest) E D H:=
 oEff rfl hN fun a w ha hw=>by
  have hb2:by_≤140000:=Nat.le_of_ble_eq_true hby
  have hml:maxLen=9223372036854775807:=rfl
  subst hsz
  obtain ⟨ht1,i0,hi,hz0,hz1,hz2,hzs,hsp⟩:=elemI_spec ht
  obtain ⟨cs,ho,hr⟩:(row kd W e v xs).q w:=hw.get hp
  have hlb:(xs.length+m) * by_≤140737488355328:=Nat.le_trans (Nat.mul_le_mul hl hb2) (by decide)
  obtain ⟨hs1,hs2⟩:=hsrc w hw
  cases A with
  | none=>
   have hm0:ys=[]:=by
    cases ys with
    | nil=>rfl
    | cons y ys=>obtain ⟨_,h⟩:=hs1 (by simp);cases h
   subst hm0
   simp only [List.length_nil] at hm
   subst hm
   obtain ⟨A',n',cp',rfl,e1,e2⟩:∃ A' n' cp',v=.slice A' n' cp'∧n'=xs.length∧n'≤cp':=by
    obtain ⟨hl,ho⟩:=ho
    rcases ho with ⟨rfl,e2⟩ | ⟨b,cap,cur,rfl,_,hh,h1,_⟩
    · exact ⟨_,_,_,rfl,e2.symm,Nat.le_refl _⟩
    · exact ⟨_,_,_,rfl,rfl,h1⟩
   subst e1
   refine ⟨.slice A' (xs.length+0) cp',w,_,?_,?_,h A' cp' (by omega)⟩
   · have hrun : (Builtin.append_ #[t, t] ty #[.slice A' xs.length cp', .slice none 0 cp]).run c.P w = .ok (.slice A' (xs.length + 0) cp') w := by
      cases A' <;> simp [Builtin.append_,run_underlying ht1,sizeOf,typeInfo,hi,Builtin.lenOf,Builtin.firstCells,loadCells,loadCellsFrom,e2,storeCells]
     simp [execOp,resolve,invoke,builtin,ha.op hx,ha.op hy,hrun]
   · refine hw.upd' hp (Chg.refl _ _) ?_ (fun k hk=>.inl hk)
     rw [List.append_nil,Nat.add_zero]
     exact ⟨cs,ho,hr⟩
  | some ad=>
   obtain ⟨news,hcat,hnews⟩:=hs2 ad rfl
   obtain ⟨v',w',hrun,hown,hgr,hnil,hat⟩:=run_append_own_at (P:=c.P) (w:=w) 0 t ty e i0 zv kd.sz by_ ht1 hi hz0 hz1 hz2 hzs hsp v xs.length cs ho ad m cp news (by rw [hcat.len,hm]) hnews hcat.ones (by omega) hlb (Nat.zero_le _)
   obtain ⟨A',cp',rfl,hcp⟩:∃ A' cp',v'=.slice A' (xs.length+m) cp'∧xs.length+m≤cp':=by
    obtain ⟨_,ho2⟩:=hown
    rcases ho2 with ⟨rfl,e2⟩ | ⟨g,cap,cur,rfl,_,_,h1,_⟩
    · exact ⟨_,_,by rw [e2],by omega⟩
    · exact ⟨_,_,rfl,h1⟩
   refine ⟨_,w',_,?_,?_,h A' cp' hcp⟩
   · simp [execOp,resolve,invoke,builtin,ha.op hx,ha.op hy,hrun]
   · refine hw.upd' hp ((Chg.of_grown hgr).mono (fun k hk=>hk.symm)) ⟨cs++news,by rw [List.length_append,hm];exact hown,hr.app hcat⟩ ?_
     intro k hk
     have hk:(Value.slice A' (xs.length+m) cp').ownBlock=some k:=hk
     rcases hat with h1 | h1
     · exact .inl (show v.ownBlock=some k from h1 ▸ hk)
     · right;rw [h1] at hk;have:=Option.some.inj hk;omega
theorem K_at {x:α}{cs:List Value}(h:kd.K W x cs):kd.K (Base.at W).e x cs:=by rw [Base.at_e];exact h
theorem okWide_aggL {r:Reach}{base:Nat}{fs:Array Field}{v:Value}(hu:P.underlying t=some (.struct fs)) (h:Value.okWide P w r base t v):∃ cs:List Value,v=.agg cs.toArray:=by
 unfold Value.okWide at h
 rw [hu] at h
 obtain ⟨cs,rfl,_⟩:=h
 exact ⟨cs.toList,by simp⟩
end
end Go.Proofs.YtpmdhkjbhjgoaaaDoorK


/-
  What is frozen for the rest of a body; bundles of rows (a slice of slices of one's own).
-/
namespace Go.Proofs.YtpmdhkjbhjgoaaaDoorK
open Go.RowKit
@[reducible] def Cx.base (c:Cx) (B':Base):Cx:=⟨c.P,c.F,c.N,B',c.fn,c.dp,c.call⟩
section
variable {c : Cx} {Q : Post} {x : Code} {E : Env} {D : List Deferred} {H H' Ψ Φ : List Res}
end
section
variable {B : Base} {Φ Φ' Ψ : List Res} {r r' : Res} {i : Nat}
end
abbrev Hdr:=Option Addr×Nat×Nat
abbrev hV (h:Hdr):Value:=.slice h.1 h.2.1 h.2.2
section
variable {α : Type} {kd : Kd α} {W : World} {ei eo : TypeId} {hs : List Hdr} {xss : List (List α)} {B : Base} {Φ Φ' Φ'' : List Res} {w : World}
end
section
variable {c : Cx} {N : Md c} {M : Me c} {rest : List Oper} {E : Env} {D : List Deferred} {H H' H'' : List Res}
variable {α : Type} {kd : Kd α} {W : World} {ei : TypeId} {hs : List Hdr} {xss : List (List α)}
end
end Go.Proofs.YtpmdhkjbhjgoaaaDoorK


/-
  The builtin copy; more on bundles.
-/
namespace Go.Proofs.YtpmdhkjbhjgoaaaDoorK
open Go.RowKit
section
variable {c : Cx} {N : Md c} {M : Me c} {d : Nat} {ty : TypeId} {pos : String} {af : Array Edge} {rest : List Oper} {E : Env} {D : List Deferred} {H H' H'' : List Res} {v : Value} {x y z : Operand} {k : IntKind} {t t' : TypeId}
end
section
variable {α : Type} {kd : Kd α} {W : World} {ei : TypeId} {hs : List Hdr} {xss : List (List α)} {B : Base} {Φ Φ' Φ'' : List Res}
end
section
variable {c : Cx} {N : Md c} {rest : List Oper} {E : Env} {D : List Deferred} {H H' H'' : List Res} {α : Type} {kd : Kd α} {W : World} {ei : TypeId} {hs : List Hdr} {xss : List (List α)}
end
end Go.Proofs.YtpmdhkjbhjgoaaaDoorK


/-
  The library's slices.Sort and slices.Compact at []int, as the walk meets them: out of the kit's contracts.
-/
namespace Go.Proofs.YtpmdhkjbhjgoaaaDoorK
open Go.RowKit Go.Shelf Go.Sort
section
variable {B : Base} {w : World} {P : Program} {ρ : Ren} {W : World} {e : TypeId} {A : Option Addr} {n cp : Nat} {zs : List Int}
theorem cat_scalar {α:Type}{enc:α→Value}{h1:∀ x,(enc x).oneCell'=true} : ∀ {xs:List α}{cs:List Value},Cat (Kd.scalar enc h1) W xs cs↔cs=xs.map enc
 | [],cs=>Iff.rfl
 | x :: xs,cs=>by
  constructor
  · rintro ⟨a,rest,e,hK,hR⟩
    rw [e,show a=[enc x] from hK,cat_scalar.1 hR];rfl
  · intro h
    exact ⟨[enc x],xs.map enc,h,rfl,cat_scalar.2 rfl⟩
theorem row_mk {α:Type}{enc:α→Value}{h1:∀ x,(enc x).oneCell'=true}{xs:List α}{b:Nat}{cur:Array Value}(hh:w.heap[b]?=some (.cells cur e (0,0))) (hn:xs.length≤cp) (hm:cp≤maxLen) (hs:cur.size=cp) (ht:cur.toList.take xs.length=xs.map enc) :
 (row (Kd.scalar enc h1) W e (.slice (some ⟨b,0,none⟩) xs.length cp) xs).q w:=by
 have e5:(Kd.scalar enc h1).sz=1:=rfl
 exact ⟨xs.map enc,⟨by rw [e5,List.length_map,Nat.mul_one],.inr ⟨b,cp,cur,rfl,Nat.zero_le _,hh,hn,hm,by rw [e5,Nat.mul_one];exact hs,by rw [e5,Nat.mul_one];exact ht⟩⟩,cat_scalar.2 rfl⟩
end
end Go.Proofs.YtpmdhkjbhjgoaaaDoorK


/-
  A region that draws its order, with late copies too: the tail is a list of places.
-/
namespace Go.Proofs.YtpmdhkjbhjgoaaaDoorK
open Go.RowKit
section
variable {P : Program} {ops : Array Oper} {md : Region.Mode} {w : World} {ts : List Nat}
def seqT (md:Region.Mode) (ops:Array Oper):List Nat→Array Bool→Bool
  | [],listed=>(Region.ready md ops listed).isEmpty
  | t :: ts,listed=>decide (Region.ready md ops listed=[t]) && seqT md ops ts (listed.setIfInBounds t true)
structure HI (md:Region.Mode) (ops:Array Oper) (ts:List Nat) (listed:Array Bool):Prop where
  size:listed.size=ops.size
  closed:∀ j oj,ops[j]?=some oj→listed.getD j false=true→∀ e ∈ oj.after,Region.binds md e=true→listed.getD e.on false=true
  tail:∀ t ∈ ts,listed.getD t true=false
theorem HI.set {i:Nat}{listed:Array Bool}(inv:HI md ops ts listed) (hi:i ∈ Region.ready md ops listed) (hin:i ∉ ts):HI md ops ts (listed.setIfInBounds i true):=by
 obtain ⟨_,oi,hoi,hall⟩:=mem_ready.1 hi
 refine ⟨by simp [inv.size],fun j oj hj hl e he hb=>?_,fun t ht=>by rw [getD_set_ne true (by rintro rfl;exact hin ht)];exact inv.tail t ht⟩
 by_cases hij:i=j
 · subst hij
   have:oj=oi:=Option.some.inj (hj.symm.trans hoi)
   subst this
   exact getD_set_true (hall e he hb)
 · rw [getD_set_ne false hij] at hl
   exact getD_set_true (inv.closed j oj hj hl e he hb)
end
section
variable {c : Cx} {Q : Post} {E E' : Env} {D : List Deferred} {H : List Res}
end
end Go.Proofs.YtpmdhkjbhjgoaaaDoorK


/-
  A region that draws its order, in whatever fence (in a round of a range over a function too): what only looks gives values; the tail is a list of places.
-/
namespace Go.Proofs.YtpmdhkjbhjgoaaaDoorK
open Go.RowKit
section
variable {F : Fence} {m : Nat} {P : Program} {ops : Array Oper} {md : Region.Mode} {w : World} {ts : List Nat}
def plainB (ops:Array Oper):Bool:=ops.all (fun o=>plain o.op)
theorem plain_at (h:plainB ops=true) {i:Nat}{o:Oper}(ho:ops[i]?=some o):plain o.op=true:=by
 obtain ⟨hi,he⟩:=Array.getElem?_eq_some_iff.1 ho
 have:=Array.all_eq_true.1 h i hi
 rw [he] at this;exact this
theorem wpAnyIn_of_seqT {Q':Exit→Act→World→Prop} : ∀ (ts:List Nat) (l:List Oper) (listed:Array Bool) (a:Act) (w:World),ts.mapM (fun t=>ops[t]?)=some l→seqT md ops ts listed=true→wpListIn F m P ops Q' l a w→wpAnyIn F m P md ops Q' ts.length listed a w
 | [],l,_,_,_,hl,hB,h=>by
  simp at hl;subst hl
  exact ⟨by simpa [seqT] using hB,h⟩
 | t :: ts,l,listed,a,w,hl,hB,h=>by
  rw [List.mapM_cons] at hl
  cases h0:ops[t]? with
  | none=>rw [h0] at hl;simp at hl
  | some o=>
   rw [h0] at hl
   cases hts:ts.mapM (fun t=>ops[t]?) with
   | none=>rw [hts] at hl;simp at hl
   | some l'=>
    rw [hts] at hl
    simp at hl
    subst hl
    simp only [seqT,Bool.and_eq_true,decide_eq_true_eq] at hB
    refine ⟨fun h1=>(by rw [hB.1] at h1;cases h1),fun i hi=>?_⟩
    rw [hB.1] at hi
    have hik:i=t:=by simpa using hi
    subst hik
    have hw:wpOpIn F m P ops Q' i (wpListIn F m P ops Q' l') a w:=by unfold wpOpIn;simp only [h0];exact h
    exact wpOpIn_mono (fun a' w' h'=>wpAnyIn_of_seqT ts l' _ a' w' hts hB.2 h') hw
end
section
variable {c : Cx} {Q : Post} {E E' : Env} {D : List Deferred} {H : List Res}
end
end Go.Proofs.YtpmdhkjbhjgoaaaDoorK


/-
  A region that draws its order, once more: what looks, at any time that the waits leave open; what turns the world (by a value), in its order; then the tail. What may look late is looked at again behind each turn.
-/
namespace Go.Proofs.YtpmdhkjbhjgoaaaDoorK
open Go.RowKit
section
variable {F : Fence} {m : Nat} {P : Program} {ops : Array Oper} {md : Region.Mode} {ts : List Nat} {listed : Array Bool}
def waitsP (md:Region.Mode) (ops:Array Oper):Nat→Nat→Nat→Bool
  | 0,j,i=>Region.waitsFor md ops j i
  | f+1,j,i=>Region.waitsFor md ops j i || (List.range ops.size).any fun k=>Region.waitsFor md ops j k && waitsP md ops f k i
abbrev Clo (md:Region.Mode) (ops:Array Oper) (listed:Array Bool):Prop:=∀ j oj,ops[j]?=some oj→listed.getD j false=true→∀ e ∈ oj.after,Region.binds md e=true→listed.getD e.on false=true
theorem waitsP_listed (cl:Clo md ops listed):∀ (f j i:Nat),listed.getD j false=true→waitsP md ops f j i=true→listed.getD i false=true:=by
 have one:∀ j i,listed.getD j false=true→Region.waitsFor md ops j i=true→listed.getD i false=true:=fun j i hj h=>by
  obtain ⟨oj,hoj,e,he,hb,rfl⟩:=Region.waitsFor_spec h
  exact cl j oj hoj hj e he hb
 intro f
 induction f with
 | zero=>exact one
 | succ f ih=>
  intro j i hj h
  simp only [waitsP,Bool.or_eq_true] at h
  rcases h with h | h
  · exact one j i hj h
  · obtain ⟨k,_,hk⟩:=List.any_eq_true.1 h
    simp only [Bool.and_eq_true] at hk
    exact ih k i (one j k hj hk.1) hk.2
theorem waitsP_ready (cl:Clo md ops listed) {f j i:Nat}(hj:j ∈ Region.ready md ops listed) (h:waitsP md ops f j i=true):listed.getD i false=true:=by
 obtain ⟨_,oj,hoj,hall⟩:=mem_ready.1 hj
 have one:∀ i,Region.waitsFor md ops j i=true→listed.getD i false=true:=fun i h=>by
  obtain ⟨o',ho',e,he,hb,rfl⟩:=Region.waitsFor_spec h
  have:o'=oj:=Option.some.inj (ho'.symm.trans hoj)
  subst this
  exact hall e he hb
 cases f with
 | zero=>exact one i h
 | succ f=>
  simp only [waitsP,Bool.or_eq_true] at h
  rcases h with h | h
  · exact one i h
  · obtain ⟨k,_,hk⟩:=List.any_eq_true.1 h
    simp only [Bool.and_eq_true] at hk
    exact waitsP_listed cl f k i (one k hk.1) hk.2
def lkA (P:Program) (ops:Array Oper) (A:Act) (w w':World) (i:Nat):Prop:=∃ o d,ops[i]?=some o∧o.dst=some d∧(execOp A.eval o).run P w=.ok (.value (A.tmps.getD d undef)) w'
def opTmps (o:Oper):List Nat:=o.op.operands.toList.filterMap fun | .tmp t=>some t | _=>none
variable {f : Nat}
structure Inv (ops:Array Oper) (ts:List Nat) (A:Act) (listed:Array Bool) (a:Act):Prop where
  hi:HI .any ops ts listed
  size:a.tmps.size=A.tmps.size
  dfr:a.defers=A.defers
  v1:∀ i o d,ops[i]?=some o→i ∉ ts→o.dst=some d→listed.getD i false=true→a.tmps.getD d undef=A.tmps.getD d undef
  v2:∀ t,(∀ i o,ops[i]?=some o→i ∉ ts→o.dst≠some t)→a.tmps.getD t undef=A.tmps.getD t undef
def cnt (ops:Array Oper) (ts:List Nat) (listed:Array Bool):Nat:=((List.range ops.size).filter fun i=>!(ts.contains i) && !(listed.getD i true)).length
theorem filter_one {l:List Nat}{p q:Nat→Bool}{i:Nat}(hn:l.Nodup) (hi:i ∈ l) (hp:p i=true) (hq:q i=false) (h:∀ j,j≠i→p j=q j):(l.filter q).length+1=(l.filter p).length:=by
 induction l with
 | nil=>cases hi
 | cons x l ih=>
  obtain ⟨hx,hn⟩:=List.nodup_cons.1 hn
  rw [List.filter_cons,List.filter_cons]
  by_cases e:x=i
  · subst e
    rw [hp,hq]
    have:l.filter q=l.filter p:=List.filter_congr (fun j hj=>(h j (by rintro rfl;exact hx hj)).symm)
    simp [this]
  · rw [h x e]
    have:=ih hn (by rcases List.mem_cons.1 hi with h | h;exact absurd h.symm e;exact h)
    cases q x <;> simp_all
theorem cnt_set {i:Nat}(hi:i<ops.size) (hs:listed.size=ops.size) (hit:i ∉ ts) (hun:listed.getD i true=false):cnt ops ts (listed.setIfInBounds i true)+1=cnt ops ts listed:=by
 unfold cnt
 refine filter_one List.nodup_range (List.mem_range.2 hi) (i:=i) ?_ ?_ (fun j hj=>?_)
 · simp [hit,hun]
 · have:(listed.setIfInBounds i true).getD i true=true:=by simp [hs,hi]
   simp [this]
 · rw [getD_set_ne true (Ne.symm hj)]
def doneL (ops:Array Oper) (ts:List Nat):Array Bool:=((List.range ops.size).map fun i=>!(ts.contains i)).toArray
end
end Go.Proofs.YtpmdhkjbhjgoaaaDoorK


/-
  The walk of such a region.
-/
namespace Go.Proofs.YtpmdhkjbhjgoaaaDoorK
open Go.RowKit
section
variable {P : Program} {ops : Array Oper} {a A : Act} {w w' w0 : World}
def isVal:Op→Bool
  | .move _ | .assign _ | .alloc _ | .box _ _ | .build _ _ | .buildSlice _ _ _ | .load _ _ | .binOp _ _ _ _ _ | .unOp _ _ _ | .fieldAddr _ _ _ | .field _ _ _ | .indexAddr _ _ _ | .index _ _ _ | .slice _ _ _ _ _ | .extract _ _ | .makeSlice _ _ _ | .makeFunc _ _ _ | .pick _ _ _ | .convert _ _ _ | .makeInterface _ _ | .lookup _ _ _ _ | .typeAssert _ _ _ _ | .nilCheck _=>true
  | .call { callee:=.builtin .append,.. }=>true
  | .call { callee:=.builtin .len,.. }=>true
  | _=>false
theorem val_of {s:Sem Value}{n:Next}(h:(do pure (Next.value (← s)):Sem Next).run P w=.ok n w'):∃ v,n=.value v:=by
 rw [Sem.run_bind] at h
 cases hs:s.run P w with
 | halt x w1=>rw [hs] at h;simp [Result.andThen] at h
 | ok v w1=>
  rw [hs,Result.andThen_ok,Sem.run_pure] at h
  injection h with h _
  exact ⟨v,h.symm⟩
theorem val_bind {α:Type}{P:Program}{w w':World}{n:Next}{s:Sem α}{f:α→Sem Next}(hf:∀ a w n w',(f a).run P w=.ok n w'→∃ v,n=.value v) (h:(s >>= f).run P w=.ok n w'):∃ v,n=.value v:=by
 rw [Sem.run_bind] at h
 cases hs:s.run P w with
 | halt x w1=>rw [hs] at h;simp [Result.andThen] at h
 | ok v w1=>rw [hs,Result.andThen_ok] at h;exact hf _ _ _ _ h
theorem nil_val {P:Program}{w w':World}{dst:Option Nat}{x:Operand}{ty:TypeId}{pos:String}{af:Array Edge}{g:Option (Nat×Bool)}{ρ:Operand→Value}{n:Next}(h:(execOp ρ ⟨dst,.nilCheck x,ty,pos,af,g⟩).run P w=.ok n w'):∃ v,n=.value v:=by
 have pv:∀ {u:Value}{n:Next}{w w':World},(Pure.pure (Next.value u):Sem Next).run P w=.ok n w'→∃ v,n=.value v:=fun h=>by
  rw [Sem.run_pure] at h;injection h with h _;exact ⟨_,h.symm⟩
 have rp:∀ {n:Next}{w w':World},(runtimePanic .nilDeref:Sem Next).run P w=.ok n w'→∃ v,n=.value v:=fun h=>by
  simp [go_sem] at h
 have h':=h
 simp only [execOp] at h'
 split at h'
 · exact rp h'
 · exact rp h'
 · exact rp h'
 · split at h'
   · exact rp h'
   · refine val_bind (fun a w n w' h=>?_) h'
     refine val_bind (fun a w n w' h=>?_) h
     split at h
     · refine val_bind (fun a w n w' h=>?_) h
       exact pv h
     · exact pv h
   · exact pv h'
 · exact pv h'
theorem val_run {o:Oper}(hv:isVal o.op=true) {ρ:Operand→Value}{n:Next}(h:(execOp ρ o).run P w=.ok n w'):∃ v,n=.value v:=by
 obtain ⟨dst,op,ty,pos,af,g⟩:=o
 have pv:∀ {u:Value},(Pure.pure (Next.value u):Sem Next).run P w=.ok n w'→∃ v,n=.value v:=fun h=>by
  rw [Sem.run_pure] at h;injection h with h _;exact ⟨_,h.symm⟩
 cases op <;> simp only [isVal,Bool.false_eq_true] at hv
 case call c=>
  obtain ⟨cal,args,ats⟩:=c
  cases cal with
  | builtin b=>
   cases b <;> simp only [Bool.false_eq_true] at hv
   all_goals
    simp only [execOp,resolve,Sem.run_bind,Sem.run_pure,Result.andThen_ok,invoke,builtin] at h
    first | exact val_of h | (rw [← Sem.run_bind] at h;exact val_of h) | skip
   all_goals
    revert h
    generalize Sem.run P _ w=r
    intro h
    cases r with
    | halt x w1=>simp [Result.andThen] at h
    | ok v w1=>simp only [Result.andThen_ok,Sem.run_pure,Result.ok.injEq] at h;exact ⟨v,h.1.symm⟩
  | _=>simp only [Bool.false_eq_true] at hv
 case pick cc x y=>
  have h':(do pure (Next.value (if ← asBool (ρ cc) then ρ x else ρ y)):Sem Next).run P w=.ok n w':=h
  rw [Sem.run_bind] at h'
  cases hs:(asBool (ρ cc)).run P w with
  | halt q w1=>rw [hs] at h';simp [Result.andThen] at h'
  | ok b w1=>
   rw [hs,Result.andThen_ok,Sem.run_pure] at h'
   injection h' with h' _
   exact ⟨_,h'.symm⟩
 case nilCheck x=>exact nil_val h
 all_goals first | exact pv h | exact val_of h
def lkX (P:Program) (ops:Array Oper) (w0:World) (K:Act→Prop):List Oper→Act→Prop
  | [],a=>K a
  | o :: rest,a=>if Region.wanted o (yielded ops a.tmps) then ∃ n,(execOp a.eval o).run P w0=.ok n w0∧∀ v,n=.value v→lkX P ops w0 K rest (a.put o.dst v) else lkX P ops w0 K rest (a.put o.dst undef)
variable {c : Cx} {Q : Post} {E E' : Env} {D : List Deferred} {H : List Res}
def Md.lk (c:Cx) (ops:Array Oper) (w0:World) (K:Act→Prop):Md c where
  X:=fun l a w=>w=w0→lkX c.P ops w0 K l a
  ops:=ops
  calm o rest a w v hw hp hr hK:=by
    rintro rfl
    simp only [lkX,hw,if_true]
    exact ⟨_,hr,fun v' h=>by cases h;exact hK rfl⟩
  skip o rest a w hw hK:=by
    rintro rfl
    simp only [lkX,hw]
    exact hK rfl
  want dst op ty pos af g rest a w hw h:=by
    rintro rfl
    have h:=h rfl
    simp only [lkX] at h ⊢
    rw [if_pos hw]
    rw [if_pos (show Region.wanted { dst:=dst,op:=op,type:=ty,pos:=pos,after:=af,guard:=none } (yielded ops a.tmps)=true from rfl)] at h
    exact h
def Again (c:Cx) (ops:Array Oper) (E:Env) (D:List Deferred) (H:List Res) (res:List Nat):Prop:=∀ a w,Ok c.N E D a→St c.B H w→∀ i ∈ res,lkA c.P ops a w w i
theorem Again.nil:Again c ops E D H []:=fun _ _ _ _ _ h=>by cases h
theorem Again.cons {i d:Nat}{v:Value}{res:List Nat}{op:Op}{ty:TypeId}{pos:String}{af:Array Edge}(ho:ops[i]?=some ⟨some d,op,ty,pos,af,none⟩) (hE:E.find d=some v) (hv:isVal op=true) (hN:Nat.blt d c.N=true) (h:∀ w0,O (Md.lk c ops w0 (fun a=>a.tmps.getD d undef=v)) [⟨some d,op,ty,pos,af,none⟩] E D H) (k:Again c ops E D H res):Again c ops E D H (i :: res):=by
 intro a w ha hw j hj
 rcases List.mem_cons.1 hj with rfl | hj
 · have h1:=h w a w ha hw rfl
   simp only [lkX] at h1
   rw [if_pos (show Region.wanted { dst:=some d,op:=op,type:=ty,pos:=pos,after:=af,guard:=none } (yielded ops a.tmps)=true from rfl)] at h1
   obtain ⟨n,hr,hk⟩:=h1
   obtain ⟨u,rfl⟩:=val_run (o:=⟨some d,op,ty,pos,af,none⟩) hv hr
   have h2:=hk u rfl
   have hd:d<a.tmps.size:=by rw [ha.size];simpa [Nat.blt_eq] using hN
   have h3:(a.put (some d) u).tmps.getD d undef=u:=by simp [Act.put,hd]
   refine ⟨_,d,ho,rfl,?_⟩
   rw [hr,ha.fit d v hE]
   congr 2
   rw [← h3];exact h2
 · exact k a w ha hw j hj
theorem oLkHas {d:Nat}{v:Value}(hE:E.find d=some v):O (Md.lk c ops w0 (fun a=>a.tmps.getD d undef=v)) [] E D H:=by
 rintro a w ha hw rfl
 exact ha.fit d v hE
end
end Go.Proofs.YtpmdhkjbhjgoaaaDoorK


/-
  Draws once more: turns of the world that may be calls.
-/
namespace Go.Proofs.YtpmdhkjbhjgoaaaDoorK
open Go.RowKit
def rnC (P:Program) (ops:Array Oper) (K:Act→World→Prop):List Oper→Act→World→Prop
  | [],a,w=>K a w
  | o :: rest, a, w => if Region.wanted o (yielded ops a.tmps) then ((∃ v w', (execOp a.eval o).run P w = .ok (.value v) w' ∧ rnC P ops K rest (a.put o.dst v) w') ∨ (∃ w', (execOp a.eval o).run P w = .ok .skip w' ∧ rnC P ops K rest (a.put o.dst undef) w') ∨
      (∃ g args w1,(execOp a.eval o).run P w=.ok (.enter g args) w1∧CallsIn Fence.wide 0 P g args w1 (fun e w2=>∃ v,e=.returned v∧rnC P ops K rest (a.put o.dst v) w2))) else rnC P ops K rest (a.put o.dst undef) w
section
variable {c : Cx} {Q : Post} {E E' : Env} {D : List Deferred} {H : List Res} {ops : Array Oper} {w0 : World}
def Me.rnC (c:Cx) (ops:Array Oper) (K:Act→World→Prop):Me c where
  X:=Go.Proofs.YtpmdhkjbhjgoaaaDoorK.rnC c.P ops K
  ops:=ops
  calm o rest a w v hw hp hr hK:=by
    simp only [Go.Proofs.YtpmdhkjbhjgoaaaDoorK.rnC,hw,if_true]
    exact .inl ⟨_,_,hr,hK⟩
  skip o rest a w hw hK:=by simp only [Go.Proofs.YtpmdhkjbhjgoaaaDoorK.rnC,hw];exact hK
  want dst op ty pos af g rest a w hw h:=by
    simp only [Go.Proofs.YtpmdhkjbhjgoaaaDoorK.rnC] at h ⊢
    rw [if_pos hw]
    rw [if_pos (show Region.wanted { dst:=dst,op:=op,type:=ty,pos:=pos,after:=af,guard:=none } (yielded ops a.tmps)=true from rfl)] at h
    exact h
  eff o rest a w v w' hw hp hr hK:=by
    simp only [Go.Proofs.YtpmdhkjbhjgoaaaDoorK.rnC,hw,if_true]
    exact .inl ⟨_,_,hr,hK⟩
  effs o rest a w w' hw hp hr hK:=by
    simp only [Go.Proofs.YtpmdhkjbhjgoaaaDoorK.rnC,hw,if_true]
    exact .inr (.inl ⟨_,hr,hK⟩)
  enter o rest a w g args w1 hw hp hr hK:=by
    simp only [Go.Proofs.YtpmdhkjbhjgoaaaDoorK.rnC,hw,if_true]
    exact .inr (.inr ⟨_,_,_,hr,hK⟩)
variable {ts : List Nat} {listed : Array Bool} {f : Nat}
end
end Go.Proofs.YtpmdhkjbhjgoaaaDoorK


/-
  A region that draws its order, in full: what looks (guards too), turns of the world that may be calls, what looks again, what looks anew behind a turn; then the tail.
-/
namespace Go.Proofs.YtpmdhkjbhjgoaaaDoorK
open Go.RowKit
section
variable {c : Cx} {Q : Post} {E E' : Env} {D : List Deferred} {H : List Res} {P : Program} {ops : Array Oper} {a A : Act} {w w' w0 : World}
def lkG (P:Program) (ops:Array Oper) (A:Act) (w:World) (i:Nat):Prop:=∃ o d,ops[i]?=some o∧o.dst=some d∧(if Region.wanted o (yielded ops A.tmps)=true then (execOp A.eval o).run P w=.ok (.value (A.tmps.getD d undef)) w else A.tmps.getD d undef=undef)
def AgainG (c:Cx) (ops:Array Oper) (E:Env) (D:List Deferred) (H:List Res) (res:List Nat):Prop:=∀ a w,Ok c.N E D a→St c.B H w→∀ i ∈ res,lkG c.P ops a w i
theorem AgainG.nil:AgainG c ops E D H []:=fun _ _ _ _ _ h=>by cases h
theorem AgainG.cons {i d:Nat}{v:Value}{res:List Nat}{op:Op}{ty:TypeId}{pos:String}{af:Array Edge}{g:Option (Nat×Bool)}(ho:ops[i]?=some ⟨some d,op,ty,pos,af,g⟩) (hE:E.find d=some v) (hv:isVal op=true) (hN:Nat.blt d c.N=true) (h:∀ w0,O (Md.lk c ops w0 (fun a=>a.tmps.getD d undef=v)) [⟨some d,op,ty,pos,af,g⟩] E D H) (k:AgainG c ops E D H res):AgainG c ops E D H (i :: res):=by
 intro a w ha hw j hj
 rcases List.mem_cons.1 hj with rfl | hj
 · have h1:=h w a w ha hw rfl
   simp only [lkX] at h1
   have hd:d<a.tmps.size:=by rw [ha.size];simpa [Nat.blt_eq] using hN
   have h3:∀ u,(a.put (some d) u).tmps.getD d undef=u:=fun u=>by simp [Act.put,hd]
   refine ⟨_,d,ho,rfl,?_⟩
   by_cases hwd:Region.wanted { dst:=some d,op:=op,type:=ty,pos:=pos,after:=af,guard:=g } (yielded ops a.tmps)=true
   · rw [if_pos hwd] at h1 ⊢
     obtain ⟨n,hr,hk⟩:=h1
     obtain ⟨u,rfl⟩:=val_run (o:=⟨some d,op,ty,pos,af,g⟩) hv hr
     have h2:=hk u rfl
     rw [hr,ha.fit d v hE]
     congr 2
     rw [← h3 u];exact h2
   · rw [if_neg hwd] at h1 ⊢
     rw [ha.fit d v hE,← h1,h3]
 · exact k a w ha hw j hj
def guardNe (ops:Array Oper) (o:Oper) (d:Nat):Bool:=match o.guard with
  | none=>true
  | some g=>match ops[g.1]? with
    | some og=>og.dst != some d
    | none=>true
theorem yielded_put {o:Oper}{d:Nat}{v:Value}(h:guardNe ops o d=true):Region.wanted o (yielded ops (a.put (some d) v).tmps)=Region.wanted o (yielded ops a.tmps):=by
 unfold Region.wanted
 unfold guardNe at h
 cases hg:o.guard with
 | none=>rfl
 | some g=>
  rw [hg] at h
  simp only at h ⊢
  congr 1
  unfold yielded
  cases hog:ops[g.1]? with
  | none=>simp
  | some og=>
   rw [hog] at h
   simp only [bne_iff_ne,ne_eq] at h
   simp only [Option.bind_some]
   cases hd:og.dst with
   | none=>simp
   | some d'=>
    have hne:d≠d':=by rintro rfl;exact h hd
    simp only [Option.bind_some,Act.put,Array.getElem?_setIfInBounds,if_neg hne]
def keepG (ops:Array Oper) (i j:Nat):Bool:=match ops[i]?,ops[j]? with
  | some o,some o'=>(match o'.dst with | some d=>!((opTmps o).contains d) && o.dst != some d && guardNe ops o d | none=>true)
  | _,_=>false
theorem lk_keepG {i j:Nat}{oj:Oper}{v:Value}(hk:keepG ops i j=true) (hj:ops[j]?=some oj) (hs:Region.noSelect ops=true) (h:lkG P ops a w i):lkG P ops (a.put oj.dst v) w i:=by
 obtain ⟨o,d,ho,hd,hr⟩:=h
 unfold keepG at hk
 rw [ho,hj] at hk
 simp only at hk
 cases hdj:oj.dst with
 | none=>exact ⟨o,d,ho,hd,hr⟩
 | some dj=>
  rw [hdj] at hk
  simp only [Bool.and_eq_true,bne_iff_ne,ne_eq] at hk
  have hne:dj≠d:=by rintro rfl;exact hk.1.2 hd
  refine ⟨o,d,ho,hd,?_⟩
  have e1:execOp (a.put (some dj) v).eval o=execOp a.eval o:=execOp_congr o (fun cs b=>Region.noSelect_spec hs i o cs b ho) (fun x hx=>Act.eval_put (fun d' hd' hxd=>by
   injection hd' with hd'
   subst hd' hxd
   have:dj ∈ opTmps o:=List.mem_filterMap.2 ⟨.tmp dj,by simpa using hx,rfl⟩
   have h1:=hk.1.1
   simp [this] at h1))
  have e2:(a.put (some dj) v).tmps.getD d undef=a.tmps.getD d undef:=by simp only [Act.put,Array.getD_eq_getD_getElem?,Array.getElem?_setIfInBounds,if_neg hne]
  rw [e1,e2,yielded_put hk.2];exact hr
theorem lk_selfG {i d:Nat}{o:Oper}{v:Value}(ho:ops[i]?=some o) (hd:o.dst=some d) (hn:(opTmps o).contains d=false) (hgn:guardNe ops o d=true) (hs:Region.noSelect ops=true) (hl:d<a.tmps.size) (hr:if Region.wanted o (yielded ops a.tmps)=true then (execOp a.eval o).run P w=.ok (.value v) w else v=undef):lkG P ops (a.put o.dst v) w i:=by
 refine ⟨o,d,ho,hd,?_⟩
 rw [hd]
 have e1:execOp (a.put (some d) v).eval o=execOp a.eval o:=execOp_congr o (fun cs b=>Region.noSelect_spec hs i o cs b ho) (fun x hx=>Act.eval_put (fun d' hd' hxd=>by
  injection hd' with hd'
  subst hd' hxd
  have:d ∈ opTmps o:=List.mem_filterMap.2 ⟨.tmp d,by simpa using hx,rfl⟩
  simp [this] at hn))
 have e2:(a.put (some d) v).tmps.getD d undef=v:=by simp [Act.put,hl]
 rw [e1,e2,yielded_put hgn];exact hr
def opG (ops:Array Oper) (N i:Nat):Bool:=match ops[i]? with
  | some o=>isVal o.op && (match o.dst with | some d=>Nat.blt d N && !((opTmps o).contains d) && guardNe ops o d | none=>false)
  | none=>false
theorem opG_spec {N i:Nat}(h:opG ops N i=true):∃ (o:Oper) (d:Nat),ops[i]?=some o∧o.dst=some d∧isVal o.op=true∧d<N∧(opTmps o).contains d=false∧guardNe ops o d=true:=by
 unfold opG at h
 split at h
 · rename_i o ho
   simp only [Bool.and_eq_true] at h
   obtain ⟨h1,h3⟩:=h
   split at h3
   · rename_i d hd
     simp only [Bool.and_eq_true,Nat.blt_eq] at h3
     exact ⟨o,d,ho,hd,h1,h3.1.1,by simpa using h3.1.2,h3.2⟩
   · cases h3
 · cases h
def orderG (ops:Array Oper) (N:Nat):List Nat→Bool
  | k :: ks=>opG ops N k && (ks.all fun j=>keepG ops k j) && orderG ops N ks
  | []=>true
theorem lk_canG {N:Nat}{K:Act→Prop}(hs:Region.noSelect ops=true) {w:World} : ∀ (ks:List Nat) (hd:List Oper) (done:List Nat) (a:Act),ks.mapM (fun k=>ops[k]?)=some hd→orderG ops N ks=true→a.tmps.size=N→(∀ i ∈ done,lkG c.P ops a w i)→(∀ i ∈ done,∀ j ∈ ks,keepG ops i j=true)→
 lkX c.P ops w K hd a→
 ∃ A,A.tmps.size=N∧A.defers=a.defers∧(∀ t,(∀ j ∈ ks,∀ o,ops[j]?=some o→o.dst≠some t)→A.tmps.getD t undef=a.tmps.getD t undef)∧(∀ i ∈ done++ks,lkG c.P ops A w i)∧K A
 | [],hd,done,a,hk,hB,hN,hdn,hkp,h=>by
  simp at hk;subst hk
  exact ⟨a,hN,rfl,fun _ _=>rfl,by simpa using hdn,h⟩
 | k :: ks,hd,done,a,hk,hB,hN,hdn,hkp,h=>by
  rw [List.mapM_cons] at hk
  simp only [orderG,Bool.and_eq_true] at hB
  obtain ⟨⟨h1,h2⟩,h4⟩:=hB
  obtain ⟨o,d,ho,hd',hv,hdN,hself,hgn⟩:=opG_spec h1
  rw [ho] at hk
  cases hks:ks.mapM (fun k=>ops[k]?) with
  | none=>rw [hks] at hk;simp at hk
  | some l'=>
   rw [hks] at hk
   simp at hk
   subst hk
   have hgo:∃ v,(if Region.wanted o (yielded ops a.tmps)=true then (execOp a.eval o).run c.P w=.ok (.value v) w else v=undef)∧lkX c.P ops w K l' (a.put o.dst v):=by
    simp only [lkX] at h
    by_cases hw:Region.wanted o (yielded ops a.tmps)=true
    · rw [if_pos hw] at h
      obtain ⟨n,hr,hkk⟩:=h
      obtain ⟨v,rfl⟩:=val_run hv hr
      exact ⟨v,by rw [if_pos hw];exact hr,hkk v rfl⟩
    · rw [if_neg hw] at h
      exact ⟨undef,by rw [if_neg hw],h⟩
   obtain ⟨v,hr,hkk⟩:=hgo
   obtain ⟨A,hA1,hA2,hA3,hA4,hA5⟩:=lk_canG hs ks l' (done++[k]) (a.put o.dst v) hks h4 (by rw [hd'];simpa [Act.put] using hN)
    (fun i hi=>by
     rcases List.mem_append.1 hi with hi | hi
     · exact lk_keepG (hkp i hi k List.mem_cons_self) ho hs (hdn i hi)
     · obtain rfl:=List.mem_singleton.1 hi
       exact lk_selfG (a:=a) ho hd' hself hgn hs (by omega) hr)
    (fun i hi=>by
     rcases List.mem_append.1 hi with hi | hi
     · exact fun j hj=>hkp i hi j (List.mem_cons_of_mem _ hj)
     · obtain rfl:=List.mem_singleton.1 hi
       exact fun j hj=>List.all_eq_true.1 h2 j hj)
    hkk
   refine ⟨A,hA1,by rw [hA2,hd'];rfl,fun t ht1=>?_,by rw [List.append_assoc] at hA4;exact hA4,hA5⟩
   rw [hA3 t (fun j hj=>ht1 j (List.mem_cons_of_mem _ hj))]
   have hne:d≠t:=by rintro rfl;exact ht1 k List.mem_cons_self o ho hd'
   rw [hd']
   simp only [Act.put,Array.getD_eq_getD_getElem?,Array.getElem?_setIfInBounds,if_neg hne]
variable {ts : List Nat} {listed : Array Bool} {f : Nat}
theorem get_eq {x y:Array Value}(hs:x.size=y.size) (d:Nat) (h:x.getD d undef=y.getD d undef):x[d]?=y[d]?:=by
 by_cases hl:d<x.size
 · have hl':d<y.size:=by omega
   rw [Array.getElem?_eq_getElem hl,Array.getElem?_eq_getElem hl']
   simp only [Array.getD_eq_getD_getElem?,Array.getElem?_eq_getElem hl,Array.getElem?_eq_getElem hl',Option.getD_some] at h
   rw [h]
 · rw [Array.getElem?_eq_none (by omega),Array.getElem?_eq_none (by omega)]
theorem put_same {x:Array Value}{d:Nat}(h:d<x.size):x.setIfInBounds d (x.getD d undef)=x:=by
 apply Array.ext_getElem?
 intro k
 rw [Array.getElem?_setIfInBounds]
 split
 · rename_i e;subst e
   simp [h]
 · rfl
end
end Go.Proofs.YtpmdhkjbhjgoaaaDoorK


/-
  Values of methods.
-/
namespace Go.Proofs.YtpmdhkjbhjgoaaaDoorK
open Go.RowKit
section
variable {c : Cx} {N : Md c} {d : Nat} {ty : TypeId} {pos : String} {af : Array Edge} {rest : List Oper} {E : Env} {D : List Deferred} {H : List Res}
end
end Go.Proofs.YtpmdhkjbhjgoaaaDoorK


/-
  min, max; addresses in arrays; arrays by value that come in.
-/
namespace Go.Proofs.YtpmdhkjbhjgoaaaDoorK
open Go.RowKit Go.ChangeShapes Go.WideShapes
section
variable {c : Cx} {M : Md c} {d : Nat} {ty : TypeId} {pos : String} {af : Array Edge} {rest : List Oper} {E : Env} {D : List Deferred} {H : List Res} {x y : Operand} {t t' : TypeId}
def arrT (P:Program) (t:TypeId):Option (Nat×Nat):=match P.underlying t with
  | some (.array n e)=>(P.info? e).map fun i=>(n,i.size)
  | _=>none
theorem oIdxA {b o i n s m:Nat}{k:IntKind}{z:Int}(hx:E.op x=some (.pointer (some ⟨b,o,none⟩))) (hy:E.op y=some (.int k z)) (hz:z=(i:Int)) (ht:arrT c.P t=some (n,s)) (hi:i<n) (hm:o+i * s=m) (h:O M rest ((d,.pointer (some ⟨b,m,none⟩)) :: E) D H) (hN:Nat.blt d c.N=true:=by rfl):O M (⟨some d,.indexAddr t x y,ty,pos,af,none⟩ :: rest) E D H:=
 oC _ rfl hN (fun u w ha hw=>by
  subst hz
  unfold arrT at ht
  cases hu:c.P.underlying t with
  | none=>rw [hu] at ht;cases ht
  | some ut=>
   rw [hu] at ht
   cases ut <;> simp only [Option.map_eq_some_iff,reduceCtorEq,false_and,exists_false] at ht
   case array n' e'=>
    obtain ⟨inf,h2,h3⟩:=ht
    injection h3 with h4 h5
    subst h4 h5
    have he:(⟨b,o,none⟩:Addr).add (i * inf.size)=⟨b,m,none⟩:=by rw [add_at,hm]
    simp [execOp,ha.op hx,ha.op hy,Instr.indexAt,asIntOf,run_underlying hu,Instr.sureAddr,sizeOf,typeInfo,h2,hi,he]) h
end
end Go.Proofs.YtpmdhkjbhjgoaaaDoorK
namespace Go.Proofs.YtpmdhkjbhjgoaaaDoorK
open Go.RowKit
theorem ap {P:Prop}(h:P:=by repeat (first | exact AppL.nil | apply AppL.cons)):P:=h
def Z8:=@AgainG.cons
def Z9:=@oLkHas
theorem Zza {P Q:Prop}(k:Q) (h:Q→P:=by intro a;exact (Zn (Za (Zl (Zw (fi1 J a)))))):P:=h k
theorem Zzb {P Q:Prop}(k:Q) (h:Q→P:=by intro a;exact (Zi (Zp J (Zn (Za (Zl (Zc (Zw (fi1 J a))))))))):P:=h k
theorem Zzc {P Q:Prop}(k:Q) (h:Q→P:=by intro a;exact (Zp J (Zn (Za (Zl (Zf (Zc (Zc (Zf (Zc (Zw (fi1 J a)))))))))))):P:=h k
end Go.Proofs.YtpmdhkjbhjgoaaaDoorK
namespace Go.Proofs.YtpmdhkjbhjgoaaaDoorK
open Go.RowKit
structure Elm {α:Type}(kd:Kd α) (W:World) (A:Option Addr) (i:Nat) (u:α) (e:Addr) (cs:List Value):Prop where
  at_:∃ ad,A=some ad∧e=ad.add (i * kd.sz)
  K:kd.K W u cs
  cell:∀ j v,cs[j]?=some v→W.cell? (adr e j)=some v
theorem Kd.C.elm {α:Type}{kd:Kd α}{W:World}{A:Option Addr}{xs:List α}{i:Nat}{u:α}(hC:kd.C W A xs) (hu:xs[i]?=some u):∃ e cs,Elm kd W A i u e cs:=by
 obtain ⟨hi,rfl⟩:=List.getElem?_eq_some_iff.1 hu
 obtain ⟨_,hC⟩:=hC
 obtain ⟨ad,rfl,hc⟩:=hC (by omega)
 obtain ⟨cs,hK,hcell⟩:=hc i _ hu
 exact ⟨_,cs,⟨ad,rfl,rfl⟩,hK,fun j v hv=>by
  have e1:adr (ad.add (i * kd.sz)) j=ad.add (i * kd.sz+j):=by unfold adr;exact Addr.add_add _ _ _
  rw [e1];exact hcell j v hv⟩
section
variable {c : Cx} {M : Md c} {d : Nat} {ty t : TypeId} {pos : String} {af : Array Edge} {rest : List Oper} {E : Env} {D : List Deferred} {H : List Res} {x y : Operand}
theorem oIdxE {α:Type}{kd:Kd α}{k:IntKind}{A:Option Addr}{i:Nat}{n cp:Nat}{e:TypeId}{s:Nat}{u:α}{e':Addr}{cs:List Value}(hx:E.op x=some (.slice A n cp)) (hy:E.op y=some (.int k (i:Int))) (hE:Elm kd c.B.e A i u e' cs) (hi:i<n) (ht:elemT c.P t=some (e,s)) (hsz:kd.sz=s)
 (h:O M rest ((d,.pointer (some (adr e' 0))) :: E) D H) (hN:Nat.blt d c.N=true:=by rfl):O M (⟨some d,.indexAddr t x y,ty,pos,af,none⟩ :: rest) E D H:=by
 subst hsz
 obtain ⟨ad,rfl,rfl⟩:=hE.at_
 refine oC (.pointer (some (adr (ad.add (i * kd.sz)) 0))) rfl hN (fun u w ha hw=>?_) h
 have e1:adr (ad.add (i * kd.sz)) 0=ad.add (i * kd.sz):=by unfold adr;rfl
 simp [execOp,ha.op hx,ha.op hy,run_indexAt ht ad _ cp i hi k w,e1]
end
theorem row_Cs {α:Type}{enc:α→Value}{h1:∀ x,(enc x).oneCell'=true}{W w:World}{e:TypeId}{A:Option Addr}{n cp:Nat}{xs:List α}(h:(row (Kd.scalar enc h1) W e (.slice A n cp) xs).q w):(Kd.scalar enc h1).C w A xs:=by
 obtain ⟨cs,ho,hr⟩:=h
 exact (row_C (kd:=Kd.scalar enc h1) (W:=w) (e:=e) (n:=n) (cp:=cp) ⟨cs,ho,cat_scalar.2 (cat_scalar.1 hr)⟩ (Grow.refl _)).2.2.1
theorem blk_row {α:Type}{B:Base}{Φ Φ':List Res}{enc:α→Value}{h1:∀ x,(enc x).oneCell'=true}{W:World}{xs:List α}{e:TypeId}{b n:Nat}{cs:List Value}(hp:Pick Φ (blk b e cs) Φ') (hc:cs=xs.map enc) (hn:xs.length=n) (hm:n≤maxLen):Leads B Φ (row (Kd.scalar enc h1) W e (.slice (some ⟨b,0,none⟩) n n) xs :: Φ'):=fun w h=>
  (h.perm hp.perm).conv .here (fun hq=>by
    subst hn hc
    exact row_mk (cur:=(xs.map enc).toArray) hq (Nat.le_refl _) hm (by simp) (by rw [← List.length_map (f:=enc),List.take_length])) (fun k hk=>by
      have:some b=some k:=hk
      injection this with h;exact h.symm)
end Go.Proofs.YtpmdhkjbhjgoaaaDoorK
namespace Go.Proofs.YtpmdhkjbhjgoaaaDoorK
open Go.RowKit
section
variable {c : Cx} {M : Md c} {d : Nat} {ty : TypeId} {pos : String} {af : Array Edge} {rest : List Oper} {E : Env} {D : List Deferred} {H H' : List Res} {x y : Operand} {t t' : TypeId} {v : Value}
def byteAt (s:ByteArray) (i:Nat):Int:=((s[i]?).map fun b=>(b.toNat:Int)).getD 0
theorem byteAt_eq {s:ByteArray}{i:Nat}(h:i<s.size):byteAt s i=((s[i]'h).toNat:Int):=by
 unfold byteAt
 rw [getElem?_pos s i h];rfl
theorem oIndexStr {s:ByteArray}{k:IntKind}{i:Nat}(hx:E.op x=some (.string s)) (hy:E.op y=some (.int k (i:Int))) (ht:c.P.underlying t=some .string) (hi:i<s.size) (h:O M rest ((d,.int .u8 (byteAt s i)) :: E) D H) (hN:Nat.blt d c.N=true:=by rfl):O M (⟨some d,.index t x y,ty,pos,af,none⟩ :: rest) E D H:=
 oC _ rfl hN (fun u w ha hw=>by
  have e1:s[i]?=some (s[i]'hi):=getElem?_pos s i hi
  simp [execOp,ha.op hx,ha.op hy,Instr.index,asIntOf,run_underlying ht,e1,byteAt_eq hi]) h
theorem oIndexArr {cs:List Value}{k:IntKind}{i n:Nat}{v:Value}{z:Int}(hx:E.op x=some (.agg cs.toArray)) (hy:E.op y=some (.int k z)) (hz:z=(i:Int)) (ht:arrT c.P t=some (n,1)) (hs:((match c.P.underlying t with | some (.array _ e)=>scalT c.P e | _=>false))=true) (hi:i<n) (hv:cs[i]?=some v) (h:O M rest ((d,v) :: E) D H) (hN:Nat.blt d c.N=true:=by rfl):O M (⟨some d,.index t x y,ty,pos,af,none⟩ :: rest) E D H:=
 oC _ rfl hN (fun u w ha hw=>by
  subst hz
  unfold arrT at ht
  cases hu:c.P.underlying t with
  | none=>rw [hu] at ht;cases ht
  | some ut=>
   rw [hu] at ht hs
   cases ut <;> simp only [Option.map_eq_some_iff,reduceCtorEq,false_and,exists_false] at ht
   case array n' e'=>
    obtain ⟨inf,h2,h3⟩:=ht
    injection h3 with h4 h5
    subst h4
    have h6:=run_isAgg_s hs w
    simp [execOp,ha.op hx,ha.op hy,Instr.index,asIntOf,run_underlying hu,sizeOf,typeInfo,h2,h5,hi,part,h6,hv]) h
theorem oBuildArr {ps:Array (Nat×Operand)}{vs:List (Nat×Value)}{zs us:List Value}{n s:Nat}(hx:Parts E ps.toList vs) (hz:((c.P.info? t).map (·.zero))=some (some (.agg zs.toArray))) (ht:arrT c.P t=some (n,s)) (hb:Built (fun i=>some (i * s,s)) zs vs us) (h:O M rest ((d,.agg us.toArray) :: E) D H) (hN:Nat.blt d c.N=true:=by rfl):O M (⟨some d,.build t ps,ty,pos,af,none⟩ :: rest) E D H:=
 oC _ rfl hN (fun u w hf hw=>by
  have h2:(ps.map fun (i,x)=>(i,u.eval x))=vs.toArray:=by
   apply Array.toList_inj.1
   simpa using hx.spec hf
  obtain ⟨i,hi,hz⟩:=Option.map_eq_some_iff.1 hz
  unfold arrT at ht
  have key:(Instr.build t vs.toArray).run c.P w=.ok (.agg us.toArray) w:=by
   cases hu:c.P.underlying t with
   | none=>rw [hu] at ht;cases ht
   | some ut=>
    rw [hu] at ht
    cases ut <;> simp only [Option.map_eq_some_iff,reduceCtorEq,false_and,exists_false] at ht
    case array n' e'=>
     obtain ⟨inf,h3,h4⟩:=ht
     injection h4 with h5 h6
     have hbs:=hb.spec
     simp [Instr.build,zeroValue,typeInfo,hi,hz,run_underlying hu,sizeOf,h3,h6,Value.cells,hbs]
  simp only [execOp,Sem.run_bind,h2,key,Result.andThen_ok,Sem.run_pure]) h
theorem wCondTd {x' y':Code}{Q:Post}{D':List Deferred}{H':List Res}{o:Operand}{p:Prop} [Decidable p] (hp:p) (hc:E.op o=some (.bool (decide p))) (h:W c x' Q E D' H'):W c (.cond o x' y') Q E D' H':=wCondT (by rw [hc,decide_eq_true hp]) h
theorem wCondFd {x' y':Code}{Q:Post}{D':List Deferred}{H':List Res}{o:Operand}{p:Prop} [Decidable p] (hp:¬ p) (hc:E.op o=some (.bool (decide p))) (h:W c y' Q E D' H'):W c (.cond o x' y') Q E D' H':=wCondF (by rw [hc,decide_eq_false hp]) h
theorem wCondTb {x' y':Code}{Q:Post}{D':List Deferred}{H':List Res}{o:Operand}{b:Bool}(hp:b=true) (hc:E.op o=some (.bool b)) (h:W c x' Q E D' H'):W c (.cond o x' y') Q E D' H':=wCondT (by rw [hc,hp]) h
theorem wCondFb {x' y':Code}{Q:Post}{D':List Deferred}{H':List Res}{o:Operand}{b:Bool}(hp:b=false) (hc:E.op o=some (.bool b)) (h:W c y' Q E D' H'):W c (.cond o x' y') Q E D' H':=wCondF (by rw [hc,hp]) h
def nextV (s:ByteArray) (p:Nat):Value:=if p<s.size then .tuple #[.bool true,.int .i64 (p:Int),.int .i32 ((Utf8.decode s p).1:Int)] else .tuple #[.bool false]
def nextP (s:ByteArray) (p:Nat):Nat:=if p<s.size then p+(Utf8.decode s p).2 else p
theorem nextV_T {s:ByteArray}{p:Nat}(h:p<s.size) (ha:byteAt s p<128):nextV s p=.tuple #[.bool true,.int .i64 (p:Int),.int .i32 (byteAt s p)]:=by
 rw [byteAt_eq h] at *
 unfold nextV
 rw [if_pos h,decode_ascii s p h (by omega)]
theorem nextP_T {s:ByteArray}{p:Nat}(h:p<s.size) (ha:byteAt s p<128):nextP s p=p+1:=by
 rw [byteAt_eq h] at ha
 unfold nextP
 rw [if_pos h,decode_ascii s p h (by omega)]
theorem oRangeStr {M:Me c}{s:ByteArray}(hx:E.op x=some (.string s)) (ht:c.P.underlying t=some .string) (h:∀ b,O M.toMd rest ((d,.pointer (some ⟨b,0,none⟩)) :: E) D (ob b (.stringIter s 0) :: H)) (hN:Nat.blt d c.N=true:=by rfl):O M.toMd (⟨some d,.range t x,ty,pos,af,none⟩ :: rest) E D H:=
 oEff rfl hN fun a w ha hw=>by
  refine ⟨_,w.alloc (.stringIter s 0),_,?_,hw.alloc _,h w.heap.size⟩
  simp [execOp,ha.op hx,run_range_string w t s ht,World.iter]
theorem oNextStr {M:Me c}{s:ByteArray}{b p:Nat}(hx:E.op x=some (.pointer (some ⟨b,0,none⟩))) (hp:Pick H (ob b (.stringIter s p)) H') (h:O M.toMd rest ((d,nextV s p) :: E) D (ob b (.stringIter s (nextP s p)) :: H')) (hN:Nat.blt d c.N=true:=by rfl):O M.toMd (⟨some d,.next x true,ty,pos,af,none⟩ :: rest) E D H:=
 oEff rfl hN fun a w ha hw=>by
  have hb:w.heap[b]?=some (.stringIter s p):=hw.get hp
  by_cases hps:p<s.size
  · refine ⟨_,w.putObj b (.stringIter s (nextP s p)),ob b (.stringIter s (nextP s p)) :: H',?_,hw.upd' hp (Chg.putObj w b _) (World.putObj_heap_same (Array.getElem?_eq_some_iff.1 hb).1) (fun k hk=>.inl hk),h⟩
    simp [execOp,ha.op hx,Instr.next,getObj,setObj,Sem.run,hb,hps,nextV,nextP,goInt,World.putObj]
  · refine ⟨_,w,_,?_,?_,h⟩
    · simp [execOp,ha.op hx,Instr.next,getObj,Sem.run,hb,hps,nextV]
    · unfold nextP;rw [if_neg hps];exact hw.perm hp.perm
theorem oExtN {s:ByteArray}{p:Nat}(hx:E.op x=some (nextV s p)) (h:O M rest ((d,.bool (decide (p<s.size))) :: E) D H) (hN:Nat.blt d c.N=true:=by rfl):O M (⟨some d,.extract x 0,ty,pos,af,none⟩ :: rest) E D H:=
 oC _ rfl hN (fun u w ha hw=>by
  unfold nextV at hx
  by_cases hps:p<s.size
  · rw [if_pos hps] at hx;simp [execOp,ha.op hx,Instr.extract,hps]
  · rw [if_neg hps] at hx;simp [execOp,ha.op hx,Instr.extract,hps]) h
theorem oSliceArr {b o l m n s:Nat}{k k':IntKind}{z1 z2:Operand}(hx:E.op x=some (.pointer (some ⟨b,o,none⟩))) (hl:E.op z1=some (.int k (l:Int))) (hm:E.op z2=some (.int k' (m:Int))) (ht:arrT c.P t=some (n,s)) (h1:l<n) (h2:l≤m∧m≤n)
 (h:O M rest ((d,.slice (some ⟨b,o+l * s,none⟩) (m-l) (n-l)) :: E) D H) (hN:Nat.blt d c.N=true:=by rfl):O M (⟨some d,.slice t x (some z1) (some z2) none,ty,pos,af,none⟩ :: rest) E D H:=
 oC _ rfl hN (fun u w ha hw=>by
  unfold arrT at ht
  cases hu:c.P.underlying t with
  | none=>rw [hu] at ht;cases ht
  | some ut=>
   rw [hu] at ht
   cases ut <;> simp only [Option.map_eq_some_iff,reduceCtorEq,false_and,exists_false] at ht
   case array n' e'=>
    obtain ⟨inf,h3,h4⟩:=ht
    injection h4 with h5 h6
    subst h5
    have e1:¬ n'=l:=by omega
    simp [execOp,ha.op hx,ha.op hl,ha.op hm,Instr.sliceAt,run_underlying hu,Instr.sureAddr,Instr.sliceBounds,Instr.sliceBound,asIntOf,h2,sizeOf,typeInfo,h3,h6,e1,add_at]) h
theorem oIdxB {b o i n cp s m:Nat}{k:IntKind}{e:TypeId}(hx:E.op x=some (.slice (some ⟨b,o,none⟩) n cp)) (hy:E.op y=some (.int k (i:Int))) (ht:elemT c.P t=some (e,s)) (hi:i<n) (hm:o+i * s=m) (h:O M rest ((d,.pointer (some ⟨b,m,none⟩)) :: E) D H) (hN:Nat.blt d c.N=true:=by rfl):O M (⟨some d,.indexAddr t x y,ty,pos,af,none⟩ :: rest) E D H:=
 oC _ rfl hN (fun u w ha hw=>by
  have e1:(⟨b,o,none⟩:Addr).add (i * s)=⟨b,m,none⟩:=by rw [add_at,hm]
  simp [execOp,ha.op hx,ha.op hy,run_indexAt ht ⟨b,o,none⟩ n cp i hi k w,e1]) h
def Asc (s:ByteArray):Prop:=∀ i,i<s.size→byteAt s i<128
end
end Go.Proofs.YtpmdhkjbhjgoaaaDoorK
namespace Go.Proofs.YtpmdhkjbhjgoaaaDoorK
open Go.RowKit Go.Shelf Go.Sort
section
variable {B : Base} {w : World} {P : Program} {ρ : Ren} {W : World} {e : TypeId} {A : Option Addr} {n cp : Nat} {zs : List ByteArray}
def toL (s:ByteArray):List UInt8:=s.data.toList
def ofL (l:List UInt8):ByteArray:=⟨l.toArray⟩
theorem ofL_toL (s:ByteArray):ofL (toL s)=s:=by cases s;rfl
def Keeps (B B':Base):Prop:=∀ (k:Nat) (cs:Array Value) (t:TypeId) (f:Nat×Nat),B.e.heap[k]?=some (Obj.cells cs t f)→B'.e.heap[k]?=some (Obj.cells cs t f)
theorem Keeps.trans {B B' B'':Base}(h:Keeps B B') (k:Keeps B' B''):Keeps B B'':=fun i cs t f hi=>k i cs t f (h i cs t f hi)
theorem tab_of {e e':World}{name:String}{k:IntKind}{zs:List Int}(h:∀ (i:Nat) (cs:Array Value) (t:TypeId) (f:Nat×Nat),e.heap[i]?=some (Obj.cells cs t f)→e'.heap[i]?=some (Obj.cells cs t f)) (hT:Lib.TabIs P e name k zs):Lib.TabIs P e' name k zs:=by
 unfold Lib.TabIs World.var? at *
 cases hg:P.globalNamed name with
 | none=>rw [hg] at hT;simp at hT
 | some g=>
  rw [hg] at hT
  simp only [Option.bind_some] at hT ⊢
  split at hT
  · rename_i cs t f hh
    rw [h _ _ _ _ hh];exact hT
  · cases hT
theorem Keeps.tab {B B':Base}{name:String}{k:IntKind}{zs:List Int}(h:Keeps B B') (hT:Lib.TabIs P B.e name k zs):Lib.TabIs P B'.e name k zs:=tab_of h hT
theorem base_block {B:Base}{w:World}(hB:B.ok w) {i:Nat}{cs:Array Value}{t:TypeId}{f:Nat×Nat}(h:B.e.heap[i]?=some (Obj.cells cs t f)):¬ B.O i∧i<B.w.heap.size∧w.heap[i]?=some (Obj.cells cs t f):=by
 rw [B.e_heap] at h
 by_cases ho:B.O i
 · rw [if_pos ho] at h
   cases hb:B.w.heap[i]? <;> simp [hb] at h
 · rw [if_neg ho] at h
   have hk:=(Array.getElem?_eq_some_iff.1 h).1
   exact ⟨ho,hk,(hB.block _ hk ho).trans h⟩
theorem tab_now {B:Base}{w:World}{name:String}{k:IntKind}{zs:List Int}(hB:B.ok w) (hT:Lib.TabIs P B.e name k zs):Lib.TabIs P w name k zs:=tab_of (fun i cs t f h=>(base_block hB h).2.2) hT
theorem frameK {Φ Φ' Ψ:List Res}{ι:Type}{inv:ι→Prop}{val:ι→Value}{post:ι→List Res}{g:FuncId}{args:Array Value}(hS:St B Φ w) (hs:Split Φ Ψ Φ') (h:∀ B',Grow B.e B'.e→Keeps B B'→St B' Ψ w→CallsIn Fence.wide 0 P g args w (Ret B' inv val post)) :
 CallsIn Fence.wide 0 P g args w (Ret B inv val (fun i=>post i++Φ')):=by
 have hS':=hS.perm hs.perm
 refine (h (B.call w Ψ) hS'.egrow (fun i cs t f hi=>?_) hS'.lend).mono ?_
 · obtain ⟨h1,h2,h3⟩:=base_block hS'.ok hi
   rw [Base.e_heap,if_neg]
   · exact h3
   · rintro ⟨s,hs,hsk⟩
     obtain ⟨k1,k2⟩:=(Sep.all _ _ _).1 hS'.head.sep
     rcases (k1 s hs).2 i hsk with h4 | h4
     · exact h1 h4
     · exact absurd h2 (by have h5:B.w.heap.size≤i:=h4;omega)
 · rintro e w' ⟨i,hi,he,hw⟩
   exact ⟨i,hi,he,hS'.give hw⟩
def TabP (P:Program) (e:World):Prop:=Lib.TabIs P e "internal/strconv.uint64pow10" .u64 Lib.pow10Tab
theorem itoa (Ly:LaysM.n171 P ρ) (hS:St B [] w) (hT:TabP P B.e) (z:Int) (h0 : -9223372036854775808≤z) (h1:z≤9223372036854775807) :
 CallsIn Fence.wide 0 P (ρ.f 171) #[.int .i64 z] w (Ret B (fun _:Unit=>True) (fun _=>.string ⟨(Lib.itoa z).toArray⟩) (fun _=>[])):=by
 refine callsIn_wide.2 ?_
 refine (Any.strconv_Itoa Ly z h0 h1 w (tab_now hS.ok hT)).mono ?_
 rintro e' w' ⟨rfl,k,os,rfl⟩
 refine ⟨(),trivial,rfl,hS.keep ⟨rfl,rfl,rfl,?_,fun k hk _=>?_⟩⟩
 · show w.heap.size≤(w.heap++os).size
   rw [Array.size_append];omega
 · show (w.heap++os)[k]?=_
   exact Array.getElem?_append_left hk
end
section
variable {c : Cx} {M : Md c} {d : Nat} {ty : TypeId} {pos : String} {af : Array Edge} {rest : List Oper} {E : Env} {D : List Deferred} {H : List Res} {x y : Operand} {t t' : TypeId}
end
end Go.Proofs.YtpmdhkjbhjgoaaaDoorK
namespace Go.Proofs.YtpmdhkjbhjgoaaaDoorK
open Go.RowKit Go.Shelf Go.Sort
section
variable {B : Base} {w : World} {P : Program} {ρ : Ren} {e : TypeId} {A : Option Addr} {n cp : Nat} {zs : List ByteArray}
def IntAt (e:World) (g:Nat):Prop:=∃ m,e.cell? ⟨g,0,none⟩=some (.int .i64 m)
def ErrAt (e:World) (g:Nat):Prop:=∃ v,e.cell? ⟨g,0,none⟩=some v∧(v=.nilIface∨∃ te pe,v=.iface te pe)
structure LibP (P:Program) (gm gs gr:Nat) (e:World):Prop where
  tab:TabP P e
  max:IntAt e gm
  syn:ErrAt e gs
  rng:ErrAt e gr
theorem IntAt.grow {e e':World}{g:Nat}(h:IntAt e g) (k:Grow e e'):IntAt e' g:=by
 obtain ⟨m,h⟩:=h;exact ⟨m,k _ _ h⟩
theorem ErrAt.grow {e e':World}{g:Nat}(h:ErrAt e g) (k:Grow e e'):ErrAt e' g:=by
 obtain ⟨v,h,h2⟩:=h;exact ⟨v,k _ _ h,h2⟩
theorem LibP.keep {B B':Base}{gm gs gr:Nat}(h:LibP P gm gs gr B.e) (k:Grow B.e B'.e) (hk:Keeps B B'):LibP P gm gs gr B'.e:=
 ⟨Keeps.tab hk h.tab,h.max.grow k,h.syn.grow k,h.rng.grow k⟩
def decS (z:Int):ByteArray:=⟨(Lib.itoa z).toArray⟩
theorem fmtInt (Ly:LaysM.n173 P ρ) (hS:St B [] w) (hT:TabP P B.e) (z:Int) (h0 : -9223372036854775808≤z) (h1:z≤9223372036854775807) :
 CallsIn Fence.wide 0 P (ρ.f 173) #[.int .i64 z,.int .i64 10] w (Ret B (fun _:Unit=>True) (fun _=>.string (decS z)) (fun _=>[])):=by
 refine callsIn_wide.2 ?_
 refine (Any.strconv_FormatInt_10 Ly z h0 h1 w (tab_now hS.ok hT)).mono ?_
 rintro e' w' ⟨rfl,k,os,rfl⟩
 refine ⟨(),trivial,rfl,hS.keep ⟨rfl,rfl,rfl,?_,fun k hk _=>?_⟩⟩
 · show w.heap.size≤(w.heap++os).size
   rw [Array.size_append];omega
 · show (w.heap++os)[k]?=_
   exact Array.getElem?_append_left hk
def trimS (s p:ByteArray):ByteArray:=⟨(Lib.trimSuffix s.data.toList p.data.toList).toArray⟩
theorem trimSuf (Ly:Lays.n102 P ρ) (hS:St B [] w) (s p:ByteArray) (hs:s.size≤9223372036854775807) :
 CallsIn Fence.wide 0 P (ρ.f 102) #[.string s,.string p] w (Ret B (fun _:Unit=>True) (fun _=>.string (trimS s p)) (fun _=>[])):=by
 refine callsIn_wide.2 ?_
 refine (Any.strings_TrimSuffix Ly s p w hs).mono ?_
 rintro e' w' ⟨rfl,rfl⟩
 exact ⟨(),trivial,rfl,hS⟩
def pieces (s sep:ByteArray):List ByteArray:=Lib.splitB sep 0 (Lib.countB s sep) s
theorem pieces_len (s sep:ByteArray) (h1:1≤sep.size):(pieces s sep).length=Lib.countB s sep+1:=Lib.splitB_all sep h1 0 _ s rfl
theorem pieces_le (s sep:ByteArray) (h1:1≤sep.size):(pieces s sep).length≤s.size+1:=by
 rw [pieces_len s sep h1]
 have:=Lib.countB_le sep h1 s.size s (Nat.le_refl _)
 omega
theorem splitLib (Ly:Lays.n146 P ρ) (hi9:(P.info? (ρ.t 9)).map (fun i=>(i.zero,i.size,i.bytes))=some (some (.string ByteArray.empty),1,16)) (hS:St B [] w) (W0:World) (hm:IntAt B.e (ρ.g 1)) (s sep:ByteArray) (hs:s.size<4294967281) (h1:1≤sep.size) :
 CallsIn Fence.wide 0 P (ρ.f 146) #[.string s,.string sep] w (Ret B (fun _:Nat=>True) (fun b=>.slice (some ⟨b,0,none⟩) (pieces s sep).length (pieces s sep).length) (fun b=>[row Kd.string W0 (ρ.t 9) (.slice (some ⟨b,0,none⟩) (pieces s sep).length (pieces s sep).length) (pieces s sep)])):=by
 refine callsIn_wide.2 ?_
 obtain ⟨m,hm⟩:=hm
 have hle:=pieces_le s sep h1
 refine (Any.strings_Split Ly hi9 s sep m w hs (hS.ext hm) h1).mono ?_
 rintro e' w' ⟨rfl,rfl⟩
 refine ⟨w.heap.size,trivial,by rw [pieces_len s sep h1],?_⟩
 exact blk_row (enc:=Value.string) (h1:=fun _=>rfl) (xs:=pieces s sep) .here rfl rfl (Nat.le_trans (show _≤4294967298 by omega) (by decide)) _ (hS.alloc _)
def joinT (zs:List ByteArray) (sep:ByteArray):ByteArray:=⟨(Lib.join (zs.map (·.data.toList)) sep.data.toList).toArray⟩
theorem joinT_size (zs:List ByteArray) (sep:ByteArray):(joinT zs sep).size=(Lib.join (zs.map (·.data.toList)) sep.data.toList).length:=by simp [joinT,ByteArray.size]
theorem joinA (Ly:Lays.n156 P ρ) (X:Builder.Extra P ρ) (hS:St B [] w) (hC:Kd.string.C B.e A zs) (sep:ByteArray) (hcp:zs.length≤cp) (hl:(joinT zs sep).size≤140737488355328) (hN:zs.length≤140737488355328) :
 CallsIn Fence.wide 0 P (ρ.f 156) #[.slice A zs.length cp,.string sep] w (Ret B (fun _:Unit=>True) (fun _=>.string (joinT zs sep)) (fun _=>[])):=by
 refine callsIn_wide.2 ?_
 rcases Nat.eq_zero_or_pos zs.length with h0 | h0
 · have:zs=[]:=List.eq_nil_of_length_eq_zero h0
   subst this
   refine (Any.strings_Join_none Ly X A cp sep w).mono ?_
   rintro e' w' ⟨rfl,rfl⟩
   exact ⟨(),trivial,rfl,hS⟩
 · obtain ⟨hln,hc⟩:=Kd.C_grow (Base.grow hS.ok) hC
   obtain ⟨⟨b,o,p⟩,rfl,hd⟩:=hc h0
   have hcell:∀ j x,zs[j]?=some x→w.cell? ((⟨b,o,p⟩:Addr).add j)=some (.string x):=fun j x hj=>by
    obtain ⟨c,hK,h⟩:=hd j x hj
    have hK':c=[Value.string x]:=hK
    have h1:=h 0 (.string x) (by rw [hK'];rfl)
    rw [show j * (Kd.string).sz+0=j from Nat.mul_one j] at h1
    exact h1
   obtain rfl:p=none:=by
    cases p with
    | none=>rfl
    | some q=>
     have h1:=hcell 0 _ (List.getElem?_eq_getElem h0)
     unfold World.cell? Addr.add at h1
     simp only [if_true,Option.isSome_some] at h1
     split at h1 <;> cases h1
   have hcell:∀ j x,zs[j]?=some x→w.cell? ⟨b,o+j,none⟩=some (.string x):=fun j x hj=>by
    have h1:=hcell j x hj
    unfold Addr.add at h1
    split at h1
    · rename_i e;subst e;exact h1
    · exact h1
   have hb:b<w.heap.size:=by
    have:=World.block_lt_of_cell? _ _ (hcell 0 _ (List.getElem?_eq_getElem h0))
    exact this
   refine (Any.strings_Join Ly X b o cp zs sep w hcell hb hN hcp (by rw [← joinT_size];exact hl)).mono ?_
   rintro e' w' ⟨rfl,hw⟩
   exact ⟨(),trivial,rfl,hS.keep (Chg.of_below hw _)⟩
def parsed (s:ByteArray):Option Int:=match Lib.parseIntB 64 s.data.toList with
  | .ok v=>some v
  | _=>none
theorem parseOk (Ly:LaysC.n174 P ρ) (hS:St B [] w) (s:ByteArray) (hs:s.size≤281474976710656) (v:Int) (h:parsed s=some v) :
 CallsIn Fence.wide 0 P (ρ.f 174) #[.string s,.int .i64 10,.int .i64 64] w (Ret B (fun _:Unit=>True) (fun _=>.tuple #[.int .i64 v,.nilIface]) (fun _=>[])):=by
 refine callsIn_wide.2 ?_
 have h':Lib.parseIntB 64 s.data.toList=.ok v:=by
  unfold parsed at h
  split at h
  · next u hu=>rw [hu];simpa using h
  · cases h
 refine (Any.strconv_ParseInt_10_at64_ok Ly s (by omega) v h' w).mono ?_
 rintro e' w' ⟨rfl,hw⟩
 refine ⟨(),trivial,rfl,?_⟩
 rcases hw with rfl | ⟨t,rfl⟩
 · exact hS
 · exact hS.keep (Chg.of_below (Lib.bytesWorld_below _ _ _) _)
theorem parseNo (Ly:LaysC.n174 P ρ) (hS:St B [] w) (hs1:ErrAt B.e (ρ.g 15)) (hr1:ErrAt B.e (ρ.g 16)) (s:ByteArray) (hs:s.size≤281474976710656) (h:parsed s=none) :
 CallsIn Fence.wide 0 P (ρ.f 174) #[.string s,.int .i64 10,.int .i64 64] w (Ret B (fun _:Int×TypeId×Value=>True) (fun z=>.tuple #[.int .i64 z.1,.iface z.2.1 z.2.2]) (fun _=>[])):=by
 refine callsIn_wide.2 ?_
 obtain ⟨v1,k1,k2⟩:=hs1
 obtain ⟨v2,k3,k4⟩:=hr1
 cases hp:Lib.parseIntB 64 s.data.toList
 · unfold parsed at h;rw [hp] at h;cases h
 · refine (Any.strconv_ParseInt_10_at64_syntax Ly s hs hp v1 w (hS.ext k1) k2).mono ?_
   rintro e' w' ⟨N,rfl,_,_,hw⟩
   exact ⟨(_,_,_),trivial,rfl,hS.keep (Chg.of_below hw _)⟩
 · refine (Any.strconv_ParseInt_10_at64_range Ly s hs hp v2 w (hS.ext k3) k4).mono ?_
   rintro e' w' ⟨N,rfl,_,_,hw⟩
   exact ⟨(_,_,_),trivial,rfl,hS.keep (Chg.of_below hw _)⟩
end
section
variable {c : Cx} {M : Md c} {d : Nat} {ty : TypeId} {pos : String} {af : Array Edge} {rest : List Oper} {E : Env} {D : List Deferred} {H : List Res} {x : Operand} {t t' : TypeId}
def isIface (P:Program) (t:TypeId):Bool:=match P.underlying t with
  | some (.interface _)=>true
  | _=>false
theorem run_ifaceEq0 {P:Program}{t:TypeId}(ht:isIface P t=true) (w:World):(Op.equal t .nilIface .nilIface).run P w=.ok true w:=by
 unfold isIface at ht
 cases hu:P.underlying t with
 | none=>rw [hu] at ht;cases ht
 | some u=>
  rw [hu] at ht
  cases u <;> simp only [reduceCtorEq,Bool.false_eq_true] at ht
  simp only [Op.equal,Op.maxDepth]
  rw [Op.equalIn.eq_def]
  simp [run_underlying hu]
theorem run_ifaceEq1 {P:Program}{t ti:TypeId}{v:Value}(ht:isIface P t=true) (w:World):(Op.equal t (.iface ti v) .nilIface).run P w=.ok false w:=by
 unfold isIface at ht
 cases hu:P.underlying t with
 | none=>rw [hu] at ht;cases ht
 | some u=>
  rw [hu] at ht
  cases u <;> simp only [reduceCtorEq,Bool.false_eq_true] at ht
  simp only [Op.equal,Op.maxDepth]
  rw [Op.equalIn.eq_def]
  simp [run_underlying hu]
theorem oNeqI0 (hx:E.op x=some .nilIface) (ht:isIface c.P t=true) (h:O M rest ((d,.bool false) :: E) D H) (hN:Nat.blt d c.N=true:=by rfl):O M (⟨some d,.binOp .neq t x (.const .nilIface) t',ty,pos,af,none⟩ :: rest) E D H:=
 oC _ rfl hN (fun a w ha hw=>by
  have h1:(eqGuard .neq t x (.const .nilIface) .nilIface .nilIface).run c.P w=.ok () w:=by unfold eqGuard;simp
  have h2:(binOp .neq t .nilIface .nilIface).run c.P w=.ok (.bool false) w:=by simp [binOp,run_ifaceEq0 ht]
  have h3:a.eval (.const .nilIface)=.nilIface:=rfl
  simp [execOp,ha.op hx,h3,h1,h2]) h
theorem oNeqI1 {ti:TypeId}{v:Value}(hx:E.op x=some (.iface ti v)) (ht:isIface c.P t=true) (h:O M rest ((d,.bool true) :: E) D H) (hN:Nat.blt d c.N=true:=by rfl):O M (⟨some d,.binOp .neq t x (.const .nilIface) t',ty,pos,af,none⟩ :: rest) E D H:=
 oC _ rfl hN (fun a w ha hw=>by
  have h1:(eqGuard .neq t x (.const .nilIface) (.iface ti v) .nilIface).run c.P w=.ok () w:=by unfold eqGuard;simp
  have h2:(binOp .neq t (.iface ti v) .nilIface).run c.P w=.ok (.bool true) w:=by simp [binOp,run_ifaceEq1 ht]
  have h3:a.eval (.const .nilIface)=.nilIface:=rfl
  simp [execOp,ha.op hx,h3,h1,h2]) h
theorem oSliceS {s:ByteArray}{l m:Nat}{k k':IntKind}{z1 z2:Operand}(hx:E.op x=some (.string s)) (hl:E.op z1=some (.int k (l:Int))) (hm:E.op z2=some (.int k' (m:Int))) (ht:c.P.underlying t=some .string) (h2:l≤m∧m≤s.size)
 (h:O M rest ((d,.string (s.extract l m)) :: E) D H) (hN:Nat.blt d c.N=true:=by rfl):O M (⟨some d,.slice t x (some z1) (some z2) none,ty,pos,af,none⟩ :: rest) E D H:=
 oC _ rfl hN (fun u w ha hw=>by
  simp [execOp,ha.op hx,ha.op hl,ha.op hm,Instr.sliceAt,Instr.slice,run_underlying ht,Instr.sliceBounds,Instr.sliceBound,asIntOf,h2]) h
theorem oSliceAr {b n s:Nat}(hx:E.op x=some (.pointer (some ⟨b,0,none⟩))) (ht:arrT c.P t=some (n,s)) (h0:0<n)
 (h:O M rest ((d,.slice (some ⟨b,0,none⟩) n n) :: E) D H) (hN:Nat.blt d c.N=true:=by rfl):O M (⟨some d,.slice t x none none none,ty,pos,af,none⟩ :: rest) E D H:=
 oC _ rfl hN (fun u w ha hw=>by
  unfold arrT at ht
  cases hu:c.P.underlying t with
  | none=>rw [hu] at ht;cases ht
  | some ut=>
   rw [hu] at ht
   cases ut <;> simp only [Option.map_eq_some_iff,reduceCtorEq,false_and,exists_false] at ht
   case array n' e'=>
    obtain ⟨inf,h3,h4⟩:=ht
    injection h4 with h5 h6
    subst h5
    have e1:¬ n'=0:=by omega
    simp [execOp,ha.op hx,Instr.sliceAt,run_underlying hu,Instr.sureAddr,Instr.sliceBounds,Instr.sliceBound,asIntOf,sizeOf,typeInfo,h3,h6,e1,add_at]) h
theorem oMaxJ {y:Operand}{k:IntKind}{a b:Int}(hx:E.op x=some (.int k a)) (hy:E.op y=some (.int k b)) (h:O M rest ((d,.int k (if a<b then b else a)) :: E) D H) (hN:Nat.blt d c.N=true:=by rfl):O M (⟨some d,.call { callee:=.builtin .max,args:=#[x,y],argTypes:=#[t,t'] },ty,pos,af,none⟩ :: rest) E D H:=
 oC _ rfl hN (fun u w ha hw=>by
  simp only [execOp,resolve,ha.op hx,ha.op hy,invoke,builtin,Builtin.max_,List.map_cons,List.map_nil,Array.toList_map]
  simp [ha.op hx,ha.op hy,Builtin.max2]) h
theorem oBinJ {op:BinOp}{y:Operand}{a b r:Value}(hx:E.op x=some a) (hy:E.op y=some b) (hg:∀ w,(eqGuard op t x y a b).run c.P w=.ok () w) (hr:∀ w,(binOp op t a b).run c.P w=.ok r w) (h:O M rest ((d,r) :: E) D H) (hN:Nat.blt d c.N=true:=by rfl):O M (⟨some d,.binOp op t x y t',ty,pos,af,none⟩ :: rest) E D H:=
 oC _ rfl hN (fun u w ha hw=>by simp [execOp,ha.op hx,ha.op hy,hg,hr]) h
end
end Go.Proofs.YtpmdhkjbhjgoaaaDoorK
namespace Go.Proofs.YtpmdhkjbhjgoaaaDoorK
open Go.RowKit Go.ChangeShapes
theorem returns_laid {H:Type}{enc:TypeId×Value→H}{a:Assume}{C:Checked}{os:Os}{f:FuncId}{fn:Func}{s:ChangeSpec}{conds:List PathCond}{apart fresh handsOn again:Bool}{X:World→Array Value→Prop}
 (hX:∀ (w w':World) (args:Array Value),w.heap=w'.heap→X w args→X w' args)
 (own:ownKnob C.prog.godebug=none) (started:os.Started) (noInit:C.prog.inits.idxOf? f=none) (hfn:C.prog.funcs[f]?=some fn)
 (witness:∃ (w:World) (tape:Tape) (i:Input),w.os=os∧(w.forCall tape i).Shaped C.prog∧i.vars=[]∧Input.okWide C.prog (w.forCall tape i) .any w.heap.size f i∧
  ((s.pre enc C.prog fn conds apart (w.forCall tape i).memory i.args∧X (w.forCall tape i).memory i.args)∧sizedMet enc C.prog fn (OpenSpec.ofChange s) apart (w.forCall tape i).memory i.args)∧a.holds C.prog (lone (Frame.enter C.prog f i.args .normal) [] (w.forCall tape i)))
 (contract:∀ (W:World) (base:Nat) (args:Array Value) (ds gs:List (DataW H)) (before:List MemPlace),
  (∀ (j:Nat) t v,fn.params[j]?=some t→args[j]?=some v→Value.okWide C.prog W .any base t v)→
  DataW.Whole enc C.prog fn.params.toList s.vars apart W args.toList ds gs before→
  conds.all (PathCond.test C.prog ⟨fn.params.toList,ds,s.plain.varTypes C.prog,gs⟩)=true→
  (DataW.weightsEach C.prog (fn.params.toList++s.plain.varTypes C.prog) (ds++gs)).all (·≤reachBytes)=true→X W args→W.ShapedOpen C.prog→
  a.holds C.prog (lone (Frame.enter C.prog f args .normal) [] W)→
  Calls C.prog f args W fun e W'=>∃ v,e=.returned v∧s.post enc C.prog fn apart fresh handsOn again W args v W') :
 ReturnsInHanded a C os f .any (fun w args=>(s.pre enc C.prog fn conds apart w args∧X w args)∧sizedMet enc C.prog fn (OpenSpec.ofChange s) apart w args) (s.post enc C.prog fn apart fresh handsOn again):=by
 refine returnsInHanded_of_calls own started noInit witness ?_
 intro w tape i _ hsh _ hok hpre hholds
 obtain ⟨_,_,_,fn',hfn',_,_,_,_,hval⟩:=hok
 have e:fn'=fn:=Option.some.inj (hfn'.symm.trans hfn)
 subst e
 obtain ⟨⟨⟨ds,gs,before,hw,hc⟩,hx⟩,hz⟩:=hpre
 have hw':=DataW.Whole.of_heap (w':=w.forCall tape i) (by rfl) hw
 refine (contract (w.forCall tape i) w.heap.size i.args ds gs before hval hw' hc (hz.weights hw) (hX _ _ _ (by rfl) hx) hsh hholds).mono fun e W' ⟨v,he,hp⟩=>?_
 subst he
 exact ChangeSpec.post_blind hp
theorem errAt_laid {P:Program}{n nm:String}{text:List UInt8}{r:List (String×DataW Unit)}{W:World}{g:Nat}{ti tp te ts:TypeId}{ms:Array (String×TypeId)}{f:Field}
 (h:laidMet P ((n,.iface nm (.ptr (.agg [.lit (.string text)]))) :: r) W)
 (hg:P.globalNamed n=some g) (ht:(P.globals[g]?).map (·.type)=some ti) (hi:P.underlying ti=some (.interface ms)) (hrow:∀ u,P.typeName? 3 u=some nm→u=tp)
 (hp:P.underlying tp=some (.pointer te)) (he:P.underlying te=some (.struct #[f])) (hft:f.type=ts) (hfo:f.offset=0) (hs:P.underlying ts=some .string) (hc:P.cellsOf te=1) (hcs:P.cellsOf ts=1):ErrAt W g:=by
 obtain ⟨a,s,hv,_⟩:=laid_sentinel h hg ht hi hrow hp he hft hfo hs hc hcs
 exact ⟨_,by simpa using World.var?_cell hg hv 0,.inr ⟨_,_,rfl⟩⟩
theorem in64_wf {z:Int}(h:(Lit.int .i64 z).wf=true):in64 z:=by
 have e1:IntKind.i64.min = -9223372036854775808:=rfl
 have e2:IntKind.i64.max=9223372036854775807:=rfl
 simp [Lit.wf,e1,e2] at h
 exact ⟨by omega,by omega⟩
end Go.Proofs.YtpmdhkjbhjgoaaaDoorK
namespace Go.Proofs.YtpmdhkjbhjgoaaaDoorR
set_option maxRecDepth 100000
set_option maxHeartbeats 4000000
open Go.RowKit Go.Proofs.YtpmdhkjbhjgoaaaDoorK

def splitA (c:UInt8) (acc:List UInt8):List UInt8→List (List UInt8)
  | []=>[acc]
  | b :: l=>if b=c then acc :: splitA c [] l else splitA c (acc++[b]) l
theorem splitA_acc (c:UInt8):∀ (l acc:List UInt8),∃ p r,splitA c [] l=p :: r∧splitA c acc l=(acc++p) :: r
 | [],acc=>⟨[],[],rfl,by simp [splitA]⟩
 | b :: l,acc=>by
  by_cases h:b=c
  · exact ⟨[],splitA c [] l,by simp [splitA,h],by simp [splitA,h]⟩
  · obtain ⟨p,r,h1,h2⟩:=splitA_acc c l [b]
    obtain ⟨p',r',h3,h4⟩:=splitA_acc c l (acc++[b])
    rw [h1] at h3
    injection h3 with h5 h6
    subst h5 h6
    refine ⟨[b]++p,r,?_,?_⟩
    · show (if b=c then _ else splitA c ([]++[b]) l)=_
      rw [if_neg h,List.nil_append,h2]
    · show (if b=c then _ else splitA c (acc++[b]) l)=_
      rw [if_neg h,h4,List.append_assoc]
theorem index_ne (b c:UInt8) (l:List UInt8) (h:b≠c):Lib.index (b :: l) [c]=if Lib.index l [c] == -1 then -1 else Lib.index l [c]+1:=by
 have hp:([c]:List UInt8).isPrefixOf (b :: l)=false:=by simp [List.isPrefixOf,Ne.symm h]
 rw [Lib.index,hp];simp
theorem index_eq0 (c:UInt8) (l:List UInt8):Lib.index (c :: l) [c]=0:=by
 rw [Lib.index];simp [List.isPrefixOf]
theorem splitK_eq (c:UInt8) (k:Nat) (l:List UInt8):Lib.splitK [c] 0 (k+1) (c :: l)=[] :: Lib.splitK [c] 0 k l:=by
 show (if Lib.index (c :: l) [c] == -1 then _ else _)=_
 rw [index_eq0]
 simp
theorem splitK_ne (b c:UInt8) (h:b≠c) (k:Nat) (l:List UInt8):∃ p r,Lib.splitK [c] 0 k l=p :: r∧Lib.splitK [c] 0 k (b :: l)=(b :: p) :: r:=by
 cases k with
 | zero=>exact ⟨l,[],rfl,rfl⟩
 | succ k=>
  have hi:=index_ne b c l h
  by_cases hm:Lib.index l [c] = -1
  · rw [hm] at hi
    refine ⟨l,[],?_,?_⟩
    · show (if Lib.index l [c] == -1 then _ else _)=_
      rw [hm];rfl
    · show (if Lib.index (b :: l) [c] == -1 then _ else _)=_
      rw [hi];rfl
  · have hge:=Lib.index_ge l [c]
    obtain ⟨j,hj⟩:∃ j:Nat,Lib.index l [c]=j:=⟨(Lib.index l [c]).toNat,by omega⟩
    have hi2:Lib.index (b :: l) [c]=((j+1:Nat):Int):=by rw [hi,if_neg (fun e=>hm (beq_iff_eq.1 e)),hj];omega
    refine ⟨l.take j,Lib.splitK [c] 0 k (l.drop (j+1)),?_,?_⟩
    · show (if Lib.index l [c] == -1 then _ else _)=_
      rw [if_neg (fun e=>hm (beq_iff_eq.1 e)),hj]
      simp
    · show (if Lib.index (b :: l) [c] == -1 then _ else _)=_
      rw [if_neg (fun e=>by have:=beq_iff_eq.1 e;omega),hi2]
      simp
theorem splitK_all (c:UInt8):∀ l:List UInt8,Lib.splitK [c] 0 (l.count c) l=splitA c [] l
 | []=>rfl
 | b :: l=>by
  by_cases h:b=c
  · subst h
    rw [List.count_cons_self,splitK_eq,splitK_all b l]
    simp [splitA]
  · rw [List.count_cons_of_ne (by simpa using h)]
    obtain ⟨p,r,h1,h2⟩:=splitK_ne b c h (l.count c) l
    rw [splitK_all c l] at h1
    obtain ⟨p',r',h3,h4⟩:=splitA_acc c l [b]
    rw [h1] at h3
    injection h3 with h5 h6
    subst h5 h6
    rw [h2]
    show _=(if b=c then _ else splitA c ([]++[b]) l)
    rw [if_neg h,List.nil_append,h4];rfl
theorem map_toL_inj {a b:List ByteArray}(h:a.map toL=b.map toL):a=b:=by
 have:=congrArg (List.map ofL) h
 rw [List.map_map,List.map_map] at this
 have e:ofL ∘ toL=id:=funext fun s=>ofL_toL s
 rw [e,List.map_id,List.map_id] at this
 exact this
theorem pieces_L (s:ByteArray) (c:UInt8):(pieces s ⟨#[c]⟩).map toL=splitA c [] (toL s):=by
 have h:=Lib.splitB_data ⟨#[c]⟩ 0 (Lib.countB s ⟨#[c]⟩) s
 have e1:Lib.countB s ⟨#[c]⟩=(toL s).count c:=Lib.count_one c (toL s)
 rw [e1] at h
 have h2:=splitK_all c (toL s)
 unfold pieces
 rw [e1]
 exact h.trans h2

def nonE (l:List UInt8):Bool:=match l with
  | []=>false
  | _ :: _=>true
def wordsL (l:List UInt8):List (List UInt8):=(splitA 32 [] l).filter nonE
theorem splitA_app (c:UInt8) (b:List UInt8):∀ (a acc:List UInt8),splitA c acc (a++c :: b)=splitA c acc a++splitA c [] b
 | [],acc=>by simp [splitA]
 | x :: a,acc=>by
  rw [List.cons_append]
  show (if x=c then acc :: splitA c [] (a++c :: b) else splitA c (acc++[x]) (a++c :: b))=(if x=c then acc :: splitA c [] a else splitA c (acc++[x]) a)++_
  rw [splitA_app c b a,splitA_app c b a]
  split <;> rfl
theorem wordsL_app (a b:List UInt8):wordsL (a++32 :: b)=wordsL a++wordsL b:=by
 unfold wordsL;rw [splitA_app,List.filter_append]
theorem splitA_word (c:UInt8):∀ (w acc:List UInt8),c ∉ w→splitA c acc w=[acc++w]
 | [],acc,_=>by simp [splitA]
 | b :: w,acc,h=>by
  have h1:b≠c:=fun e=>h (by rw [e];exact List.mem_cons_self)
  show (if b=c then _ else splitA c (acc++[b]) w)=_
  rw [if_neg h1,splitA_word c w _ (fun k=>h (List.mem_cons_of_mem _ k)),List.append_assoc];rfl
def isWord (w:List UInt8):Prop:=w≠[]∧(32:UInt8) ∉ w
theorem wordsL_word {w:List UInt8}(h:isWord w):wordsL w=[w]:=by
 unfold wordsL
 rw [splitA_word 32 w [] h.2,List.nil_append]
 cases w with
 | nil=>exact absurd rfl h.1
 | cons b w=>rfl
theorem wordsL_nil:wordsL []=[]:=rfl
theorem join_snoc (sep x:List UInt8) (r:List (List UInt8)) (h:r≠[]):Lib.join (r++[x]) sep=Lib.join r sep++sep++x:=by
 cases r with
 | nil=>exact absurd rfl h
 | cons y r=>
  rw [List.cons_append,Lib.join_cons,Lib.join_cons]
  unfold Lib.joinTail
  simp
theorem words_snoc (r:List (List UInt8)) (x:List UInt8):wordsL (Lib.join (r++[x]) [32])=wordsL (Lib.join r [32])++wordsL x:=by
 by_cases h:r=[]
 · subst h
   rw [List.nil_append,Lib.join_one,Lib.join_nil,wordsL_nil,List.nil_append]
 · rw [join_snoc _ _ _ h,List.append_assoc]
   exact wordsL_app _ _
theorem words_join:∀ (n:Nat) (r:List (List UInt8)),r.length=n→wordsL (Lib.join r [32])=(r.map wordsL).flatten
 | 0,r,h=>by rw [List.eq_nil_of_length_eq_zero h];rfl
 | n+1,r,h=>by
  have hr:r≠[]:=by intro e;subst e;cases h
  obtain ⟨r',x,rfl⟩:∃ r' x,r=r'++[x]:=⟨r.dropLast,r.getLast hr,(List.dropLast_concat_getLast hr).symm⟩
  rw [words_snoc,words_join n r' (by simpa using h)]
  simp

def dropE:List (List UInt8)→List (List UInt8)
  | []=>[]
  | [p]=>if nonE p then [p] else []
  | p :: q :: r=>p :: dropE (q :: r)
theorem splitA_ne (c:UInt8) (acc l:List UInt8):splitA c acc l≠[]:=by
 obtain ⟨p,r,_,h⟩:=splitA_acc c l acc
 rw [h];exact List.cons_ne_nil _ _
theorem dropE_cons {p:List UInt8}{r:List (List UInt8)}(h:r≠[]):dropE (p :: r)=p :: dropE r:=by
 cases r with
 | nil=>exact absurd rfl h
 | cons q r=>rfl
theorem dropE_snoc:∀ r:List (List UInt8),dropE (r++[[]])=r
 | []=>rfl
 | p :: r=>by
  rw [List.cons_append,dropE_cons (by simp),dropE_snoc r]
theorem dropE_full (c:UInt8):∀ (l acc:List UInt8),acc++l≠[]→(¬ ∃ t,l=t++[c])→dropE (splitA c acc l)=splitA c acc l
 | [],acc,h,_=>by
  cases acc with
  | nil=>exact absurd rfl h
  | cons b acc=>rfl
 | b :: l,acc,h,hn=>by
  by_cases hb:b=c
  · subst hb
    have hl:l≠[]:=by intro e;subst e;exact hn ⟨[],rfl⟩
    have e:splitA b acc (b :: l)=acc :: splitA b [] l:=by simp [splitA]
    rw [e,dropE_cons (splitA_ne _ _ _),dropE_full b l [] (by simpa using hl) (fun ⟨t,ht⟩=>hn ⟨b :: t,by rw [ht];rfl⟩)]
  · have e:splitA c acc (b :: l)=splitA c (acc++[b]) l:=by simp [splitA,hb]
    rw [e,dropE_full c l (acc++[b]) (by simp) (fun ⟨t,ht⟩=>hn ⟨b :: t,by rw [ht];rfl⟩)]
theorem trim_lines (c:UInt8) (l:List UInt8) (h:l≠[]):splitA c [] (Lib.trimSuffix l [c])=dropE (splitA c [] l):=by
 unfold Lib.trimSuffix Lib.hasSuffix
 by_cases hs:([c]:List UInt8).isSuffixOf l=true
 · rw [if_pos hs]
   obtain ⟨t,rfl⟩:=List.isSuffixOf_iff_suffix.1 hs
   have e:(t++[c]).take ((t++[c]).length-[c].length)=t:=by simp
   rw [e,splitA_app]
   exact (dropE_snoc _).symm
 · rw [if_neg hs,dropE_full c l [] (by simpa using h) (fun ⟨t,ht⟩=>hs (List.isSuffixOf_iff_suffix.2 ⟨t,ht.symm⟩))]

def wordR (s:ByteArray):Nat→Nat→List ByteArray
  | 0,a=>[]
  | n+1,a=>if n=0∨byteAt s (s.size-n)=32 then (if a<s.size-n then [s.extract a (s.size-n)] else [])++wordR s n (s.size-n+1) else wordR s n a
def linesF (s:ByteArray):List ByteArray:=if s=ByteArray.empty then [] else pieces (trimS s ⟨#[10]⟩) ⟨#[10]⟩
def fullB (s:ByteArray):Bool:=decide (¬ s=ByteArray.empty)
def wordsF (s:ByteArray):List ByteArray:=(pieces s ⟨#[32]⟩).filter fullB
theorem toL_size (s:ByteArray):(toL s).length=s.size:=(Lib.size_eq s).symm
theorem toL_extract (s:ByteArray) (a b:Nat):toL (s.extract a b)=((toL s).drop a).take (b-a):=Lib.extract_data s a b
theorem toL_empty {s:ByteArray} : toL s=[]↔s=ByteArray.empty:=by
 constructor
 · intro h;rw [← ofL_toL s,h];rfl
 · rintro rfl;rfl
theorem fullB_eq (s:ByteArray):fullB s=nonE (toL s):=by
 unfold fullB
 by_cases h:s=ByteArray.empty
 · subst h;rfl
 · have h2:toL s≠[]:=fun e=>h (toL_empty.1 e)
   rw [decide_eq_true h]
   cases hl:toL s with
   | nil=>exact absurd hl h2
   | cons b l=>rfl
theorem wordsF_L (s:ByteArray):(wordsF s).map toL=wordsL (toL s):=by
 unfold wordsF wordsL
 rw [← pieces_L s 32,List.filter_map]
 congr 1
 apply List.filter_congr
 intro x _
 exact fullB_eq x
theorem linesF_L (s:ByteArray):(linesF s).map toL=if s=ByteArray.empty then [] else dropE (splitA 10 [] (toL s)):=by
  unfold linesF
  split
  · rfl
  · next h => rw [pieces_L]
              exact trim_lines 10 (toL s) (fun e=>h (toL_empty.1 e))
theorem byte_is {s:ByteArray}{i:Nat}(h:i<s.size) (c:UInt8):byteAt s i=(c.toNat:Int)↔(toL s)[i]'(by rw [toL_size];exact h)=c:=by
 have e:(toL s)[i]'(by rw [toL_size];exact h)=s[i]'h:=rfl
 rw [byteAt_eq h,e]
 constructor
 · intro k;exact UInt8.toNat_inj.1 ZO
 · intro k;rw [k]
theorem drop_here {s:ByteArray}{i:Nat}(h:i<s.size):(toL s).drop i=(toL s)[i]'(by rw [toL_size];exact h) :: (toL s).drop (i+1):=List.drop_eq_getElem_cons (by rw [toL_size];exact h)
theorem seg_next {l:List UInt8}{a i:Nat}(ha:a≤i) (h:i<l.length):(l.drop a).take (i+1-a)=(l.drop a).take (i-a)++[l[i]]:=by
 rw [show i+1-a=(i-a)+1 by omega,List.take_add_one]
 congr 1
 rw [List.getElem?_drop,show a+(i-a)=i by omega,List.getElem?_eq_getElem h];rfl
theorem wordR_L (s:ByteArray):∀ (n a:Nat),n≤s.size→a≤s.size-n→(wordR s (n+1) a).map toL=(splitA 32 (((toL s).drop a).take (s.size-n-a)) ((toL s).drop (s.size-n))).filter nonE
 | 0,a,_,ha=>by
  rw [Nat.sub_zero,show (toL s).drop s.size=[] from List.drop_eq_nil_of_le (by rw [toL_size];exact Nat.le_refl _)]
  show (if _∨_ then (if a<s.size-0 then [s.extract a (s.size-0)] else [])++[] else _).map toL=_
  rw [if_pos (.inl rfl),List.append_nil,Nat.sub_zero]
  have hl:(((toL s).drop a).take (s.size-a)).length=s.size-a:=by rw [List.length_take,List.length_drop,toL_size];omega
  show _=List.filter nonE [_]
  split
  · next h=>
    show [toL _]=_
    rw [toL_extract]
    cases hq:((toL s).drop a).take (s.size-a) with
    | nil=>rw [hq] at hl;simp at hl;omega
    | cons b l=>rfl
  · next h=>
    rw [show s.size-a=0 by omega,List.take_zero];rfl
 | n+1,a,hn,ha=>by
  have hi:s.size-(n+1)<s.size:=by omega
  have hil:s.size-(n+1)<(toL s).length:=by rw [toL_size];exact hi
  have e1:s.size-n=s.size-(n+1)+1:=by omega
  rw [drop_here hi]
  show (if n+1=0∨byteAt s (s.size-(n+1))=((32:UInt8).toNat:Int) then _ else _:List ByteArray).map toL=(if _=(32:UInt8) then _ else _:List (List UInt8)).filter nonE
  by_cases hb:byteAt s (s.size-(n+1))=((32:UInt8).toNat:Int)
  · rw [if_pos (.inr hb),if_pos ((byte_is hi 32).1 hb),List.map_append,wordR_L s n _ ZO ZO,e1,Nat.sub_self,List.take_zero,List.filter_cons]
    have hl:(((toL s).drop a).take (s.size-(n+1)-a)).length=s.size-(n+1)-a:=by rw [List.length_take,List.length_drop,toL_size];omega
    by_cases h:a<s.size-(n+1)
    · rw [if_pos h]
      have hne:nonE (((toL s).drop a).take (s.size-(n+1)-a))=true:=by
       cases hq:((toL s).drop a).take (s.size-(n+1)-a) with
       | nil=>rw [hq] at hl;simp at hl;omega
       | cons b l=>rfl
      rw [if_pos hne,← toL_extract];rfl
    · rw [if_neg h,show s.size-(n+1)-a=0 by omega,List.take_zero];rfl
  · rw [if_neg (fun k=>k.elim ZO hb),if_neg (fun k=>hb ((byte_is hi 32).2 k)),wordR_L s n a ZO ZO,e1,seg_next ha hil]
theorem words_law (s:ByteArray):wordR s (s.size+1) 0=wordsF s:=by
 apply map_toL_inj
 rw [wordR_L s s.size 0 (Nat.le_refl _) (Nat.zero_le _),wordsF_L,Nat.sub_self]
 rfl
end Go.Proofs.YtpmdhkjbhjgoaaaDoorR
namespace Go.Proofs.YtpmdhkjbhjgoaaaDoorK
open Go.RowKit
section
variable {c : Cx} {M : Md c} {d : Nat} {ty : TypeId} {pos : String} {af : Array Edge} {rest : List Oper} {E : Env} {D : List Deferred} {H H' : List Res} {x y : Operand} {t t' : TypeId} {v : Value}
theorem oAddStr {s r:ByteArray}(hx:E.op x=some (.string s)) (hy:E.op y=some (.string r)) (hl:s.size+r.size≤1000000000) (h:O M rest ((d,.string (s++r)) :: E) D H) (hN:Nat.blt d c.N=true:=by rfl):O M (⟨some d,.binOp .add t x y t',ty,pos,af,none⟩ :: rest) E D H:=
 oC _ rfl hN (fun u w ha hw=>by
  have hg:(eqGuard .add t x y (.string s) (.string r)).run c.P w=.ok () w:=by unfold eqGuard;split <;> simp
  have hm:¬ ((s.size+r.size:Nat):Int) > IntKind.i64.max:=by have:IntKind.i64.max=9223372036854775807:=rfl;omega
  simp only [execOp,ha.op hx,ha.op hy,Sem.run_bind,hg,Result.andThen_ok,binOp,Op.stringOp,if_neg hm]
  simp) h
def bytesS (xs:List Int):ByteArray:=⟨(xs.map fun v=>UInt8.ofNat v.toNat).toArray⟩
end
end Go.Proofs.YtpmdhkjbhjgoaaaDoorK
namespace Go.Proofs.YtpmdhkjbhjgoaaaDoorT
open Go.RowKit Go.Proofs.YtpmdhkjbhjgoaaaDoorK Go.ChangeShapes Go.WideShapes
structure ApiInstr where
  fOp:Int
  fA:Int
  fB:Int
  fC:Int
  fN:Int
instance:Inhabited ApiInstr:=⟨⟨0,0,0,0,0⟩⟩
def kApiInstr:Kd ApiInstr:=Kd.iso (Kd.pair (Kd.int .i64) (Kd.pair (Kd.int .i64) (Kd.pair (Kd.int .i64) (Kd.pair (Kd.int .i64) (Kd.int .i64))))) (fun x=>(x.fOp,x.fA,x.fB,x.fC,x.fN))
theorem kApiInstr_open {w:World}{x:ApiInstr}{cs:List Value}(h:kApiInstr.K w x cs):cs=[.int .i64 x.fOp,.int .i64 x.fA,.int .i64 x.fB,.int .i64 x.fC,.int .i64 x.fN]:=by
 obtain ⟨_,_,rfl,rfl,⟨_,_,rfl,rfl,⟨_,_,rfl,rfl,⟨_,_,rfl,rfl,rfl⟩⟩⟩⟩:=h
 exact rfl
theorem kApiInstr_mk (w:World) (x:ApiInstr):kApiInstr.K w x [.int .i64 x.fOp,.int .i64 x.fA,.int .i64 x.fB,.int .i64 x.fC,.int .i64 x.fN]:=⟨_,_,rfl,rfl,⟨_,_,rfl,rfl,⟨_,_,rfl,rfl,⟨_,_,rfl,rfl,rfl⟩⟩⟩⟩
def vApiInstr (x:ApiInstr):Prop:=in64 x.fOp∧in64 x.fA∧in64 x.fB∧in64 x.fC∧in64 x.fN
set_option maxRecDepth 100000 in
theorem opApiInstr:Opens Tryd.prog 34 kApiInstr vApiInstr:=Opens.weak (opens_struct (fun p=>(⟨p.1,p.2.1,p.2.2.1,p.2.2.2.1,p.2.2.2.2⟩:ApiInstr)) (fun _=>rfl) Tryd.underlying34 (opensF_cons (opens_i64 rfl) rfl (opensF_cons (opens_i64 rfl) rfl (opensF_cons (opens_i64 rfl) rfl (opensF_cons (opens_i64 rfl) rfl (opensF_one (opens_i64 rfl) rfl rfl)))))) (fun _ h=>h)
end Go.Proofs.YtpmdhkjbhjgoaaaDoorT
namespace Go.Proofs.YtpmdhkjbhjgoaaaDoorK
open Go.RowKit Go.Proofs.YtpmdhkjbhjgoaaaDoorT
abbrev tT:=true
abbrev fF:=false
noncomputable abbrev CW:=CallsIn Fence.wide 0 Tryd.prog
end Go.Proofs.YtpmdhkjbhjgoaaaDoorK
namespace Go.Proofs.YtpmdhkjbhjgoaaaDoorL
set_option maxRecDepth 100000
open Go.Shelf Go.Proofs
def laysn146_ren:Go.Shelf.Ren:=⟨fun | 138=>56 | 143=>57 | 146=>21 | 195=>70 | 197=>71 | 217=>83 | 218=>72 | 219=>73 | 221=>37 | 224=>85 | 225=>84 | 260=>82 | 266=>89 | 267=>86 | 268=>55 | 314=>90 | n=>n,fun | 0=>0 | 1=>1 | 2=>2 | 3=>3 | 4=>4 | 5=>5 | 6=>6 | 7=>7 | 8=>8 | 9=>9 | 10=>10 | 11=>11 | 12=>12 | 13=>13 | 14=>14 | 15=>15 | 16=>16 | 17=>17 | 18=>18 | 19=>19 | 20=>20 | 21=>21 | 22=>90 | 23=>46 | 27=>89 | 31=>22 | 32=>74 | 37=>49 | 46=>84 | 47=>114 | 51=>112 | 52=>118 | 53=>81 | 54=>93 | 55=>105 | 61=>45 | 67=>47 | 68=>28 | 69=>99 | 70=>59 | 71=>60 | 72=>61 | 73=>62 | 74=>41 | 75=>42 | 76=>63 | 77=>64 | 80=>65 | 81=>132 | 83=>52 | 84=>48 | 85=>43 | 86=>44 | 101=>27 | 103=>54 | 104=>98 | 105=>103 | 106=>104 | 108=>102 | 111=>51 | 113=>58 | 114=>109 | 119=>119 | 127=>91 | 128=>57 | 131=>75 | 132=>77 | 137=>120 | 138=>121 | 139=>122 | 143=>115 | 144=>116 | 145=>117 | 146=>123 | 150=>88 | 151=>124 | 164=>106 | 165=>107 | 166=>108 | 167=>80 | 168=>85 | 169=>86 | 170=>87 | 171=>92 | 172=>94 | 173=>95 | 174=>96 | 175=>82 | 176=>83 | 209=>100 | 210=>101 | 211=>110 | 212=>111 | 213=>113 | 214=>97 | 222=>78 | 232=>125 | 233=>126 | 238=>127 | 239=>128 | 240=>129 | 241=>130 | 242=>131 | 243=>133 | 244=>134 | 245=>135 | 246=>136 | 247=>137 | 248=>138 | 249=>139 | n=>n,fun | 1=>3 | 3=>4 | 4=>5 | n=>n⟩
theorem laysn146_at:Go.Proofs.Lays.n146 Tryd.prog laysn146_ren:={
 mixed:=by kernel_rfl
 f138:=Tryd.func56.trans (congrArg some (by kernel_rfl))
 f143:=Tryd.func57.trans (congrArg some (by kernel_rfl))
 f146:=Tryd.func21.trans (congrArg some (by kernel_rfl))
 f195:=Tryd.func70.trans (congrArg some (by kernel_rfl))
 f197:=Tryd.func71.trans (congrArg some (by kernel_rfl))
 f217:=Tryd.func83.trans (congrArg some (by kernel_rfl))
 f218:=Tryd.func72.trans (congrArg some (by kernel_rfl))
 f219:=Tryd.func73.trans (congrArg some (by kernel_rfl))
 f221:=Tryd.func37.trans (congrArg some (by kernel_rfl))
 f224:=Tryd.func85.trans (congrArg some (by kernel_rfl))
 f225:=Tryd.func84.trans (congrArg some (by kernel_rfl))
 f260:=Tryd.func82.trans (congrArg some (by kernel_rfl))
 f266:=Tryd.func89.trans (congrArg some (by kernel_rfl))
 f267:=Tryd.func86.trans (congrArg some (by kernel_rfl))
 f268:=Tryd.func55.trans (congrArg some (by kernel_rfl))
 f314:=Tryd.func90.trans (congrArg some (by kernel_rfl))
 t0:=Tryd.underlying0
 a0:=Tryd.isAgg0
 z0:=Tryd.sizeOf0
 v0:=Tryd.zeroValue0
 t3:=Tryd.underlying3
 a3:=Tryd.isAgg3
 z3:=Tryd.sizeOf3
 v3:=Tryd.zeroValue3
 t4:=Tryd.underlying4
 a4:=Tryd.isAgg4
 z4:=Tryd.sizeOf4
 v4:=Tryd.zeroValue4
 t5:=Tryd.underlying5
 a5:=Tryd.isAgg5
 z5:=Tryd.sizeOf5
 v5:=Tryd.zeroValue5
 t9:=Tryd.underlying9
 a9:=Tryd.isAgg9
 z9:=Tryd.sizeOf9
 v9:=Tryd.zeroValue9
 t21:=Tryd.underlying21
 a21:=Tryd.isAgg21
 z21:=Tryd.sizeOf21
 v21:=Tryd.zeroValue21
 t31:=Tryd.underlying22
 a31:=Tryd.isAgg22
 z31:=Tryd.sizeOf22
 v31:=Tryd.zeroValue22
 t46:=Tryd.underlying84
 a46:=Tryd.isAgg84
 z46:=Tryd.sizeOf84
 v46:=Tryd.zeroValue84
 t51:=Tryd.underlying112
 a51:=Tryd.isAgg112
 z51:=Tryd.sizeOf112
 v51:=Tryd.zeroValue112
 t105:=Tryd.underlying103
 a105:=Tryd.isAgg103
 z105:=Tryd.sizeOf103
 v105:=Tryd.zeroValue103
 t119:=Tryd.underlying119
 a119:=Tryd.isAgg119
 z119:=Tryd.sizeOf119
 t138:=Tryd.underlying121
 a138:=Tryd.isAgg121
 z138:=Tryd.sizeOf121
 v138:=Tryd.zeroValue121
 t139:=Tryd.underlying122
 a139:=Tryd.isAgg122
 z139:=Tryd.sizeOf122
 v139:=Tryd.zeroValue122
 t146:=Tryd.underlying123
 a146:=Tryd.isAgg123
 z146:=Tryd.sizeOf123
 v146:=Tryd.zeroValue123
 g1:=by kernel_rfl
 g3:=by kernel_rfl
 g4:=by kernel_rfl }
def laysn102_ren:Go.Shelf.Ren:=⟨fun | 102=>22 | 207=>58 | 209=>38 | n=>n,fun | 0=>0 | 1=>1 | 2=>2 | 3=>3 | 4=>4 | 5=>5 | 6=>6 | 7=>7 | 8=>8 | 9=>9 | 10=>10 | 11=>11 | 12=>12 | 13=>13 | 14=>14 | 15=>15 | 16=>16 | 17=>17 | 18=>18 | 19=>19 | 20=>20 | 21=>21 | 22=>90 | 23=>46 | 27=>89 | 31=>22 | 32=>74 | 37=>49 | 46=>84 | 47=>114 | 51=>112 | 52=>118 | 53=>81 | 54=>93 | 55=>105 | 61=>45 | 67=>47 | 68=>28 | 69=>99 | 70=>59 | 71=>60 | 72=>61 | 73=>62 | 74=>41 | 75=>42 | 76=>63 | 77=>64 | 80=>65 | 81=>132 | 83=>52 | 84=>48 | 85=>43 | 86=>44 | 101=>27 | 103=>54 | 104=>98 | 105=>103 | 106=>104 | 108=>102 | 111=>51 | 113=>58 | 114=>109 | 119=>119 | 127=>91 | 128=>57 | 131=>75 | 132=>77 | 137=>120 | 138=>121 | 139=>122 | 143=>115 | 144=>116 | 145=>117 | 146=>123 | 150=>88 | 151=>124 | 164=>106 | 165=>107 | 166=>108 | 167=>80 | 168=>85 | 169=>86 | 170=>87 | 171=>92 | 172=>94 | 173=>95 | 174=>96 | 175=>82 | 176=>83 | 209=>100 | 210=>101 | 211=>110 | 212=>111 | 213=>113 | 214=>97 | 222=>78 | 232=>125 | 233=>126 | 238=>127 | 239=>128 | 240=>129 | 241=>130 | 242=>131 | 243=>133 | 244=>134 | 245=>135 | 246=>136 | 247=>137 | 248=>138 | 249=>139 | n=>n,fun n=>n⟩
theorem laysn102_at:Go.Proofs.Lays.n102 Tryd.prog laysn102_ren:={
 mixed:=by kernel_rfl
 f102:=Tryd.func22.trans (congrArg some (by kernel_rfl))
 f207:=Tryd.func58.trans (congrArg some (by kernel_rfl))
 f209:=Tryd.func38.trans (congrArg some (by kernel_rfl))
 t3:=Tryd.underlying3
 a3:=Tryd.isAgg3
 z3:=Tryd.sizeOf3
 v3:=Tryd.zeroValue3
 t4:=Tryd.underlying4
 a4:=Tryd.isAgg4
 z4:=Tryd.sizeOf4
 v4:=Tryd.zeroValue4
 t9:=Tryd.underlying9
 a9:=Tryd.isAgg9
 z9:=Tryd.sizeOf9
 v9:=Tryd.zeroValue9 }
def laysn156_ren:Go.Shelf.Ren:=⟨fun | 156=>23 | 165=>39 | 166=>40 | 169=>41 | 240=>59 | 241=>60 | 276=>74 | 277=>75 | n=>n,fun | 0=>0 | 1=>1 | 2=>2 | 3=>3 | 4=>4 | 5=>5 | 6=>6 | 7=>7 | 8=>8 | 9=>9 | 10=>10 | 11=>11 | 12=>12 | 13=>13 | 14=>14 | 15=>15 | 16=>16 | 17=>17 | 18=>18 | 19=>19 | 20=>20 | 21=>21 | 22=>90 | 23=>46 | 27=>89 | 31=>22 | 32=>74 | 37=>49 | 46=>84 | 47=>114 | 51=>112 | 52=>118 | 53=>81 | 54=>93 | 55=>105 | 61=>45 | 67=>47 | 68=>28 | 69=>99 | 70=>59 | 71=>60 | 72=>61 | 73=>62 | 74=>41 | 75=>42 | 76=>63 | 77=>64 | 80=>65 | 81=>132 | 83=>52 | 84=>48 | 85=>43 | 86=>44 | 101=>27 | 103=>54 | 104=>98 | 105=>103 | 106=>104 | 108=>102 | 111=>51 | 113=>58 | 114=>109 | 119=>119 | 127=>91 | 128=>57 | 131=>75 | 132=>77 | 137=>120 | 138=>121 | 139=>122 | 143=>115 | 144=>116 | 145=>117 | 146=>123 | 150=>88 | 151=>124 | 164=>106 | 165=>107 | 166=>108 | 167=>80 | 168=>85 | 169=>86 | 170=>87 | 171=>92 | 172=>94 | 173=>95 | 174=>96 | 175=>82 | 176=>83 | 209=>100 | 210=>101 | 211=>110 | 212=>111 | 213=>113 | 214=>97 | 222=>78 | 232=>125 | 233=>126 | 238=>127 | 239=>128 | 240=>129 | 241=>130 | 242=>131 | 243=>133 | 244=>134 | 245=>135 | 246=>136 | 247=>137 | 248=>138 | 249=>139 | n=>n,fun n=>n⟩
theorem laysn156_at:Go.Proofs.Lays.n156 Tryd.prog laysn156_ren:={
 mixed:=by kernel_rfl
 f156:=Tryd.func23.trans (congrArg some (by kernel_rfl))
 f165:=Tryd.func39.trans (congrArg some (by kernel_rfl))
 f166:=Tryd.func40.trans (congrArg some (by kernel_rfl))
 f169:=Tryd.func41.trans (congrArg some (by kernel_rfl))
 f240:=Tryd.func59.trans (congrArg some (by kernel_rfl))
 f241:=Tryd.func60.trans (congrArg some (by kernel_rfl))
 f276:=Tryd.func74.trans (congrArg some (by kernel_rfl))
 f277:=Tryd.func75.trans (congrArg some (by kernel_rfl))
 t0:=Tryd.underlying0
 a0:=Tryd.isAgg0
 z0:=Tryd.sizeOf0
 v0:=Tryd.zeroValue0
 t3:=Tryd.underlying3
 a3:=Tryd.isAgg3
 z3:=Tryd.sizeOf3
 v3:=Tryd.zeroValue3
 t4:=Tryd.underlying4
 a4:=Tryd.isAgg4
 z4:=Tryd.sizeOf4
 v4:=Tryd.zeroValue4
 t9:=Tryd.underlying9
 a9:=Tryd.isAgg9
 z9:=Tryd.sizeOf9
 v9:=Tryd.zeroValue9
 t20:=Tryd.underlying20
 a20:=Tryd.isAgg20
 z20:=Tryd.sizeOf20
 v20:=Tryd.zeroValue20
 t31:=Tryd.underlying22
 a31:=Tryd.isAgg22
 z31:=Tryd.sizeOf22
 v31:=Tryd.zeroValue22
 t37:=Tryd.underlying49
 a37:=Tryd.isAgg49
 z37:=Tryd.sizeOf49
 v37:=Tryd.zeroValue49
 t70:=Tryd.underlying59
 a70:=Tryd.isAgg59
 z70:=Tryd.sizeOf59
 v70:=Tryd.zeroValue59
 t72:=Tryd.underlying61
 a72:=Tryd.isAgg61
 z72:=Tryd.sizeOf61
 v72:=Tryd.zeroValue61
 t75:=Tryd.underlying42
 a75:=Tryd.isAgg42
 z75:=Tryd.sizeOf42
 v75:=Tryd.zeroValue42
 t76:=Tryd.underlying63
 a76:=Tryd.isAgg63
 z76:=Tryd.sizeOf63
 v76:=Tryd.zeroValue63
 t127:=Tryd.underlying91
 a127:=Tryd.isAgg91
 z127:=Tryd.sizeOf91
 v127:=Tryd.zeroValue91
 t164:=Tryd.underlying106
 a164:=Tryd.isAgg106
 z164:=Tryd.sizeOf106
 v164:=Tryd.zeroValue106 }
def laysmn173_ren:Go.Shelf.Ren:=⟨fun | 129=>77 | 173=>24 | 246=>42 | 283=>61 | 284=>62 | 285=>63 | 286=>64 | 317=>76 | 318=>78 | 319=>79 | 320=>80 | 337=>87 | 338=>88 | n=>n,fun | 0=>0 | 1=>1 | 2=>2 | 3=>3 | 4=>4 | 5=>5 | 6=>6 | 7=>7 | 8=>8 | 9=>9 | 10=>10 | 11=>11 | 12=>12 | 13=>13 | 14=>14 | 15=>15 | 16=>16 | 17=>17 | 18=>18 | 19=>19 | 20=>20 | 21=>21 | 22=>90 | 23=>46 | 27=>89 | 31=>22 | 32=>74 | 37=>49 | 46=>84 | 47=>114 | 51=>112 | 52=>118 | 53=>81 | 54=>93 | 55=>105 | 61=>45 | 67=>47 | 68=>28 | 69=>99 | 70=>59 | 71=>60 | 72=>61 | 73=>62 | 74=>41 | 75=>42 | 76=>63 | 77=>64 | 80=>65 | 81=>132 | 83=>52 | 84=>48 | 85=>43 | 86=>44 | 101=>27 | 103=>54 | 104=>98 | 105=>103 | 106=>104 | 108=>102 | 111=>51 | 113=>58 | 114=>109 | 119=>119 | 127=>91 | 128=>57 | 131=>75 | 132=>77 | 137=>120 | 138=>121 | 139=>122 | 143=>115 | 144=>116 | 145=>117 | 146=>123 | 150=>88 | 151=>124 | 164=>106 | 165=>107 | 166=>108 | 167=>80 | 168=>85 | 169=>86 | 170=>87 | 171=>92 | 172=>94 | 173=>95 | 174=>96 | 175=>82 | 176=>83 | 209=>100 | 210=>101 | 211=>110 | 212=>111 | 213=>113 | 214=>97 | 222=>78 | 232=>125 | 233=>126 | 238=>127 | 239=>128 | 240=>129 | 241=>130 | 242=>131 | 243=>133 | 244=>134 | 245=>135 | 246=>136 | 247=>137 | 248=>138 | 249=>139 | n=>n,fun | 17=>2 | 18=>6 | 19=>7 | n=>n⟩
theorem laysmn173_at:Go.Proofs.LaysM.n173 Tryd.prog laysmn173_ren:={
 mixed:=by kernel_rfl
 f129:=Tryd.func77.trans (congrArg some (by kernel_rfl))
 f173:=Tryd.func24.trans (congrArg some (by kernel_rfl))
 f246:=Tryd.func42.trans (congrArg some (by kernel_rfl))
 f283:=Tryd.func61.trans (congrArg some (by kernel_rfl))
 f284:=Tryd.func62.trans (congrArg some (by kernel_rfl))
 f285:=Tryd.func63.trans (congrArg some (by kernel_rfl))
 f286:=Tryd.func64.trans (congrArg some (by kernel_rfl))
 f317:=Tryd.func76.trans (congrArg some (by kernel_rfl))
 f318:=Tryd.func78.trans (congrArg some (by kernel_rfl))
 f319:=Tryd.func79.trans (congrArg some (by kernel_rfl))
 f320:=Tryd.func80.trans (congrArg some (by kernel_rfl))
 f337:=Tryd.func87.trans (congrArg some (by kernel_rfl))
 f338:=Tryd.func88.trans (congrArg some (by kernel_rfl))
 t0:=Tryd.underlying0
 a0:=Tryd.isAgg0
 z0:=Tryd.sizeOf0
 v0:=Tryd.zeroValue0
 t2:=Tryd.underlying2
 a2:=Tryd.isAgg2
 z2:=Tryd.sizeOf2
 v2:=Tryd.zeroValue2
 t3:=Tryd.underlying3
 a3:=Tryd.isAgg3
 z3:=Tryd.sizeOf3
 v3:=Tryd.zeroValue3
 t4:=Tryd.underlying4
 a4:=Tryd.isAgg4
 z4:=Tryd.sizeOf4
 v4:=Tryd.zeroValue4
 t5:=Tryd.underlying5
 a5:=Tryd.isAgg5
 z5:=Tryd.sizeOf5
 v5:=Tryd.zeroValue5
 t9:=Tryd.underlying9
 a9:=Tryd.isAgg9
 z9:=Tryd.sizeOf9
 v9:=Tryd.zeroValue9
 t20:=Tryd.underlying20
 a20:=Tryd.isAgg20
 z20:=Tryd.sizeOf20
 v20:=Tryd.zeroValue20
 t37:=Tryd.underlying49
 a37:=Tryd.isAgg49
 z37:=Tryd.sizeOf49
 v37:=Tryd.zeroValue49
 t46:=Tryd.underlying84
 a46:=Tryd.isAgg84
 z46:=Tryd.sizeOf84
 v46:=Tryd.zeroValue84
 t51:=Tryd.underlying112
 a51:=Tryd.isAgg112
 z51:=Tryd.sizeOf112
 v51:=Tryd.zeroValue112
 t53:=Tryd.underlying81
 a53:=Tryd.isAgg81
 z53:=Tryd.sizeOf81
 v53:=Tryd.zeroValue81
 t171:=Tryd.underlying92
 a171:=Tryd.isAgg92
 z171:=Tryd.sizeOf92
 v171:=Tryd.zeroValue92
 t173:=Tryd.underlying95
 a173:=Tryd.isAgg95
 z173:=Tryd.sizeOf95
 v173:=Tryd.zeroValue95
 t212:=Tryd.underlying111
 a212:=Tryd.isAgg111
 z212:=Tryd.sizeOf111
 v212:=Tryd.zeroValue111
 t213:=Tryd.underlying113
 a213:=Tryd.isAgg113
 z213:=Tryd.sizeOf113
 t232:=Tryd.underlying125
 a232:=Tryd.isAgg125
 z232:=Tryd.sizeOf125
 v232:=Tryd.zeroValue125
 t233:=Tryd.underlying126
 a233:=Tryd.isAgg126
 z233:=Tryd.sizeOf126
 v233:=Tryd.zeroValue126
 g17:=by kernel_rfl
 g18:=by kernel_rfl
 g19:=by kernel_rfl
 i0:=by kernel_rfl
 i2:=by kernel_rfl
 i3:=by kernel_rfl
 i4:=by kernel_rfl
 i5:=by kernel_rfl
 i9:=by kernel_rfl
 i20:=by kernel_rfl
 i37:=by kernel_rfl
 i46:=by kernel_rfl
 i51:=by kernel_rfl
 i53:=by kernel_rfl
 i171:=by kernel_rfl
 i173:=by kernel_rfl
 i212:=by kernel_rfl
 i232:=by kernel_rfl
 i233:=by kernel_rfl
 m17:=by kernel_rfl
 m18:=by kernel_rfl
 m19:=by kernel_rfl }
def layscn174_ren:Go.Shelf.Ren:=⟨fun | 129=>77 | 171=>69 | 174=>20 | 205=>68 | 243=>81 | 245=>36 | 246=>42 | 247=>35 | 279=>51 | 280=>52 | 281=>53 | 282=>54 | 283=>61 | 284=>62 | 285=>63 | 286=>64 | 287=>50 | 316=>67 | 317=>76 | 318=>78 | 319=>79 | 320=>80 | 321=>65 | 322=>66 | 337=>87 | 338=>88 | n=>n,fun | 0=>0 | 1=>1 | 2=>2 | 3=>3 | 4=>4 | 5=>5 | 6=>6 | 7=>7 | 8=>8 | 9=>9 | 10=>10 | 11=>11 | 12=>12 | 13=>13 | 14=>14 | 15=>15 | 16=>16 | 17=>17 | 18=>18 | 19=>19 | 20=>20 | 21=>21 | 22=>90 | 23=>46 | 27=>89 | 31=>22 | 32=>74 | 37=>49 | 46=>84 | 47=>114 | 51=>112 | 52=>118 | 53=>81 | 54=>93 | 55=>105 | 61=>45 | 67=>47 | 68=>28 | 69=>99 | 70=>59 | 71=>60 | 72=>61 | 73=>62 | 74=>41 | 75=>42 | 76=>63 | 77=>64 | 80=>65 | 81=>132 | 83=>52 | 84=>48 | 85=>43 | 86=>44 | 101=>27 | 103=>54 | 104=>98 | 105=>103 | 106=>104 | 108=>102 | 111=>51 | 113=>58 | 114=>109 | 119=>119 | 127=>91 | 128=>57 | 131=>75 | 132=>77 | 137=>120 | 138=>121 | 139=>122 | 143=>115 | 144=>116 | 145=>117 | 146=>123 | 150=>88 | 151=>124 | 164=>106 | 165=>107 | 166=>108 | 167=>80 | 168=>85 | 169=>86 | 170=>87 | 171=>92 | 172=>94 | 173=>95 | 174=>96 | 175=>82 | 176=>83 | 209=>100 | 210=>101 | 211=>110 | 212=>111 | 213=>113 | 214=>97 | 222=>78 | 232=>125 | 233=>126 | 238=>127 | 239=>128 | 240=>129 | 241=>130 | 242=>131 | 243=>133 | 244=>134 | 245=>135 | 246=>136 | 247=>137 | 248=>138 | 249=>139 | n=>n,fun | 15=>0 | 16=>1 | 17=>2 | 18=>6 | 19=>7 | n=>n⟩
theorem layscn174_at:Go.Proofs.LaysC.n174 Tryd.prog layscn174_ren:={
 mixed:=by kernel_rfl
 f129:=Tryd.func77.trans (congrArg some (by kernel_rfl))
 f171:=Tryd.func69.trans (congrArg some (by kernel_rfl))
 f174:=Tryd.func20.trans (congrArg some (by kernel_rfl))
 f205:=Tryd.func68.trans (congrArg some (by kernel_rfl))
 f243:=Tryd.func81.trans (congrArg some (by kernel_rfl))
 f245:=Tryd.func36.trans (congrArg some (by kernel_rfl))
 f246:=Tryd.func42.trans (congrArg some (by kernel_rfl))
 f247:=Tryd.func35.trans (congrArg some (by kernel_rfl))
 f279:=Tryd.func51.trans (congrArg some (by kernel_rfl))
 f280:=Tryd.func52.trans (congrArg some (by kernel_rfl))
 f281:=Tryd.func53.trans (congrArg some (by kernel_rfl))
 f282:=Tryd.func54.trans (congrArg some (by kernel_rfl))
 f283:=Tryd.func61.trans (congrArg some (by kernel_rfl))
 f284:=Tryd.func62.trans (congrArg some (by kernel_rfl))
 f285:=Tryd.func63.trans (congrArg some (by kernel_rfl))
 f286:=Tryd.func64.trans (congrArg some (by kernel_rfl))
 f287:=Tryd.func50.trans (congrArg some (by kernel_rfl))
 f316:=Tryd.func67.trans (congrArg some (by kernel_rfl))
 f317:=Tryd.func76.trans (congrArg some (by kernel_rfl))
 f318:=Tryd.func78.trans (congrArg some (by kernel_rfl))
 f319:=Tryd.func79.trans (congrArg some (by kernel_rfl))
 f320:=Tryd.func80.trans (congrArg some (by kernel_rfl))
 f321:=Tryd.func65.trans (congrArg some (by kernel_rfl))
 f322:=Tryd.func66.trans (congrArg some (by kernel_rfl))
 f337:=Tryd.func87.trans (congrArg some (by kernel_rfl))
 f338:=Tryd.func88.trans (congrArg some (by kernel_rfl))
 t0:=Tryd.underlying0
 a0:=Tryd.isAgg0
 z0:=Tryd.sizeOf0
 v0:=Tryd.zeroValue0
 t2:=Tryd.underlying2
 a2:=Tryd.isAgg2
 z2:=Tryd.sizeOf2
 v2:=Tryd.zeroValue2
 t3:=Tryd.underlying3
 a3:=Tryd.isAgg3
 z3:=Tryd.sizeOf3
 v3:=Tryd.zeroValue3
 t4:=Tryd.underlying4
 a4:=Tryd.isAgg4
 z4:=Tryd.sizeOf4
 v4:=Tryd.zeroValue4
 t5:=Tryd.underlying5
 a5:=Tryd.isAgg5
 z5:=Tryd.sizeOf5
 v5:=Tryd.zeroValue5
 t9:=Tryd.underlying9
 a9:=Tryd.isAgg9
 z9:=Tryd.sizeOf9
 v9:=Tryd.zeroValue9
 t20:=Tryd.underlying20
 a20:=Tryd.isAgg20
 z20:=Tryd.sizeOf20
 v20:=Tryd.zeroValue20
 t21:=Tryd.underlying21
 a21:=Tryd.isAgg21
 z21:=Tryd.sizeOf21
 v21:=Tryd.zeroValue21
 t37:=Tryd.underlying49
 a37:=Tryd.isAgg49
 z37:=Tryd.sizeOf49
 v37:=Tryd.zeroValue49
 t46:=Tryd.underlying84
 a46:=Tryd.isAgg84
 z46:=Tryd.sizeOf84
 v46:=Tryd.zeroValue84
 t51:=Tryd.underlying112
 a51:=Tryd.isAgg112
 z51:=Tryd.sizeOf112
 v51:=Tryd.zeroValue112
 t53:=Tryd.underlying81
 a53:=Tryd.isAgg81
 z53:=Tryd.sizeOf81
 v53:=Tryd.zeroValue81
 t75:=Tryd.underlying42
 a75:=Tryd.isAgg42
 z75:=Tryd.sizeOf42
 v75:=Tryd.zeroValue42
 t85:=Tryd.underlying43
 a85:=Tryd.isAgg43
 z85:=Tryd.sizeOf43
 v85:=Tryd.zeroValue43
 t127:=Tryd.underlying91
 a127:=Tryd.isAgg91
 z127:=Tryd.sizeOf91
 v127:=Tryd.zeroValue91
 t143:=Tryd.underlying115
 a143:=Tryd.isAgg115
 z143:=Tryd.sizeOf115
 v143:=Tryd.zeroValue115
 t145:=Tryd.underlying117
 a145:=Tryd.isAgg117
 z145:=Tryd.sizeOf117
 v145:=Tryd.zeroValue117
 t167:=Tryd.underlying80
 a167:=Tryd.isAgg80
 z167:=Tryd.sizeOf80
 v167:=Tryd.zeroValue80
 t168:=Tryd.underlying85
 a168:=Tryd.isAgg85
 z168:=Tryd.sizeOf85
 v168:=Tryd.zeroValue85
 t171:=Tryd.underlying92
 a171:=Tryd.isAgg92
 z171:=Tryd.sizeOf92
 v171:=Tryd.zeroValue92
 t173:=Tryd.underlying95
 a173:=Tryd.isAgg95
 z173:=Tryd.sizeOf95
 v173:=Tryd.zeroValue95
 t175:=Tryd.underlying82
 a175:=Tryd.isAgg82
 z175:=Tryd.sizeOf82
 v175:=Tryd.zeroValue82
 t210:=Tryd.underlying101
 a210:=Tryd.isAgg101
 z210:=Tryd.sizeOf101
 v210:=Tryd.zeroValue101
 t212:=Tryd.underlying111
 a212:=Tryd.isAgg111
 z212:=Tryd.sizeOf111
 v212:=Tryd.zeroValue111
 t213:=Tryd.underlying113
 a213:=Tryd.isAgg113
 z213:=Tryd.sizeOf113
 t232:=Tryd.underlying125
 a232:=Tryd.isAgg125
 z232:=Tryd.sizeOf125
 v232:=Tryd.zeroValue125
 t233:=Tryd.underlying126
 a233:=Tryd.isAgg126
 z233:=Tryd.sizeOf126
 v233:=Tryd.zeroValue126
 g15:=by kernel_rfl
 g16:=by kernel_rfl
 g17:=by kernel_rfl
 g18:=by kernel_rfl
 g19:=by kernel_rfl
 t80:=Tryd.underlying65
 a80:=Tryd.isAgg65
 z80:=Tryd.sizeOf65
 v80:=Tryd.zeroValue65
 i0:=by kernel_rfl
 i2:=by kernel_rfl
 i3:=by kernel_rfl
 i4:=by kernel_rfl
 i5:=by kernel_rfl
 i9:=by kernel_rfl
 i20:=by kernel_rfl
 i21:=by kernel_rfl
 i37:=by kernel_rfl
 i46:=by kernel_rfl
 i51:=by kernel_rfl
 i53:=by kernel_rfl
 i75:=by kernel_rfl
 i80:=by kernel_rfl
 i85:=by kernel_rfl
 i127:=by kernel_rfl
 i143:=by kernel_rfl
 i145:=by kernel_rfl
 i167:=by kernel_rfl
 i168:=by kernel_rfl
 i171:=by kernel_rfl
 i173:=by kernel_rfl
 i175:=by kernel_rfl
 i210:=by kernel_rfl
 i212:=by kernel_rfl
 i232:=by kernel_rfl
 i233:=by kernel_rfl
 m15:=by kernel_rfl
 m16:=by kernel_rfl
 m17:=by kernel_rfl
 m18:=by kernel_rfl
 m19:=by kernel_rfl
 c0:=by kernel_rfl
 c2:=by kernel_rfl
 c3:=by kernel_rfl
 c4:=by kernel_rfl
 c5:=by kernel_rfl
 c9:=by kernel_rfl
 c20:=by kernel_rfl
 c21:=by kernel_rfl
 c37:=by kernel_rfl
 c46:=by kernel_rfl
 c51:=by kernel_rfl
 c53:=by kernel_rfl
 c75:=by kernel_rfl
 c80:=by kernel_rfl
 c85:=by kernel_rfl
 c127:=by kernel_rfl
 c143:=by kernel_rfl
 c145:=by kernel_rfl
 c167:=by kernel_rfl
 c168:=by kernel_rfl
 c171:=by kernel_rfl
 c173:=by kernel_rfl
 c175:=by kernel_rfl
 c210:=by kernel_rfl
 c212:=by kernel_rfl
 c213:=by kernel_rfl
 c232:=by kernel_rfl
 c233:=by kernel_rfl }
theorem builderextra_at:Go.Proofs.Builder.Extra Tryd.prog laysn156_ren:={
 sizeBuilder:=by kernel_rfl
 liesBuilder:=by kernel_rfl
 t5:=Tryd.underlying5
 a5:=Tryd.isAgg5
 z5:=Tryd.sizeOf5
 v5:=Tryd.zeroValue5
 infoByte:=by kernel_rfl
 cellsByte:=by kernel_rfl
 sizeByte:=by kernel_rfl
 neB5:=by decide }
end Go.Proofs.YtpmdhkjbhjgoaaaDoorL
namespace Go.Proofs.YtpmdhkjbhjgoaaaDoorN
set_option maxRecDepth 100000
set_option maxHeartbeats 4000000
open Go.RowKit Go.Proofs.YtpmdhkjbhjgoaaaDoorK Go.Proofs.YtpmdhkjbhjgoaaaDoorT Go.Proofs.YtpmdhkjbhjgoaaaDoorL

theorem any_T {n j:Nat}{p:Nat→Bool}(hj:j<n) (h:p j=true):(List.range n).any p=true:=List.any_eq_true.2 ⟨j,List.mem_range.2 hj,h⟩
theorem any_F {n:Nat}{p:Nat→Bool}(h:∀ j,j<n→p j=false):(List.range n).any p=false:=List.any_eq_false.2 (fun j hj=>by rw [h j (List.mem_range.1 hj)];simp)
def idxI {α:Type}(p:α→Bool) (l:List α):Int:=if l.any p then (l.findIdx p:Int) else -1
theorem idxI_stop {α:Type}{p:α→Bool}{l:List α}{i:Nat}{x:α}(h:∀ y ∈ l.take i,p y=false) (hi:l[i]?=some x) (hp:p x=true):idxI p l=(i:Int):=by
 obtain ⟨hl,rfl⟩:=List.getElem?_eq_some_iff.1 hi
 unfold idxI
 rw [if_pos (List.any_eq_true.2 ⟨_,List.getElem_mem hl,hp⟩)]
 rw [(List.findIdx_eq hl).2 ⟨hp,fun j hj=>h _ (List.mem_take_iff_getElem.2 ⟨j,by omega,rfl⟩)⟩]
theorem idxI_none {α:Type}{p:α→Bool}{l:List α}(h:∀ y ∈ l,p y=false):idxI p l = -1:=by
 unfold idxI
 rw [if_neg]
 intro k
 obtain ⟨x,hx,hp⟩:=List.any_eq_true.1 k
 rw [h x hx] at hp;cases hp
theorem take_not {α:Type}{p:α→Bool}{l:List α}{i:Nat}{x:α}(h:∀ y ∈ l.take i,p y=false) (hi:l[i]?=some x) (hp:p x=false):∀ y ∈ l.take (i+1),p y=false:=by
 intro y hy
 rw [List.take_add_one,hi] at hy
 rcases List.mem_append.1 hy with k | k
 · exact h y k
 · obtain rfl:y=x:=by simpa using k
   exact hp
def digB (k:Int):Int:=48+((k.tmod 10).natAbs:Int)
def digS:Nat→Int→ByteArray→ByteArray
  | 0,_,s=>s
  | f+1,k,s=>if k=0 then s else digS f (k.tdiv 10) (bytesS [digB k]++s)
def decF (n:Int):ByteArray:=if n=0 then ⟨#[48]⟩ else if n<0 then ⟨#[45]⟩++digS 20 n ByteArray.empty else digS 20 n ByteArray.empty
def ltS (x y:ByteArray):Prop:=toL x<toL y
instance (x y:ByteArray):Decidable (ltS x y):=inferInstanceAs (Decidable (toL x<toL y))
def dotF:ByteArray:=⟨#[46,102]⟩
def joinT (file:Int) (s:ByteArray):ByteArray:=s++dotF++decF file
theorem ref1_Texts {B:Base}{w:World}(hS:St B [] w) (A:Option Addr) (cp:Nat) (a:List ByteArray) (hC:Kd.string.C B.e A a) (A':Option Addr) (cp':Nat) (b:List ByteArray) (hC':Kd.string.C B.e A' b) (hl:a.length≤1000000) :
 CW 9 #[.slice A a.length cp,.slice A' b.length cp'] w (Ret B (fun _:Unit=>True) (fun _=>.bool (decide (a=b))) (fun _=>[])):=by
 have hlb:=hC'.1
 refine ZX Tryd.func9 hS ?_
 refine Zh (Zi (Zp J (Zn (Za (Zh (Zh (Zi (Zo J (Zv J J (Zo J (Zv J J (Z0 J J (Zn (Za (wC (fun h10=>?_) (fun h10=>?_))))))))))))))))
 refine Zh (Zzb ?_)
 exact ⟨(),trivial,by rw [decide_eq_false (fun e=>h10 (by rw [e]))];rfl,Lh⟩
 have hab:a.length=b.length:=by omega
 refine Zj (Za (Zh (Zh (Zi (Zp J (Zn (Za (Zk (wLoop (ι:=Nat) (fun i=>[(0,.slice A a.length cp),(1,.slice A' b.length cp'),(5,.int .i64 (i:Int))]) (fun i=>[]) (fun i=>i≤a.length∧∀ j,j<i→a[j]?=b[j]?) (fun i=>a.length-i) 0 ?_ cv (Leads.has ZQ) ?_)))))))))
 exact ⟨Nat.zero_le _,fun j hj=>by omega⟩
 rintro i ⟨hi,hs⟩
 try dsimp only
 refine Zh (Zh (Zi (Zo J (Zo J (Zv J J (Zx J J (Zn (Za (wC (fun h14=>?_) (fun h14=>?_))))))))))
 refine Zj (Za (Zh (Zk (Zh (wDraw2 J J [0,1,4,5] [2,3,6,7] 8 ZK J J J (fun w0=>?_))))))
 refine oIdx J J (hC) J ZO J J (fun e19 u19 cs19 hu19 hk19 hc19=>?_)
 obtain rfl:=hk19
 refine Zlx hc19 ?_
 refine oIdx J J (hC') J ZO J J (fun e23 u23 cs23 hu23 hk23 hc23=>?_)
 obtain rfl:=hk23
 refine Zlx hc23 ?_
 refine oHead (oSNe J J (oNilT (Za (wC (fun h25=>?_) (fun h25=>?_)))))
 refine Zh (Zi (Zzc ?_))
 exact ⟨(),trivial,by rw [decide_eq_false (fun e=>h25 (Option.some.inj (by rw [← hu19,← hu23,e])))];rfl,Lh⟩
 refine Zj (Zd (Za (Zi (Zo J (Zsu ?_)))))
 refine Zp J (Zn (Za ?_))
 exact ⟨rfl,i+1,⟨by omega,fun j hj=>by
 by_cases e:j=i
 · subst e;rw [hu19,hu23,Classical.not_not.1 h25]
 · exact hs j ZO⟩,by omega,cv,Lh⟩
 refine Zm (Zb (Zb (Ze (Za (Zh (Zi (Zp J (Zza ?_))))))))
 obtain rfl:i=a.length:=by omega
 have hab':a=b:=List.ext_getElem? (fun j=>by
 rcases Nat.lt_or_ge j a.length with h | h
 · exact hs j h
 · rw [List.getElem?_eq_none h,List.getElem?_eq_none ZO])
 exact ⟨(),trivial,by rw [decide_eq_true hab'];rfl,Lh⟩
end Go.Proofs.YtpmdhkjbhjgoaaaDoorN
namespace Go.Proofs.YtpmdhkjbhjgoaaaDoorR
set_option maxRecDepth 100000
set_option maxHeartbeats 4000000
open Go.RowKit Go.Proofs.YtpmdhkjbhjgoaaaDoorK
open Go.Proofs.YtpmdhkjbhjgoaaaDoorN (decF)

theorem digit_nat {d:Nat}(h:d<10):(UInt8.ofNat (48+d)).toNat=48+d:=by
 have:∀ m,m<10→(UInt8.ofNat (48+m)).toNat=48+m:=by decide
 exact this d h
theorem decD_len:∀ (k u:Nat),1≤k→u<10 ^ k→(Lib.decDigits u).length≤k
 | 0,u,h,_=>by omega
 | k+1,u,_,hu=>by
  by_cases h10:u<10
  · rw [Lib.decDigits_one h10];simp
  · rw [Lib.decDigits,dif_neg h10,List.length_append]
    have hk:1≤k:=by
     cases k with
     | zero=>simp at hu;omega
     | succ k=>omega
    have:=decD_len k (u / 10) hk (by rw [Nat.pow_succ] at hu;omega)
    simp only [List.length_cons,List.length_nil];omega
theorem decS_size {z:Int}(h:in64 z):(decS z).size≤20:=by
 have e:(decS z).size=(Lib.itoa z).length:=by simp [decS,ByteArray.size]
 rw [e]
 unfold Lib.itoa
 unfold in64 at h
 split
 · have:=decD_len 19 z.natAbs (by decide) ZO
   simp only [List.length_cons];omega
 · have:=decD_len 19 z.toNat (by decide) ZO
   omega
theorem decD_ne (u:Nat):Lib.decDigits u≠[]:=by
 by_cases h10:u<10
 · rw [Lib.decDigits_one h10];simp
 · rw [Lib.decDigits,dif_neg h10];simp
theorem decD_digit:∀ (f u:Nat),u≤f→∀ b ∈ Lib.decDigits u,48≤b.toNat∧b.toNat≤57
 | f,u,h=>by
  intro b hb
  by_cases h10:u<10
  · rw [Lib.decDigits_one h10] at hb
    obtain rfl:=List.mem_singleton.1 hb
    rw [digit_nat h10];omega
  · rw [Lib.decDigits,dif_neg h10] at hb
    rcases List.mem_append.1 hb with k | k
    · cases f with
      | zero=>omega
      | succ f=>exact decD_digit f (u / 10) ZO b k
    · obtain rfl:=List.mem_singleton.1 k
      rw [digit_nat (Nat.mod_lt _ (by decide))]
      omega
theorem parseM_dec (M:Nat) (hM:M≤18446744073709551615) (r:List UInt8):∀ (f u:Nat),u≤f→u≤M→Lib.parseUintM M 0 (Lib.decDigits u++r)=Lib.parseUintM M u r
 | f,u,hf,hu=>by
  by_cases h10:u<10
  · rw [Lib.decDigits_one h10]
    show (if 48≤(UInt8.ofNat (48+u)).toNat∧(UInt8.ofNat (48+u)).toNat≤57 then _ else _)=_
    rw [digit_nat h10,if_pos ZO,if_neg ZO,if_neg ZO]
    show Lib.parseUintM M (0 * 10+(48+u-48)) r=_
    rw [show 0 * 10+(48+u-48)=u by omega]
  · rw [Lib.decDigits,dif_neg h10,List.append_assoc]
    cases f with
    | zero=>omega
    | succ f=>
     rw [parseM_dec M hM _ f (u / 10) ZO ZO]
     show (if 48≤(UInt8.ofNat (48+u % 10)).toNat∧(UInt8.ofNat (48+u % 10)).toNat≤57 then _ else _)=_
     have hm:u % 10<10:=Nat.mod_lt _ (by decide)
     rw [digit_nat hm,if_pos ZO,if_neg ZO,if_neg ZO]
     show Lib.parseUintM M (u / 10 * 10+(48+u % 10-48)) r=_
     rw [show u / 10 * 10+(48+u % 10-48)=u by omega]
theorem parseB_dec {u:Nat}(h:u≤18446744073709551615):Lib.parseUintB 64 (Lib.decDigits u)=.ok u:=by
 unfold Lib.parseUintB
 rw [if_neg (decD_ne u)]
 have:=parseM_dec 18446744073709551615 (Nat.le_refl _) [] u u (Nat.le_refl _) h
 rw [List.append_nil] at this
 exact this
theorem parsed_dec {z:Int}(h:in64 z):parsed (decS z)=some z:=by
 unfold in64 at h
 have hp:Lib.parseIntB 64 (Lib.itoa z)=.ok z:=by
  unfold Lib.itoa
  split
  · next hz=>
    have hq:=parseB_dec (u:=z.natAbs) ZO
    simp [Lib.parseIntB,hq]
    rw [if_neg ZO]
    exact congrArg _ ZO
  · next hz=>
    have hq:=parseB_dec (u:=z.toNat) ZO
    cases hd:Lib.decDigits z.toNat with
    | nil=>exact absurd hd (decD_ne _)
    | cons c r=>
     have hc:=decD_digit z.toNat z.toNat (Nat.le_refl _) c (by rw [hd];exact List.mem_cons_self)
     rw [hd] at hq
     have n1:¬ c.toNat=43:=by omega
     have n2:¬ c.toNat=45:=by omega
     simp [Lib.parseIntB,n1,n2,hq]
     rw [if_neg ZO]
     exact congrArg _ ZO
 unfold parsed
 have e:(decS z).data.toList=Lib.itoa z:=rfl
 rw [e,hp]
theorem parsed_in {s:ByteArray}{z:Int}(h:parsed s=some z):in64 z:=by
 unfold parsed at h
 split at h
 · next v hv=>
   obtain rfl:v=z:=by simpa using h
   obtain ⟨h1,h2⟩:=Lib.parseIntB_bounds hv
   unfold in64
   have e:((2 ^ (64-1):Nat):Int)=9223372036854775808:=by decide
   rw [e] at h1 h2
   omega
 · cases h
def numF (s:ByteArray):Int×Bool:=match parsed s with
  | some v=>if decS v=s then (v,true) else (0,false)
  | none=>(0,false)
theorem numF_dec {z:Int}(h:in64 z):numF (decS z)=(z,true):=by
 unfold numF
 rw [parsed_dec h]
 show (if _ then _ else _)=_
 rw [if_pos rfl]
theorem decS_word {z:Int}(h:in64 z):isWord (toL (decS z)):=by
 have e:toL (decS z)=Lib.itoa z:=rfl
 rw [e]
 unfold Lib.itoa
 have hno:∀ u,(32:UInt8) ∉ Lib.decDigits u:=fun u k=>absurd (decD_digit u u (Nat.le_refl _) _ k).1 (by decide)
 split
 · exact ⟨by simp,fun k=>(List.mem_cons.1 k).elim (fun e=>absurd e (by decide)) (hno _)⟩
 · exact ⟨decD_ne _,hno _⟩
end Go.Proofs.YtpmdhkjbhjgoaaaDoorR
namespace Go.Proofs.YtpmdhkjbhjgoaaaDoorV
set_option maxRecDepth 100000
set_option maxHeartbeats 4000000
open Go.RowKit Go.Proofs.YtpmdhkjbhjgoaaaDoorK Go.Proofs.YtpmdhkjbhjgoaaaDoorT Go.Proofs.YtpmdhkjbhjgoaaaDoorL

def isC (c:Int):Bool:=decide (0≤c) && decide (c<8)
theorem isC_iff {c:Int} : isC c=true↔0≤c∧c<8:=by simp [isC]
theorem sig_Is {B:Base}{w:World}(hS:St B [] w) (c:Int) :
 CW 29 #[.int .i64 c] w (Ret B (fun _:Unit=>True) (fun _=>.bool (isC c)) (fun _=>[])):=by
 refine ZX Tryd.func29 hS ?_
 refine Zh (Zi (Zp J (Zn (Za (Zh (Zi (Zo J (Z2 J J (Zo J (ZS (ZT 5) (fun h5=>?_) (fun h5=>?_)))))))))))
 refine Zq J J (Zo J (Zq J J (Zx J J (Zt J J (Zp J (Zza ?_))))))
 exact ⟨(),trivial,by simp_all [resVal,isC] <;> omega,Lh⟩
 refine Zr J J J J (Zr J J J J (Zu J J (Zp J (Zza ?_))))
 exact ⟨(),trivial,by simp_all [resVal,isC] <;> omega,Lh⟩
theorem sig_Class {B:Base}{w:World}(hS:St B [] w) (k:Int) :
 CW 49 #[.int .i64 k] w (Ret B (fun _:Unit=>True) (fun _=>.tuple #[.int .i64 (if isC (IntKind.i64.wrap (k-1)) then IntKind.i64.wrap (k-1) else 0),.bool (isC (IntKind.i64.wrap (k-1)))]) (fun _=>[])):=by
 generalize hz:IntKind.i64.wrap (k-1)=z
 refine ZX Tryd.func49 hS ?_
 refine Zh (Zi (Zp J (Zp J (Zn (Za (Zh (Zh (Zi (Zo J (oSubW J J ?_))))))))))
 rw [hz]
 (refine ZC0 rfl ZK (fun w hS=>frame hS ZQ (fun B' hB hS'=>sig_Is hS' z)) ?_;rintro ⟨⟩ -)
 refine Zno ?_
 refine Zn (Za (wC (fun h7=>?_) (fun h7=>?_)))
 refine Zh (Zi (Zp J (Zp J (Zn (Za (Zl (Zc (Zw ?_))))))))
 refine ⟨rfl,_,(ResL.cons (ResR.tmp rfl) (ResL.cons (ResR.tmp rfl) ResL.nil)),?_⟩
 exact ⟨(),trivial,by simp_all [resVal],Lh⟩
 refine Zj (Za (Zh (Zi (Zo J (oSubW J J ?_)))))
 rw [hz]
 refine Zp J (Zp J (Zn (Za (Zl (Zw ?_)))))
 refine ⟨rfl,_,(ResL.cons (ResR.tmp rfl) (ResL.cons (ResR.tmp rfl) ResL.nil)),?_⟩
 exact ⟨(),trivial,by simp_all [resVal],Lh⟩
def textsL:List ByteArray:=[⟨#[110]⟩,⟨#[102,48]⟩,⟨#[102,48,114]⟩,⟨#[102,49]⟩,⟨#[102,49,114]⟩,⟨#[102,50]⟩,⟨#[102,50,114]⟩,⟨#[102,51]⟩,⟨#[102,51,114]⟩]
def textF (k:Int):ByteArray:=if 0≤k∧k<9 then textsL.getD k.toNat ByteArray.empty else ByteArray.empty
theorem strs_at {L:List ByteArray}{k n:Nat}(hn:L.length=n) (h:k<n):(L.map Value.string)[k]?=some (.string (L.getD k ByteArray.empty)):=by
 subst hn
 rw [List.getElem?_map,List.getD_eq_getElem?_getD,List.getElem?_eq_getElem h];rfl
theorem sig_texts {B:Base}{w:World}(hS:St B [] w) (W0:World) :
 CW 46 #[] w (Ret B (fun _:Nat=>True) (fun b=>.slice (some ⟨b,0,none⟩) 9 9) (fun b=>[row Kd.string W0 9 (.slice (some ⟨b,0,none⟩) 9 9) textsL])):=by
 refine ZX Tryd.func46 hS ?_
 refine Zh (Zi (Zp J (Zn (Za (Zh (Zi ?_))))))
 refine oBuildSliceF (Parts.cons J (Parts.cons J (Parts.cons J (Parts.cons J (Parts.cons J (Parts.cons J (Parts.cons J (Parts.cons J (Parts.cons J Parts.nil))))))))) J J J J J (Fulls.cons ZP J (Fulls.cons ZP J (Fulls.cons ZP J (Fulls.cons ZP J (Fulls.cons ZP J (Fulls.cons ZP J (Fulls.cons ZP J (Fulls.cons ZP J (Fulls.cons ZP J Fulls.nil ap) ap) ap) ap) ap) ap) ap) ap) ap) (fun b1=>?_)
 refine Zp J (Zza ?_)
 exact ⟨b1,trivial,rfl,Leads.trans (blk_row (enc:=Value.string) (h1:=fun _=>rfl) (W:=W0) (xs:=textsL) ZP rfl rfl (by decide)) Lh⟩
theorem sig_Text {B:Base}{w:World}(hS:St B [] w) (k:Int) :
 CW 30 #[.int .i64 k] w (Ret B (fun _:Unit=>True) (fun _=>.string (textF k)) (fun _=>[])):=by
 refine ZX Tryd.func30 hS ?_
 refine Zh (Zi (Zp J (Zn (Za (Zh (Zi ?_))))))
 (refine ZC0 rfl ZK (fun w hS=>frame hS ZQ (fun B' hB hS'=>sig_texts hS' B.e)) ?_;rintro b4 -)
 refine Zp J (Zn (Za (Zh (Zh (Zi (Zo J (Zx J J (Zo J (ZS (ZT 7) (fun h7=>?_) (fun h7=>?_))))))))))
 refine Zr J J J J (Zr J J J J (Zr J J J J (Zr J J J J (Zt J J (Zn (Za (wCondT J (Zh (Zzb ?_)))))))))
 exact ⟨(),trivial,by unfold textF;rw [if_neg ZO];rfl,Lh⟩
 refine Zq J J (Zo J (Zq J J (Zo J (Zq J J (Zv J J (Zq J J (Z2 J J (Zu J J (Zn (Za (wC (fun h12=>?_) (fun h12=>?_))))))))))))
 refine Zh (Zzb ?_)
 exact ⟨(),trivial,by unfold textF;rw [if_neg ZO];rfl,Lh⟩
 obtain ⟨n,rfl⟩:=Int.eq_ofNat_of_zero_le (show 0≤k by omega)
 have hn9:n<9:=by omega
 refine Zj (Za (Zh (Zi (Zo J (Zo J ?_)))))
 refine ZR J J ZP (by first | exact hn9 | (show n<9;omega)) J J (fun g15 hg15=>?_)
 first | subst hg15 | (injection hg15 with hg15;injection hg15 with hg15;subst hg15)
 refine ZR1 J ZP (by first | exact hn9 | (show n<9;omega)) J (fun u16 hu16=>?_)
 obtain rfl:u16=textsL.getD n ByteArray.empty:=by rw [List.getD_eq_getElem?_getD,hu16];rfl
 refine Zp J (Zza ?_)
 exact ⟨(),trivial,by unfold textF;rw [if_pos ZO,Int.toNat_natCast];rfl,Lh⟩
def ownF (o:Int):Bool:=decide (1≤o) && decide (o≤24)
theorem ownF_iff {o:Int} : ownF o=true↔1≤o∧o≤24:=by simp [ownF]
def shapesL:List ByteArray:=[⟨#[45,45,45,45]⟩,⟨#[119,45,45,110]⟩,⟨#[119,114,45,45]⟩,⟨#[119,114,114,45]⟩,⟨#[119,114,114,45]⟩,⟨#[119,114,114,45]⟩,⟨#[119,114,114,45]⟩,⟨#[119,114,114,45]⟩,⟨#[119,114,114,45]⟩,⟨#[119,114,114,45]⟩,⟨#[45,45,45,116]⟩,⟨#[114,45,45,116]⟩,⟨#[119,45,45,45]⟩,⟨#[114,45,45,45]⟩,⟨#[119,114,45,45]⟩,⟨#[114,114,45,45]⟩,⟨#[103,45,45,45]⟩,⟨#[103,114,45,45]⟩,⟨#[99,45,45,45]⟩,⟨#[99,102,107,45]⟩,⟨#[100,45,45,45]⟩,⟨#[114,45,45,45]⟩,⟨#[119,119,45,45]⟩,⟨#[118,45,45,45]⟩]
def namesL:List ByteArray:=[⟨#[110,111,112]⟩,⟨#[115,101,116]⟩,⟨#[109,111,118,101]⟩,⟨#[97,100,100]⟩,⟨#[115,117,98]⟩,⟨#[109,117,108]⟩,⟨#[100,105,118]⟩,⟨#[109,111,100]⟩,⟨#[108,101,115,115]⟩,⟨#[115,97,109,101]⟩,⟨#[106,117,109,112]⟩,⟨#[122,101,114,111]⟩,⟨#[105,110]⟩,⟨#[111,117,116]⟩,⟨#[108,111,97,100]⟩,⟨#[115,116,111,114,101]⟩,⟨#[102,117,110,99]⟩,⟨#[112,105,99,107]⟩,⟨#[99,97,108,108]⟩,⟨#[118,105,97]⟩,⟨#[100,101,102,101,114]⟩,⟨#[112,97,110,105,99]⟩,⟨#[114,101,99,111,118,101,114]⟩,⟨#[114,101,116,117,114,110]⟩,⟨#[99,104,101,99,107]⟩,⟨#[101,110,116,101,114]⟩,⟨#[98,111,116,116,111,109]⟩,⟨#[100,114,105,118,101,114]⟩]
def shapeF (o:Int):ByteArray:=if ownF o then shapesL.getD (o-1).toNat ByteArray.empty else ByteArray.empty
def nameF (o:Int):ByteArray:=if 1≤o∧o≤28 then namesL.getD (o-1).toNat ByteArray.empty else ByteArray.empty
theorem shapeF_size (o:Int):(shapeF o).size=if ownF o then 4 else 0:=by
 unfold shapeF
 by_cases h:ownF o=true
 · rw [if_pos h,if_pos h]
   have h2:=ownF_iff.1 h
   have:∀ n,n<24→(shapesL.getD n ByteArray.empty).size=4:=by decide
   exact this _ ZO
 · rw [if_neg h,if_neg h];rfl
theorem shapeF_asc (o:Int):Asc (shapeF o):=by
 intro i hi
 have hs:=shapeF_size o
 unfold shapeF at *
 by_cases h:ownF o=true
 · rw [if_pos h] at *
   rw [hs,if_pos h] at hi
   have h2:=ownF_iff.1 h
   have:∀ n,n<24→∀ i,i<4→byteAt (shapesL.getD n ByteArray.empty) i<128:=by decide
   exact this _ ZO i hi
 · rw [if_neg h] at *
   exact absurd hi (Nat.not_lt_zero _)
theorem op_Own {B:Base}{w:World}(hS:St B [] w) (o:Int) :
 CW 26 #[.int .i64 o] w (Ret B (fun _:Unit=>True) (fun _=>.bool (ownF o)) (fun _=>[])):=by
 refine ZX Tryd.func26 hS ?_
 refine Zh (Zi (Zp J (Zn (Za (Zh (Zi (Zo J (Z2 J J (Zo J (ZS (ZT 5) (fun h5=>?_) (fun h5=>?_)))))))))))
 refine Zq J J (Zo J (Zq J J (oLeq J J (Zt J J (Zp J (Zza ?_))))))
 exact ⟨(),trivial,by simp_all [resVal,ownF] <;> omega,Lh⟩
 refine Zr J J J J (Zr J J J J (Zu J J (Zp J (Zza ?_))))
 exact ⟨(),trivial,by simp_all [resVal,ownF] <;> omega,Lh⟩
theorem op_shapes {B:Base}{w:World}(hS:St B [] w) :
 CW 45 #[] w (Ret B (fun _:Unit=>True) (fun _=>.agg (shapesL.map Value.string).toArray) (fun _=>[])):=by
 refine ZX Tryd.func45 hS ?_
 refine Zh (Zi (oAlloc J ZP (fun b0=>?_)))
 refine Zn (Za (Zh (Zi (oBuildArr (Parts.cons J (Parts.cons J (Parts.cons J (Parts.cons J (Parts.cons J (Parts.cons J (Parts.cons J (Parts.cons J (Parts.cons J (Parts.cons J (Parts.cons J (Parts.cons J (Parts.cons J (Parts.cons J (Parts.cons J (Parts.cons J (Parts.cons J (Parts.cons J (Parts.cons J (Parts.cons J (Parts.cons J (Parts.cons J (Parts.cons J (Parts.cons J Parts.nil)))))))))))))))))))))))) J J (Built.cons (off:=0) (s:=1) J ZP J ZP (Built.cons (off:=1) (s:=1) J ZP J ZP (Built.cons (off:=2) (s:=1) J ZP J ZP (Built.cons (off:=3) (s:=1) J ZP J ZP (Built.cons (off:=4) (s:=1) J ZP J ZP (Built.cons (off:=5) (s:=1) J ZP J ZP (Built.cons (off:=6) (s:=1) J ZP J ZP (Built.cons (off:=7) (s:=1) J ZP J ZP (Built.cons (off:=8) (s:=1) J ZP J ZP (Built.cons (off:=9) (s:=1) J ZP J ZP (Built.cons (off:=10) (s:=1) J ZP J ZP (Built.cons (off:=11) (s:=1) J ZP J ZP (Built.cons (off:=12) (s:=1) J ZP J ZP (Built.cons (off:=13) (s:=1) J ZP J ZP (Built.cons (off:=14) (s:=1) J ZP J ZP (Built.cons (off:=15) (s:=1) J ZP J ZP (Built.cons (off:=16) (s:=1) J ZP J ZP (Built.cons (off:=17) (s:=1) J ZP J ZP (Built.cons (off:=18) (s:=1) J ZP J ZP (Built.cons (off:=19) (s:=1) J ZP J ZP (Built.cons (off:=20) (s:=1) J ZP J ZP (Built.cons (off:=21) (s:=1) J ZP J ZP (Built.cons (off:=22) (s:=1) J ZP J ZP (Built.cons (off:=23) (s:=1) J ZP J ZP Built.nil)))))))))))))))))))))))) ?_))))
 refine Zsa ?_
 refine Zn (Za (Zl (Zw (ZI ?_))))
 exact ⟨(),trivial,rfl,Lh⟩
theorem op_names {B:Base}{w:World}(hS:St B [] w) :
 CW 44 #[] w (Ret B (fun _:Unit=>True) (fun _=>.agg (namesL.map Value.string).toArray) (fun _=>[])):=by
 refine ZX Tryd.func44 hS ?_
 refine Zh (Zi (oAlloc J ZP (fun b0=>?_)))
 refine Zn (Za (Zh (Zi (oBuildArr (Parts.cons J (Parts.cons J (Parts.cons J (Parts.cons J (Parts.cons J (Parts.cons J (Parts.cons J (Parts.cons J (Parts.cons J (Parts.cons J (Parts.cons J (Parts.cons J (Parts.cons J (Parts.cons J (Parts.cons J (Parts.cons J (Parts.cons J (Parts.cons J (Parts.cons J (Parts.cons J (Parts.cons J (Parts.cons J (Parts.cons J (Parts.cons J (Parts.cons J (Parts.cons J (Parts.cons J (Parts.cons J Parts.nil)))))))))))))))))))))))))))) J J (Built.cons (off:=0) (s:=1) J ZP J ZP (Built.cons (off:=1) (s:=1) J ZP J ZP (Built.cons (off:=2) (s:=1) J ZP J ZP (Built.cons (off:=3) (s:=1) J ZP J ZP (Built.cons (off:=4) (s:=1) J ZP J ZP (Built.cons (off:=5) (s:=1) J ZP J ZP (Built.cons (off:=6) (s:=1) J ZP J ZP (Built.cons (off:=7) (s:=1) J ZP J ZP (Built.cons (off:=8) (s:=1) J ZP J ZP (Built.cons (off:=9) (s:=1) J ZP J ZP (Built.cons (off:=10) (s:=1) J ZP J ZP (Built.cons (off:=11) (s:=1) J ZP J ZP (Built.cons (off:=12) (s:=1) J ZP J ZP (Built.cons (off:=13) (s:=1) J ZP J ZP (Built.cons (off:=14) (s:=1) J ZP J ZP (Built.cons (off:=15) (s:=1) J ZP J ZP (Built.cons (off:=16) (s:=1) J ZP J ZP (Built.cons (off:=17) (s:=1) J ZP J ZP (Built.cons (off:=18) (s:=1) J ZP J ZP (Built.cons (off:=19) (s:=1) J ZP J ZP (Built.cons (off:=20) (s:=1) J ZP J ZP (Built.cons (off:=21) (s:=1) J ZP J ZP (Built.cons (off:=22) (s:=1) J ZP J ZP (Built.cons (off:=23) (s:=1) J ZP J ZP (Built.cons (off:=24) (s:=1) J ZP J ZP (Built.cons (off:=25) (s:=1) J ZP J ZP (Built.cons (off:=26) (s:=1) J ZP J ZP (Built.cons (off:=27) (s:=1) J ZP J ZP Built.nil)))))))))))))))))))))))))))) ?_))))
 refine Zsa ?_
 refine Zn (Za (Zl (Zw (ZI ?_))))
 exact ⟨(),trivial,rfl,Lh⟩
theorem op_Shape {B:Base}{w:World}(hS:St B [] w) (o:Int) :
 CW 28 #[.int .i64 o] w (Ret B (fun _:Unit=>True) (fun _=>.string (shapeF o)) (fun _=>[])):=by
 refine ZX Tryd.func28 hS ?_
 refine Zh (Zi (Zp J (Zn (Za (Zh (Zh (Zi (Zo J ?_))))))))
 (refine ZC0 rfl ZK (fun w hS=>frame hS ZQ (fun B' hB hS'=>op_Own hS' o)) ?_;rintro ⟨⟩ -)
 refine Zno ?_
 refine Zn (Za (wC (fun h5=>?_) (fun h5=>?_)))
 refine Zh (Zzb ?_)
 exact ⟨(),trivial,by unfold shapeF;rw [if_neg (by simpa using h5)];rfl,Lh⟩
 have ho:ownF o=true:=by simpa using h5
 have ho2:=ownF_iff.1 ho
 refine Zj (Za (Zh (Zi ?_)))
 (refine ZC0 rfl ZK (fun w hS=>frame hS ZQ (fun B' hB hS'=>op_shapes hS')) ?_;rintro ⟨⟩ -)
 refine Zo J ?_
 first | refine oSub rfl rfl ZO ?_ | refine oSubW rfl rfl ?_
 refine oIndexArr (i:=(o-1).toNat) J J ZO J J ZO (strs_at J (by show _<24;omega)) ?_
 refine Zp J (Zza ?_)
 exact ⟨(),trivial,by unfold shapeF;rw [if_pos ho];rfl,Lh⟩
theorem op_Name {B:Base}{w:World}(hS:St B [] w) (o:Int) :
 CW 27 #[.int .i64 o] w (Ret B (fun _:Unit=>True) (fun _=>.string (nameF o)) (fun _=>[])):=by
 refine ZX Tryd.func27 hS ?_
 refine Zh (Zi (Zp J (Zn (Za (Zh (Zi ?_))))))
 (refine ZC0 rfl ZK (fun w hS=>frame hS ZQ (fun B' hB hS'=>op_names hS')) ?_;rintro ⟨⟩ -)
 refine oAlloc J ZP (fun b3=>?_)
 refine Zsa ?_
 refine Zn (Za (Zh (Zh (Zi (Zo J (Zx J J (Zo J (ZS (ZT 7) (fun h7=>?_) (fun h7=>?_)))))))))
 refine Zr J J J J (Zr J J J J (Zt J J (Zn (Za (wCondT J (Zh (Zzb ?_)))))))
 exact ⟨(),trivial,by unfold nameF;rw [if_neg ZO];rfl,Lh⟩
 refine Zq J J (Zo J (Zq J J (Z1 J J (Zu J J (Zn (Za (wC (fun h10=>?_) (fun h10=>?_))))))))
 refine Zh (Zzb ?_)
 exact ⟨(),trivial,by unfold nameF;rw [if_neg ZO];rfl,Lh⟩
 refine Zj (Za (Zh (Zi (Zo J ?_))))
 first | refine oSub rfl rfl ZO ?_ | refine oSubW rfl rfl ?_
 refine oIdxA (s:=1) (i:=(o-1).toNat) (m:=(o-1).toNat) J J ZO J ZO ZO ?_
 refine oLd J ZP (strs_at J (by show _<28;omega)) J ?_
 refine Zp J (Zza ?_)
 exact ⟨(),trivial,by unfold nameF;rw [if_pos ZO];rfl,Lh⟩
theorem any_T {n j:Nat}{p:Nat→Bool}(hj:j<n) (h:p j=true):(List.range n).any p=true:=List.any_eq_true.2 ⟨j,List.mem_range.2 hj,h⟩
theorem any_F {n:Nat}{p:Nat→Bool}(h:∀ j,j<n→p j=false):(List.range n).any p=false:=List.any_eq_false.2 (fun j hj=>by rw [h j (List.mem_range.1 hj)];simp)
def numsL (x:ApiInstr):List Int:=[x.fOp,x.fA,x.fB,x.fC,x.fN]
theorem nums_at (x:ApiInstr) {k:Nat}(h:k<5):((numsL x).map (Value.int .i64))[k]?=some (.int .i64 ((numsL x).getD k 0)):=by
 rw [List.getElem?_map,List.getD_eq_getElem?_getD,List.getElem?_eq_getElem (show k<(numsL x).length from h)];rfl
def opdF (x:ApiInstr) (i:Int):Int:=if i<0∨3<i then 0 else (numsL x).getD (1+i.toNat) 0
def badA (x:ApiInstr) (j:Nat):Bool:=decide ((numsL x).getD (1+j) 0<0∨255<(numsL x).getD (1+j) 0)
def badS (x:ApiInstr) (j:Nat):Bool:=decide (byteAt (shapeF x.fOp) j=45) && decide ((numsL x).getD (1+j) 0≠0)
def icF (x:ApiInstr):Int:=if nameF x.fOp=ByteArray.empty then 8 else if (List.range 3).any (badA x) then 9 else if x.fN < -2147483648∨2147483647<x.fN then 9 else if (List.range (shapeF x.fOp).size).any (badS x) then 2 else 0
theorem instr_numbers {B:Base}{w:World}(hS:St B [] w) (x:ApiInstr) (xc:List Value) (hx:kApiInstr.K B.e x xc) :
 CW 43 #[.agg xc.toArray] w (Ret B (fun _:Unit=>True) (fun _=>.agg ((numsL x).map (Value.int .i64)).toArray) (fun _=>[])):=by
 obtain rfl:=kApiInstr_open hx
 refine ZX Tryd.func43 hS ?_
 refine Zh (Zi (oBox J ZP (fun b1=>?_)))
 refine oAlloc J ZP (fun b2=>?_)
 refine Zn (Za (Zh (Zi (Zz (n:=0) (m:=0) J J J (Zld ?_)))))
 refine Zz (n:=1) (m:=1) J J J (Zld ?_)
 refine Zz (n:=2) (m:=2) J J J (Zld ?_)
 refine Zz (n:=3) (m:=3) J J J (Zld ?_)
 refine Zz (n:=4) (m:=4) J J J (Zld ?_)
 refine oBuildArr (Parts.cons J (Parts.cons J (Parts.cons J (Parts.cons J (Parts.cons J Parts.nil))))) J J (Built.cons (off:=0) (s:=1) J ZP J ZP (Built.cons (off:=1) (s:=1) J ZP J ZP (Built.cons (off:=2) (s:=1) J ZP J ZP (Built.cons (off:=3) (s:=1) J ZP J ZP (Built.cons (off:=4) (s:=1) J ZP J ZP Built.nil))))) ?_
 refine Zsa ?_
 refine Zn (Za (Zl (Zw (ZI ?_))))
 exact ⟨(),trivial,rfl,Lh⟩
theorem instr_Operand {B:Base}{w:World}(hS:St B [] w) (x:ApiInstr) (xc:List Value) (hx:kApiInstr.K B.e x xc) (i:Int) :
 CW 31 #[.agg xc.toArray,.int .i64 i] w (Ret B (fun _:Unit=>True) (fun _=>.int .i64 (opdF x i)) (fun _=>[])):=by
 obtain rfl:=kApiInstr_open hx
 refine ZX Tryd.func31 hS ?_
 refine Zh (Zi (oBox J ZP (fun b2=>?_)))
 refine Zp J (Zn (Za (Zh (Zh (Zi (Zo J (Zx J J (Zo J (ZS (ZT 7) (fun h7=>?_) (fun h7=>?_))))))))))
 refine Zr J J J J (Zr J J J J (Zt J J (Zn (Za (wCondT J (Zh (Zzb ?_)))))))
 exact ⟨(),trivial,by unfold opdF;rw [if_pos ZO];rfl,Lh⟩
 refine Zq J J (Zo J (Zq J J (Z1 J J (Zu J J (Zn (Za (wC (fun h10=>?_) (fun h10=>?_))))))))
 refine Zh (Zzb ?_)
 exact ⟨(),trivial,by unfold opdF;rw [if_pos ZO];rfl,Lh⟩
 refine Zj (Za (Zh (Zi (Zla ?_))))
 (refine ZC0 rfl ZK (fun w hS=>frame hS ZQ (fun B' hB hS'=>instr_numbers hS' x _ (kApiInstr_mk _ x))) ?_;rintro ⟨⟩ -)
 refine Zo J (oAdd J J ZO ?_)
 refine oIndexArr (i:=1+i.toNat) J J ZO J J ZO (nums_at x ZO) ?_
 refine Zp J (Zza ?_)
 exact ⟨(),trivial,by unfold opdF;rw [if_neg ZO];rfl,Lh⟩
theorem instr_Check {B:Base}{w:World}(hS:St B [] w) (x:ApiInstr) (xc:List Value) (hx:kApiInstr.K B.e x xc) :
 CW 25 #[.agg xc.toArray] w (Ret B (fun _:Unit=>True) (fun _=>.int .i64 (icF x)) (fun _=>[])):=by
 obtain rfl:=kApiInstr_open hx
 have hsz:=shapeF_size x.fOp
 refine ZX Tryd.func25 hS ?_
 refine Zh (Zi (oBox J ZP (fun b1=>?_)))
 refine Zp J (Zn (Za (Zh (Zh (Zi (Zz (n:=0) (m:=0) J J J (Zld ?_)))))))
 (refine ZC0 rfl ZK (fun w hS=>frame hS ZQ (fun B' hB hS'=>op_Name hS' x.fOp)) ?_;rintro ⟨⟩ -)
 refine oSEq J J (Zn (Za (wC (fun h11=>?_) (fun h11=>?_))))
 refine Zh (Zzb ?_)
 exact ⟨(),trivial,by unfold icF;rw [if_pos (show nameF x.fOp=ByteArray.empty from h11)];rfl,Lh⟩
 refine Zj (Za (Zh (Zi (Zla ?_))))
 (refine ZC0 rfl ZK (fun w hS=>frame hS ZQ (fun B' hB hS'=>instr_numbers hS' x _ (kApiInstr_mk _ x))) ?_;rintro ⟨⟩ -)
 refine oAlloc J ZP (fun b3=>?_)
 refine Zsa ?_
 refine Zn (Za (Zh (Zh (Zi (oSliceArr (l:=1) (m:=4) J J J J (by decide) (by decide) ?_)))))
 refine ZS0 (t:=14) (v':=.slice (some ⟨b3,1,none⟩) 3 4) J J (Zv J J (Zo J (Zn (Za (Zk (wLoop (ι:=Nat) (fun i=>[(1,.pointer (some ⟨b1,0,none⟩)),(3,.pointer (some ⟨b3,0,none⟩)),(14,.slice (some ⟨b3,1,none⟩) 3 4),(15,.int .i64 ((3:Nat):Int)),(16,.int .i64 (i:Int))]) (fun i=>[blk b1 34 [.int .i64 x.fOp,.int .i64 x.fA,.int .i64 x.fB,.int .i64 x.fC,.int .i64 x.fN],blk b3 66 ((numsL x).map (Value.int .i64))]) (fun i=>i≤3∧∀ j,j<i→badA x j=false) (fun i=>3-i) 0 ?_ cv (Leads.has ZQ) ?_))))))
 exact ⟨Nat.zero_le _,fun j hj=>by omega⟩
 rintro i ⟨hi,hs⟩
 try dsimp only
 refine Zh (Zi (Zx J J (Zn (Za (Zh (wC (fun h17=>?_) (fun h17=>?_)))))))
 have hi3:i<3:=by omega
 refine Zj (Za (Zh (Zk (Zh (Zi (oIdxB (s:=1) (m:=1+i) J J J hi3 ZO ?_))))))
 refine oLd J ZP (nums_at x ZO) J ?_
 refine Zp J (Zn (Za (Zh (Zi (Zo J (Zx J J (Zo J (ZS (ZT 22) (fun h22=>?_) (fun h22=>?_)))))))))
 refine Zr J J J J (Zr J J J J (Zt J J (Zn (Za (wCondT J (Zh (Zi (Zzc ?_))))))))
 exact ⟨(),trivial,by unfold icF;rw [if_neg (show ¬ nameF x.fOp=ByteArray.empty from h11),if_pos (any_T hi3 (by unfold badA;exact decide_eq_true (.inl h22)))];rfl,Lh⟩
 refine Zq J J (Zo J (Zq J J (Z1 J J (Zu J J (Zn (Za (wC (fun h25=>?_) (fun h25=>?_))))))))
 refine Zh (Zi (Zzc ?_))
 exact ⟨(),trivial,by unfold icF;rw [if_neg (show ¬ nameF x.fOp=ByteArray.empty from h11),if_pos (any_T hi3 (by unfold badA;exact decide_eq_true (.inr h25)))];rfl,Lh⟩
 refine Zj (Zd (Za (Zi (Zsu ?_))))
 refine Zo J (Zn (Za ?_))
 exact ⟨rfl,i+1,⟨by omega,fun j hj=>by
 by_cases e:j=i
 · subst e;unfold badA;exact decide_eq_false ZO
 · exact hs j ZO⟩,by omega,cv,Lh⟩
 obtain rfl:i=3:=by omega
 have hA:=any_F hs
 refine Zm (Zb (Zb (Ze (Za (Zh (Zh (Zi (Zz (n:=4) (m:=4) J J J (Zld ?_)))))))))
 refine Zx J J (Zo J (ZS (ZT 30) (fun h30=>?_) (fun h30=>?_)))
 refine Zr J J J J (Zr J J J J (Zr J J J J (Zt J J (Zn (Za (wCondT J (Zh (Zzb ?_))))))))
 exact ⟨(),trivial,by unfold icF;rw [if_neg (show ¬ nameF x.fOp=ByteArray.empty from h11),if_neg (by rw [hA];simp),if_pos (.inl h30)];rfl,Lh⟩
 refine Zq J J (Zz (n:=4) (m:=4) J J J (Zq J J (Zld ?_)))
 refine Zq J J (Z1 J J (Zu J J (Zn (Za (wC (fun h34=>?_) (fun h34=>?_))))))
 refine Zh (Zzb ?_)
 exact ⟨(),trivial,by unfold icF;rw [if_neg (show ¬ nameF x.fOp=ByteArray.empty from h11),if_neg (by rw [hA];simp),if_pos (.inr h34)];rfl,Lh⟩
 refine Zj (Za (Zh (Zi (Zz (n:=0) (m:=0) J J J (Zld ?_)))))
 (refine ZC0 rfl ZK (fun w hS=>frame hS ZQ (fun B' hB hS'=>op_Shape hS' x.fOp)) ?_;rintro ⟨⟩ -)
 refine Zp J (Zn (Za (Zh (Zh (Zi (Zo J (oLenStr J J (Zo J (Zn (Za (Zk (wLoop (ι:=Nat) (fun i=>[(3,.pointer (some ⟨b3,0,none⟩)),(6,.string (shapeF x.fOp)),(39,.int .i64 ((shapeF x.fOp).size:Int)),(40,.int .i64 (i:Int))]) (fun i=>[blk b3 66 ((numsL x).map (Value.int .i64))]) (fun i=>i≤(shapeF x.fOp).size∧∀ j,j<i→badS x j=false) (fun i=>(shapeF x.fOp).size-i) 0 ?_ cv (Leads.has ZQ) ?_))))))))))))
 exact ⟨Nat.zero_le _,fun j hj=>by omega⟩
 rintro i ⟨hi,hs⟩
 try dsimp only
 refine Zh (Zi (Zx J J (Zn (Za (Zh (wC (fun h41=>?_) (fun h41=>?_)))))))
 have hi4:i<(shapeF x.fOp).size:=by omega
 have hi5:i<4:=by rw [hsz] at hi4;split at hi4 <;> omega
 refine Zj (Za (Zh (Zk (Zh (Zi (Zo J (Zp J (Zn (Za (Zh (Zi (Zo J (Zo J (oIndexStr J J J hi4 (Zy J J (Zo J (ZS (ZT 47) (fun h47=>?_) (fun h47=>?_))))))))))))))))))
 refine Zq J J (Zo J (Zq J J (oAdd J J ZO ?_)))
 refine Zq J J (oIdxA (s:=1) (i:=1+i) (m:=1+i) J J ZO J ZO ZO ?_)
 refine Zq J J (oLd J ZP (nums_at x ZO) J ?_)
 refine Zq J J (Z0 J J (Zt J J (Zn (Za (wC (fun h53=>?_) (fun h53=>?_))))))
 refine Zh (Zi (Zzc ?_))
 exact ⟨(),trivial,by unfold icF;rw [if_neg (show ¬ nameF x.fOp=ByteArray.empty from h11),if_neg (by rw [hA];simp),if_neg ZO,if_pos (any_T hi4 (by unfold badS;simp_all))];rfl,Lh⟩
 refine Zj (Zd (Za (Zi (Zsu ?_))))
 refine Zo J (Zn (Za ?_))
 exact ⟨rfl,i+1,⟨by omega,fun j hj=>by
 by_cases e:j=i
 · subst e;unfold badS;simp_all
 · exact hs j ZO⟩,by omega,cv,Lh⟩
 refine Zr J J J J (Zr J J J J (Zr J J J J (Zr J J J J (Zr J J J J (Zu J J (Zn (Za (wCondF J (Zj (Zd (Za (Zi (Zsu ?_)))))))))))))
 refine Zo J (Zn (Za ?_))
 exact ⟨rfl,i+1,⟨by omega,fun j hj=>by
 by_cases e:j=i
 · subst e;unfold badS;simp_all
 · exact hs j ZO⟩,by omega,cv,Lh⟩
 refine Zm (Zb (Zb (Ze (Za (Zh (Zi (Zp J (Zza ?_))))))))
 obtain rfl:i=(shapeF x.fOp).size:=by omega
 exact ⟨(),trivial,by unfold icF;rw [if_neg (show ¬ nameF x.fOp=ByteArray.empty from h11),if_neg (by rw [hA];simp),if_neg ZO,if_neg (by rw [any_F hs];simp)];rfl,Lh⟩
end Go.Proofs.YtpmdhkjbhjgoaaaDoorV
namespace Go.Proofs.YtpmdhkjbhjgoaaaDoorR
set_option maxRecDepth 100000
set_option maxHeartbeats 4000000
open Go.RowKit Go.Proofs.YtpmdhkjbhjgoaaaDoorK Go.Proofs.YtpmdhkjbhjgoaaaDoorT Go.Proofs.YtpmdhkjbhjgoaaaDoorL

abbrev LnE (e:World):Prop:=LibP Tryd.prog (laysn146_ren.g 1) (layscn174_ren.g 15) (layscn174_ren.g 16) e
theorem LnE.of {B B':Base}(h:LnE B.e) (k:Grow B.e B'.e) (hk:Keeps B B'):LnE B'.e:=h.keep k hk
theorem line_Decimal {B:Base}{w:World}(hS:St B [] w) (hT:TabP Tryd.prog B.e) (n:Int) (hn:in64 n) :
 CW 16 #[.int .i64 n] w (Ret B (fun _:Unit=>True) (fun _=>.string (decS n)) (fun _=>[])):=by
 refine ZX Tryd.func16 hS ?_
 refine Zh (Zi (Zp J (Zn (Za (Zh (Zi (Zo J ?_)))))))
 (refine ZC0 rfl ZK (fun w hS=>frameK hS ZQ (fun B' hB hK hS'=>fmtInt laysmn173_at hS' (Keeps.tab hK hT) n hn.1 hn.2)) ?_;rintro ⟨⟩ -)
 refine Zp J (Zza ?_)
 exact ⟨(),trivial,rfl,Lh⟩
theorem line_Number_ok {B:Base}{w:World}(hS:St B [] w) (hT:TabP Tryd.prog B.e) (s:ByteArray) (hs:s.size≤1000000) (v:Int) (hp:parsed s=some v) :
 CW 7 #[.string s] w (Ret B (fun _:Unit=>True) (fun _=>.tuple #[.int .i64 (numF s).1,.bool (numF s).2]) (fun _=>[])):=by
 refine ZX Tryd.func7 hS ?_
 refine Zh (Zi (Zp J (Zp J (Zn (Za (Zh (Zi (Zo J ?_))))))))
 (refine ZC0 rfl ZK (fun w hS=>frame hS ZQ (fun B' hB hS'=>parseOk layscn174_at hS' s ZO v hp)) ?_;rintro ⟨⟩ -)
 refine Zo J (oExt J ZP ?_)
 refine oExt J ZP ?_
 refine Zp J (Zp J (Zn (Za (Zh (Zh (Zi (Zo J (oNeqI0 J J (Zo J (Zq J J (Zo J (Zq J J ?_))))))))))))
 (refine ZC0 rfl ZK (fun w hS=>frameK hS ZQ (fun B' hB hK hS'=>line_Decimal hS' (Keeps.tab hK hT) v (parsed_in hp))) ?_;rintro ⟨⟩ -)
 refine Zq J J (Zo J (Zq J J (oSNe J J (Zu J J (Zn (Za (wC (fun h18=>?_) (fun h18=>?_))))))))
 refine Zh (Zi (Zp J (Zp J (Zn (Za (Zl (Zc (Zw ?_))))))))
 refine ⟨rfl,_,(ResL.cons (ResR.tmp rfl) (ResL.cons (ResR.tmp rfl) ResL.nil)),?_⟩
 exact ⟨(),trivial,by unfold numF;rw [hp];show _=Value.tuple #[.int .i64 (if _ then _ else _:Int×Bool).1,.bool (if _ then _ else _:Int×Bool).2];rw [if_neg h18];rfl,Lh⟩
 refine Zj (Za (Zh (Zi (Zo J (Zp J (Zp J (Zn (Za (Zl (Zw ?_))))))))))
 refine ⟨rfl,_,(ResL.cons (ResR.tmp rfl) (ResL.cons (ResR.tmp rfl) ResL.nil)),?_⟩
 exact ⟨(),trivial,by unfold numF;rw [hp];show _=Value.tuple #[.int .i64 (if _ then _ else _:Int×Bool).1,.bool (if _ then _ else _:Int×Bool).2];rw [if_pos (Classical.not_not.1 h18)];rfl,Lh⟩
theorem line_Number_no {B:Base}{w:World}(hS:St B [] w) (hL:LnE B.e) (s:ByteArray) (hs:s.size≤1000000) (hp:parsed s=none) :
 CW 7 #[.string s] w (Ret B (fun _:Unit=>True) (fun _=>.tuple #[.int .i64 (numF s).1,.bool (numF s).2]) (fun _=>[])):=by
 refine ZX Tryd.func7 hS ?_
 refine Zh (Zi (Zp J (Zp J (Zn (Za (Zh (Zi (Zo J ?_))))))))
 (refine ZC0 rfl ZK (fun w hS=>frame hS ZQ (fun B' hB hS'=>parseNo layscn174_at hS' (hL.syn.grow hB) (hL.rng.grow hB) s ZO hp)) ?_;rintro ⟨n8,t8,v8⟩ -)
 refine Zo J (oExt J ZP ?_)
 refine oExt J ZP ?_
 refine Zp J (Zp J (Zn (Za (Zh (Zh (Zi (Zo J (oNeqI1 J J (Zo J (Zr J J J J (Zr J J J J (Zr J J J J (Zr J J J J (Zt J J (Zn (Za (wCondT J (Zh (Zi (Zp J (Zp J (Zn (Za (Zl (Zc (Zw ?_))))))))))))))))))))))))))
 refine ⟨rfl,_,(ResL.cons (ResR.tmp rfl) (ResL.cons (ResR.tmp rfl) ResL.nil)),?_⟩
 exact ⟨(),trivial,by unfold numF;rw [hp];rfl,Lh⟩
theorem line_Number {B:Base}{w:World}(hS:St B [] w) (hL:LnE B.e) (s:ByteArray) (hs:s.size≤1000000) :
 CW 7 #[.string s] w (Ret B (fun _:Unit=>True) (fun _=>.tuple #[.int .i64 (numF s).1,.bool (numF s).2]) (fun _=>[])):=by
 cases hp:parsed s with
 | none=>exact line_Number_no hS hL s hs hp
 | some v=>exact line_Number_ok hS hL.tab s hs v hp
theorem line_Join {B:Base}{w:World}(hS:St B [] w) (A:Option Addr) (cp:Nat) (l:List ByteArray) (hC:Kd.string.C B.e A l) (hcp:l.length≤cp) (hl:(joinT l ⟨#[32]⟩).size≤1000000) (hn:l.length≤1000000) :
 CW 14 #[.slice A l.length cp] w (Ret B (fun _:Unit=>True) (fun _=>.string (joinT l ⟨#[32]⟩)) (fun _=>[])):=by
 refine ZX Tryd.func14 hS ?_
 refine Zh (Zi (Zp J (Zn (Za (Zh (Zi (Zo J ?_)))))))
 (refine ZC0 rfl ZK (fun w hS=>frame hS ZQ (fun B' hB hS'=>joinA laysn156_at builderextra_at hS' (Kd.C_grow hB hC) ⟨#[32]⟩ hcp ZO ZO)) ?_;rintro ⟨⟩ -)
 refine Zp J (Zza ?_)
 exact ⟨(),trivial,rfl,Lh⟩
theorem toL_joinT (l:List ByteArray):toL (joinT l ⟨#[32]⟩)=Lib.join (l.map toL) [32]:=rfl
theorem joinT_snoc (l:List ByteArray) (x:ByteArray):joinT (l++[x]) ⟨#[32]⟩=if 0<l.length then joinT l ⟨#[32]⟩++⟨#[32]⟩++x else x:=by
 rw [← ofL_toL (joinT (l++[x]) ⟨#[32]⟩),toL_joinT,List.map_append]
 cases l with
 | nil=>exact (congrArg ofL (Lib.join_one _ _)).trans (ofL_toL x)
 | cons y l=>
  rw [if_pos (by simp)]
  refine (congrArg ofL (join_snoc [32] (toL x) ((y :: l).map toL) (by simp))).trans ?_
  rw [← toL_joinT,← ofL_toL (joinT (y :: l) ⟨#[32]⟩++⟨#[32]⟩++x)]
  simp [toL,ByteArray.data_append]
open Go.Proofs.YtpmdhkjbhjgoaaaDoorN (decF)
theorem trimS_size (s p:ByteArray):(trimS s p).size≤s.size:=by
 have e:(trimS s p).size=(Lib.trimSuffix s.data.toList p.data.toList).length:=by simp [trimS,ByteArray.size]
 rw [e,Lib.size_eq]
 unfold Lib.trimSuffix
 split
 · rw [List.length_take];omega
 · exact Nat.le_refl _
theorem wordsF_len (s:ByteArray):(wordsF s).length≤s.size+1:=Nat.le_trans (List.length_filter_le _ _) (pieces_le s ⟨#[32]⟩ (by decide))
theorem line_Split {B:Base}{w:World}(hS:St B [] w) (hm:IntAt B.e (laysn146_ren.g 1)) (s:ByteArray) (hs:s.size≤1000000) (W0:World) :
 CW 10 #[.string s] w (Ret B (fun _:Option Addr×Nat=>True) (fun z=>.slice z.1 (linesF s).length z.2) (fun z=>[row Kd.string W0 9 (.slice z.1 (linesF s).length z.2) (linesF s)])):=by
 have hts:=trimS_size s ⟨#[10]⟩
 refine ZX Tryd.func10 hS ?_
 refine Zh (Zi (Zp J (Zn (Za (Zh (Zh (Zi (Zo J (oSEq J J (Zn (Za (wC (fun h4=>?_) (fun h4=>?_)))))))))))))
 have he:linesF s=[]:=by unfold linesF;rw [if_pos (show s=ByteArray.empty from h4)]
 refine Zh (Zzb ?_)
 exact ⟨(none,0),trivial,by rw [he];rfl,by rw [he];exact Leads.nilrow.trans Lh⟩
 have he:linesF s=pieces (trimS s ⟨#[10]⟩) ⟨#[10]⟩:=by unfold linesF;rw [if_neg (show ¬ s=ByteArray.empty from h4)]
 refine Zj (Za (Zh (Zi (Zo J ?_))))
 (refine ZC0 rfl ZK (fun w hS=>frame hS ZQ (fun B' hB hS'=>trimSuf laysn102_at hS' s ⟨#[10]⟩ ZO)) ?_;rintro ⟨⟩ -)
 (refine ZC0 rfl ZK (fun w hS=>frame hS ZQ (fun B' hB hS'=>splitLib laysn146_at ZK hS' W0 (hm.grow hB) (trimS s ⟨#[10]⟩) ⟨#[10]⟩ ZO (by decide))) ?_;rintro b7 -)
 refine Zp J (Zza ?_)
 exact ⟨(some ⟨b7,0,none⟩,_),trivial,by rw [he];rfl,by rw [he];exact Lh⟩
theorem filter_next {p:ByteArray→Bool}{l:List ByteArray}{i:Nat}{x:ByteArray}(h:l[i]?=some x):(l.take (i+1)).filter p=(l.take i).filter p++(if p x then [x] else []):=by
 rw [List.take_add_one,h,List.filter_append]
 congr 1
 cases hp:p x <;> simp [hp]
theorem line_Words {B:Base}{w:World}(hS:St B [] w) (hm:IntAt B.e (laysn146_ren.g 1)) (s:ByteArray) (hs:s.size≤1000000) (W0:World) :
 CW 12 #[.string s] w (Ret B (fun _:Option Addr×Nat=>True) (fun z=>.slice z.1 (wordsF s).length z.2) (fun z=>[row Kd.string W0 9 (.slice z.1 (wordsF s).length z.2) (wordsF s)])):=by
 have hpl:=pieces_le s ⟨#[32]⟩ (by decide)
 refine ZX Tryd.func12 hS ?_
 refine Zh (Zi (Zp J (Zn (Za (Zh (Zi (Zp J (Zn (Za (Zh (Zh (Zi (Zo J ?_)))))))))))))
 (refine ZC0 rfl ZK (fun w hS=>frame hS ZQ (fun B' hB hS'=>splitLib laysn146_at ZK hS' B.e (hm.grow hB) s ⟨#[32]⟩ ZO (by decide))) ?_;rintro b7 -)
 refine Zv J J (Zo J (Zn (Za (Zk (wLoop (ι:=Nat×Option Addr×Nat) (fun z=>[(3,.slice z.2.1 (((pieces s ⟨#[32]⟩).take z.1).filter fullB).length z.2.2),(7,.slice (some ⟨b7,0,none⟩) (pieces s ⟨#[32]⟩).length (pieces s ⟨#[32]⟩).length),(8,.int .i64 ((pieces s ⟨#[32]⟩).length:Int)),(9,.int .i64 (z.1:Int))]) (fun z=>[row Kd.string B.e 9 (.slice (some ⟨b7,0,none⟩) (pieces s ⟨#[32]⟩).length (pieces s ⟨#[32]⟩).length) (pieces s ⟨#[32]⟩),row Kd.string W0 9 (.slice z.2.1 (((pieces s ⟨#[32]⟩).take z.1).filter fullB).length z.2.2) (((pieces s ⟨#[32]⟩).take z.1).filter fullB)]) (fun z=>z.1≤(pieces s ⟨#[32]⟩).length) (fun z=>(pieces s ⟨#[32]⟩).length-z.1) (0,none,0) ?_ cv (Leads.nilrow.trans Lh) ?_)))))
 exact Nat.zero_le _
 rintro ⟨i,A2,c2⟩ hi
 dsimp only at hi
 have hle:(((pieces s ⟨#[32]⟩).take i).filter fullB).length≤1000001:=Nat.le_trans (List.length_filter_le _ _) (by rw [List.length_take];omega)
 try dsimp only
 refine Zh (Zi (Zx J J (Zn (Za (Zh (wC (fun h10=>?_) (fun h10=>?_)))))))
 refine Zj (Za (Zh (Zk (Zh (Zi (ZR J J ZP ZO J J (fun g11 hg11=>?_)))))))
 first | subst hg11 | (injection hg11 with hg11;injection hg11 with hg11;subst hg11)
 refine ZR1 J ZP ZO J (fun u12 hu12=>?_)
 refine Zp J (Zn (Za (Zh (Zi (Zo J (oSNe J J (Zn (Za (wC (fun h14=>?_) (fun h14=>?_))))))))))
 refine Zi (Zo J (Zo J (oBuildSlice1 J J J J J ZP J (fun b17=>?_))))
 refine oApp1 u12 J J J J ZP ZP J ZO J (fun g18 cp18=>?_)
 have hft:=filter_next (p:=fullB) hu12
 rw [if_pos (show fullB u12=true from decide_eq_true h14)] at hft
 rw [show (((pieces s ⟨#[32]⟩).take i).filter fullB).length+1=(((pieces s ⟨#[32]⟩).take (i+1)).filter fullB).length by rw [hft,List.length_append];rfl,← hft]
 refine Zp J (Zn (Zd (Za (Zi (Zsu ?_)))))
 refine Zo J (Zn (Za ?_))
 exact ⟨rfl,(i+1,some ⟨g18,0,none⟩,cp18),by show i+1≤_;omega,by show (pieces s ⟨#[32]⟩).length-(i+1)<(pieces s ⟨#[32]⟩).length-i;omega,cv,Lh⟩
 refine Zj (Zd (Za (Zi (Zsu ?_))))
 refine Zo J (Zn (Za ?_))
 have hft:=filter_next (p:=fullB) hu12
 rw [if_neg (show ¬ fullB u12=true from fun k=>h14 (of_decide_eq_true k)),List.append_nil] at hft
 exact ⟨rfl,(i+1,A2,c2),by show i+1≤_;omega,by show (pieces s ⟨#[32]⟩).length-(i+1)<(pieces s ⟨#[32]⟩).length-i;omega,by dsimp only;rw [hft];exact cv,by dsimp only;rw [hft];exact Lh⟩
 obtain rfl:i=(pieces s ⟨#[32]⟩).length:=by omega
 have hw:((pieces s ⟨#[32]⟩).take (pieces s ⟨#[32]⟩).length).filter fullB=wordsF s:=by rw [List.take_length];rfl
 rw [hw]
 refine Zm (Zb (Zb (Ze (Za (Zh (Zi (Zo J (Zp J (Zza ?_)))))))))
 exact ⟨(A2,c2),trivial,rfl,Lh⟩
theorem wordR_step {s:ByteArray}{i:Nat}(h:i≤s.size) (a:Nat):wordR s (s.size+1-i) a=if i=s.size∨byteAt s i=32 then (if a<i then [s.extract a i] else [])++wordR s (s.size+1-(i+1)) (i+1) else wordR s (s.size+1-(i+1)) a:=by
 rw [show s.size+1-i=(s.size-i)+1 by omega,show s.size+1-(i+1)=s.size-i by omega]
 show (if s.size-i=0∨byteAt s (s.size-(s.size-i))=32 then (if a<s.size-(s.size-i) then [s.extract a (s.size-(s.size-i))] else [])++wordR s (s.size-i) (s.size-(s.size-i)+1) else wordR s (s.size-i) a)=_
 rw [show s.size-(s.size-i)=i by omega]
 by_cases hc:i=s.size∨byteAt s i=32
 · rw [if_pos hc,if_pos (hc.elim (fun e=>.inl ZO) .inr)]
 · rw [if_neg hc,if_neg (fun k=>hc (k.elim (fun e=>.inl ZO) .inr))]
theorem ref9_Words {B:Base}{w:World}(hS:St B [] w) (s:ByteArray) (hs:s.size≤1000000) (W0:World) :
 CW 13 #[.string s] w (Ret B (fun _:Option Addr×Nat=>True) (fun z=>.slice z.1 (wordsF s).length z.2) (fun z=>[row Kd.string W0 9 (.slice z.1 (wordsF s).length z.2) (wordsF s)])):=by
 have hll:=wordsF_len s
 have hlaw:=words_law s
 refine ZX Tryd.func13 hS ?_
 refine Zh (Zi (Zp J (Zn (Za (Zh (Zi (Zp J (Zn (Za (Zh (Zi (Zp J (Zn (Za (Zh (Zh (Zi (Zp J (Zn (Za (Zk (wLoop (ι:=Nat×Nat×Option Addr×Nat×List ByteArray) (fun z=>[(0,.string s),(3,.slice z.2.2.1 z.2.2.2.2.length z.2.2.2.1),(4,.int .i64 (z.2.1:Int)),(5,.int .i64 (z.1:Int))]) (fun z=>[row Kd.string W0 9 (.slice z.2.2.1 z.2.2.2.2.length z.2.2.2.1) z.2.2.2.2]) (fun z=>z.1≤s.size+1∧z.2.1≤z.1∧z.2.2.2.2++wordR s (s.size+1-z.1) z.2.1=wordsF s) (fun z=>s.size+1-z.1) (0,0,none,0,[]) ?_ cv (Leads.nilrow.trans Lh) ?_))))))))))))))))))))))
 exact ⟨Nat.zero_le _,Nat.le_refl _,hlaw⟩
 rintro ⟨i,a,A2,c2,out⟩ ⟨hi,ha,hv⟩
 dsimp only at hi ha hv
 have hol:out.length≤s.size+1:=by have:=congrArg List.length hv;rw [List.length_append] at this;omega
 try dsimp only
 refine Zh (Zh (Zi (Zo J (Zo J (oLenStr J J (oLeq J J (Zn (Za (wC (fun h9=>?_) (fun h9=>?_))))))))))
 have hi2:i≤s.size:=by omega
 have hst:=wordR_step hi2 a
 refine Zj (Za (Zh (Zk (Zh (Zi (Zo J (Zo J (oLenStr J J (Zy J J (Zo J (ZS (ZT 16) (fun h16=>?_) (fun h16=>?_))))))))))))
 refine Zr J J J J (Zr J J J J (Zr J J J J (Zr J J J J (Zt J J (Zn (Za (wCondT J (Zh (Zh (Zi (Zo J (Zo J (Z1 J J (Zn (Za (wC (fun h24=>?_) (fun h24=>?_)))))))))))))))))
 refine Zi (Zo J (Zo J (Zo J (Zo J (oSliceS J J J J ⟨ha,hi2⟩ (oBuildSlice1 J J J J J ZP J (fun b30=>?_)))))))
 refine oApp1 (s.extract a i) J J J J ZP ZP J ZO J (fun g31 cp31=>?_)
 refine Zp J (Zn (Za (Zi (Zo J (Zsu ?_)))))
 refine Zp J (Zn (Zd (Za (Zi (Zo J (Zsu ?_))))))
 refine Zp J (Zn (Za ?_))
 exact ⟨rfl,(i+1,i+1,some ⟨g31,0,none⟩,cp31,out++[s.extract a i]),⟨by show i+1≤_;omega,Nat.le_refl _,by show (out++[_])++_=_;rw [List.append_assoc,← hv,hst,if_pos (.inl ZO),if_pos ZO]⟩,by show s.size+1-(i+1)<s.size+1-i;omega,by dsimp only;rw [List.length_append];exact cv,by dsimp only;rw [List.length_append];exact Lh⟩
 refine Zj (Za (Zi (Zo J (Zsu ?_))))
 refine Zp J (Zn (Zd (Za (Zi (Zo J (Zsu ?_))))))
 refine Zp J (Zn (Za ?_))
 exact ⟨rfl,(i+1,i+1,A2,c2,out),⟨by show i+1≤_;omega,Nat.le_refl _,by show out++_=_;rw [← hv,hst,if_pos (.inl ZO),if_neg ZO,List.nil_append]⟩,by show s.size+1-(i+1)<s.size+1-i;omega,cv,Lh⟩
 refine Zq J J (Zo J (Zq J J (Zo J (Zq J J (oIndexStr J J J ZO ?_)))))
 refine Zq J J (Zy J J (Zu J J (Zn (Za (wC (fun h21=>?_) (fun h21=>?_))))))
 refine Zh (Zh (Zi (Zo J (Zo J (Z1 J J (Zn (Za (wC (fun h24=>?_) (fun h24=>?_)))))))))
 refine Zi (Zo J (Zo J (Zo J (Zo J (oSliceS J J J J ⟨ha,hi2⟩ (oBuildSlice1 J J J J J ZP J (fun b30=>?_)))))))
 refine oApp1 (s.extract a i) J J J J ZP ZP J ZO J (fun g31 cp31=>?_)
 refine Zp J (Zn (Za (Zi (Zo J (Zsu ?_)))))
 refine Zp J (Zn (Zd (Za (Zi (Zo J (Zsu ?_))))))
 refine Zp J (Zn (Za ?_))
 exact ⟨rfl,(i+1,i+1,some ⟨g31,0,none⟩,cp31,out++[s.extract a i]),⟨by show i+1≤_;omega,Nat.le_refl _,by show (out++[_])++_=_;rw [List.append_assoc,← hv,hst,if_pos (.inr h21),if_pos ZO]⟩,by show s.size+1-(i+1)<s.size+1-i;omega,by dsimp only;rw [List.length_append];exact cv,by dsimp only;rw [List.length_append];exact Lh⟩
 refine Zj (Za (Zi (Zo J (Zsu ?_))))
 refine Zp J (Zn (Zd (Za (Zi (Zo J (Zsu ?_))))))
 refine Zp J (Zn (Za ?_))
 exact ⟨rfl,(i+1,i+1,A2,c2,out),⟨by show i+1≤_;omega,Nat.le_refl _,by show out++_=_;rw [← hv,hst,if_pos (.inr h21),if_neg ZO,List.nil_append]⟩,by show s.size+1-(i+1)<s.size+1-i;omega,cv,Lh⟩
 refine Zj (Zd (Za (Zi (Zo J (Zsu ?_)))))
 refine Zp J (Zn (Za ?_))
 exact ⟨rfl,(i+1,a,A2,c2,out),⟨by show i+1≤_;omega,by show a≤i+1;omega,by show out++_=_;rw [← hv,hst,if_neg (fun k=>k.elim (fun e=>by omega) h21)]⟩,by show s.size+1-(i+1)<s.size+1-i;omega,cv,Lh⟩
 obtain rfl:i=s.size+1:=by omega
 have hv2:out=wordsF s:=by rw [← hv,Nat.sub_self];show out=out++[];simp
 subst hv2
 refine Zm (Zb (Zb (Ze (Za (Zh (Zi (Zo J (Zp J (Zza ?_)))))))))
 exact ⟨(A2,c2),trivial,rfl,Lh⟩
def okS (s:ByteArray):Bool:=decide (s.size≤100)
def fewF (l:List ByteArray):Bool:=l.all okS && decide (l.length≤40)
theorem fewF_len {l:List ByteArray}(h:fewF l=true):l.length≤40:=by
 unfold fewF at h
 rw [Bool.and_eq_true] at h
 simpa using h.2
theorem fewF_each {l:List ByteArray}(h:fewF l=true):∀ s ∈ l,s.size≤100:=by
 unfold fewF at h
 rw [Bool.and_eq_true] at h
 intro s hs
 simpa [okS] using List.all_eq_true.1 h.1 s hs
theorem all_next {p:ByteArray→Bool}{l:List ByteArray}{i:Nat}{x:ByteArray}(h:l[i]?=some x):(l.take (i+1)).all p=((l.take i).all p && p x):=by
 rw [List.take_add_one,h,List.all_append]
 simp
theorem law9_few {B:Base}{w:World}(hS:St B [] w) (A:Option Addr) (cp:Nat) (l:List ByteArray) (hC:Kd.string.C B.e A l) :
 CW 5 #[.slice A l.length cp] w (Ret B (fun _:Unit=>True) (fun _=>.bool (fewF l)) (fun _=>[])):=by
 have hln:=hC.1
 refine ZX Tryd.func5 hS ?_
 refine Zh (Zi (Zp J (Zn (Za (Zh (Zh (Zi (Zp J (Zn (Za (Zk (wLoop (ι:=Nat) (fun i=>[(0,.slice A l.length cp),(3,.int .i64 (i:Int))]) (fun i=>[]) (fun i=>i≤l.length∧(l.take i).all okS=true) (fun i=>l.length-i) 0 ?_ cv (Leads.has ZQ) ?_))))))))))))
 exact ⟨Nat.zero_le _,rfl⟩
 rintro i ⟨hi,hv⟩
 try dsimp only
 refine Zh (Zh (Zi (Zo J (Zo J (Zv J J (Zx J J (Zn (Za (wC (fun h7=>?_) (fun h7=>?_))))))))))
 obtain ⟨x,hx⟩:∃ x,l[i]?=some x:=⟨_,List.getElem?_eq_getElem ZO⟩
 obtain ⟨e1,cs1,hE⟩:=hC.elm hx
 obtain rfl:=(show cs1=[Value.string x] from hE.K)
 refine Zj (Za (Zh (Zk (Zh (Zi (Zo J (Zo J (oIdxE J J (hE) ZO J J ?_))))))))
 have hc12:=(hE).cell
 refine Zlx hc12 ?_
 refine oLenStr J J (Z1 J J (Zn (Za (wC (fun h15=>?_) (fun h15=>?_)))))
 refine Zh (Zi (Zzc ?_))
 exact ⟨(),trivial,by rw [show fewF l=false from (by unfold fewF;rw [show l.all okS=false from List.all_eq_false.2 ⟨x,List.mem_of_getElem? hx,by unfold okS;rw [decide_eq_false ZO];simp⟩];rfl)];rfl,Lh⟩
 refine Zj (Zd (Za (Zi (Zo J (Zsu ?_)))))
 refine Zp J (Zn (Za ?_))
 exact ⟨rfl,i+1,⟨by omega,by rw [all_next hx,hv];exact decide_eq_true ZO⟩,by omega,cv,Lh⟩
 obtain rfl:i=l.length:=by omega
 rw [List.take_length] at hv
 refine Zm (Zb (Zb (Ze (Za (Zh (Zi (Zo J (Zv J J (oLeq J J (Zp J (Zza ?_)))))))))))
 exact ⟨(),trivial,by show Value.bool (decide ((l.length:Int)≤40))=_;unfold fewF;rw [hv];congr 1;rw [Bool.true_and];exact decide_eq_decide.2 ⟨fun k=>by omega,fun k=>by omega⟩,Lh⟩
end Go.Proofs.YtpmdhkjbhjgoaaaDoorR
