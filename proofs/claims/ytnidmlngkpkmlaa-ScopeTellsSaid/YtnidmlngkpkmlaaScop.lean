/-
  The kinds' openings (written by genopens.py).
-/
import Derived.Test.YtnidmlngkpkmlaaSlo
import Derived.Test.YtnidmlngkpkmlaaPScopex0
namespace Go.Proofs.Ytnidmlngkpkmlaa.PScope
open Go.RowKit Go.Proofs.YtnidmlngkpkmlaaW.PrintWords Go.Proofs.YtnidmlngkpkmlaaSl
def V174 (x : S174) : Prop := (Lit.int .i64 x.f0).wf = true ∧ (Lit.int .i64 x.f1).wf = true
set_option maxRecDepth 100000 in
theorem op174 : Opens Try.prog 174 k174 V174 := Opens.weak (opens_struct (fun p => (⟨p.1, p.2⟩ : S174)) (fun _ => rfl) Try.underlying174 (opensF_cons (opens_int rfl) rfl (opensF_one (opens_int rfl) rfl rfl))) (fun _ h => h)
def V176 (x : S176) : Prop := (Lit.int .i64 x.f0).wf = true ∧ (Lit.int .i64 x.f1).wf = true ∧ (Lit.int .i64 x.f2).wf = true ∧ (Lit.int .i64 x.f3).wf = true ∧ (Lit.int .i64 x.f4).wf = true
set_option maxRecDepth 100000 in
theorem op176 : Opens Try.prog 176 k176 V176 := Opens.weak (opens_struct (fun p => (⟨p.1, p.2.1, p.2.2.1, p.2.2.2.1, p.2.2.2.2⟩ : S176)) (fun _ => rfl) Try.underlying176 (opensF_cons (opens_int rfl) rfl (opensF_cons (opens_int rfl) rfl (opensF_cons (opens_int rfl) rfl (opensF_cons (opens_int rfl) rfl (opensF_one (opens_int rfl) rfl rfl)))))) (fun _ h => h)
def V178 (x : S178) : Prop := (Lit.int .i64 x.f0).wf = true ∧ (Lit.int .i64 x.f1).wf = true ∧ True
set_option maxRecDepth 100000 in
theorem op178 : Opens Try.prog 178 k178 V178 := Opens.weak (opens_struct (fun p => (⟨p.1, p.2.1, p.2.2⟩ : S178)) (fun _ => rfl) Try.underlying178 (opensF_cons (opens_int rfl) rfl (opensF_cons (opens_int rfl) rfl (opensF_one (opens_bool rfl) rfl rfl)))) (fun _ h => h)
def V42 (x : S42) : Prop := x.f0.size ≤ maxLen ∧ True ∧ (Lit.int .i64 x.f2).wf = true ∧ (Lit.int .i64 x.f3).wf = true ∧ (Lit.int .i64 x.f4).wf = true
set_option maxRecDepth 100000 in
theorem op42 : Opens Try.prog 42 k42 V42 := Opens.weak (opens_struct (fun p => (⟨p.1, p.2.1, p.2.2.1, p.2.2.2.1, p.2.2.2.2⟩ : S42)) (fun _ => rfl) Try.underlying42 (opensF_cons (opens_string rfl) rfl (opensF_cons (opens_bool rfl) rfl (opensF_cons (opens_int rfl) rfl (opensF_cons (opens_int rfl) rfl (opensF_one (opens_int rfl) rfl rfl)))))) (fun _ h => h)
def V114 (x : S114) : Prop := (Lit.int .i64 x.f0).wf = true ∧ (x.f1.length ≤ maxLen ∧ ∀ y ∈ x.f1, (Lit.int .i64 y).wf = true) ∧ (Lit.int .i64 x.f2).wf = true ∧ True ∧ (Lit.int .i64 x.f4).wf = true ∧ (Lit.int .i64 x.f5).wf = true ∧ (x.f6.length ≤ maxLen ∧ ∀ y ∈ x.f6, V174 y) ∧ (x.f7.length ≤ maxLen ∧ ∀ y ∈ x.f7, V176 y) ∧ (x.f8.length ≤ maxLen ∧ ∀ y ∈ x.f8, V178 y)
set_option maxRecDepth 100000 in
theorem op114 : Opens Try.prog 114 k114 V114 := Opens.weak (opens_struct (fun p => (⟨p.1, p.2.1, p.2.2.1, p.2.2.2.1, p.2.2.2.2.1, p.2.2.2.2.2.1, p.2.2.2.2.2.2.1, p.2.2.2.2.2.2.2.1, p.2.2.2.2.2.2.2.2⟩ : S114)) (fun _ => rfl) Try.underlying114 (opensF_cons (opens_int rfl) rfl (opensF_cons (opens_slice rfl rfl (opens_int rfl)) rfl (opensF_cons (opens_int rfl) rfl (opensF_cons (opens_bool rfl) rfl (opensF_cons (opens_int rfl) rfl (opensF_cons (opens_int rfl) rfl (opensF_cons (opens_slice rfl rfl op174) rfl (opensF_cons (opens_slice rfl rfl op176) rfl (opensF_one (opens_slice rfl rfl op178) rfl rfl)))))))))) (fun _ h => h)
def V118 (x : S118) : Prop := (Lit.int .i64 x.f0).wf = true ∧ (x.f1.length ≤ maxLen ∧ ∀ y ∈ x.f1, (Lit.int .i64 y).wf = true) ∧ (x.f2.length ≤ maxLen ∧ ∀ y ∈ x.f2, V178 y)
set_option maxRecDepth 100000 in
theorem op118 : Opens Try.prog 118 k118 V118 := Opens.weak (opens_struct (fun p => (⟨p.1, p.2.1, p.2.2⟩ : S118)) (fun _ => rfl) Try.underlying118 (opensF_cons (opens_int rfl) rfl (opensF_cons (opens_slice rfl rfl (opens_int rfl)) rfl (opensF_one (opens_slice rfl rfl op178) rfl rfl)))) (fun _ h => h)
def V40 (x : S40) : Prop := (x.f0.length ≤ maxLen ∧ ∀ y ∈ x.f0, V42 y) ∧ (x.f1.length ≤ maxLen ∧ ∀ y ∈ x.f1, V114 y) ∧ (x.f2.length ≤ maxLen ∧ ∀ y ∈ x.f2, V118 y)
set_option maxRecDepth 100000 in
theorem op40 : Opens Try.prog 40 k40 V40 := Opens.weak (opens_struct (fun p => (⟨p.1, p.2.1, p.2.2⟩ : S40)) (fun _ => rfl) Try.underlying40 (opensF_cons (opens_slice rfl rfl op42) rfl (opensF_cons (opens_slice rfl rfl op114) rfl (opensF_one (opens_slice rfl rfl op118) rfl rfl)))) (fun _ h => h)
def V31 (x : S31) : Prop := (Lit.int .i64 x.f0).wf = true ∧ (Lit.int .i64 x.f1).wf = true ∧ (Lit.int .i64 x.f2).wf = true
set_option maxRecDepth 100000 in
theorem op31 : Opens Try.prog 31 k31 V31 := Opens.weak (opens_struct (fun p => (⟨p.1, p.2.1, p.2.2⟩ : S31)) (fun _ => rfl) Try.underlying31 (opensF_cons (opens_int rfl) rfl (opensF_cons (opens_int rfl) rfl (opensF_one (opens_int rfl) rfl rfl)))) (fun _ h => h)
end Go.Proofs.Ytnidmlngkpkmlaa.PScope
