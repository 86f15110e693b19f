/- What is read, typed: patches. -/
import Derived.Test.YteoodenfggmpfaaCY1
import Derived.Test.YteoodenfggmpfaaFd
namespace Go.AW
open Proofs

def psz (p : PatchV) : Nat := (p.name.size + 1) + ((p.values.map fun s => s.size + 1).sum + 1) + (p.put.size + 1) + ((p.src.map fun _ => 1).sum + 1) + 5
def pok (p : PatchV) : Prop := iok .i64 p.kind ∧ iok .i64 p.by_ ∧ iok .i64 p.at_ ∧ iok .i64 p.cut ∧ ∀ h ∈ p.src, hok h
theorem Rd.texts : Rd Try.prog 38 (fun l : List ByteArray => [.seq l.length 1 (flat scell l)]) (fun l => (l.map fun s => s.size + 1).sum + 1) (fun l => ∀ a ∈ l, True) := Rd.slice telem_38 tsz_9 (Rd.str tstr_9)
theorem Rd.hashes : Rd Try.prog 44 (fun l : List Hs => [.seq l.length 32 (flat hcell l)]) (fun l => (l.map fun _ => 1).sum + 1) (fun l => ∀ a ∈ l, hok a) := Rd.slice telem_44 tsz_74 (Rd.hash tarr_74 tint_5)
theorem Rd.patch : Rd Try.prog 46 pcell psz pok := by
  intro H n d xs hx
  obtain ⟨m, ps, rfl, h, hb⟩ := rd_struct tflds_46 hx
  simp only [List.map_cons, List.map_nil] at h
  obtain ⟨ds, a0, _, k0, rfl, h, e0, s0, o0⟩ := rd_field (Rd.int tint_3) h
  obtain ⟨ds, a1, _, k1, rfl, h, e1, s1, o1⟩ := rd_field (Rd.str tstr_9) h
  obtain ⟨ds, a2, _, k2, rfl, h, e2, s2, o2⟩ := rd_field Rd.texts h
  obtain ⟨ds, a3, _, k3, rfl, h, e3, s3, o3⟩ := rd_field (Rd.int tint_3) h
  obtain ⟨ds, a4, _, k4, rfl, h, e4, s4, o4⟩ := rd_field (Rd.bool tkt_4) h
  obtain ⟨ds, a5, _, k5, rfl, h, e5, s5, o5⟩ := rd_field (Rd.int tint_3) h
  obtain ⟨ds, a6, _, k6, rfl, h, e6, s6, o6⟩ := rd_field (Rd.int tint_3) h
  obtain ⟨ds, a7, _, k7, rfl, h, e7, s7, o7⟩ := rd_field (Rd.str tstr_9) h
  obtain ⟨ds, a8, _, k8, rfl, h, e8, s8, o8⟩ := rd_field Rd.hashes h
  obtain rfl := rd_end h
  refine ⟨⟨a0, a1, a2, a3, a4, a5, a6, a7, a8⟩, rfl, ?_, o0, o3, o5, o6, o8⟩
  simp only [psz]
  omega
theorem Rd.patches : Rd Try.prog 27 (fun l : List PatchV => [.seq l.length 9 (flat pcell l)]) (fun l => (l.map psz).sum + 1) (fun l => ∀ a ∈ l, pok a) := Rd.slice telem_27 tsz_46 Rd.patch

theorem sum_le {α : Type} {f : α → Nat} {l : List α} {a : α} (h : a ∈ l) : f a ≤ (l.map f).sum := by
  induction l with
  | nil => cases h
  | cons x l ih =>
    simp only [List.map_cons, List.sum_cons]
    rcases List.mem_cons.1 h with rfl | h
    · omega
    · have := ih h; omega
theorem len_le {α : Type} {f : α → Nat} (hf : ∀ a, 1 ≤ f a) (l : List α) : l.length ≤ (l.map f).sum := by
  induction l with
  | nil => simp
  | cons x l ih => simp only [List.map_cons, List.sum_cons, List.length_cons]; have := hf x; omega
theorem psz_le (p : PatchV) : p.values.length ≤ psz p ∧ p.src.length ≤ psz p ∧ 1 ≤ psz p := by
  have h1 := len_le (f := fun s : ByteArray => s.size + 1) (fun _ => by omega) p.values
  have h2 := len_le (f := fun _ : Hs => 1) (fun _ => by omega) p.src
  simp only [psz]
  omega
end Go.AW
