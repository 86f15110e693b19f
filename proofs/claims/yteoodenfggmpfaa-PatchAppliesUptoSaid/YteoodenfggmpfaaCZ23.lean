/- What is read, typed: documents. -/
import Derived.Test.YteoodenfggmpfaaCY8
import Derived.Test.YteoodenfggmpfaaCZ22
namespace Go.AW
open Proofs

def esz (e : EntryV) : Nat := (e.key.size + 1) + ((e.values.map fun s => s.size + 1).sum + 1) + 1
def csz (c : CountV) : Nat := (c.key.size + 1) + 1 + 1
def tsz' (t : TextV) : Nat := (t.name.size + 1) + (t.chars.size + 1) + 1
def dsz (d : DocV) : Nat := ((d.entries.map esz).sum + 1) + ((d.counts.map csz).sum + 1) + ((d.texts.map tsz').sum + 1) + 1
theorem Rd.entry : Rd Try.prog 40 ecell esz (fun _ => True) := by
  intro H n d xs hx
  obtain ⟨m, ps, rfl, h, hb⟩ := rd_struct tflds_40 hx
  simp only [List.map_cons, List.map_nil] at h
  obtain ⟨ds, a0, _, k0, rfl, h, e0, s0, o0⟩ := rd_field (Rd.str tstr_9) h
  obtain ⟨ds, a1, _, k1, rfl, h, e1, s1, o1⟩ := rd_field Rd.texts h
  obtain rfl := rd_end h
  refine ⟨⟨a0, a1⟩, rfl, ?_, trivial⟩
  simp only [esz]
  omega
theorem Rd.count : Rd Try.prog 55 ccell csz (fun _ => True) := by
  intro H n d xs hx
  obtain ⟨m, ps, rfl, h, hb⟩ := rd_struct tflds_55 hx
  simp only [List.map_cons, List.map_nil] at h
  obtain ⟨ds, a0, _, k0, rfl, h, e0, s0, o0⟩ := rd_field (Rd.str tstr_9) h
  obtain ⟨ds, a1, _, k1, rfl, h, e1, s1, o1⟩ := rd_field (Rd.int tint_3) h
  obtain rfl := rd_end h
  refine ⟨⟨a0, a1⟩, rfl, ?_, trivial⟩
  simp only [csz]
  omega
theorem Rd.text : Rd Try.prog 57 tcell tsz' (fun _ => True) := by
  intro H n d xs hx
  obtain ⟨m, ps, rfl, h, hb⟩ := rd_struct tflds_57 hx
  simp only [List.map_cons, List.map_nil] at h
  obtain ⟨ds, a0, _, k0, rfl, h, e0, s0, o0⟩ := rd_field (Rd.str tstr_9) h
  obtain ⟨ds, a1, _, k1, rfl, h, e1, s1, o1⟩ := rd_field (Rd.str tstr_9) h
  obtain rfl := rd_end h
  refine ⟨⟨a0, a1⟩, rfl, ?_, trivial⟩
  simp only [tsz']
  omega
theorem Rd.entries : Rd Try.prog 22 (fun l : List EntryV => [.seq l.length 2 (flat ecell l)]) (fun l => (l.map esz).sum + 1) (fun l => ∀ a ∈ l, True) := Rd.slice telem_22 tsz_40 Rd.entry
theorem Rd.counts : Rd Try.prog 23 (fun l : List CountV => [.seq l.length 2 (flat ccell l)]) (fun l => (l.map csz).sum + 1) (fun l => ∀ a ∈ l, True) := Rd.slice telem_23 tsz_55 Rd.count
theorem Rd.textsD : Rd Try.prog 24 (fun l : List TextV => [.seq l.length 2 (flat tcell l)]) (fun l => (l.map tsz').sum + 1) (fun l => ∀ a ∈ l, True) := Rd.slice telem_24 tsz_57 Rd.text
theorem Rd.doc : Rd Try.prog 26 docL dsz (fun _ => True) := by
  intro H n d xs hx
  obtain ⟨m, ps, rfl, h, hb⟩ := rd_struct tflds_26 hx
  simp only [List.map_cons, List.map_nil] at h
  obtain ⟨ds, a0, _, k0, rfl, h, e0, s0, o0⟩ := rd_field Rd.entries h
  obtain ⟨ds, a1, _, k1, rfl, h, e1, s1, o1⟩ := rd_field Rd.counts h
  obtain ⟨ds, a2, _, k2, rfl, h, e2, s2, o2⟩ := rd_field Rd.textsD h
  obtain rfl := rd_end h
  refine ⟨⟨a0, a1, a2⟩, rfl, ?_, trivial⟩
  simp only [dsz]
  omega

theorem doc_B {d : DocV} {l : List PatchV} (h : dsz d + (l.map psz).sum ≤ 1048576) : DocB d l.length (putsN l) := by
  unfold dsz at h
  have h1 := len_le (f := esz) (fun e => by unfold esz; omega) d.entries
  have h2 := len_le (f := csz) (fun e => by unfold csz; omega) d.counts
  have h3 := len_le (f := tsz') (fun e => by unfold tsz'; omega) d.texts
  have h4 := len_le (f := psz) (fun p => (psz_le p).2.2) l
  have hput : putsN l ≤ (l.map psz).sum := by
    unfold putsN
    clear h h1 h2 h3 h4
    induction l with
    | nil => simp
    | cons p l ih =>
      simp only [List.map_cons, List.sum_cons]
      have : p.put.size ≤ psz p := by unfold psz; omega
      omega
  refine ⟨by omega, by omega, by omega, fun e he => ?_, fun e he => ?_, fun e he => ?_, fun e he => ?_, fun e he => ?_, by omega⟩
  · have h5 := sum_le (f := esz) he
    have h6 : e.key.size ≤ esz e := by unfold esz; omega
    omega
  · have h5 := sum_le (f := csz) he
    have h6 : e.key.size ≤ csz e := by unfold csz; omega
    omega
  · have h5 := sum_le (f := tsz') he
    have h6 : e.name.size ≤ tsz' e := by unfold tsz'; omega
    omega
  · have h5 := sum_le (f := esz) he
    have h6 := len_le (f := fun s : ByteArray => s.size + 1) (fun _ => by omega) e.values
    have h7 : e.values.length ≤ esz e := by unfold esz; omega
    omega
  · have h5 := sum_le (f := tsz') he
    have h6 : e.chars.size ≤ tsz' e := by unfold tsz'; omega
    omega
theorem iok_le {n : Int} (h : iok .i64 n) : -9223372036854775808 ≤ n ∧ n ≤ 9223372036854775807 := by
  simpa [iok, Lit.wf, IntKind.min, IntKind.max, IntKind.signed, IntKind.bits] using h
theorem pat_ok {p : PatchV} (h : psz p ≤ 1048576) (ho : pok p) : PatOK p := by
  have h1 := (psz_le p).1
  obtain ⟨_, _, o3, o4, _⟩ := ho
  have a := iok_le o3
  have c := iok_le o4
  exact ⟨by unfold psz at h; omega, by omega, by unfold psz at h; omega, c.1, c.2, a.1, a.2⟩
end Go.AW
