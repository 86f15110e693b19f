/- Contracts: a desk as a document. -/
import Derived.Test.YteoodenfggmpfaaCZ15
namespace Go.AW
open Proofs

set_option linter.unusedSimpArgs false
set_option linter.unusedVariables false
set_option maxRecDepth 100000
set_option maxHeartbeats 8000000

theorem zAV_38 : zAV Try.prog 38 = some (.v (.slice none 0 0)) := by kernel_rfl
theorem zAV_3 : zAV Try.prog 3 = some (.v (.int .i64 0)) := by kernel_rfl
theorem zAV_9 : zAV Try.prog 9 = some (.v (.string ⟨#[]⟩)) := by kernel_rfl
attribute [push_cast] zAV_38 zAV_3 zAV_9
structure DeskV where
  ents : List (ByteArray × List ByteArray)
  cnts : List (ByteArray × Int)
  txts : List (ByteArray × ByteArray)

def vsq (N : Nat → Prop) (v : List ByteArray) : AV := .on N true (.seq v.length 1 (flat scell v))
def keysV {α : Type} (l : List (ByteArray × α)) : List Value := (l.map (·.1)).map Value.string
def mvE (N : Nat → Prop) (l : List (ByteArray × List ByteArray)) : AV := .mv .strK (keysV l) (l.map fun e => vsq N e.2)
def mvC (l : List (ByteArray × Int)) : AV := .mv .strK (keysV l) (l.map fun e => .v (.int .i64 e.2))
def mvT (l : List (ByteArray × ByteArray)) : AV := .mv .strK (keysV l) (l.map fun e => .v (.string e.2))
def ecellN (N : Nat → Prop) (e : EntryV) : List AV := [.v (.string e.key), vsq N e.values]

def aget {α : Type} (l : List (ByteArray × α)) (k : ByteArray) : Option α := (l.find? fun e => decide (e.1 = k)).map (·.2)

theorem idfL_ents {N : Nat → Prop} {l : List (ByteArray × List ByteArray)} : idfL (l.map fun e => vsq N e.2) = true := by
  induction l with
  | nil => rfl
  | cons x l ih => simp [idfL, vsq, idf, idfL_flat idfL_scell] at *; exact ih
theorem idfL_cnts {l : List (ByteArray × Int)} : idfL (l.map fun e => AV.v (.int .i64 e.2)) = true := by
  induction l with
  | nil => rfl
  | cons x l ih => simp [idfL, idf] at *; exact ih
theorem idfL_txts {l : List (ByteArray × ByteArray)} : idfL (l.map fun e => AV.v (.string e.2)) = true := by
  induction l with
  | nil => rfl
  | cons x l ih => simp [idfL, idf] at *; exact ih

theorem keq_str {a b : ByteArray} : keq (.string a) (.string b) = decide (a = b) := by
  simp only [keq, lbeq, toList_inj]
theorem mget_keys {α : Type} {g : α → AV} {k : ByteArray} : ∀ {l : List (ByteArray × α)}, mget (keysV l) (l.map fun e => g e.2) (.string k) = (aget l k).map g
  | [] => rfl
  | (n, x) :: l => by
    have ih := mget_keys (g := g) (k := k) (l := l)
    simp only [keysV, List.map_cons] at ih ⊢
    simp only [mget, keq_str]
    by_cases h : n = k
    · subst h; simp [aget]
    · have h' : ¬ k = n := fun e => h e.symm
      simp only [h', decide_false, Bool.false_eq_true, if_false, ih, aget]
      rw [List.find?_cons_of_neg (by simpa using h)]
theorem keysV_length {α : Type} {l : List (ByteArray × α)} : (keysV l).length = l.length := by simp [keysV]
theorem mget_E {N : Nat → Prop} {k : ByteArray} {l : List (ByteArray × List ByteArray)} : mget (keysV l) (l.map fun e => vsq N e.2) (.string k) = (aget l k).map (vsq N) := mget_keys
theorem mget_C {k : ByteArray} {l : List (ByteArray × Int)} : mget (keysV l) (l.map fun e => AV.v (.int .i64 e.2)) (.string k) = (aget l k).map fun n => AV.v (.int .i64 n) := mget_keys (g := fun n => AV.v (.int .i64 n))
theorem mget_T {k : ByteArray} {l : List (ByteArray × ByteArray)} : mget (keysV l) (l.map fun e => AV.v (.string e.2)) (.string k) = (aget l k).map fun n => AV.v (.string n) := mget_keys (g := fun n => AV.v (.string n))
section
variable {N : Nat → Prop} {find : Nat → Option AObj}
theorem unf_mvE {l : List (ByteArray × List ByteArray)} : unf (mvE N l) = mvE N l := (rfl)
theorem unf_mvC {l : List (ByteArray × Int)} : unf (mvC l) = mvC l := (rfl)
theorem unf_mvT {l : List (ByteArray × ByteArray)} : unf (mvT l) = mvT l := (rfl)
theorem mapOf_mvE {l : List (ByteArray × List ByteArray)} : mapOf find (mvE N l) = some (some .strK, keysV l, l.map fun e => vsq N e.2) := (rfl)
theorem mapOf_mvC {l : List (ByteArray × Int)} : mapOf find (mvC l) = some (some .strK, keysV l, l.map fun e => AV.v (.int .i64 e.2)) := (rfl)
theorem mapOf_mvT {l : List (ByteArray × ByteArray)} : mapOf find (mvT l) = some (some .strK, keysV l, l.map fun e => AV.v (.string e.2)) := (rfl)
theorem kwf_s {s : ByteArray} : kwf .strK (.string s) = true := (rfl)
end
attribute [push_cast] mget_E mget_C mget_T unf_mvE unf_mvC unf_mvT mapOf_mvE mapOf_mvC mapOf_mvT kwf_s

def pE (D : DeskV) (k : ByteArray) : List EntryV := match aget D.ents k with
  | some v => if v.length = 0 then [] else [⟨k, v⟩]
  | none => []
def pCn (D : DeskV) (k : ByteArray) : List CountV := match aget D.cnts k with
  | some v => [⟨k, v⟩]
  | none => []
def pT (D : DeskV) (k : ByteArray) : List TextV := match aget D.txts k with
  | some v => if v = ⟨#[]⟩ then [] else [⟨k, v⟩]
  | none => []
def docR (D : DeskV) : DocV := ⟨(sortB (D.ents.map (·.1))).flatMap (pE D), (sortB (D.cnts.map (·.1))).flatMap (pCn D), (sortB (D.txts.map (·.1))).flatMap (pT D)⟩
theorem flatMap_le {α β : Type} {p : α → List β} (h : ∀ x, (p x).length ≤ 1) : ∀ l : List α, (l.flatMap p).length ≤ l.length
  | [] => by simp
  | x :: l => by
    have := flatMap_le h l
    have := h x
    simp only [List.flatMap_cons, List.length_append, List.length_cons]; omega
theorem pE_le (D : DeskV) (k : ByteArray) : (pE D k).length ≤ 1 := by
  unfold pE
  split
  · split <;> simp
  · simp
theorem pCn_le (D : DeskV) (k : ByteArray) : (pCn D k).length ≤ 1 := by
  unfold pCn
  split <;> simp
theorem pT_le (D : DeskV) (k : ByteArray) : (pT D k).length ≤ 1 := by
  unfold pT
  split
  · split <;> simp
  · simp
theorem mem_sortB {l : List ByteArray} {k : ByteArray} (h : k ∈ sortB l) : k ∈ l := by
  simp only [sortB, List.mem_map] at h
  obtain ⟨x, hx, rfl⟩ := h
  have := (List.mergeSort_perm _ _).mem_iff.1 hx
  simp only [List.mem_map] at this
  obtain ⟨y, hy, rfl⟩ := this
  simpa using hy
theorem aget_mem {α : Type} {l : List (ByteArray × α)} {k : ByteArray} (h : k ∈ l.map (·.1)) : ∃ v, aget l k = some v := by
  simp only [List.mem_map] at h
  obtain ⟨e, he, rfl⟩ := h
  unfold aget
  cases hf : l.find? fun e' => decide (e'.1 = e.1) with
  | some v => exact ⟨v.2, rfl⟩
  | none =>
    rw [List.find?_eq_none] at hf
    have := hf e he
    simp at this
theorem ecellN_length {N : Nat → Prop} (e : EntryV) : (ecellN N e).length = 2 := (rfl)
theorem idfL_ecellN {N : Nat → Prop} (e : EntryV) : idfL (ecellN N e) = true := by simp [ecellN, vsq, idfL, idf, idfL_flat idfL_scell]
theorem untL_ecellN {N : Nat → Prop} (e : EntryV) : untL (ecellN N e) = ecell e := by simp [ecellN, ecell, vsq, untL, unt, untL_flat untL_scell]
theorem idfL_eflatN {N : Nat → Prop} {l : List EntryV} : idfL (flat (ecellN N) l) = true := idfL_flat idfL_ecellN l
theorem eflatN_length {N : Nat → Prop} {l : List EntryV} : (flat (ecellN N) l).length = l.length * 2 := flat_length ecellN_length l
theorem idf_mvE {N : Nat → Prop} {l : List (ByteArray × List ByteArray)} : idf (mvE N l) = true := by simp [mvE, idf, idfL_ents]
theorem idf_mvC {l : List (ByteArray × Int)} : idf (mvC l) = true := by simp [mvC, idf, idfL_cnts]
theorem idf_mvT {l : List (ByteArray × ByteArray)} : idf (mvT l) = true := by simp [mvT, idf, idfL_txts]
theorem len_vsq {N : Nat → Prop} {v : List ByteArray} {P : Program} {find : Nat → Option AObj} {fr : Nat} {t : TypeId} {ts : List TypeId} : builtinF P find fr .len (t :: ts).toArray [vsq N v] = lenB (tarr P t) (tlenk P t) 0 v.length := len_on
theorem unf_vsq {N : Nat → Prop} {v : List ByteArray} : unf (vsq N v) = vsq N v := (rfl)
theorem cellsOf_vsq {N : Nat → Prop} {v : List ByteArray} : cellsOf (vsq N v) = some [vsq N v] := (rfl)
theorem idf_vsq {N : Nat → Prop} {v : List ByteArray} : idf (vsq N v) = true := by simp [vsq, idf, idfL_flat idfL_scell]
theorem nilA_vsq {y : AV} {N : Nat → Prop} {v : List ByteArray} : nilA y (vsq N v) = false := (rfl)
attribute [push_cast] ecellN_length idfL_ecellN idfL_eflatN eflatN_length idf_mvE idf_mvC idf_mvT len_vsq unf_vsq cellsOf_vsq idf_vsq nilA_vsq

theorem c18 {γ : GTab} (N : Nat → Prop) (D : DeskV) (h1 : D.ents.length ≤ 4194304) (h2 : D.cnts.length ≤ 4194304) (h3 : D.txts.length ≤ 4194304) :
    PDoc Try.prog γ 18 [.rop [mvE N D.ents, mvC D.cnts, mvT D.txts]] (docR D).entries.length 2 (.seq (docR D).counts.length 2 (flat ccell (docR D).counts)) (.seq (docR D).texts.length 2 (flat tcell (docR D).texts)) none 40 (flat (ecellN N) (docR D).entries) := by
  refine PDoc.start Try.func18 rfl (by kernel_rfl) rfl Try.ntmps18 fol (by kernel_rfl) (by simp [idfL, idf_mvE, idf_mvC, idf_mvT, idf]) (by simp [idf, idfL_ctflat]) (by simp [idf, idfL_tflat]) idfL_eflatN ?_
  simp only [List.zipIdx_cons, List.zipIdx_nil, List.map_cons, List.map_nil, Nat.zero_add]
  simp (maxSteps := 400000) (disch := first | omega | exact okT rfl | simp only [push_cast]) only [push_cast, ↓ite_cnd, ↓reduceIte, Nat.reduceAdd, Nat.reduceMul, Nat.reduceSub, Nat.reduceEqDiff, Nat.reduceBEq, Nat.reduceBNe, Nat.reduceLT, Nat.reduceLeDiff, reduceCtorEq, Op.operands, flat_take_succ, flat_take_all]
  refine PCall.useV ((c33 (D.ents.map (·.1)) _ (idfL_ents (N := N) (l := D.ents)) (by simp) (by simpa using h1)).gam) ?_
  simp (maxSteps := 400000) (disch := first | omega | exact okT rfl | simp only [push_cast]) only [push_cast, ↓ite_cnd, ↓reduceIte, Nat.reduceAdd, Nat.reduceMul, Nat.reduceSub, Nat.reduceEqDiff, Nat.reduceBEq, Nat.reduceBNe, Nat.reduceLT, Nat.reduceLeDiff, reduceCtorEq, Op.operands, flat_take_succ, flat_take_all, List.length_map]
  have hd1 : (docR D).entries = (sortB (D.ents.map (·.1))).flatMap (pE D) := rfl
  have hm1 : ∀ k ∈ sortB (D.ents.map (·.1)), ∃ v, aget D.ents k = some v := fun k hk => aget_mem (mem_sortB hk)
  have hl1 : D.ents.length = (sortB (D.ents.map (·.1))).length := by rw [sortB_length, List.length_map]
  rw [hl1] at h1 ⊢
  generalize sortB (D.ents.map (·.1)) = ks at hd1 hm1 hl1 h1 ⊢
  refine ev_loopI (ι := Nat) (fun i => ⟨[(0, .rop [mvE N D.ents, mvC D.cnts, mvT D.txts]), (2, .ptr 0 0), (3, .ptr 1 0), (14, .seq ks.length 1 (flat scell ks)), (15, .v (.int .i64 ks.length)), (16, .v (.int .i64 i))],
    ⟨[(0, .cells 26 [.v (.slice none 0 0), .v (.slice none 0 0), .v (.slice none 0 0)] false), (1, .cells 26 [.sl 2 0 ((ks.take i).flatMap (pE D)).length 2, .v (.slice none 0 0), .v (.slice none 0 0)] false), (2, .cells 40 (flat (ecellN N) ((ks.take i).flatMap (pE D))) true)], 3, 3, 0⟩⟩) (fun i => i ≤ ks.length) (fun i => ks.length - i) 0 (Nat.zero_le _) ?_ ?_
  · refine Ent.freezeD [(0, 2), (1, 101)] [1] ?_ ?_ rfl rfl rfl
    · simp (maxSteps := 400000) (disch := first | omega | exact okT rfl | simp only [push_cast]) only [push_cast, ↓ite_cnd, ↓reduceIte, Nat.reduceAdd, Nat.reduceMul, Nat.reduceSub, Nat.reduceEqDiff, Nat.reduceBEq, Nat.reduceBNe, Nat.reduceLT, Nat.reduceLeDiff, reduceCtorEq, Op.operands, flat_take_succ, flat_take_all]
    · simp (maxSteps := 400000) (disch := first | omega | exact okT rfl | simp only [push_cast]) only [push_cast, ↓ite_cnd, ↓reduceIte, Nat.reduceAdd, Nat.reduceMul, Nat.reduceSub, Nat.reduceEqDiff, Nat.reduceBEq, Nat.reduceBNe, Nat.reduceLT, Nat.reduceLeDiff, reduceCtorEq, Op.operands, flat_take_succ, flat_take_all]
      try rfl
  intro i hi
  simp (maxSteps := 400000) (disch := first | omega | exact okT rfl | simp only [push_cast]) only [push_cast, ↓ite_cnd, ↓reduceIte, Nat.reduceAdd, Nat.reduceMul, Nat.reduceSub, Nat.reduceEqDiff, Nat.reduceBEq, Nat.reduceBNe, Nat.reduceLT, Nat.reduceLeDiff, reduceCtorEq, Op.operands, flat_take_succ, flat_take_all]
  refine ⟨fun h4 => ?_, fun h4 => ?_⟩
  · have hi1 : i < ks.length := by omega
    obtain ⟨v, hv⟩ := hm1 ks[i] (List.getElem_mem hi1)
    simp (maxSteps := 400000) (disch := first | omega | exact okT rfl | simp only [push_cast]) only [push_cast, ↓ite_cnd, ↓reduceIte, Nat.reduceAdd, Nat.reduceMul, Nat.reduceSub, Nat.reduceEqDiff, Nat.reduceBEq, Nat.reduceBNe, Nat.reduceLT, Nat.reduceLeDiff, reduceCtorEq, Op.operands, flat_take_succ, flat_take_all, hv, Option.map_some, Option.getD_some, or_true, true_and]
    have hsn : (ks.take (i + 1)).flatMap (pE D) = (ks.take i).flatMap (pE D) ++ pE D ks[i] := by rw [List.take_succ_eq_append_getElem hi1, List.flatMap_append]; simp
    have hlen := flatMap_le (p := pE D) (pE_le D) (ks.take i)
    have hmin : (ks.take i).length = i := by rw [List.length_take]; omega
    rw [hmin] at hlen
    refine ⟨fun hv0 => ?_, fun hv0 => ?_⟩
    · have hp : pE D ks[i] = [⟨ks[i], v⟩] := by unfold pE; rw [hv]; simp only; rw [if_neg (by omega)]
      simp (maxSteps := 400000) (disch := first | omega | exact okT rfl | simp only [push_cast]) only [push_cast, ↓ite_cnd, ↓reduceIte, Nat.reduceAdd, Nat.reduceMul, Nat.reduceSub, Nat.reduceEqDiff, Nat.reduceBEq, Nat.reduceBNe, Nat.reduceLT, Nat.reduceLeDiff, reduceCtorEq, Op.operands, flat_take_succ, flat_take_all, hv, Option.map_some, Option.getD_some, or_true, true_and]
      refine ⟨i + 1, by show i + 1 ≤ ks.length; omega, by show ks.length - (i + 1) < ks.length - i; omega, ?_⟩
      dsimp only
      rw [hsn, hp, flat_snoc]
      refine Ent.freezeD [(0, 0), (1, 1), (2, 336)] [1] ?_ ?_ rfl rfl rfl
      · simp (maxSteps := 400000) (disch := first | omega | exact okT rfl | simp only [push_cast]) only [push_cast, ↓ite_cnd, ↓reduceIte, Nat.reduceAdd, Nat.reduceMul, Nat.reduceSub, Nat.reduceEqDiff, Nat.reduceBEq, Nat.reduceBNe, Nat.reduceLT, Nat.reduceLeDiff, reduceCtorEq, Op.operands, flat_take_succ, flat_take_all, List.length_append, List.length_cons, List.length_nil]
      · simp (maxSteps := 400000) (disch := first | omega | exact okT rfl | simp only [push_cast]) only [push_cast, ↓ite_cnd, ↓reduceIte, Nat.reduceAdd, Nat.reduceMul, Nat.reduceSub, Nat.reduceEqDiff, Nat.reduceBEq, Nat.reduceBNe, Nat.reduceLT, Nat.reduceLeDiff, reduceCtorEq, Op.operands, flat_take_succ, flat_take_all, List.length_append, List.length_cons, List.length_nil, ecellN]
        try rfl
    · have hp : pE D ks[i] = [] := by unfold pE; rw [hv]; simp only; rw [if_pos (by omega)]
      simp (maxSteps := 400000) (disch := first | omega | exact okT rfl | simp only [push_cast]) only [push_cast, ↓ite_cnd, ↓reduceIte, Nat.reduceAdd, Nat.reduceMul, Nat.reduceSub, Nat.reduceEqDiff, Nat.reduceBEq, Nat.reduceBNe, Nat.reduceLT, Nat.reduceLeDiff, reduceCtorEq, Op.operands, flat_take_succ, flat_take_all, hv, Option.map_some, Option.getD_some, or_true, true_and]
      refine ⟨i + 1, by show i + 1 ≤ ks.length; omega, by show ks.length - (i + 1) < ks.length - i; omega, ?_⟩
      dsimp only
      rw [hsn, hp, List.append_nil]
      refine Ent.freezeD [(0, 0), (1, 1), (2, 2)] [1] ?_ ?_ rfl rfl rfl
      · simp (maxSteps := 400000) (disch := first | omega | exact okT rfl | simp only [push_cast]) only [push_cast, ↓ite_cnd, ↓reduceIte, Nat.reduceAdd, Nat.reduceMul, Nat.reduceSub, Nat.reduceEqDiff, Nat.reduceBEq, Nat.reduceBNe, Nat.reduceLT, Nat.reduceLeDiff, reduceCtorEq, Op.operands, flat_take_succ, flat_take_all]
      · simp (maxSteps := 400000) (disch := first | omega | exact okT rfl | simp only [push_cast]) only [push_cast, ↓ite_cnd, ↓reduceIte, Nat.reduceAdd, Nat.reduceMul, Nat.reduceSub, Nat.reduceEqDiff, Nat.reduceBEq, Nat.reduceBNe, Nat.reduceLT, Nat.reduceLeDiff, reduceCtorEq, Op.operands, flat_take_succ, flat_take_all]
        try rfl
  have hi1 : i = ks.length := by omega
  subst hi1
  simp (maxSteps := 400000) (disch := first | omega | exact okT rfl | simp only [push_cast]) only [push_cast, ↓ite_cnd, ↓reduceIte, Nat.reduceAdd, Nat.reduceMul, Nat.reduceSub, Nat.reduceEqDiff, Nat.reduceBEq, Nat.reduceBNe, Nat.reduceLT, Nat.reduceLeDiff, reduceCtorEq, Op.operands, flat_take_succ, flat_take_all, List.take_length]
  have hd0 : List.flatMap (pE D) ks = (docR D).entries := hd1.symm
  rw [hd0]
  clear hi h4 hd0 hm1 hl1 h1
  refine PCall.useV ((c34 (D.cnts.map (·.1)) _ (idfL_cnts (l := D.cnts)) (by simp) (by simpa using h2)).gam) ?_
  simp (maxSteps := 400000) (disch := first | omega | exact okT rfl | simp only [push_cast]) only [push_cast, ↓ite_cnd, ↓reduceIte, Nat.reduceAdd, Nat.reduceMul, Nat.reduceSub, Nat.reduceEqDiff, Nat.reduceBEq, Nat.reduceBNe, Nat.reduceLT, Nat.reduceLeDiff, reduceCtorEq, Op.operands, flat_take_succ, flat_take_all, List.length_map]
  have hd2 : (docR D).counts = (sortB (D.cnts.map (·.1))).flatMap (pCn D) := rfl
  have hm2 : ∀ k ∈ sortB (D.cnts.map (·.1)), ∃ v, aget D.cnts k = some v := fun k hk => aget_mem (mem_sortB hk)
  have hl2 : D.cnts.length = (sortB (D.cnts.map (·.1))).length := by rw [sortB_length, List.length_map]
  rw [hl2] at h2 ⊢
  generalize (docR D).entries = es
  generalize sortB (D.cnts.map (·.1)) = ks at hd2 hm2 hl2 h2 ⊢
  refine ev_loopI (ι := Nat) (fun i => ⟨[(0, .rop [mvE N D.ents, mvC D.cnts, mvT D.txts]), (2, .ptr 0 0), (3, .ptr 1 0), (46, .seq ks.length 1 (flat scell ks)), (47, .v (.int .i64 ks.length)), (48, .v (.int .i64 i))],
    ⟨[(0, .cells 26 [.v (.slice none 0 0), .v (.slice none 0 0), .v (.slice none 0 0)] false), (1, .cells 26 [.sl 2 0 es.length 2, .sl 3 0 ((ks.take i).flatMap (pCn D)).length 2, .v (.slice none 0 0)] false), (2, .cells 40 (flat (ecellN N) es) true), (3, .cells 55 (flat ccell ((ks.take i).flatMap (pCn D))) true)], 4, 4, 0⟩⟩) (fun i => i ≤ ks.length) (fun i => ks.length - i) 0 (Nat.zero_le _) ?_ ?_
  · refine Ent.freezeD [(0, 0), (1, 1), (2, 2)] [1] ?_ ?_ rfl rfl rfl
    · simp (maxSteps := 400000) (disch := first | omega | exact okT rfl | simp only [push_cast]) only [push_cast, ↓ite_cnd, ↓reduceIte, Nat.reduceAdd, Nat.reduceMul, Nat.reduceSub, Nat.reduceEqDiff, Nat.reduceBEq, Nat.reduceBNe, Nat.reduceLT, Nat.reduceLeDiff, reduceCtorEq, Op.operands, flat_take_succ, flat_take_all]
    · simp (maxSteps := 400000) (disch := first | omega | exact okT rfl | simp only [push_cast]) only [push_cast, ↓ite_cnd, ↓reduceIte, Nat.reduceAdd, Nat.reduceMul, Nat.reduceSub, Nat.reduceEqDiff, Nat.reduceBEq, Nat.reduceBNe, Nat.reduceLT, Nat.reduceLeDiff, reduceCtorEq, Op.operands, flat_take_succ, flat_take_all]
      try rfl
  intro i hi
  simp (maxSteps := 400000) (disch := first | omega | exact okT rfl | simp only [push_cast]) only [push_cast, ↓ite_cnd, ↓reduceIte, Nat.reduceAdd, Nat.reduceMul, Nat.reduceSub, Nat.reduceEqDiff, Nat.reduceBEq, Nat.reduceBNe, Nat.reduceLT, Nat.reduceLeDiff, reduceCtorEq, Op.operands, flat_take_succ, flat_take_all]
  refine ⟨fun h4 => ?_, fun h4 => ?_⟩
  · have hi1 : i < ks.length := by omega
    obtain ⟨v, hv⟩ := hm2 ks[i] (List.getElem_mem hi1)
    have hsn : (ks.take (i + 1)).flatMap (pCn D) = (ks.take i).flatMap (pCn D) ++ pCn D ks[i] := by rw [List.take_succ_eq_append_getElem hi1, List.flatMap_append]; simp
    have hlen := flatMap_le (p := pCn D) (pCn_le D) (ks.take i)
    have hmin : (ks.take i).length = i := by rw [List.length_take]; omega
    rw [hmin] at hlen
    have hp : pCn D ks[i] = [⟨ks[i], v⟩] := by unfold pCn; rw [hv]
    simp (maxSteps := 400000) (disch := first | omega | exact okT rfl | simp only [push_cast]) only [push_cast, ↓ite_cnd, ↓reduceIte, Nat.reduceAdd, Nat.reduceMul, Nat.reduceSub, Nat.reduceEqDiff, Nat.reduceBEq, Nat.reduceBNe, Nat.reduceLT, Nat.reduceLeDiff, reduceCtorEq, Op.operands, flat_take_succ, flat_take_all, hv, Option.map_some, Option.getD_some, or_true, true_and]
    refine ⟨i + 1, by show i + 1 ≤ ks.length; omega, by show ks.length - (i + 1) < ks.length - i; omega, ?_⟩
    dsimp only
    rw [hsn, hp, flat_snoc]
    refine Ent.freezeD [(0, 0), (1, 1), (2, 2), (3, 263)] [1] ?_ ?_ rfl rfl rfl
    · simp (maxSteps := 400000) (disch := first | omega | exact okT rfl | simp only [push_cast]) only [push_cast, ↓ite_cnd, ↓reduceIte, Nat.reduceAdd, Nat.reduceMul, Nat.reduceSub, Nat.reduceEqDiff, Nat.reduceBEq, Nat.reduceBNe, Nat.reduceLT, Nat.reduceLeDiff, reduceCtorEq, Op.operands, flat_take_succ, flat_take_all, List.length_append, List.length_cons, List.length_nil]
    · simp (maxSteps := 400000) (disch := first | omega | exact okT rfl | simp only [push_cast]) only [push_cast, ↓ite_cnd, ↓reduceIte, Nat.reduceAdd, Nat.reduceMul, Nat.reduceSub, Nat.reduceEqDiff, Nat.reduceBEq, Nat.reduceBNe, Nat.reduceLT, Nat.reduceLeDiff, reduceCtorEq, Op.operands, flat_take_succ, flat_take_all, List.length_append, List.length_cons, List.length_nil, ccell]
      try rfl
  have hi1 : i = ks.length := by omega
  subst hi1
  simp (maxSteps := 400000) (disch := first | omega | exact okT rfl | simp only [push_cast]) only [push_cast, ↓ite_cnd, ↓reduceIte, Nat.reduceAdd, Nat.reduceMul, Nat.reduceSub, Nat.reduceEqDiff, Nat.reduceBEq, Nat.reduceBNe, Nat.reduceLT, Nat.reduceLeDiff, reduceCtorEq, Op.operands, flat_take_succ, flat_take_all, List.take_length]
  have hd0 : List.flatMap (pCn D) ks = (docR D).counts := hd2.symm
  rw [hd0]
  clear hi h4 hd0 hm2 hl2 h2
  refine PCall.useV ((c35 (D.txts.map (·.1)) _ (idfL_txts (l := D.txts)) (by simp) (by simpa using h3)).gam) ?_
  simp (maxSteps := 400000) (disch := first | omega | exact okT rfl | simp only [push_cast]) only [push_cast, ↓ite_cnd, ↓reduceIte, Nat.reduceAdd, Nat.reduceMul, Nat.reduceSub, Nat.reduceEqDiff, Nat.reduceBEq, Nat.reduceBNe, Nat.reduceLT, Nat.reduceLeDiff, reduceCtorEq, Op.operands, flat_take_succ, flat_take_all, List.length_map]
  have hd3 : (docR D).texts = (sortB (D.txts.map (·.1))).flatMap (pT D) := rfl
  have hm3 : ∀ k ∈ sortB (D.txts.map (·.1)), ∃ v, aget D.txts k = some v := fun k hk => aget_mem (mem_sortB hk)
  have hl3 : D.txts.length = (sortB (D.txts.map (·.1))).length := by rw [sortB_length, List.length_map]
  rw [hl3] at h3 ⊢
  generalize (docR D).counts = cs
  generalize sortB (D.txts.map (·.1)) = ks at hd3 hm3 hl3 h3 ⊢
  refine ev_loopI (ι := Nat) (fun i => ⟨[(0, .rop [mvE N D.ents, mvC D.cnts, mvT D.txts]), (2, .ptr 0 0), (3, .ptr 1 0), (70, .seq ks.length 1 (flat scell ks)), (71, .v (.int .i64 ks.length)), (72, .v (.int .i64 i))],
    ⟨[(0, .cells 26 [.v (.slice none 0 0), .v (.slice none 0 0), .v (.slice none 0 0)] false), (1, .cells 26 [.sl 2 0 es.length 2, .sl 3 0 cs.length 2, .sl 4 0 ((ks.take i).flatMap (pT D)).length 2] false), (2, .cells 40 (flat (ecellN N) es) true), (3, .cells 55 (flat ccell cs) true), (4, .cells 57 (flat tcell ((ks.take i).flatMap (pT D))) true)], 5, 5, 0⟩⟩) (fun i => i ≤ ks.length) (fun i => ks.length - i) 0 (Nat.zero_le _) ?_ ?_
  · refine Ent.freezeD [(0, 0), (1, 1), (2, 2), (3, 3)] [1] ?_ ?_ rfl rfl rfl
    · simp (maxSteps := 400000) (disch := first | omega | exact okT rfl | simp only [push_cast]) only [push_cast, ↓ite_cnd, ↓reduceIte, Nat.reduceAdd, Nat.reduceMul, Nat.reduceSub, Nat.reduceEqDiff, Nat.reduceBEq, Nat.reduceBNe, Nat.reduceLT, Nat.reduceLeDiff, reduceCtorEq, Op.operands, flat_take_succ, flat_take_all]
    · simp (maxSteps := 400000) (disch := first | omega | exact okT rfl | simp only [push_cast]) only [push_cast, ↓ite_cnd, ↓reduceIte, Nat.reduceAdd, Nat.reduceMul, Nat.reduceSub, Nat.reduceEqDiff, Nat.reduceBEq, Nat.reduceBNe, Nat.reduceLT, Nat.reduceLeDiff, reduceCtorEq, Op.operands, flat_take_succ, flat_take_all]
      try rfl
  intro i hi
  simp (maxSteps := 400000) (disch := first | omega | exact okT rfl | simp only [push_cast]) only [push_cast, ↓ite_cnd, ↓reduceIte, Nat.reduceAdd, Nat.reduceMul, Nat.reduceSub, Nat.reduceEqDiff, Nat.reduceBEq, Nat.reduceBNe, Nat.reduceLT, Nat.reduceLeDiff, reduceCtorEq, Op.operands, flat_take_succ, flat_take_all]
  refine ⟨fun h4 => ?_, fun h4 => ?_⟩
  · have hi1 : i < ks.length := by omega
    obtain ⟨v, hv⟩ := hm3 ks[i] (List.getElem_mem hi1)
    have hsn : (ks.take (i + 1)).flatMap (pT D) = (ks.take i).flatMap (pT D) ++ pT D ks[i] := by rw [List.take_succ_eq_append_getElem hi1, List.flatMap_append]; simp
    have hlen := flatMap_le (p := pT D) (pT_le D) (ks.take i)
    have hmin : (ks.take i).length = i := by rw [List.length_take]; omega
    rw [hmin] at hlen
    simp (maxSteps := 400000) (disch := first | omega | exact okT rfl | simp only [push_cast]) only [push_cast, ↓ite_cnd, ↓reduceIte, Nat.reduceAdd, Nat.reduceMul, Nat.reduceSub, Nat.reduceEqDiff, Nat.reduceBEq, Nat.reduceBNe, Nat.reduceLT, Nat.reduceLeDiff, reduceCtorEq, Op.operands, flat_take_succ, flat_take_all, hv, Option.map_some, Option.getD_some, or_true, true_and]
    refine ⟨fun hv0 => ?_, fun hv0 => ?_⟩
    · have hp : pT D ks[i] = [⟨ks[i], v⟩] := by unfold pT; rw [hv]; simp only; rw [if_neg hv0]
      simp (maxSteps := 400000) (disch := first | omega | exact okT rfl | simp only [push_cast]) only [push_cast, ↓ite_cnd, ↓reduceIte, Nat.reduceAdd, Nat.reduceMul, Nat.reduceSub, Nat.reduceEqDiff, Nat.reduceBEq, Nat.reduceBNe, Nat.reduceLT, Nat.reduceLeDiff, reduceCtorEq, Op.operands, flat_take_succ, flat_take_all, hv, Option.map_some, Option.getD_some, or_true, true_and]
      refine ⟨i + 1, by show i + 1 ≤ ks.length; omega, by show ks.length - (i + 1) < ks.length - i; omega, ?_⟩
      dsimp only
      rw [hsn, hp, flat_snoc]
      refine Ent.freezeD [(0, 0), (1, 1), (2, 2), (3, 3), (4, 393)] [1] ?_ ?_ rfl rfl rfl
      · simp (maxSteps := 400000) (disch := first | omega | exact okT rfl | simp only [push_cast]) only [push_cast, ↓ite_cnd, ↓reduceIte, Nat.reduceAdd, Nat.reduceMul, Nat.reduceSub, Nat.reduceEqDiff, Nat.reduceBEq, Nat.reduceBNe, Nat.reduceLT, Nat.reduceLeDiff, reduceCtorEq, Op.operands, flat_take_succ, flat_take_all, List.length_append, List.length_cons, List.length_nil]
      · simp (maxSteps := 400000) (disch := first | omega | exact okT rfl | simp only [push_cast]) only [push_cast, ↓ite_cnd, ↓reduceIte, Nat.reduceAdd, Nat.reduceMul, Nat.reduceSub, Nat.reduceEqDiff, Nat.reduceBEq, Nat.reduceBNe, Nat.reduceLT, Nat.reduceLeDiff, reduceCtorEq, Op.operands, flat_take_succ, flat_take_all, List.length_append, List.length_cons, List.length_nil, tcell]
        try rfl
    · have hp : pT D ks[i] = [] := by unfold pT; rw [hv]; simp only; rw [if_pos hv0]
      simp (maxSteps := 400000) (disch := first | omega | exact okT rfl | simp only [push_cast]) only [push_cast, ↓ite_cnd, ↓reduceIte, Nat.reduceAdd, Nat.reduceMul, Nat.reduceSub, Nat.reduceEqDiff, Nat.reduceBEq, Nat.reduceBNe, Nat.reduceLT, Nat.reduceLeDiff, reduceCtorEq, Op.operands, flat_take_succ, flat_take_all, hv, Option.map_some, Option.getD_some, or_true, true_and]
      refine ⟨i + 1, by show i + 1 ≤ ks.length; omega, by show ks.length - (i + 1) < ks.length - i; omega, ?_⟩
      dsimp only
      rw [hsn, hp, List.append_nil]
      refine Ent.freezeD [(0, 0), (1, 1), (2, 2), (3, 3), (4, 4)] [1] ?_ ?_ rfl rfl rfl
      · simp (maxSteps := 400000) (disch := first | omega | exact okT rfl | simp only [push_cast]) only [push_cast, ↓ite_cnd, ↓reduceIte, Nat.reduceAdd, Nat.reduceMul, Nat.reduceSub, Nat.reduceEqDiff, Nat.reduceBEq, Nat.reduceBNe, Nat.reduceLT, Nat.reduceLeDiff, reduceCtorEq, Op.operands, flat_take_succ, flat_take_all]
      · simp (maxSteps := 400000) (disch := first | omega | exact okT rfl | simp only [push_cast]) only [push_cast, ↓ite_cnd, ↓reduceIte, Nat.reduceAdd, Nat.reduceMul, Nat.reduceSub, Nat.reduceEqDiff, Nat.reduceBEq, Nat.reduceBNe, Nat.reduceLT, Nat.reduceLeDiff, reduceCtorEq, Op.operands, flat_take_succ, flat_take_all]
        try rfl
  have hi1 : i = ks.length := by omega
  subst hi1
  simp (maxSteps := 400000) (disch := first | omega | exact okT rfl | simp only [push_cast]) only [push_cast, ↓ite_cnd, ↓reduceIte, Nat.reduceAdd, Nat.reduceMul, Nat.reduceSub, Nat.reduceEqDiff, Nat.reduceBEq, Nat.reduceBNe, Nat.reduceLT, Nat.reduceLeDiff, reduceCtorEq, Op.operands, flat_take_succ, flat_take_all, List.take_length]
  have hd0 : List.flatMap (pT D) ks = (docR D).texts := hd3.symm
  rw [hd0]
  refine ⟨.sl 2 0 es.length 2, .sl 3 0 cs.length 2, .sl 4 0 (docR D).texts.length 2, ?_, _, _, Wk_refl _, Wk_refl _, ?_⟩
  · simp (maxSteps := 400000) (disch := first | omega | exact okT rfl | simp only [push_cast]) only [push_cast, ↓ite_cnd, ↓reduceIte, Nat.reduceAdd, Nat.reduceMul, Nat.reduceSub, Nat.reduceEqDiff, Nat.reduceBEq, Nat.reduceBNe, Nat.reduceLT, Nat.reduceLeDiff, reduceCtorEq, Op.operands, flat_take_succ, flat_take_all, Option.map_none]
    try rfl
  · refine Ent.freeze [(0, 2)] ?_ ?_ rfl rfl rfl
    · simp (maxSteps := 400000) (disch := first | omega | exact okT rfl | simp only [push_cast]) only [push_cast, ↓ite_cnd, ↓reduceIte, Nat.reduceAdd, Nat.reduceMul, Nat.reduceSub, Nat.reduceEqDiff, Nat.reduceBEq, Nat.reduceBNe, Nat.reduceLT, Nat.reduceLeDiff, reduceCtorEq, Op.operands, flat_take_succ, flat_take_all]
    · simp (maxSteps := 400000) (disch := first | omega | exact okT rfl | simp only [push_cast]) only [push_cast, ↓ite_cnd, ↓reduceIte, Nat.reduceAdd, Nat.reduceMul, Nat.reduceSub, Nat.reduceEqDiff, Nat.reduceBEq, Nat.reduceBNe, Nat.reduceLT, Nat.reduceLeDiff, reduceCtorEq, Op.operands, flat_take_succ, flat_take_all]
      try rfl
end Go.AW
