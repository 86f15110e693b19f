/- slices.Sort at []string, as the evaluator takes it. -/
import Derived.Test.YteoodenfggmpfaaFe
import Derived.Test.YteoodenfggmpfaaCZ13
import Derived.Test.YteoodenfggmpfaaCZ12
namespace Go.AW
open Proofs Go.Sort

set_option linter.unusedSimpArgs false
set_option linter.unusedVariables false
set_option maxRecDepth 100000

def sortB (zs : List ByteArray) : List ByteArray := ((zs.map (·.data.toList)).mergeSort fun x y => decide (x ≤ y)).map fun l => ⟨l.toArray⟩
theorem sortB_length (zs : List ByteArray) : (sortB zs).length = zs.length := by simp [sortB]

theorem c41_nil : PCall Try.prog [] 41 [.seq 0 1 []] (.tup []) := PCall.closed 100000 30 fol (by kernel_rfl)

theorem flat_scell (zs : List ByteArray) : flat scell zs = (zs.map Value.string).map .v := by
  induction zs with
  | nil => rfl
  | cons z zs ih => simp only [flat, List.flatMap_cons, scell, List.map_cons] at *; rw [ih]; rfl

theorem Ext.raise {n0 n1 : Nat} {m m' : Mem} {S S' μ w w'} (h : Ext n0 m S μ w m' S' μ w') (ho : ∀ o, m'.find o ≠ none → m.find o ≠ none) (hn : n1 ≤ m'.next) : Ext n1 m S μ w m' S' μ w' :=
  ⟨h.os, h.tape, h.output, h.size, fun _ _ => rfl, fun o _ hf => ho o hf, hn, h.sub, h.new, h.cell, h.map, h.blk, h.bsz, h.uf⟩
theorem size_putCells (enc : List UInt8 → Value) (off : Nat) (d : Array (List UInt8)) (c : Array Value) : (putCells enc off d c).size = c.size := by simp [putCells]

theorem sort_call {γ : GTab} {m : Mem} {o : Nat} {zs : List ByteArray} {ap : Bool} {K : AV → Mem → Prop} (hf : m.find o = some (.cells 9 (flat scell zs) ap)) (hz : zs.length < 4611686018427387904)
    (hK : K (.tup []) (m.upd [(o, .cells 9 (flat scell (sortB zs)) ap)])) : ACalls Try.prog γ 41 [.sl o 0 zs.length 1] m K := by
  rcases Nat.eq_zero_or_pos zs.length with h0 | hpos
  · have hzs : zs = [] := List.eq_nil_of_length_eq_zero h0
    subst hzs
    have hs : snapArgs m.find [.sl o 0 0 1] = some ([.seq 0 1 []], [o]) := by
      simp only [snapArgs, snap, hf]
      simp [flat, snapL, idfL]
    refine ⟨c41_nil.2.2.1, fun S μ w vs hr hG hx => ?_⟩
    refine ((c41_nil.gam (γ := γ)).run hs (.inl rfl) hr hG hx).mono fun e w' he => ?_
    obtain ⟨v, S', rfl, h1, h2, h3, h4⟩ := he
    have hsame : ∀ q, m.find q = (m.upd [(o, .cells 9 (flat scell (sortB [])) ap)]).find q := fun q => by
      rw [find_upd1]
      split
      · rename_i e; subst e; rw [hf, show sortB [] = [] by simp [sortB]]
      · rfl
    refine ⟨v, .tup [], m.upd [(o, .cells 9 (flat scell (sortB [])) ap)], S', μ, rfl, rfl, rfl, h1.same hsame rfl rfl rfl, (h3 _ (Nat.le_refl _)).same hsame rfl, h4, hK⟩
  · refine ⟨c41_nil.2.2.1, fun S μ w vs hr hG hx => ?_⟩
    simp only [RepL] at hx
    obtain ⟨v, z0, rfl, hv, rfl⟩ := hx
    simp only [Rep] at hv
    obtain ⟨base, cap, rfl, hcap, hbase⟩ := hv
    obtain ⟨b, bo, hμ, rfl, hsz⟩ := hbase.resolve_left (by omega)
    obtain ⟨ys, c, fz, g1, g2, g3, g4, g5, g6, g7⟩ := obj_cells hr hf hμ
    have hys : ys = zs.map Value.string := RepL.vals (by rw [← flat_scell]; exact g3)
    subst hys
    have hblk : b < w.heap.size := hr.bk o b bo hμ
    have hlen : (zs.map (·.data.toList)).length = zs.length := by simp
    have hHolds : Holds encStr w b (bo + 0) (zs.map (·.data.toList)).toArray := by
      intro j hj
      have hj' : j < zs.length := by simpa using hj
      have hc := g6 j (by simpa using hj')
      have hjc : bo + j < c.size := by simp at g5; omega
      refine ⟨?_, ?_⟩
      · rw [cell_of_row w b _ c 9 fz g1]
        rw [Nat.add_zero, hc]
        simp [hj', encStr]
      · have := g2 (bo + j) hjc
        simp only [World.frozen?, g1]
        simpa using this
    have hrun := Try.sort_c b (bo + 0) cap (zs.map (·.data.toList)) w hHolds hblk (by simpa using hz)
    rw [hlen] at hrun
    refine hrun.mono fun e w' he => ?_
    obtain ⟨rfl, n, os, hw'⟩ := he
    let zs' := (zs.map (·.data.toList)).mergeSort fun x y => decide (x ≤ y)
    have hzl : zs'.length = zs.length := by simp [zs']
    let w1 : World := putRow encStr (Sort.ahead w n) b (bo + 0) zs'.toArray
    have hb1 : w1.heap[b]? = some (.cells (putCells encStr (bo + 0) zs'.toArray c) 9 fz) := by
      simp [w1, putRow, mapBlock, Sort.ahead, Array.getElem?_modify, g1, onCells]
    have ho1 : ∀ k, k ≠ b → w1.heap[k]? = w.heap[k]? := fun k hk => by
      simp [w1, putRow, mapBlock, Sort.ahead, Array.getElem?_modify, Ne.symm hk]
    have haft : After S μ w m [(o, .cells 9 (flat scell (sortB zs)) ap)] μ w1 := by
      refine After.set hr hf rfl rfl hμ ho1 (by simp [w1, Sort.ahead]) ?_ rfl rfl rfl (fun hk => ?_) g7 (fun _ => uo_uf hb1 (by simpa [Uo, size_putCells] using g2))
      · simp [bsize, hb1, g1, size_putCells]
      · simp only [RepO]
        refine .inr ⟨b, bo, (sortB zs).map Value.string, _, fz, hμ, hb1, by simpa [size_putCells] using g2, by rw [flat_scell]; exact RepL.of_vals _, by simp [Value.oneCell'], by simp [size_putCells, sortB_length]; simp at g5; exact g5, fun j hj => ?_, g7⟩
        have hj' : j < zs.length := by simpa [sortB_length] using hj
        simp only [List.length_map] at g5
        have hjc : bo + j < c.size := by omega
        simp only [putCells, Array.getElem?_mapIdx]
        simp [hjc, sortB, zs', hzl, hj']
    obtain ⟨h1, h2, h3⟩ := frame0 (S' := S) (w' := w') haft.rm (fun _ _ h => h) (fun _ _ _ h => h) (fun b off h => by have := haft.rm.old b off h; rw [hw']; simp only [size_grow]; change b < w1.heap.size at this; show b < w1.heap.size + _; omega) (by rw [hw']; simp only [size_grow]; show w1.heap.size ≤ w1.heap.size + _; omega)
      (fun k hk => by rw [hw']; exact heap_grow_old _ _ hk) (fun k hk hu => uf_of_heap (by rw [hw']; exact heap_grow_old _ _ hk) hu) (by rw [hw']; rfl) (by rw [hw']; rfl) (by rw [hw']; rfl)
    refine ⟨_, .tup [], m.upd [(o, .cells 9 (flat scell (sortB zs)) ap)], S, μ, rfl, rfl, rfl, h1, ?_, by simp [Rep, RepL], hK⟩
    have he1 : Ext m.next m S μ w (m.upd [(o, .cells 9 (flat scell (sortB zs)) ap)]) S μ w1 := haft.ext.raise (fun q hq => by
      rw [find_upd1] at hq
      split at hq
      · rename_i e; subst e; rw [hf]; simp
      · exact hq) (Nat.le_refl _)
    exact he1.trans (Nat.le_refl _) (h3 _ (Nat.le_refl _))
end Go.AW
