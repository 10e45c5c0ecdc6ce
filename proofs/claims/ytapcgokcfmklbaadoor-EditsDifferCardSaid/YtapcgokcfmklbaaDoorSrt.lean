/-
  The library's sort and compact of integers, over a block of the call's own. Conditions: as each theorem says.
-/
import Derived.Test.YtapcgokcfmklbaaDoorShelf
import Derived.Test.YtapcgokcfmklbaaDoorMut
import Derived.Sort.OwnSortedInts
import Derived.Lib.RowBridge
namespace Go.Proofs.YtapcgokcfmklbaaDoor
open Go Go.RowKit Go.Sort

theorem putCells_app (ts : List Int) (xs junk : List Value) (h : ts.length = xs.length) : (putCells (Value.int .i64) 0 ts.toArray (xs ++ junk).toArray) = (ts.map (Value.int .i64) ++ junk).toArray := by
  apply Array.ext_getElem?
  intro j
  unfold putCells
  simp only [Array.getElem?_mapIdx, List.getElem?_toArray]
  by_cases hj : j < ts.length
  · rw [List.getElem?_append_left (by omega), List.getElem?_append_left (by simpa using hj), List.getElem?_eq_getElem (by omega), List.getElem?_map, List.getElem?_eq_getElem hj]
    simp [hj]
  · rw [List.getElem?_append_right (by omega), List.getElem?_append_right (by simpa using hj), List.length_map, h]
    cases hc : junk[j - xs.length]? with
    | none => rfl
    | some v => simp; intro h2; omega
theorem Own.sorted {W w : World} {g n : Nat} {os : Array Obj} {e : TypeId} {xs junk : List Value} {ts : List Int} {HR : HL} (ho : Own W w (⟨g, e, xs ++ junk⟩ :: HR)) (h : ts.length = xs.length) :
    Own W (grow (putRow (Value.int .i64) (Sort.ahead w n) g 0 ts.toArray) os) (⟨g, e, ts.map (Value.int .i64) ++ junk⟩ :: HR) := by
  obtain ⟨hg1, hg2⟩ := ho.blk _ (List.mem_cons_self ..)
  have r3 := grownBy_sortedI (w := w) (g := g) (n := n) (os := os) ts.toArray
  refine ⟨ho.below.grown r3 ho.below.size (fun k hk => by simp only [Option.some.injEq] at hk; subst hk; exact hg1), fun b hb => ?_, ?_⟩
  · rcases List.mem_cons.1 hb with rfl | hb
    · refine ⟨hg1, ?_⟩
      have h3 := heap_sortedI (n := n) (os := os) ts.toArray hg2
      unfold Blk
      rw [← putCells_app ts xs junk h]
      exact h3
    · have h2 := ho.blk b (List.mem_cons_of_mem _ hb)
      refine ⟨h2.1, (r3.block b.g h2.2.lt ?_).trans h2.2⟩
      intro hbg
      simp only [Option.some.injEq] at hbg
      exact (List.pairwise_cons.1 ho.ne).1 b hb hbg.symm
  · exact List.pairwise_cons.2 ⟨(List.pairwise_cons.1 ho.ne).1, (List.pairwise_cons.1 ho.ne).2⟩
/-- sorted -/
def srt (zs : List Int) : List Int := zs.mergeSort fun x y => decide (x ≤ y)
theorem srt_len (zs : List Int) : (srt zs).length = zs.length := List.length_mergeSort _
theorem own_holds {W w : World} {g : Nat} {e : TypeId} {zs : List Int} {junk : List Value} {HR : HL} (ho : Own W w (⟨g, e, zs.map (Value.int .i64) ++ junk⟩ :: HR)) : Holds (Value.int .i64) w g 0 zs.toArray := by
  have hg2 := (ho.blk _ (List.mem_cons_self ..)).2
  refine holds_of_blockI (e := e) hg2 ?_
  show (zs.map (Value.int .i64) ++ junk).take zs.length = _
  rw [List.take_left' (by simp)]
theorem sortI (g cap : Nat) (zs : List Int) (junk : List Value) (HR : HL) (W : World) (e : TypeId) (hz : zs.length < 4611686018427387904) : FnH Tryd.prog 98 #[.slice (some ⟨g, 0, none⟩) zs.length cap] W (⟨g, e, zs.map (Value.int .i64) ++ junk⟩ :: HR)
    (fun v H => v = .tuple #[] ∧ H = ⟨g, e, (srt zs).map (Value.int .i64) ++ junk⟩ :: HR) := by
  intro w ho
  have hg2 := (ho.blk _ (List.mem_cons_self ..)).2
  refine Calls.mono (Tryd.slices_Sort_int g 0 cap zs w (own_holds ho) hg2.lt hz) ?_
  rintro x w' ⟨rfl, n, os, rfl⟩
  exact ⟨_, _, rfl, ho.sorted (by simp), rfl, rfl⟩
/-- each number once -/
def cmpI (zs : List Int) : List Int := Lib.compact zs
theorem compactI (g cap n : Nat) (zs : List Int) (junk : List Value) (HR : HL) (W : World) (e : TypeId) (hn : zs.length = n) (hz : n ≤ 9223372036854775807) (hc : n ≤ cap) : FnH Tryd.prog 99 #[.slice (some ⟨g, 0, none⟩) n cap] W (⟨g, e, zs.map (Value.int .i64) ++ junk⟩ :: HR)
    (fun v H => v = .slice (some ⟨g, 0, none⟩) (cmpI zs).length cap ∧ H = ⟨g, e, (cmpI zs ++ List.replicate (n - (cmpI zs).length) 0).map (Value.int .i64) ++ junk⟩ :: HR) := by
  subst hn
  intro w ho
  refine Calls.mono (Tryd.slices_Compact_int g 0 cap zs w (own_holds ho) hz hc) ?_
  rintro x w' ⟨rfl, q, rfl⟩
  have hle := Lib.compact_length_le zs
  have h := ho.sorted (n := q) (os := #[]) (ts := Lib.compact zs ++ List.replicate (zs.length - (Lib.compact zs).length) 0) (by simp; omega)
  rw [grow_empty] at h
  exact ⟨_, _, rfl, h, rfl, rfl⟩
end Go.Proofs.YtapcgokcfmklbaaDoor
