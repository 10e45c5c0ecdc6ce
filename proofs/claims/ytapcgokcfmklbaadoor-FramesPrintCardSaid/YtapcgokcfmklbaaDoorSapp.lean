/-
  A string's bytes appended to a row of bytes; a row of bytes read as a string (strings.Builder). No program in sight. Conditions: none.
-/
import Derived.Test.YtapcgokcfmklbaaDoorStr
import Derived.Lib.Builder
namespace Go.Proofs.YtapcgokcfmklbaaDoor
open Go Go.RowKit

section
variable {P : Program} {W : World} {n : Nat} {ops : Array Oper} {Q : Env → HL → Prop} {rest : List Oper} {e : Env} {H : HL}
variable {d : Tmp} {ty t t2 : TypeId} {pos : String} {af : Array Edge} {x y : Operand} {v : Value}
theorem u8ok_ex {el : TypeId} (he : u8ok P el = true) : ∃ i, P.info? el = some i ∧ i.zero = some (.int .u8 0) ∧ i.size = 1 ∧ i.bytes = 1 := by
  unfold u8ok at he
  split at he
  · rename_i i hi
    simp only [Bool.and_eq_true, beq_iff_eq] at he
    obtain ⟨⟨hz, hsz⟩, hby⟩ := he
    refine ⟨i, hi, ?_, hsz, hby⟩
    split at hz
    · assumption
    · cases hz
  · cases he
theorem RS.appendStr {el : TypeId} {l : Nat} {s : List UInt8} {xs : List Value} {Hr H' : HL} (hd : Nat.blt d n = true) (hu : P.underlying t = some (.slice el)) (hus : P.underlying t2 = some .string) (he : u8ok P el = true)
    (hx : ev e x = v) (hrow : Row el 1 v l xs Hr) (hs : H.Perm (Hr ++ H')) (hy : ev e y = sv s) (h63 : l + s.length ≤ 140737488355328)
    (k : ∀ v' Hr', Row el 1 v' (l + s.length) (xs ++ bc s) Hr' → RS P W n ops Q rest (put e d v') (Hr' ++ H')) :
    RS P W n ops Q (⟨some d, .call ⟨.builtin .append, #[x, y], #[t, t2]⟩, ty, pos, af, none⟩ :: rest) e H := by
  refine RS.step (d := some d) hd fun w ho => ?_
  obtain ⟨i, hi, hz, hsz, hby⟩ := u8ok_ex he
  have hp := ho.perm hs
  have hsl : (⟨s.toArray⟩ : ByteArray).size = s.length := rfl
  have hml : l + s.length ≤ maxLen := by unfold maxLen; omega
  have fin : ∀ (cs : List Value) (cap : Nat) (w' : World) (g : Nat), (∀ b ∈ H', b.g ≠ g) → W.heap.size ≤ g → w'.heap[g]? = some (.cells cs.toArray el (0, 0)) → Below W.heap.size W w' → (∀ b ∈ H', Blk w' b) → Own W w' (⟨g, el, cs⟩ :: H') := by
    intro cs cap w' g h1 h2 h3 h4 h5
    have hne : H'.Pairwise (fun a b => a.g ≠ b.g) := (List.pairwise_append.1 hp.ne).2.1
    refine ⟨h4, fun b hb => ?_, List.pairwise_cons.2 ⟨fun b hb => (h1 b hb).symm, hne⟩⟩
    rcases List.mem_cons.1 hb with rfl | hb
    · exact ⟨h2, h3⟩
    · exact ⟨(hp.blk b (List.mem_append_right _ hb)).1, h5 b hb⟩
  have hrun : ∀ v' w', (Builtin.append_ #[t, t2] ty #[v, .string ⟨s.toArray⟩]).run P w = .ok v' w' → (execOp (ev e) ⟨some d, .call ⟨.builtin .append, #[x, y], #[t, t2]⟩, ty, pos, af, none⟩).run P w = .ok (.value v') w' := by
    intro v' w' r1
    simp only [execOp, resolve, invoke, builtin, Sem.run_bind, Sem.run_pure, Result.andThen_ok, List.map_toArray, List.map_cons, List.map_nil, hx, hy, r1]
  have new : ∀ (junk : List Value) (cap : Nat) (b : Array Value), b.toList = xs ++ bc s ++ junk → Own W (w.drew.alloc (.cells b el)) (⟨w.heap.size, el, xs ++ bc s ++ junk⟩ :: H') := by
    intro junk cap b hb
    refine fin _ cap _ _ (fun b hb => ?_) ho.below.size ?_ ?_ (fun b hb => ?_)
    · have := (hp.blk b (List.mem_append_right _ hb)).2.lt
      omega
    · rw [← hb]
      exact heap_alloc_new w.drew _
    · exact ho.below.grown ⟨rfl, rfl, rfl, by simp, fun k hk _ => heap_alloc_old w.drew _ hk⟩ ho.below.size (row := none) (fun k hk => by simp at hk)
    · have h6 := (hp.blk b (List.mem_append_right _ hb)).2
      have h7 : b.g < w.drew.heap.size := h6.lt
      unfold Blk at h6 ⊢
      exact (heap_alloc_old w.drew _ h7).trans h6
  have zz : (Value.int IntKind.u8 0).cells.size = 1 := rfl
  have szl : (Lib.strCells ⟨s.toArray⟩).length = s.length := by rw [bc_cells, bc_len]
  cases hrow with
  | nil =>
    rw [Nat.zero_add] at h63 hml
    by_cases hm : s.length = 0
    · have hs0 : s = [] := List.eq_nil_of_length_eq_zero hm
      subst hs0
      have hr : (Builtin.append_ #[t, t2] ty #[.slice none 0 0, .string ⟨([] : List UInt8).toArray⟩]).run P w = .ok (.slice none 0 0) w := by
        have hf := Lib.run_firstCells_string (P := P) w 1 ⟨([] : List UInt8).toArray⟩
        have h0 : (⟨([] : List UInt8).toArray⟩ : ByteArray).size = 0 := rfl
        rw [h0] at hf
        simp [Builtin.append_, run_underlying hu, run_underlying hus, sizeOf, typeInfo, hi, hsz, Builtin.lenOf, h0, hf]
      exact ⟨_, _, _, hrun _ _ hr, by simpa using hp, k _ [] .nil⟩
    · have hr := run_append_nil_string (P := P) w t t2 ty el i (.int .u8 0) hu hus hi hz ⟨s.toArray⟩ (by omega) (by rw [hsl]; omega) (by rw [hby, hsl]; omega)
      have hge := grownCap_ge w s.length 0 el
      have hgm := grownCap_le_maxLen w s.length 0 el hml
      have zl : (Builtin.zeroCells (Value.int .u8 0).cells (grownCap w s.length 0 el - s.length)).toList.length = grownCap w s.length 0 el - s.length := by rw [Array.length_toList, size_zeroCells, zz, Nat.mul_one]
      refine ⟨_, _, _, hrun _ _ hr, new (Builtin.zeroCells (Value.int .u8 0).cells (grownCap w s.length 0 el - s.length)).toList (grownCap w s.length 0 el) _ ?_, ?_⟩
      · rw [Array.toList_append, List.nil_append, bc, Array.toList_map]; rfl
      · have hr2 : Row el 1 (.slice (some ⟨w.heap.size, 0, none⟩) s.length (grownCap w s.length 0 el)) (0 + s.length) ([] ++ bc s) [⟨w.heap.size, el, [] ++ bc s ++ (Builtin.zeroCells (Value.int .u8 0).cells (grownCap w s.length 0 el - s.length)).toList⟩] := by
          rw [Nat.zero_add]
          refine .own (by rw [List.nil_append, bc_len, Nat.mul_one]) ?_ hge hgm
          rw [List.nil_append, bc_len, zl]; omega
        exact k _ _ hr2
  | @own g _ cap _ junk hl hc hn hm =>
    have hg := (hp.blk ⟨g, el, xs ++ junk⟩ (by simp)).2
    have hg1 := (hp.blk ⟨g, el, xs ++ junk⟩ (by simp)).1
    have hdis : ∀ b ∈ H', b.g ≠ g := fun b hb hbg => by
      have := (List.pairwise_append.1 hp.ne).2.2 ⟨g, el, xs ++ junk⟩ (by simp) b hb
      exact this hbg.symm
    by_cases hroom : l + s.length ≤ cap
    · have hr := Lib.run_append_room_string (P := P) w t t2 ty el i hu hus hi hsz g l cap _ hg ⟨s.toArray⟩ (by rw [hsl]; exact hroom) (by rw [hsl]; simp; omega)
      rw [hsl] at hr
      have hcs : (⟨s.toArray⟩ : ByteArray) = ⟨s.toArray⟩ := rfl
      have e1 : (xs ++ junk).toArray.toList.take l ++ Lib.strCells ⟨s.toArray⟩ ++ (xs ++ junk).toArray.toList.drop (l + s.length) = (xs ++ bc s) ++ junk.drop s.length := by
        have e2 : (xs ++ junk).take l = xs := by rw [show l = xs.length by omega]; exact List.take_left
        have e3 : (xs ++ junk).drop (l + s.length) = junk.drop s.length := by rw [show l = xs.length by omega, List.drop_append, List.drop_eq_nil_of_le (by omega), List.nil_append]; congr 1; omega
        show (xs ++ junk).take l ++ _ ++ (xs ++ junk).drop (l + s.length) = _
        rw [e2, e3, bc_cells]
      rw [e1] at hr
      have hown : Own W (w.setRow g ((xs ++ bc s) ++ junk.drop s.length).toArray) (⟨g, el, (xs ++ bc s) ++ junk.drop s.length⟩ :: H') := by
        refine fin _ cap _ _ hdis hg1 (setRow_heap w g _ _ el _ hg) ?_ (fun b hb => ?_)
        · exact ho.below.grown ⟨rfl, rfl, rfl, by simp, fun k _ hk => setRow_other w g k _ (fun e => hk (by simp [e]))⟩ ho.below.size (row := some g) (fun k hk => by simp only [Option.some.injEq] at hk; subst hk; exact hg1)
        · have h6 := (hp.blk b (List.mem_append_right _ hb)).2
          unfold Blk at h6 ⊢
          exact (setRow_other w g b.g _ (hdis b hb)).trans h6
      have hr2 : Row el 1 (.slice (some ⟨g, 0, none⟩) (l + s.length) cap) (l + s.length) (xs ++ bc s) [⟨g, el, (xs ++ bc s) ++ junk.drop s.length⟩] :=
        .own (by rw [List.length_append, bc_len]; omega) (by rw [List.length_append, bc_len, List.length_drop]; omega) hroom hm
      exact ⟨_, _, _, hrun _ _ hr, hown, k _ _ hr2⟩
    · have hr := Lib.run_append_grow_string (P := P) w t t2 ty el i (.int .u8 0) hu hus hi hz ⟨g, 0, none⟩ l cap xs (by rw [hsz]; exact hl) (fun j u hj => by
        rw [addr_add, Nat.zero_add, (hp.blk ⟨g, el, xs ++ junk⟩ (by simp)).2.cell]
        show (xs ++ junk)[j]? = some u
        rw [List.getElem?_append_left (List.getElem?_eq_some_iff.1 hj).1]; exact hj) ⟨s.toArray⟩ (by rw [hsl]; omega) (by rw [hsl]; omega) (by rw [hby, hsl]; exact growslice_fits (by omega) (by omega))
      rw [hsl] at hr
      have hge := grownCap_ge w (l + s.length) cap el
      have hgm := grownCap_le_maxLen w (l + s.length) cap el hml
      have zl : (Builtin.zeroCells (Value.int .u8 0).cells (grownCap w (l + s.length) cap el - (l + s.length))).toList.length = grownCap w (l + s.length) cap el - (l + s.length) := by rw [Array.length_toList, size_zeroCells, zz, Nat.mul_one]
      refine ⟨_, _, _, hrun _ _ hr, new (Builtin.zeroCells (Value.int .u8 0).cells (grownCap w (l + s.length) cap el - (l + s.length))).toList (grownCap w (l + s.length) cap el) _ ?_, ?_⟩
      · rw [Array.toList_append, Array.toList_append, bc_cells]
      · have hr2 : Row el 1 (.slice (some ⟨w.heap.size, 0, none⟩) (l + s.length) (grownCap w (l + s.length) cap el)) (l + s.length) (xs ++ bc s) [⟨w.heap.size, el, xs ++ bc s ++ (Builtin.zeroCells (Value.int .u8 0).cells (grownCap w (l + s.length) cap el - (l + s.length))).toList⟩] := by
          refine .own (by rw [List.length_append, bc_len]; omega) ?_ hge hgm
          rw [List.length_append, bc_len, zl]; omega
        exact k _ _ hr2
end
end Go.Proofs.YtapcgokcfmklbaaDoor
