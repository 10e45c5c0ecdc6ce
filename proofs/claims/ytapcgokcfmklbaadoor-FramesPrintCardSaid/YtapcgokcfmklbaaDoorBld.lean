/-
  What strings.Builder does with pointers and bytes: operations. No program in sight. Conditions: none.
-/
import Derived.Test.YtapcgokcfmklbaaDoorSapp
import Derived.Lib.UnsafeStr
namespace Go.Proofs.YtapcgokcfmklbaaDoor
open Go Go.RowKit

section
variable {P : Program} {W : World} {H : HL} {e : Env} {x y : Operand} {t t' te ty : TypeId} {a : Addr}
theorem QO.ptrNilT (hp : P.underlying t = some (.pointer te)) (hx : ev e x = .pointer none) (hy : ev e y = .pointer none) : QO P W H e (.binOp .eql t x y t') ty (.bool true) := by
  refine QO.bin hx hy (fun w => ?_)
  have h1 : (eqGuard .eql t x y (.pointer none) (.pointer none)).run P w = .ok () w := by simp [eqGuard]
  simp only [Sem.run_bind, h1, Result.andThen_ok]
  have h : ∀ d : Nat, (Op.equalIn (d + 1) t (.pointer none) (.pointer none)).run P w = .ok true w := fun d => by
    simp [Op.equalIn, run_underlying hp]
  simp only [binOp]
  simp [Op.equal, Op.maxDepth, h 9999]
theorem QO.ptrNilF (hp : P.underlying t = some (.pointer te)) (hx : ev e x = .pointer (some a)) (hy : ev e y = .pointer none) : QO P W H e (.binOp .eql t x y t') ty (.bool false) := by
  refine QO.bin hx hy (fun w => ?_)
  have h1 : (eqGuard .eql t x y (.pointer (some a)) (.pointer none)).run P w = .ok () w := by simp [eqGuard]
  simp only [Sem.run_bind, h1, Result.andThen_ok]
  have h : ∀ d : Nat, (Op.equalIn (d + 1) t (.pointer (some a)) (.pointer none)).run P w = .ok false w := fun d => by
    simp [Op.equalIn, run_underlying hp]
  simp only [binOp]
  simp [Op.equal, Op.maxDepth, h 9999]
theorem QO.ptrNe {z : List Value} {ag : Bool} {by_ : Nat} (hp : P.underlying t = some (.pointer te)) (he : tyChk P te = some (z, ag, by_)) (hx : ev e x = .pointer (some a)) (hy : ev e y = .pointer (some a)) : QO P W H e (.binOp .neq t x y t') ty (.bool false) := by
  obtain ⟨i, zv, ds, hi, hds, hzz, hs, hc, ha, hb⟩ := (tyF he).ex
  refine QO.bin hx hy (fun w => ?_)
  have h1 : (eqGuard .neq t x y (.pointer (some a)) (.pointer (some a))).run P w = .ok () w := by simp [eqGuard]
  simp only [Sem.run_bind, h1, Result.andThen_ok]
  exact Lib.run_neq_ptr_same w a hp hi
theorem Blk.shape {w : World} {b : B} (h : Blk w b) : w.shape? b.g = some (b.t, b.cs.length) := by
  unfold Blk at h
  simp [World.shape?, h]
theorem QO.toUnsafe {z : List Value} {ag : Bool} {by_ g tb : Nat} {cs : List Value} (hs : P.underlying t = some (.pointer te)) (hd : P.underlying t' = some .unsafePointer) (he : tyChk P te = some (z, ag, by_)) (hz : 0 < z.length)
    (hx : ev e x = .pointer (some ⟨g, 0, none⟩)) (hm : (⟨g, tb, cs⟩ : B) ∈ H) (h0 : 0 < cs.length) : QO P W H e (.convert t t' x) ty (.pointer (some ⟨g, 0, none⟩)) := fun d pos af gd w ho => by
  obtain ⟨i, zv, ds, hi, hds, hzz, hss, hc, ha, hb⟩ := (tyF he).ex
  have h1 := Lib.run_to_unsafe (P := P) w ⟨g, 0, none⟩ hs hd hi (by omega) (ho.blk _ hm).2.shape h0
  simp [execOp, hx, h1]
theorem QO.fromUnsafe {z : List Value} {ag : Bool} {by_ g tb : Nat} {cs : List Value} (hs : P.underlying t = some .unsafePointer) (hd : P.underlying t' = some (.pointer te)) (he : tyChk P te = some (z, ag, by_))
    (hx : ev e x = .pointer (some ⟨g, 0, none⟩)) (hm : (⟨g, tb, cs⟩ : B) ∈ H) (hl : liesAt P P.depth tb (cs.length / P.cellsOf tb) 0 te 1 = true) : QO P W H e (.convert t t' x) ty (.pointer (some ⟨g, 0, none⟩)) := fun d pos af gd w ho => by
  obtain ⟨i, zv, ds, hi, hds, hzz, hss, hc, ha, hb⟩ := (tyF he).ex
  have h1 := Lib.run_from_unsafe (P := P) w ⟨g, 0, none⟩ hs hd hi (ho.blk _ hm).2.shape hl
  simp [execOp, hx, h1]
theorem QO.sliceData {n c : Nat} (hx : ev e x = .slice (some a) n c) (hc : 0 < c) : QO P W H e (.call ⟨.builtin .unsafeSliceData, #[x], #[t]⟩) ty (.pointer (some a)) := fun d pos af gd w _ => by
  have h1 := Lib.run_unsafeSliceData_row (P := P) w #[t] ty a n c (by omega)
  simp [execOp, resolve, invoke, builtin, hx, h1]
end
section
variable {P : Program} {W : World} {n : Nat} {ops : Array Oper} {Q : Env → HL → Prop} {rest : List Oper} {e : Env} {H H' : HL}
variable {d : Tmp} {ty t t2 : TypeId} {pos : String} {af : Array Edge} {x y : Operand}
theorem RS.unsafeString {g : Nat} {el : TypeId} {l : List UInt8} {junk : List Value} (hd : Nat.blt d n = true) (hp : P.underlying t = some (.pointer el)) (hc : P.cellsOf el = 1)
    (hx : ev e x = .pointer (some ⟨g, 0, none⟩)) (hy : ev e y = iv (l.length : Nat)) (h0 : l ≠ []) (h63 : l.length ≤ 9223372036854775807) (hrem : Rem ⟨g, el, bc l ++ junk⟩ H H')
    (k : RS P W n ops Q rest (put e d (sv l)) H') :
    RS P W n ops Q (⟨some d, .call ⟨.builtin .unsafeString, #[x, y], #[t, t2]⟩, ty, pos, af, none⟩ :: rest) e H := by
  refine RS.step (d := some d) hd fun w ho => ?_
  have hpm := ho.perm hrem.perm
  obtain ⟨hg1, hg2⟩ := hpm.blk _ (List.mem_cons_self ..)
  have hr := Lib.run_unsafeString_row (P := P) w t t2 ty el hp hc g _ hg2.shape l h0 (by rw [List.length_append, bc_len]; omega) h63 (fun j u hj => by
    rw [addr_add, Nat.zero_add, hg2.cell]
    show (bc l ++ junk)[j]? = _
    rw [List.getElem?_append_left (by rw [bc_len]; exact (List.getElem?_eq_some_iff.1 hj).1)]
    exact bc_at hj)
  refine ⟨sv l, w.freeze ⟨g, 0, none⟩ l.length, H', ?_, ⟨Lib.below_freeze ho.below (p := ⟨g, 0, none⟩) hg1 l.length, fun b hb => ?_, (List.pairwise_cons.1 hpm.ne).2⟩, k⟩
  · simp only [execOp, resolve, invoke, builtin, Sem.run_bind, Sem.run_pure, Result.andThen_ok, List.map_toArray, List.map_cons, List.map_nil, hx, hy, hr]
  · have h2 := hpm.blk b (List.mem_cons_of_mem _ hb)
    refine ⟨h2.1, ?_⟩
    have h3 := (List.pairwise_cons.1 hpm.ne).1 b hb
    have h4 := h2.2
    unfold Blk at h4 ⊢
    unfold World.freeze
    split
    · exact h4
    · simp only [Array.getElem?_modify]
      rw [if_neg h3]
      exact h4
end
end Go.Proofs.YtapcgokcfmklbaaDoor
