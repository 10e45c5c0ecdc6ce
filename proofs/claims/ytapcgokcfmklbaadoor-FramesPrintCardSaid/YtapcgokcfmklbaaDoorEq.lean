/-
  Comparing structs of integers; a few more quiet operations. No program in sight. Conditions: none.
-/
import Derived.Test.YtapcgokcfmklbaaDoorRow
import Derived.Laws.StructEq
namespace Go.Proofs.YtapcgokcfmklbaaDoor
open Go Go.RowKit

def intFields (P : Program) : Nat → List Field → Bool
  | _, [] => true
  | o, f :: fs => f.name != "_" && f.offset == o && (match P.underlying f.type with | some (.int .i64) => true | _ => false) && (match tyChk P f.type with | some ([_], false, _) => true | _ => false) && intFields P (o + 1) fs
def intsT (P : Program) (t : TypeId) : Nat :=
  match P.underlying t with
  | some (.struct fs) => if P.stoodInHeld t = false ∧ P.eqGuardType P.depth t = false ∧ intFields P 0 fs.toList = true then fs.size else 0
  | _ => 0
theorem eqFields_ints {P : Program} {w : World} {d : Nat} {X Y : List Value} : ∀ (fs : List Field) (o : Nat) (zs ws : List Int), intFields P o fs = true → zs.length = fs.length → ws.length = fs.length → X.drop o = zs.map iv → Y.drop o = ws.map iv →
    (Op.eqFields (d + 1) X.toArray Y.toArray fs).run P w = .ok (zs == ws) w
  | [], o, [], [], _, _, _, _, _ => by simp [Op.eqFields]
  | f :: fs, o, z :: zs, v :: ws, h, h1, h2, h3, h4 => by
    simp only [intFields, Bool.and_eq_true, bne_iff_ne, ne_eq, beq_iff_eq] at h
    obtain ⟨⟨⟨⟨hn, ho⟩, hu⟩, hc⟩, hr⟩ := h
    split at hu
    · rename_i hu'
      split at hc
      · rename_i q b hc'
        have hx : X[o]? = some (iv z) := by
          have := congrArg (·[0]?) h3
          simpa using this
        have hy : Y[o]? = some (iv v) := by
          have := congrArg (·[0]?) h4
          simpa using this
        have h3' : X.drop (o + 1) = zs.map iv := by rw [← List.drop_drop, h3]; rfl
        have h4' : Y.drop (o + 1) = ws.map iv := by rw [← List.drop_drop, h4]; rfl
        have ih := eqFields_ints (w := w) (d := d) fs (o + 1) zs ws hr (by simpa using h1) (by simpa using h2) h3' h4'
        subst ho
        unfold Op.eqFields
        rw [if_pos (by simpa using hn)]
        have e1 : (part f.type X.toArray f.offset).run P w = .ok (iv z) w := by simp [part, run_ag hc', hx]
        have e2 : (part f.type Y.toArray f.offset).run P w = .ok (iv v) w := by simp [part, run_ag hc', hy]
        simp only [Sem.run_bind, e1, e2, Result.andThen_ok, run_equalIn_int w d f.type .i64 .i64 z v hu']
        by_cases e : z = v
        · subst e; simpa using ih
        · have : (z == v) = false := by simpa using e
          have h5 : (z :: zs == v :: ws) = false := by
            show (z == v && zs == ws) = false
            rw [this]; rfl
          simp [this]
      · cases hc
    · cases hu
  | [], _, _ :: _, _, _, h1, _, _, _ => by simp at h1
  | [], _, [], _ :: _, _, _, h2, _, _ => by simp at h2
  | _ :: _, _, [], _, _, h1, _, _, _ => by simp at h1
  | _ :: _, _, _ :: _, [], _, _, h2, _, _ => by simp at h2
theorem equal_ints {P : Program} {t : TypeId} {n : Nat} (hn : intsT P t = n) (h0 : 0 < n) {zs ws : List Int} (h1 : zs.length = n) (h2 : ws.length = n) (w : World) :
    (Op.equalIn 10000 t (.agg (zs.map iv).toArray) (.agg (ws.map iv).toArray)).run P w = .ok (zs == ws) w ∧ P.eqGuardType P.depth t = false := by
  unfold intsT at hn
  split at hn
  · rename_i fs hu
    split at hn
    · rename_i hh
      refine ⟨?_, hh.2.1⟩
      have hf : P.fieldsOf t = fs := by unfold Program.fieldsOf; rw [hu]
      have h9 := run_equalIn_struct w 9999 t (zs.map iv).toArray (ws.map iv).toArray (by rw [hf]; exact hu) hh.1
      rw [h9, hf]
      exact eqFields_ints (d := 9998) fs.toList 0 zs ws hh.2.2 (by simp [h1, hn]) (by simp [h2, hn]) rfl rfl
    · omega
  · omega
section
variable {P : Program} {W : World} {H : HL} {e : Env} {x y : Operand} {t t' ty : TypeId}
theorem QO.seql {zs ws : List Int} {n : Nat} (hn : intsT P t = n) (h0 : 0 < n) (hx : ev e x = .agg (zs.map iv).toArray) (hy : ev e y = .agg (ws.map iv).toArray) (h1 : zs.length = n) (h2 : ws.length = n) : QO P W H e (.binOp .eql t x y t') ty (.bool (zs == ws)) := by
  refine QO.bin hx hy (fun w => ?_)
  obtain ⟨h3, h4⟩ := equal_ints hn h0 h1 h2 w
  simp only [Sem.run_bind, run_eqGuard_agg w .eql t x y _ _ h4, Result.andThen_ok, run_eql_struct, h3]
theorem QO.sneq {zs ws : List Int} {n : Nat} (hn : intsT P t = n) (h0 : 0 < n) (hx : ev e x = .agg (zs.map iv).toArray) (hy : ev e y = .agg (ws.map iv).toArray) (h1 : zs.length = n) (h2 : ws.length = n) : QO P W H e (.binOp .neq t x y t') ty (.bool (zs != ws)) := by
  refine QO.bin hx hy (fun w => ?_)
  obtain ⟨h3, h4⟩ := equal_ints hn h0 h1 h2 w
  simp only [Sem.run_bind, run_eqGuard_agg w .neq t x y _ _ h4, Result.andThen_ok, run_neq_struct, h3]
  rfl
/-- The same for structs of four integers. -/
theorem QO.seql4 {a b c d a' b' c' d' : Int} (hn : intsT P t = 4) (hx : ev e x = .agg #[iv a, iv b, iv c, iv d]) (hy : ev e y = .agg #[iv a', iv b', iv c', iv d']) : QO P W H e (.binOp .eql t x y t') ty (.bool ([a, b, c, d] == [a', b', c', d'])) := QO.seql (zs := [a, b, c, d]) (ws := [a', b', c', d']) hn (by decide) hx hy rfl rfl
theorem QO.sneq4 {a b c d a' b' c' d' : Int} (hn : intsT P t = 4) (hx : ev e x = .agg #[iv a, iv b, iv c, iv d]) (hy : ev e y = .agg #[iv a', iv b', iv c', iv d']) : QO P W H e (.binOp .neq t x y t') ty (.bool ([a, b, c, d] != [a', b', c', d'])) := QO.sneq (zs := [a, b, c, d]) (ws := [a', b', c', d']) hn (by decide) hx hy rfl rfl
theorem QO.buildA {ag : Bool} {by_ by2 l : Nat} {z z2 : List Value} {el : TypeId} {parts : Array (Nat × Operand)} {cs : List Value} (hu : P.underlying t = some (.array l el)) (ht : tyChk P t = some (z, true, by_)) (he : tyChk P el = some (z2, ag, by2))
    (hf : fillL (fun i => some (i * z2.length, z2.length)) z (parts.toList.map fun p => (p.1, ev e p.2)) = some cs) : QO P W H e (.build t parts) ty (.agg cs.toArray) := fun d pos af gd w _ => by
  obtain ⟨zv, hz1, hz2⟩ := run_zero (w := w) ht
  have hf' := fill_of _ _ _ hf
  simp only [execOp, Instr.build, Sem.run_bind, hz1, Result.andThen_ok, run_underlying hu, run_size he, hz2]
  have e1 : (Array.map (fun x => match x with | (i, x) => (i, ev e x)) parts).toList = parts.toList.map fun p => (p.1, ev e p.2) := by simp
  simp only [e1, hf', Result.andThen_ok, Sem.run_pure]
theorem QO.indexA {k : IntKind} {i : Int} {l by_ : Nat} {el : TypeId} {zs vs cs : List Value} (hu : P.underlying t = some (.array l el)) (he : tyChk P el = some (zs, true, by_)) (hx : ev e x = .agg cs.toArray) (hy : ev e y = .int k i)
    (h0 : 0 ≤ i) (h1 : i < l) (hv : (cs.drop (i.toNat * zs.length)).take zs.length = vs) : QO P W H e (.index t x y) ty (.agg vs.toArray) := fun d pos af gd w _ => by
  simp [execOp, hx, hy, Instr.index, asIntOf, run_underlying hu, h0, h1, run_size he, part, run_ag he]
  rw [← hv]
end
end Go.Proofs.YtapcgokcfmklbaaDoor
