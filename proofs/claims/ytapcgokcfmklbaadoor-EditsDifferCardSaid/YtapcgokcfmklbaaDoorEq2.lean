/-
  Comparing structs of integers, strings, singles and truth values; a literal of no elements; slices and nil. No program in sight. Conditions: none.
-/
import Derived.Test.YtapcgokcfmklbaaDoorEq
import Derived.Test.YtapcgokcfmklbaaDoorStr
namespace Go.Proofs.YtapcgokcfmklbaaDoor
open Go Go.RowKit

/-- a field's value -/
inductive Fd where
  | i (z : Int)
  | s (l : List UInt8)
  | f (b : Nat)
  | b (x : Bool)
def Fd.v : Fd → Value
  | .i z => iv z
  | .s l => sv l
  | .f n => flt n
  | .b x => .bool x
def Fd.k : Fd → Nat
  | .i _ => 0
  | .s _ => 1
  | .f _ => 2
  | .b _ => 3
def Fd.eq : Fd → Fd → Bool
  | .i z, .i w => z == w
  | .s l, .s m => l == m
  | .f m, .f n => fcmpB .eql m n
  | .b x, .b y => x == y
  | _, _ => false
def allEq : List Fd → List Fd → Bool
  | [], [] => true
  | a :: l, b :: m => a.eq b && allEq l m
  | _, _ => false
def tyKind (P : Program) (t : TypeId) : Nat :=
  match P.underlying t with
  | some (.int .i64) => 0
  | some .string => 1
  | some (.float .f32) => 2
  | some .bool => 3
  | _ => 9
theorem equal_fd {P : Program} {w : World} {d : Nat} {t : TypeId} {x y : Fd} (hx : tyKind P t = x.k) (hy : tyKind P t = y.k) : (Op.equalIn (d + 1) t x.v y.v).run P w = .ok (x.eq y) w := by
  unfold tyKind at hx hy
  cases x <;> cases y <;> simp only [Fd.k] at hx hy <;> first | (exfalso; omega) | skip
  · have hu : P.underlying t = some (.int .i64) := by split at hx <;> simp_all
    rename_i a c
    exact run_equalIn_int w d t .i64 .i64 a c hu
  · have hu : P.underlying t = some .string := by split at hx <;> simp_all
    rename_i a c
    have h := run_equalIn_string (P := P) w d t ⟨a.toArray⟩ ⟨c.toArray⟩ hu
    rw [bs_toList, bs_toList] at h
    exact h
  · have hu : P.underlying t = some (.float .f32) := by split at hx <;> simp_all
    unfold Op.equalIn
    simp only [Fd.v, Fd.eq, Sem.run_bind, run_underlying hu, Result.andThen_ok, if_true, Sem.run_pure]
    rfl
  · have hu : P.underlying t = some .bool := by split at hx <;> simp_all
    rename_i a c
    exact run_equalIn_bool w d t a c hu
def mixF (P : Program) : Nat → List Field → List Nat → Bool
  | _, [], [] => true
  | o, f :: fs, k :: ks => f.name != "_" && f.offset == o && tyKind P f.type == k && (match tyChk P f.type with | some ([_], false, _) => true | _ => false) && mixF P (o + 1) fs ks
  | _, _, _ => false
def mixT (P : Program) (t : TypeId) (ks : List Nat) : Bool :=
  match P.underlying t with
  | some (.struct fs) => !P.stoodInHeld t && !P.eqGuardType P.depth t && mixF P 0 fs.toList ks
  | _ => false
theorem eqFields_mix {P : Program} {w : World} {d : Nat} {X Y : List Value} : ∀ (fs : List Field) (ks : List Nat) (o : Nat) (zs ws : List Fd), mixF P o fs ks = true → zs.map Fd.k = ks → ws.map Fd.k = ks → X.drop o = zs.map Fd.v → Y.drop o = ws.map Fd.v →
    (Op.eqFields (d + 1) X.toArray Y.toArray fs).run P w = .ok (allEq zs ws) w
  | [], [], o, [], [], _, _, _, _, _ => by simp [Op.eqFields, allEq]
  | f :: fs, k :: ks, o, z :: zs, v :: ws, h, h1, h2, h3, h4 => by
    simp only [mixF, Bool.and_eq_true, bne_iff_ne, ne_eq, beq_iff_eq] at h
    obtain ⟨⟨⟨⟨hn, ho⟩, hu⟩, hc⟩, hr⟩ := h
    simp only [List.map_cons, List.cons.injEq] at h1 h2
    split at hc
    · rename_i q b hc'
      have hx : X[o]? = some z.v := by
        have := congrArg (·[0]?) h3
        simpa using this
      have hy : Y[o]? = some v.v := by
        have := congrArg (·[0]?) h4
        simpa using this
      have h3' : X.drop (o + 1) = zs.map Fd.v := by rw [← List.drop_drop, h3]; rfl
      have h4' : Y.drop (o + 1) = ws.map Fd.v := by rw [← List.drop_drop, h4]; rfl
      have ih := eqFields_mix (w := w) (d := d) fs ks (o + 1) zs ws hr h1.2 h2.2 h3' h4'
      subst ho
      unfold Op.eqFields
      rw [if_pos (by simpa using hn)]
      have e1 : (part f.type X.toArray f.offset).run P w = .ok z.v w := by simp [part, run_ag hc', hx]
      have e2 : (part f.type Y.toArray f.offset).run P w = .ok v.v w := by simp [part, run_ag hc', hy]
      simp only [Sem.run_bind, e1, e2, Result.andThen_ok, equal_fd (P := P) (w := w) (d := d) (hu.trans h1.1.symm) (hu.trans h2.1.symm)]
      cases e : z.eq v
      · simp [allEq, e]
      · simpa [allEq, e] using ih
    · cases hc
  | [], [], _, [], _ :: _, _, _, h2, _, _ => by simp at h2
  | [], [], _, _ :: _, _, _, h1, _, _, _ => by simp at h1
  | [], _ :: _, _, _, _, h, _, _, _, _ => by simp [mixF] at h
  | _ :: _, [], _, _, _, h, _, _, _, _ => by simp [mixF] at h
  | _ :: _, _ :: _, _, [], _, _, h1, _, _, _ => by simp at h1
  | _ :: _, _ :: _, _, _ :: _, [], _, _, h2, _, _ => by simp at h2
theorem equal_mix {P : Program} {t : TypeId} {ks : List Nat} (hn : mixT P t ks = true) {zs ws : List Fd} (h1 : zs.map Fd.k = ks) (h2 : ws.map Fd.k = ks) (w : World) :
    (Op.equalIn 10000 t (.agg (zs.map Fd.v).toArray) (.agg (ws.map Fd.v).toArray)).run P w = .ok (allEq zs ws) w ∧ P.eqGuardType P.depth t = false := by
  unfold mixT at hn
  split at hn
  · rename_i fs hu
    simp only [Bool.and_eq_true, Bool.not_eq_true'] at hn
    obtain ⟨⟨a1, a2⟩, a3⟩ := hn
    refine ⟨?_, a2⟩
    have hf : P.fieldsOf t = fs := by unfold Program.fieldsOf; rw [hu]
    have h9 := run_equalIn_struct w 9999 t (zs.map Fd.v).toArray (ws.map Fd.v).toArray (by rw [hf]; exact hu) a1
    rw [h9, hf]
    exact eqFields_mix (d := 9998) fs.toList ks 0 zs ws a3 h1 h2 rfl rfl
  · cases hn
section
variable {P : Program} {W : World} {H : HL} {e : Env} {x y : Operand} {t t' ty : TypeId}
theorem QO.seqlM (zs ws : List Fd) {ks : List Nat} (hn : mixT P t ks = true) (hx : ev e x = .agg (zs.map Fd.v).toArray) (hy : ev e y = .agg (ws.map Fd.v).toArray) (h1 : zs.map Fd.k = ks) (h2 : ws.map Fd.k = ks) : QO P W H e (.binOp .eql t x y t') ty (.bool (allEq zs ws)) := by
  refine QO.bin hx hy (fun w => ?_)
  obtain ⟨h3, h4⟩ := equal_mix hn h1 h2 w
  simp only [Sem.run_bind, run_eqGuard_agg w .eql t x y _ _ h4, Result.andThen_ok, run_eql_struct, h3]
theorem QO.sneqM (zs ws : List Fd) {ks : List Nat} (hn : mixT P t ks = true) (hx : ev e x = .agg (zs.map Fd.v).toArray) (hy : ev e y = .agg (ws.map Fd.v).toArray) (h1 : zs.map Fd.k = ks) (h2 : ws.map Fd.k = ks) : QO P W H e (.binOp .neq t x y t') ty (.bool (!allEq zs ws)) := by
  refine QO.bin hx hy (fun w => ?_)
  obtain ⟨h3, h4⟩ := equal_mix hn h1 h2 w
  simp only [Sem.run_bind, run_eqGuard_agg w .neq t x y _ _ h4, Result.andThen_ok, run_neq_struct, h3]
theorem equal_nil {w : World} {d : Nat} {el : TypeId} {A : Option Addr} {l c : Nat} (hu : P.underlying t = some (.slice el)) : (Op.equalIn (d + 1) t (.slice A l c) (.slice none 0 0)).run P w = .ok A.isNone w := by
  unfold Op.equalIn
  cases A <;> simp only [Sem.run_bind, run_underlying hu, Result.andThen_ok, Sem.run_pure, Option.isNone]
/-- a slice against nil -/
theorem QO.sliceNil {el : TypeId} {A : Option Addr} {l c : Nat} (hu : P.underlying t = some (.slice el)) (hx : ev e x = .slice A l c) (hy : ev e y = .slice none 0 0) : QO P W H e (.binOp .eql t x y t') ty (.bool A.isNone) := by
  refine QO.bin hx hy (fun w => ?_)
  have h1 : (eqGuard .eql t x y (.slice A l c) (.slice none 0 0)).run P w = .ok () w := by cases A <;> simp [eqGuard]
  have h2 : binOp .eql t (.slice A l c) (.slice none 0 0) = (do pure (.bool (← Op.equalIn 10000 t (.slice A l c) (.slice none 0 0)))) := rfl
  simp only [Sem.run_bind, h1, Result.andThen_ok, h2, equal_nil (P := P) (d := 9999) hu, Sem.run_pure]
end
section
variable {P : Program} {W : World} {n : Nat} {ops : Array Oper} {Q : Env → HL → Prop} {rest : List Oper} {e : Env} {H : HL}
variable {d : Tmp} {ty t : TypeId} {pos : String} {af : Array Edge} {z : List Value} {ag : Bool} {by_ : Nat}
/-- a slice literal of no elements -/
theorem RS.buildSlice0 {el : TypeId} (hd : Nat.blt d n = true) (hu : P.underlying t = some (.slice el)) (he : tyChk P el = some (z, ag, by_))
    (k : ∀ g, RS P W n ops Q rest (put e d (.slice (some ⟨g, 0, none⟩) 0 0)) (⟨g, el, []⟩ :: H)) : RS P W n ops Q (⟨some d, .buildSlice t 0 #[], ty, pos, af, none⟩ :: rest) e H := by
  refine RS.step (d := some d) hd fun w ho => ?_
  refine ⟨_, _, _, ?_, ho.alloc el [], k _⟩
  simp [execOp, Instr.buildSlice, run_underlying hu, run_size he, Instr.fill, newRow]
  exact congrArg (fun a => w.alloc (.cells a el)) (Array.toList_inj.1 (by rw [Array.toList_map, Array.toList_range]; rfl))
end
end Go.Proofs.YtapcgokcfmklbaaDoor
