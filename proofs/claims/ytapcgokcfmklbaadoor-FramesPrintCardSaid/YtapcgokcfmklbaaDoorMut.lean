/-
  Functions that write blocks of their caller's own. No program in sight. Conditions: none.
-/
import Derived.Test.YtapcgokcfmklbaaDoorEntry
namespace Go.Proofs.YtapcgokcfmklbaaDoor
open Go Go.RowKit

/-- Called over the caller's own blocks H (those beyond W), f hands back a value and leaves blocks that stand in the relation R. -/
def FnH (P : Program) (f : FuncId) (args : Array Value) (W : World) (H : HL) (R : Value → HL → Prop) : Prop :=
  ∀ w, Own W w H → Calls P f args w (fun x w' => ∃ v H', x = .returned v ∧ Own W w' H' ∧ R v H')
theorem FnH.mono {P : Program} {f : FuncId} {args : Array Value} {W : World} {H : HL} {R R' : Value → HL → Prop} (h : FnH P f args W H R) (hr : ∀ v H, R v H → R' v H) : FnH P f args W H R' :=
  fun w ho => Calls.mono (h w ho) fun _ _ ⟨v, H, h1, h2, h3⟩ => ⟨v, H, h1, h2, hr _ _ h3⟩
theorem FnH.intro {P : Program} {W : World} {f : FuncId} {fn : Func} {c : Code} {n : Nat} {args : Array Value} {H : HL} {R : Value → HL → Prop} (hf : P.funcs[f]? = some fn) (hb : fn.body = some c) (hn : fn.ntmps = n) (hargs : Nat.ble args.size n = true)
    (h : CS P W n c (retQ P fn.results R) (argsE args) H) : FnH P f args W H R := by
  subst hn
  intro w0 ho0
  refine calls_of_wp hf hb (wp_mono (h _ _ (rep_start _ _ (Nat.le_of_ble_eq_true hargs)) ho0) fun x a w hq => ?_)
  obtain ⟨e, H, hr, ho, hx, vs, H', hv, hs, hR⟩ := hq
  have hv' := hv.run hr ho
  have key : a.defers = [] ∧ ∃ v, (results fn a.tmps).run P w = .ok v w ∧ ∃ v' H', Ending.returned v = .returned v' ∧ Own W w H' ∧ R v' H' := by
    refine ⟨hr.defers, one vs, ?_, one vs, H', rfl, ho.sub hs, hR⟩
    have hres : results fn a.tmps = (do
        let vs ← fn.results.mapM (resOf a.tmps)
        Pure.pure (if h : vs.size = 1 then vs[0] else .tuple vs)) := by
      unfold results
      congr 1
    rw [hres, Array.mapM_eq_mapM_toList]
    simp only [Sem.run_bind, Sem.run_map, hv', Result.andThen_ok, Sem.run_pure]
    congr 1
    match vs with
    | [] => rfl
    | [v] => rfl
    | v :: u :: l => simp [one]
  rcases hx with rfl | rfl <;> exact key
section
variable {P : Program} {W : World} {n : Nat} {ops : Array Oper} {Q : Env → HL → Prop} {rest : List Oper} {e : Env} {H : HL}
variable {d : Tmp} {ty : TypeId} {pos : String} {af : Array Edge}
theorem RS.callH {fo : Operand} {xs : Array Operand} {ats : Array TypeId} {f : FuncId} {first cap : Array Value} {argl : List Value} {R : Value → HL → Prop} (H1 : HL) (hd : Nat.blt d n = true) (hf : ev e fo = .func (.func f) first cap) (hok : callOK P f = true)
    (ha : first.toList ++ xs.toList.map (ev e) ++ cap.toList = argl) (hs : Sbp H1 H) (hc : ∀ w, Own W w H1 → FnH P f argl.toArray W H1 R) (k : ∀ v Hn, R v Hn → RS P W n ops Q rest (put e d v) Hn) :
    RS P W n ops Q (⟨some d, .call ⟨.value fo, xs, ats⟩, ty, pos, af, none⟩ :: rest) e H := by
  intro a w hr ho
  have ho := ho.sbp hs
  simp only [wpList, Region.wanted, if_true]
  left
  unfold Oper.wp
  have hrun : (execOp a.eval ⟨some d, .call ⟨.value fo, xs, ats⟩, ty, pos, af, none⟩).run P w = .ok (.enter f argl.toArray) w := by
    rw [hr.eval]
    simp only [execOp, resolve, hf, Deferred.ofValue, Sem.run_bind, Sem.run_pure, Result.andThen_ok, invoke, args_eq ha, run_callFunc hok]
  rw [hrun, Oper.upon_enter]
  refine Calls.mono (hc w ho w ho) fun x w' hx => ?_
  obtain ⟨v, Hn, rfl, h2, h3⟩ := hx
  exact k v Hn h3 _ _ (hr.put (d := some d) hd v) h2
theorem RS.call0H {fo : Operand} {xs : Array Operand} {ats : Array TypeId} {f : FuncId} {first cap : Array Value} {argl : List Value} {R : Value → HL → Prop} (H1 : HL) (hf : ev e fo = .func (.func f) first cap) (hok : callOK P f = true)
    (ha : first.toList ++ xs.toList.map (ev e) ++ cap.toList = argl) (hs : Sbp H1 H) (hc : ∀ w, Own W w H1 → FnH P f argl.toArray W H1 R) (k : ∀ v Hn, R v Hn → RS P W n ops Q rest e Hn) :
    RS P W n ops Q (⟨none, .call ⟨.value fo, xs, ats⟩, ty, pos, af, none⟩ :: rest) e H := by
  intro a w hr ho
  have ho := ho.sbp hs
  simp only [wpList, Region.wanted, if_true]
  left
  unfold Oper.wp
  have hrun : (execOp a.eval ⟨none, .call ⟨.value fo, xs, ats⟩, ty, pos, af, none⟩).run P w = .ok (.enter f argl.toArray) w := by
    rw [hr.eval]
    simp only [execOp, resolve, hf, Deferred.ofValue, Sem.run_bind, Sem.run_pure, Result.andThen_ok, invoke, args_eq ha, run_callFunc hok]
  rw [hrun, Oper.upon_enter]
  refine Calls.mono (hc w ho w ho) fun x w' hx => ?_
  obtain ⟨v, Hn, rfl, h2, h3⟩ := hx
  exact k v Hn h3 _ _ hr h2
end
end Go.Proofs.YtapcgokcfmklbaaDoor
