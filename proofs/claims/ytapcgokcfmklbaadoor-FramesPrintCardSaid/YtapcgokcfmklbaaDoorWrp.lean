/-
  A row's wrap that keeps the world's shape beside what the row lists; the listed variables read. No program in sight. Conditions: none.
-/
import Derived.WalkKit
import Derived.Handed
import Derived.LaidMore
import Derived.LaidHandle
import Derived.Lib.LaidTab
import Derived.Lib.ItoaNum
import Derived.Stop.LaidErr
import Derived.Shelf.Vars
import Derived.Test.YtapcgokcfmklbaaDoorCalc
namespace Go.Proofs.YtapcgokcfmklbaaDoor
open Go Go.RowKit

theorem wrap_shaped {H : Type} {enc : TypeId × Value → H} {a : Assume} {C : Checked} {os : Os} {f : FuncId} {fn : Func} {s : ChangeSpec} {conds : List PathCond} {apart fresh handsOn again : Bool} {X : World → Array Value → Prop}
    (hX : ∀ (w w' : World) (args : Array Value), w.heap = w'.heap → X w args → X w' args)
    (own : ownKnob C.prog.godebug = none) (started : os.Started) (noInit : C.prog.inits.idxOf? f = none) (hfn : C.prog.funcs[f]? = some fn)
    (witness : ∃ (w : World) (tape : Tape) (i : Input), w.os = os ∧ (w.forCall tape i).Shaped C.prog ∧ i.vars = [] ∧ Input.okWide C.prog (w.forCall tape i) .any w.heap.size f i ∧
      ((s.pre enc C.prog fn conds apart (w.forCall tape i).memory i.args ∧ X (w.forCall tape i).memory i.args) ∧ sizedMet enc C.prog fn (OpenSpec.ofChange s) apart (w.forCall tape i).memory i.args) ∧ a.holds C.prog (lone (Frame.enter C.prog f i.args .normal) [] (w.forCall tape i)))
    (contract : ∀ (W : World) (base : Nat) (args : Array Value) (ds gs : List (DataW H)) (before : List MemPlace),
      (∀ (j : Nat) t v, fn.params[j]? = some t → args[j]? = some v → Value.okWide C.prog W .any base t v) →
      DataW.Whole enc C.prog fn.params.toList s.vars apart W args.toList ds gs before → X W args → W.ShapedOpen C.prog →
      Calls C.prog f args W fun e W' => ∃ v, e = .returned v ∧ s.post enc C.prog fn apart fresh handsOn again W args v W') :
    ReturnsInHanded a C os f .any (fun w args => (s.pre enc C.prog fn conds apart w args ∧ X w args) ∧ sizedMet enc C.prog fn (OpenSpec.ofChange s) apart w args) (s.post enc C.prog fn apart fresh handsOn again) := by
  refine returnsInHanded_of_calls own started noInit witness ?_
  intro w tape i _ shape _ hok hpre _
  obtain ⟨_, _, _, g, hg, _, _, _, _, hval⟩ := hok
  obtain rfl : g = fn := Option.some.inj (hg.symm.trans hfn)
  obtain ⟨⟨⟨ds, gs, before, whole, _⟩, listed⟩, _⟩ := hpre
  have whole' := DataW.Whole.of_heap (w' := w.forCall tape i) (by rfl) whole
  refine (contract _ w.heap.size i.args ds gs before hval whole' (hX _ _ _ (by rfl) listed) shape).mono fun e W' ⟨v, he, hp⟩ => ?_
  subst he
  exact ChangeSpec.post_blind hp
/-- a listed variable's cells, and how they read -/
theorem laid_at {P : Program} {W : World} {n : String} {d : DataW Unit} : ∀ {l : List (String × DataW Unit)}, laidMet P l W → (n, d) ∈ l →
    ∃ g t cs fuel p, P.globalNamed n = some g ∧ (P.globals[g]?).map (·.type) = some t ∧ W.var? P n = some cs ∧ DataW.trod (fun _ => ()) P W 0 (fun _ => true) false fuel t cs.toList = some (d, p) := by
  intro l
  induction l with
  | nil => intro _ h; cases h
  | cons x l ih =>
    intro h hm
    rcases List.mem_cons.1 hm with rfl | hm
    · obtain ⟨_, ⟨g, t, cs, fuel, p, _, h1, h2, h3, h4, _, _⟩, _, _⟩ := h
      exact ⟨g, t, cs, fuel, p, h1, h2, h3, h4⟩
    · exact ih h.tail hm
theorem laid_tab {P : Program} {W : World} {n : String} {d : DataW Unit} {l : List (String × DataW Unit)} {k : IntKind} {zs : List Int} {g m : Nat} {t e : TypeId} (h : laidMet P l W) (hm : (n, d) ∈ l) (hd : d = Lib.tabData k zs)
    (hg : P.globalNamed n = some g) (hty : (P.globals[g]?).map (·.type) = some t) (ht : P.underlying t = some (.array m e)) (he : P.underlying e = some (.int k)) (hce : P.cellsOf e = 1) (hct : P.cellsOf t = m) : Lib.TabIs P W n k zs := by
  subst hd
  obtain ⟨g', t', cs, fuel, p, h1, h2, h3, h4⟩ := laid_at h hm
  obtain rfl := Option.some.inj (hg.symm.trans h1)
  obtain rfl := Option.some.inj (hty.symm.trans h2)
  unfold Lib.TabIs
  rw [h3, ← Lib.cells_of_tab ht he hce hct h4]
theorem laid_iface {P : Program} {W : World} {n nm : String} {d : DataW Unit} {l : List (String × DataW Unit)} {g : Nat} {t : TypeId} {ms : Array (String × TypeId)} (h : laidMet P l W) (hm : (n, .iface nm d) ∈ l)
    (hg : P.globalNamed n = some g) (hty : (P.globals[g]?).map (·.type) = some t) (ht : P.underlying t = some (.interface ms)) : ∃ te pe, W.cell? ⟨g, 0, none⟩ = some (.iface te pe) := by
  obtain ⟨g', t', cs, fuel, p, h1, h2, h3, h4⟩ := laid_at h hm
  obtain rfl := Option.some.inj (hg.symm.trans h1)
  obtain rfl := Option.some.inj (hty.symm.trans h2)
  have hc := World.var?_cell h1 h3 0
  obtain ⟨cs⟩ := cs
  cases fuel with
  | zero => simp [DataW.trod] at h4
  | succ fuel =>
    unfold DataW.trod at h4
    rw [ht] at h4
    match cs, h4, hc with
    | [.iface u v], _, hc => exact ⟨u, v, hc⟩
    | [.nilIface], h4, _ => simp at h4
    | [], h4, _ => simp at h4
    | .bool _ :: _, h4, _ => simp at h4
    | .int _ _ :: _, h4, _ => simp at h4
    | .float _ _ :: _, h4, _ => simp at h4
    | .string _ :: _, h4, _ => simp at h4
    | .pointer _ :: _, h4, _ => simp at h4
    | .slice _ _ _ :: _, h4, _ => simp at h4
    | .agg _ :: _, h4, _ => simp at h4
    | .tuple _ :: _, h4, _ => simp at h4
    | .map _ :: _, h4, _ => simp at h4
    | .func _ _ _ :: _, h4, _ => simp at h4
    | .iface _ _ :: _ :: _, h4, _ => simp at h4
    | .nilIface :: _ :: _, h4, _ => simp at h4
theorem Own.tab {W w : World} {H : HL} {P : Program} {n : String} {k : IntKind} {zs : List Int} {g : Nat} (h : Own W w H) (hg : P.globalNamed n = some g) (ht : Lib.TabIs P W n k zs) : Lib.TabIs P w n k zs := by
  unfold Lib.TabIs World.var? at ht ⊢
  rw [hg] at ht ⊢
  simp only [Option.bind_some] at ht ⊢
  have hlt : g < W.heap.size := by
    rcases Nat.lt_or_ge g W.heap.size with h' | h'
    · exact h'
    · simp [Array.getElem?_eq_none h'] at ht
  rw [h.below.block g hlt]
  exact ht
end Go.Proofs.YtapcgokcfmklbaaDoor
