/-
  The way into a function and out of it; floats; appends. No program in sight. Conditions: none.
-/
import Derived.Test.YtapcgokcfmklbaaDoorOps2
namespace Go.Proofs.YtapcgokcfmklbaaDoor
open Go Go.RowKit

def argsE (args : Array Value) : Env := fun t => args.getD t undef
theorem rep_start (n : Nat) (args : Array Value) (h : args.size ≤ n) : Rep n { tmps := args ++ Array.replicate (n - args.size) undef, defers := [] } (argsE args) := by
  refine ⟨rfl, by simp; omega, fun t => ?_⟩
  simp only [argsE, Array.getD_eq_getD_getElem?]
  by_cases ht : t < args.size
  · simp [Array.getElem?_append, ht]
  · simp only [Array.getElem?_append, ht, if_false]
    rw [Array.getElem?_replicate]
    have : args[t]? = none := Array.getElem?_eq_none (by omega)
    split <;> simp [this]

/-- What the results' variables hold. -/
inductive RVs (P : Program) (e : Env) (H : HL) : List ResultVar → List Value → Prop where
  | nil : RVs P e H [] []
  | tmp {t : Tmp} {v : Value} {l : List ResultVar} {vs : List Value} (hv : e t = v) (h : RVs P e H l vs) : RVs P e H (.tmp t :: l) (v :: vs)
  | cell1 {a : Tmp} {ty tb : TypeId} {v : Value} {g by_ : Nat} {z cs : List Value} {l : List ResultVar} {vs : List Value} (ht : tyChk P ty = some (z, false, by_)) (ha : e a = .pointer (some ⟨g, 0, none⟩)) (hm : (⟨g, tb, cs⟩ : B) ∈ H) (hv : cs[0]? = some v) (h : RVs P e H l vs) : RVs P e H (.cell a ty :: l) (v :: vs)
  | cellA {a : Tmp} {ty tb : TypeId} {g by_ : Nat} {z cs : List Value} {l : List ResultVar} {vs : List Value} (ht : tyChk P ty = some (z, true, by_)) (ha : e a = .pointer (some ⟨g, 0, none⟩)) (hm : (⟨g, tb, cs⟩ : B) ∈ H) (hv : cs.length = z.length) (h : RVs P e H l vs) : RVs P e H (.cell a ty :: l) (.agg cs.toArray :: vs)
def resOf (tmps : Array Value) : ResultVar → Sem Value
  | .tmp t => Pure.pure (tmps.getD t undef)
  | .cell a t => do loadVar t (← asAddr (tmps.getD a undef))
theorem RVs.run {P : Program} {W w : World} {n : Nat} {a : Act} {e : Env} {H : HL} (hr : Rep n a e) (ho : Own W w H) : ∀ {l : List ResultVar} {vs : List Value}, RVs P e H l vs →
    (l.mapM (resOf a.tmps)).run P w = .ok vs w := by
  intro l vs h
  induction h with
  | nil => rfl
  | @tmp t v l vs hv h ih =>
    have h1 : (resOf a.tmps (.tmp t)).run P w = .ok v w := by simp only [resOf, Sem.run_pure, hr.get, hv]
    rw [List.mapM_cons]
    simp only [Sem.run_bind, Sem.run_pure, Result.andThen_ok, ih, h1]
  | @cell1 x ty tb v g by_ z cs l vs ht ha hm hv h ih =>
    have hc : w.cell? ⟨g, 0, none⟩ = some v := by rw [(ho.blk _ hm).2.cell]; exact hv
    have hl : (loadVar ty ⟨g, 0, none⟩).run P w = .ok v w := by simp [loadVar, run_ag ht, run_load, hc]
    have h1 : (resOf a.tmps (.cell x ty)).run P w = .ok v w := by simp only [resOf, Sem.run_bind, Sem.run_pure, hr.get, ha, asAddr, Result.andThen_ok, hl]
    rw [List.mapM_cons]
    simp only [Sem.run_bind, Sem.run_pure, Result.andThen_ok, ih, h1]
  | @cellA x ty tb g by_ z cs l vs ht ha hm hv h ih =>
    have hc : ∀ j v, cs[j]? = some v → w.cell? ((⟨g, 0, none⟩ : Addr).add j) = some v := by
      intro j v hj
      rw [addr_add, Nat.zero_add, (ho.blk _ hm).2.cell]; exact hj
    have hl2 := run_loadCells_list (P := P) (w := w) ⟨g, 0, none⟩ cs hc
    rw [hv] at hl2
    have hl : (loadVar ty ⟨g, 0, none⟩).run P w = .ok (.agg cs.toArray) w := by simp [loadVar, run_ag ht, run_size ht, hl2]
    have h1 : (resOf a.tmps (.cell x ty)).run P w = .ok (.agg cs.toArray) w := by simp only [resOf, Sem.run_bind, Sem.run_pure, hr.get, ha, asAddr, Result.andThen_ok, hl]
    rw [List.mapM_cons]
    simp only [Sem.run_bind, Sem.run_pure, Result.andThen_ok, ih, h1]
/-- the results as one value -/
def one : List Value → Value
  | [v] => v
  | vs => .tuple vs.toArray
def retQ (P : Program) (rs : Array ResultVar) (R : Value → HL → Prop) : Exit → Env → HL → Prop := fun x e H => (x = .normal ∨ x = .ret) ∧ ∃ vs H', RVs P e H rs.toList vs ∧ H'.Sublist H ∧ R (one vs) H'
theorem Fn_.intro {P : Program} {W : World} {f : FuncId} {fn : Func} {c : Code} {n : Nat} {args : Array Value} {R : Value → HL → Prop} (hf : P.funcs[f]? = some fn) (hb : fn.body = some c) (hn : fn.ntmps = n) (hargs : Nat.ble args.size n = true)
    (h : CS P W n c (retQ P fn.results R) (argsE args) []) : Fn_ P f args W R := by
  subst hn
  refine calls_of_wp hf hb (wp_mono (h _ _ (rep_start _ _ (Nat.le_of_ble_eq_true hargs)) (Own.start W)) fun x a w hq => ?_)
  obtain ⟨e, H, hr, ho, hx, vs, H', hv, hs, hR⟩ := hq
  have hv' := hv.run hr ho
  have key : a.defers = [] ∧ ∃ v, (results fn a.tmps).run P w = .ok v w ∧ FnPost W R (.returned v) w := by
    refine ⟨hr.defers, one vs, ?_, one vs, H', rfl, ho.sub hs, hR⟩
    have hres : results fn a.tmps = (do
        let vs ← fn.results.mapM (resOf a.tmps)
        Pure.pure (if h : vs.size = 1 then vs[0] else .tuple vs)) := by
      unfold results
      congr 1
    rw [hres, Array.mapM_eq_mapM_toList]
    simp only [Sem.run_bind, Sem.run_map, hv', Result.andThen_ok, Sem.run_pure]
    congr 1
    match vs with
    | [] => rfl
    | [v] => rfl
    | v :: u :: l => simp [one]
  rcases hx with rfl | rfl <;> exact key

section
variable {P : Program} {W : World} {n : Nat} {e : Env} {H H' : HL} {rs : Array ResultVar} {R : Value → HL → Prop}
theorem retQ.mk {x : Exit} {vs : List Value} (hx : x = .normal ∨ x = .ret) (h : RVs P e H rs.toList vs) (hs : H'.Sublist H) (hR : R (one vs) H') : retQ P rs R x e H := ⟨hx, vs, H', h, hs, hR⟩
end

/-! ### floats of 32 bits -/
def nan32 (b : Nat) : Bool := decide (0x7f800000 < b % 0x80000000)
def cl (b : Nat) : Nat := if nan32 b then 0x7fc00000 else b
/-- What an operation may give: its value; or, where it has none, some NaN. -/
def FR (o : Option Nat) (r : Nat) : Prop :=
  match o with
  | some s => r = s
  | none => nan32 r = true
def fop (op : BinOp) (x y : Nat) : Option Nat :=
  match op with
  | .add => Ieee.single.add x y
  | .sub => Ieee.single.sub x y
  | .mul => Ieee.single.mul x y
  | .quo => Ieee.single.div x y
  | _ => none
theorem nan_cut (x y t : Nat) : nan32 ((Question.nanBits .f32 x y).cut t) = true := by
  unfold nan32 Question.cut
  simp only [decide_eq_true_eq]
  have := Nat.mod_lt (t / 2) (show 0 < 2 ^ 23 - 1 by decide)
  generalize t / 2 % (2 ^ 23 - 1) = q at *
  rcases Nat.mod_two_eq_zero_or_one t with h | h <;> rw [h] <;> omega
section
variable {P : Program} {W : World} {n : Nat} {ops : Array Oper} {Q : Env → HL → Prop} {rest : List Oper} {e : Env} {H : HL}
variable {d : Tmp} {ty t t' : TypeId} {pos : String} {af : Array Edge} {x y : Operand} {u v : Value} {z : List Value} {ag : Bool} {by_ : Nat}
theorem RS.farith {op : BinOp} {i j : Nat} (hd : Nat.blt d n = true) (hx : ev e x = .float .f32 i) (hy : ev e y = .float .f32 j) (hop : op = .add ∨ op = .sub ∨ op = .mul ∨ op = .quo)
    (k : ∀ r, FR (fop op i j) r → RS P W n ops Q rest (put e d (.float .f32 r)) H) : RS P W n ops Q (⟨some d, .binOp op t x y t', ty, pos, af, none⟩ :: rest) e H := by
  refine RS.step (d := some d) hd fun w ho => ?_
  have hb : binOp op t (.float .f32 i) (.float .f32 j) = Op.floatArith op .f32 i j := by rcases hop with rfl | rfl | rfl | rfl <;> simp [binOp]
  have hfa : (Op.floatArith op .f32 i j) = match fop op i j with
      | some r => Pure.pure (.float .f32 r)
      | none => (choose (.nanBits .f32 i j)) >>= fun r => Pure.pure (.float .f32 r) := by
    rcases hop with rfl | rfl | rfl | rfl <;> simp only [Op.floatArith, fop, FloatKind.format, pure_bind] <;> split <;> simp_all
  cases hr : fop op i j with
  | some r =>
    refine ⟨.float .f32 r, w, H, ?_, ho, k r (by rw [hr]; rfl)⟩
    simp only [execOp, hx, hy, Sem.run_bind, eqg_float, Result.andThen_ok, hb, hfa, hr, Sem.run_pure]
  | none =>
    refine ⟨.float .f32 ((Question.nanBits .f32 i j).cut (w.tape w.drawn (.nanBits .f32 i j))), w.drew, H, ?_, ho.drew, k _ (by rw [hr]; exact nan_cut i j _)⟩
    simp only [execOp, hx, hy, Sem.run_bind, eqg_float, Result.andThen_ok, hb, hfa, hr, run_choose, Question.forced]
    rfl
/-- comparisons -/
def fcmpB (op : BinOp) (i j : Nat) : Bool :=
  match op with
  | .eql => Ieee.single.order i j == some .eq
  | .neq => Ieee.single.order i j != some .eq
  | .lss => Ieee.single.order i j == some .lt
  | .leq => Ieee.single.order i j == some .lt || Ieee.single.order i j == some .eq
  | .gtr => Ieee.single.order i j == some .gt
  | .geq => Ieee.single.order i j == some .gt || Ieee.single.order i j == some .eq
  | _ => false
theorem QO.fcmp32 {op : BinOp} {i j : Nat} (hx : ev e x = .float .f32 i) (hy : ev e y = .float .f32 j)
    (hop : op = .eql ∨ op = .neq ∨ op = .lss ∨ op = .leq ∨ op = .gtr ∨ op = .geq) :
    QO P W H e (.binOp op t x y t') ty (.bool (fcmpB op i j)) :=
  QO.fcmp hx hy (fun w => by rcases hop with rfl | rfl | rfl | rfl | rfl | rfl <;> rfl) hop

/-! ### append onto a row of the call's own -/
/-- the source reads so in the world -/
def Src (W : World) (H : HL) (a : Addr) (news : List Value) : Prop :=
  (∀ j u, news[j]? = some u → W.cell? (a.add j) = some u) ∨ ∃ g o tb cs, a = ⟨g, o, none⟩ ∧ (⟨g, tb, cs⟩ : B) ∈ H ∧ ∀ j u, news[j]? = some u → cs[o + j]? = some u
theorem Src.at_ {W w : World} {H : HL} {a : Addr} {news : List Value} (h : Src W H a news) (ho : Own W w H) : ∀ j u, news[j]? = some u → w.cell? (a.add j) = some u := by
  intro j u hj
  rcases h with h | ⟨g, o, tb, cs, rfl, hm, h⟩
  · exact ho.old (h j u hj)
  · rw [addr_add, (ho.blk _ hm).2.cell]; exact h j u hj
theorem RS.append {g cap : Nat} {el : TypeId} {m l c : Nat} {a : Addr} {xs junk news : List Value} {H' : HL} (hd : Nat.blt d n = true) (hu : P.underlying t = some (.slice el)) (he : tyChk P el = some (z, ag, by_))
    (hx : ev e x = .slice (some ⟨g, 0, none⟩) l cap) (hrem : Rem ⟨g, el, xs ++ junk⟩ H H') (hlen : xs.length = l * z.length) (hcap : xs.length + junk.length = cap * z.length) (hlc : l ≤ cap) (hmx : cap ≤ maxLen)
    (hy : ev e y = .slice (some a) m c) (hsrc : Src W H a news) (hnl : news.length = m * z.length) (h1 : ∀ u ∈ news, u.oneCell' = true) (hz : 0 < z.length) (h63 : l + m ≤ maxLen) (hby : (l + m) * by_ ≤ 140737488355328)
    (k : ∀ g' cap' junk', xs.length + news.length + junk'.length = cap' * z.length → l + m ≤ cap' → cap' ≤ maxLen → RS P W n ops Q rest (put e d (.slice (some ⟨g', 0, none⟩) (l + m) cap')) (⟨g', el, (xs ++ news) ++ junk'⟩ :: H')) :
    RS P W n ops Q (⟨some d, .call ⟨.builtin .append, #[x, y], #[t, t]⟩, ty, pos, af, none⟩ :: rest) e H := by
  refine RS.step (d := some d) hd fun w ho => ?_
  obtain ⟨i, zv, ds, hi, hds, hzz, hs, hc, ha, hb⟩ := (tyF he).ex
  have hp := ho.perm hrem.perm
  obtain ⟨hg1, hg2⟩ := hp.blk _ (List.mem_cons_self ..)
  have hown : w.ownsRow W.heap.size el z.length (.slice (some ⟨g, 0, none⟩) l cap) l xs := by
    refine ⟨hlen, .inr ⟨g, cap, (xs ++ junk).toArray, rfl, hg1, hg2, hlc, hmx, by simp [hcap], ?_⟩⟩
    simp [← hlen]
  obtain ⟨v', w', r1, r2, r3, r4, r5⟩ := run_append_own_at (P := P) w W.heap.size t ty el i zv z.length by_ hu hi hzz hs hb (by rw [hc]; simp) hz (.slice (some ⟨g, 0, none⟩) l cap) l xs hown a m c news hnl
    (hsrc.at_ ho) h1 h63 hby ho.below.size
  have hne : ¬ (v' = .slice none 0 0) := fun hv => by have := (r4.1 hv).1; cases this
  obtain ⟨q1, q2⟩ := r2
  rcases q2 with ⟨q2, _⟩ | ⟨g', cap', cur, rfl, q3, q4, q5, q6, q7, q8⟩
  · exact (hne q2).elim
  have hcur : cur.toList = (xs ++ news) ++ cur.toList.drop ((l + m) * z.length) := by rw [← q8]; simp
  have hdis : ∀ b ∈ H', b.g ≠ g' := by
    intro b hb hbg
    rcases r5 with r5 | r5 <;> simp only [Value.ownBlock, Option.some.injEq] at r5
    · have := (List.pairwise_cons.1 hp.ne).1 b hb
      exact this (by show g = b.g; omega)
    · have := (ho.perm hrem.perm).blk b (List.mem_cons_of_mem _ hb)
      have := this.2.lt
      omega
  refine ⟨.slice (some ⟨g', 0, none⟩) (l + m) cap', w', ⟨g', el, (xs ++ news) ++ cur.toList.drop ((l + m) * z.length)⟩ :: H', ?_, ⟨?_, fun b hb => ?_, ?_⟩, k g' cap' _ ?_ q5 q6⟩
  · simp only [execOp, resolve, invoke, builtin, Sem.run_bind, Sem.run_pure, Result.andThen_ok, List.map_toArray, List.map_cons, List.map_nil, hx, hy, r1]
  · exact ho.below.grown r3 ho.below.size (fun k hk => by simp only [Value.ownBlock, Option.some.injEq] at hk; subst hk; exact hg1)
  · rcases List.mem_cons.1 hb with rfl | hb
    · refine ⟨q3, ?_⟩
      unfold Blk
      rw [q4, ← hcur]
    · have h2 := hp.blk b (List.mem_cons_of_mem _ hb)
      refine ⟨h2.1, (r3.block b.g h2.2.lt ?_).trans h2.2⟩
      intro hbg
      simp only [Value.ownBlock, Option.some.injEq] at hbg
      exact (List.pairwise_cons.1 hp.ne).1 b hb hbg.symm
  · exact List.pairwise_cons.2 ⟨fun b hb => (hdis b hb).symm, (List.pairwise_cons.1 hp.ne).2⟩
  · have := congrArg List.length hcur
    simp only [List.length_append, Array.length_toList] at this
    omega
theorem RS.appendNil {el : TypeId} {m c : Nat} {a : Addr} {news : List Value} (hd : Nat.blt d n = true) (hu : P.underlying t = some (.slice el)) (he : tyChk P el = some (z, ag, by_))
    (hx : ev e x = .slice none 0 0) (hy : ev e y = .slice (some a) m c) (hm : 0 < m) (hsrc : Src W H a news) (hnl : news.length = m * z.length) (h1 : ∀ u ∈ news, u.oneCell' = true) (hz : 0 < z.length) (h63 : m ≤ maxLen) (hby : m * by_ ≤ 140737488355328)
    (k : ∀ g' cap' junk', news.length + junk'.length = cap' * z.length → m ≤ cap' → cap' ≤ maxLen → RS P W n ops Q rest (put e d (.slice (some ⟨g', 0, none⟩) m cap')) (⟨g', el, news ++ junk'⟩ :: H)) :
    RS P W n ops Q (⟨some d, .call ⟨.builtin .append, #[x, y], #[t, t]⟩, ty, pos, af, none⟩ :: rest) e H := by
  refine RS.step (d := some d) hd fun w ho => ?_
  obtain ⟨i, zv, ds, hi, hds, hzz, hs, hc, ha, hb⟩ := (tyF he).ex
  obtain ⟨v', w', r1, r2, r3, r4, r5⟩ := run_append_own_at (P := P) w W.heap.size t ty el i zv z.length by_ hu hi hzz hs hb (by rw [hc]; simp) hz (.slice none 0 0) 0 [] (World.ownsRow_nil w _ el _) a m c news hnl
    (hsrc.at_ ho) h1 (by simpa using h63) (by simpa using hby) ho.below.size
  have hne : ¬ (v' = .slice none 0 0) := fun hv => by have := (r4.1 hv).2; omega
  obtain ⟨q1, q2⟩ := r2
  rcases q2 with ⟨q2, _⟩ | ⟨g', cap', cur, rfl, q3, q4, q5, q6, q7, q8⟩
  · exact (hne q2).elim
  simp only [Nat.zero_add, List.nil_append] at q5 q8 q1 r1
  have hcur : cur.toList = news ++ cur.toList.drop (m * z.length) := by conv => lhs; rw [← List.take_append_drop (m * z.length) cur.toList, q8]
  have hnew : g' = w.heap.size := by
    rcases r5 with r5 | r5 <;> simp only [Value.ownBlock] at r5
    · cases r5
    · simpa using r5
  refine ⟨.slice (some ⟨g', 0, none⟩) m cap', w', ⟨g', el, news ++ cur.toList.drop (m * z.length)⟩ :: H, ?_, ⟨?_, fun b hb => ?_, ?_⟩, k g' cap' _ ?_ q5 q6⟩
  · simp only [execOp, resolve, invoke, builtin, Sem.run_bind, Sem.run_pure, Result.andThen_ok, List.map_toArray, List.map_cons, List.map_nil, hx, hy, r1]
  · exact ho.below.grown r3 ho.below.size (fun k hk => by simp [Value.ownBlock] at hk)
  · rcases List.mem_cons.1 hb with rfl | hb
    · refine ⟨q3, ?_⟩
      unfold Blk
      rw [q4, ← hcur]
    · have h2 := ho.blk b hb
      exact ⟨h2.1, (r3.block b.g h2.2.lt (by simp [Value.ownBlock])).trans h2.2⟩
  · refine List.pairwise_cons.2 ⟨fun b hb => ?_, ho.ne⟩
    have := (ho.blk b hb).2.lt
    show g' ≠ b.g
    omega
  · have := congrArg List.length hcur
    simp only [List.length_append, Array.length_toList] at this
    omega
/-- a slice literal -/
theorem RS.buildSlice {el : TypeId} {len : Nat} {parts : Array (Nat × Operand)} {zs cs : List Value} (hd : Nat.blt d n = true) (hu : P.underlying t = some (.slice el)) (he : tyChk P el = some (z, ag, by_)) (hl : len * z.length ≤ 16777216) (hp : 0 < len * z.length)
    (hz : (List.range (len * z.length)).map (fun i => z[i % z.length]?.getD default) = zs) (hf : fillL (fun i => some (i * z.length, z.length)) zs (parts.toList.map fun p => (p.1, ev e p.2)) = some cs)
    (k : ∀ g, RS P W n ops Q rest (put e d (.slice (some ⟨g, 0, none⟩) len len)) (⟨g, el, cs⟩ :: H)) : RS P W n ops Q (⟨some d, .buildSlice t len parts, ty, pos, af, none⟩ :: rest) e H := by
  refine RS.step (d := some d) hd fun w ho => ?_
  obtain ⟨zv, h1, h2⟩ := run_zero (w := w) he
  refine ⟨_, _, _, ?_, ho.alloc el cs, k _⟩
  have hf' := fill_of _ _ _ hf
  have e1 : (Array.map (fun x => match x with | (i, x) => (i, ev e x)) parts).toList = parts.toList.map fun p => (p.1, ev e p.2) := by simp
  have e2 : (Array.range (len * z.length)).map (fun i => zv.cells[i % zv.cells.size]!) = zs.toArray := by
    apply Array.toList_inj.1
    rw [← hz, h2]
    simp
  have n1 : ¬ (len * z.length > 2 ^ 24) := by omega
  have n2 : ¬ (len * z.length = 0) := by omega
  simp only [execOp, Instr.buildSlice, Sem.run_bind, run_underlying hu, Result.andThen_ok, run_size he, n1, if_false, n2, h1, Sem.run_pure, e1, e2, hf', newRow, run_newObj]
  rfl
end
end Go.Proofs.YtapcgokcfmklbaaDoor
