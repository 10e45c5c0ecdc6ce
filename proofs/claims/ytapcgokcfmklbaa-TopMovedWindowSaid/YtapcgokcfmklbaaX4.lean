/-
  Part 4 of what the proof leans on (KFr, G3, Ops3, Str, Eq2, Pts, G4, KMem, G5, G6, Trk, G7, KBet, Any2, G8, KMov, G9, KRow, G10, KLen, Whl, Whl2, Whl3, Whl4, Whl5). Conditions: as each theorem says.
-/
import Derived.Test.YtapcgokcfmklbaaX3
import Derived.Lib.AppendStr
import Derived.Lib.UnsafeStr
import Derived.Laws.Strings
namespace Go.Proofs.Ytapcgokcfmklbaa
open Go Go.RowKit

/-! windows' bounds -/
theorem numW_all {u : Win} (h : numW u = true) : numB u.x = true ∧ numB u.y = true ∧ numB u.w = true ∧ numB u.h = true ∧ numB u.soft = true := by
  unfold numW numsB at h
  simpa using h
/-! key frames -/
def frE1 (l : List KF) (i : Nat) : Int :=
  let k := l.getD i default
  let a := (l.getD 0 default).win
  if k.frame < 0 ∨ 16777216 < k.frame then 3
  else if k.ease < 1 ∨ 3 < k.ease then 1
  else if winE k.win ≠ 0 then winE k.win
  else if 0 < i ∧ k.frame ≤ (l.getD (i - 1) default).frame then 8
  else if k.win.kind ≠ a.kind ∨ k.win.out ≠ a.out ∨ k.win.pts.length ≠ a.pts.length then 12
  else 0
def frE (l : List KF) : Int := if l.length = 0 then 10 else if 100 < l.length then 4 else firstE (frE1 l) l.length
section
variable {l : List KF} {i : Nat} {k : KF} {a : Win}
end
/-- how many of the first frames are not past f -/
def cntK (f : Int) : List KF → Nat
  | [] => 0
  | k :: l => if k.frame ≤ f then cntK f l + 1 else 0
/-! between -/
def limV (t : Nat) : Nat := if fcmpB .lss t 0 then 0 else if fcmpB .gtr t 1065353216 then 1065353216 else cl t
def smoothV (t : Nat) : Nat := fo .mul (fo .mul (limV t) (limV t)) (fo .sub 1077936128 (fo .mul 1073741824 (limV t)))
theorem smoothV_is {t a b c d : Nat} (ha : FR (fop .mul (limV t) (limV t)) a) (hb : FR (fop .mul 1073741824 (limV t)) b) (hc : FR (fop .sub 1077936128 b) c) (hd : FR (fop .mul a c) d) : cl d = smoothV t := by
  exact hd.cl' (ha.cl.trans (cl_fo ..).symm) ((hc.cl' rfl (hb.cl.trans (cl_fo ..).symm)).trans (cl_fo ..).symm)
def tV0 (p q : Int) : Nat := (fop .quo (cvF p) (cvF q)).getD 0
/-- how far between two key frames -/
def tV (a b : KF) (f : Int) : Nat := if a.ease = 3 then smoothV (tV0 (f - a.frame) (b.frame - a.frame)) else if a.ease = 1 then 0 else tV0 (f - a.frame) (b.frame - a.frame)
def mixP (p q : Int × Int) (t : Nat) : Int × Int := (nearI (lerpV (cvF p.1) (cvF q.1) t), nearI (lerpV (cvF p.2) (cvF q.2) t))
/-- the first n points mixed, the others as they are -/
def mixPs (ps qs : List (Int × Int)) (t n : Nat) : List (Int × Int) := (List.range ps.length).map fun i => if i < n then mixP (ps.getD i (0, 0)) (qs.getD i (0, 0)) t else ps.getD i (0, 0)
def mixW (a b : Win) (t : Nat) : Win := ⟨a.kind, lerpV a.x b.x t, lerpV a.y b.y t, lerpV a.w b.w t, lerpV a.h b.h t, lerpV a.soft b.soft t, mixPs a.pts b.pts t a.pts.length, a.out⟩
/-- the window of a frame -/
def betw (l : List KF) (f : Int) : Win :=
  let i := cntK f l
  if i = 0 then (l.getD 0 default).win
  else if i = l.length ∨ (l.getD (i - 1) default).frame = f then (l.getD (i - 1) default).win
  else mixW (l.getD (i - 1) default).win (l.getD i default).win (tV (l.getD (i - 1) default) (l.getD i default) f)
/-! moved -/
theorem place_fb {x : Nat} (hn : numB x = true) (h : outF x 3380609024 1233125376 = false) : fb x 24 := by
  have hr1 : Ieee.single.read 3380609024 = .number true 8388608 (-3) := by decide +kernel
  have hr2 : Ieee.single.read 1233125376 = .number false 8388608 (-3) := by decide +kernel
  unfold outF at h
  rw [Bool.or_eq_false_iff] at h
  obtain ⟨h1, h2⟩ := h
  unfold fcmpB Ieee.Format.order at h1 h2
  rw [hr1] at h1
  rw [hr2] at h2
  unfold numB at hn
  cases hd : Ieee.single.read x with
  | nan s f => rw [hd] at hn; cases hn
  | infinity s => rw [hd] at hn; cases hn
  | number s m i =>
    rw [hd] at h1 h2
    have k1 : ¬ Ieee.signed s m (i - min i (-3)).toNat < Ieee.signed true 8388608 (-3 - min i (-3)).toNat := fun h => by
      have e : (Ieee.Datum.number s m i).order (.number true 8388608 (-3)) = some .lt := congrArg some (by rw [Int.compare_eq_lt]; exact h)
      rw [e] at h1; exact absurd h1 (by decide)
    have k2 : ¬ Ieee.signed false 8388608 (-3 - min i (-3)).toNat < Ieee.signed s m (i - min i (-3)).toNat := fun h => by
      have e : (Ieee.Datum.number s m i).order (.number false 8388608 (-3)) = some .gt := congrArg some (by rw [Int.compare_eq_gt]; exact h)
      rw [e] at h2; exact absurd h2 (by decide)
    have eT : ∀ u, Ieee.signed true 8388608 u = -((8388608 * 2 ^ u : Nat) : Int) := fun u => by unfold Ieee.signed; rw [if_pos rfl, Nat.shiftLeft_eq]
    have eF : ∀ u, Ieee.signed false 8388608 u = ((8388608 * 2 ^ u : Nat) : Int) := fun u => by unfold Ieee.signed; rw [if_neg (by decide), Nat.shiftLeft_eq]
    rw [eT] at k1
    rw [eF] at k2
    have hb := signed_abs (Int.not_lt.1 k1) (Int.not_lt.1 k2)
    refine ⟨s, m, i, hd, ?_⟩
    by_cases h0 : m = 0
    · exact .inl h0
    · right
      have c : (8388608 : Nat) = 2 ^ 23 := by decide
      rw [c, ← Nat.pow_add] at hb
      have h3 := log_le (Nat.mul_ne_zero h0 (Nat.ne_of_gt (Nat.two_pow_pos _))) hb
      rw [log2_up h0] at h3
      omega
def addV (x : Nat) (d : Int) : Nat := (fop .add x (cvF d)).getD 0
theorem add_moved {x : Nat} {d : Int} (hn : numB x = true) (h : outF x 3380609024 1233125376 = false) (hd : d.natAbs ≤ 16777215) : fop .add x (cvF d) = some (addV x d) ∧
    ∃ X Y Z, floatToFloatBits .f32 x .f64 = some X ∧ floatToFloatBits .f32 (cvF d) .f64 = some Y ∧ Ieee.double.add X Y = some Z ∧ floatToFloatBits .f64 Z .f32 = some (addV x d) := by
  obtain ⟨r, h6, _, h7⟩ := fb_add (place_fb hn h) (cv_fb hd) (by omega) (by omega)
  have h8 : addV x d = r := by unfold addV; rw [h6]; rfl
  rw [h8]; exact ⟨h6, h7⟩
def movP (p : Int × Int) (dx dy : Int) : Int × Int := (p.1 + dx, p.2 + dy)
/-- the first n points moved -/
def movPs (ps : List (Int × Int)) (dx dy : Int) (n : Nat) : List (Int × Int) := (List.range ps.length).map fun i => if i < n then movP (ps.getD i (0, 0)) dx dy else ps.getD i (0, 0)
theorem movPs_len (ps : List (Int × Int)) (dx dy : Int) (n : Nat) : (movPs ps dx dy n).length = ps.length := by simp [movPs]
theorem movPs_0 (ps : List (Int × Int)) (dx dy : Int) : movPs ps dx dy 0 = ps := by
  refine List.ext_getElem (movPs_len ..) (fun i h1 h2 => ?_)
  simp [movPs, List.getD, h2]
theorem movPs_at {ps : List (Int × Int)} {dx dy : Int} {n i : Nat} (hi : i < ps.length) : (movPs ps dx dy n).getD i (0, 0) = if i < n then movP (ps.getD i (0, 0)) dx dy else ps.getD i (0, 0) := by
  rw [List.getD_eq_getElem?_getD, movPs, List.getElem?_map, List.getElem?_range hi]; rfl
def movW (u : Win) (dx dy : Int) : Win := ⟨u.kind, if u.kind ≠ 3 then addV u.x dx else u.x, if u.kind ≠ 3 then addV u.y dy else u.y, u.w, u.h, u.soft, movPs u.pts dx dy u.pts.length, u.out⟩
def movE (u : Win) (dx dy : Int) : Int := if winE u ≠ 0 then winE u else if plcB dx = false ∨ plcB dy = false then 3 else winE (movW u dx dy)
def zeroW : Win := ⟨0, 0, 0, 0, 0, 0, [], false⟩
def movR (u : Win) (dx dy : Int) : Win := if movE u dx dy = 0 then movW u dx dy else zeroW
theorem mov_1 {u : Win} {dx dy : Int} (h : winE u ≠ 0) : movE u dx dy = winE u ∧ movR u dx dy = zeroW := by
  have e : movE u dx dy = winE u := if_pos h
  exact ⟨e, by unfold movR; rw [e, if_neg h]⟩
theorem mov_2 {u : Win} {dx dy : Int} (h : winE u = 0) (h1 : plcB dx = false ∨ plcB dy = false) : movE u dx dy = 3 ∧ movR u dx dy = zeroW := by
  have e : movE u dx dy = 3 := by unfold movE; rw [if_neg (by simpa using h), if_pos h1]
  exact ⟨e, by unfold movR; rw [e]; rfl⟩
theorem mov_3 {u : Win} {dx dy : Int} (h : winE u = 0) (h1 : plcB dx = true) (h2 : plcB dy = true) : movE u dx dy = winE (movW u dx dy) := by unfold movE; rw [if_neg (by simpa using h), if_neg (by rw [h1, h2]; simp)]
theorem mov_4 {u : Win} {dx dy : Int} (h : winE u = 0) (h1 : plcB dx = true) (h2 : plcB dy = true) (h3 : winE (movW u dx dy) ≠ 0) : movE u dx dy = winE (movW u dx dy) ∧ movR u dx dy = zeroW := by
  have e := mov_3 h h1 h2
  exact ⟨e, by unfold movR; rw [e, if_neg h3]⟩
theorem mov_5 {u : Win} {dx dy : Int} (h : winE u = 0) (h1 : plcB dx = true) (h2 : plcB dy = true) (h3 : winE (movW u dx dy) = 0) : movE u dx dy = 0 ∧ movR u dx dy = movW u dx dy := by
  have e := mov_3 h h1 h2
  exact ⟨e.trans h3, by unfold movR; rw [e, if_pos h3]⟩
/-- what a right window is -/
theorem winE_ok {u : Win} (h : winE u = 0) : (u.kind = 1 ∨ u.kind = 2 ∨ u.kind = 3) ∧ numW u = true ∧ outW u = false ∧ ¬ badP u ∧ anyF u.pts = false := by
  unfold winE at h
  split at h
  · omega
  · split at h
    · omega
    · split at h
      · omega
      · split at h
        · omega
        · split at h
          · omega
          · rename_i q1 q2 q3 q4 q5
            exact ⟨by omega, by simpa using q2, by simpa using q3, q4, by simpa using q5⟩
theorem winE_pts {u : Win} (h : winE u = 0) : u.pts.length ≤ 32 ∧ (u.kind ≠ 3 → u.pts = []) ∧ (u.kind = 3 → 3 ≤ u.pts.length) := by
  obtain ⟨h1, _, _, h2, _⟩ := winE_ok h
  unfold badP at h2
  refine ⟨by omega, fun h => ?_, fun h => by omega⟩
  exact List.eq_nil_of_length_eq_zero (by omega)
theorem winE_xy {u : Win} (h : winE u = 0) : numB u.x = true ∧ outF u.x 3380609024 1233125376 = false ∧ numB u.y = true ∧ outF u.y 3380609024 1233125376 = false := by
  obtain ⟨_, h1, h2, _⟩ := winE_ok h
  obtain ⟨n1, n2, _⟩ := numW_all h1
  unfold outW at h2
  simp only [Bool.or_eq_false_iff] at h2
  exact ⟨n1, h2.1.1.1.1, n2, h2.1.1.1.2⟩
theorem winE_place {u : Win} (h : winE u = 0) {i : Nat} (hi : i < u.pts.length) : -1048576 ≤ (u.pts.getD i (0, 0)).1 ∧ (u.pts.getD i (0, 0)).1 ≤ 1048576 ∧ -1048576 ≤ (u.pts.getD i (0, 0)).2 ∧ (u.pts.getD i (0, 0)).2 ≤ 1048576 := by
  obtain ⟨_, _, _, _, h1⟩ := winE_ok h
  unfold anyF at h1
  rw [List.any_eq_false] at h1
  have h2 := h1 (u.pts.getD i (0, 0)) (by rw [List.getD_eq_getElem?_getD, List.getElem?_eq_getElem hi]; exact List.getElem_mem _)
  generalize u.pts.getD i (0, 0) = p at h2 ⊢
  unfold farP plcB at h2
  simp at h2
  omega
theorem plcB_T {n : Int} (h : plcB n = true) : -1048576 ≤ n ∧ n ≤ 1048576 := by unfold plcB at h; simpa using h
end Go.Proofs.Ytapcgokcfmklbaa

namespace Go.Proofs.Ytapcgokcfmklbaa
open Go Go.Proofs Go.RowKit

end Go.Proofs.Ytapcgokcfmklbaa

namespace Go.Proofs.Ytapcgokcfmklbaa
open Go Go.RowKit

def and64 (i j : Int) : Int := IntKind.i64.wrap (BitVec.ofInt 64 i &&& BitVec.ofInt 64 j).toNat
theorem and64_bd {i j : Int} (h0 : 0 ≤ j) (h1 : j < 9223372036854775808) : 0 ≤ and64 i j ∧ and64 i j ≤ j := by
  have h2 : (BitVec.ofInt 64 i &&& BitVec.ofInt 64 j).toNat ≤ (BitVec.ofInt 64 j).toNat := by
    rw [BitVec.toNat_and]; exact Nat.and_le_right
  have h3 : ((BitVec.ofInt 64 j).toNat : Int) = j := by
    rw [BitVec.toNat_ofInt]
    have : j % ((2 ^ 64 : Nat) : Int) = j := by omega
    rw [this]; omega
  unfold and64
  rw [w64 (by omega) (by omega)]
  omega
section
variable {P : Program} {W : World} {H : HL} {e : Env} {x y : Operand} {t t' ty : TypeId}
theorem QO.and64 {i j : Int} (hx : ev e x = .int .i64 i) (hy : ev e y = .int .i64 j) : QO P W H e (.binOp .and t x y t') ty (.int .i64 (Go.Proofs.Ytapcgokcfmklbaa.and64 i j)) := QO.ibin hx hy (op := .and) trivial
end
/-- the place of a single in the order -/
def plV (v : Nat) : Int := if and64 v 2147483648 ≠ 0 then -(and64 v 2147483647) - 1 else v
end Go.Proofs.Ytapcgokcfmklbaa

namespace Go.Proofs.Ytapcgokcfmklbaa
open Go Go.RowKit

/-- the string of these bytes -/
abbrev sv (l : List UInt8) : Value := .string ⟨l.toArray⟩
/-- bytes as cells -/
def bc (l : List UInt8) : List Value := l.map fun b => Value.int .u8 (b.toNat : Int)
section
variable {P : Program} {W : World} {H : HL} {e : Env} {x y : Operand} {t t' ty : TypeId} {l m : List UInt8}
end
def u8ok (P : Program) (el : TypeId) : Bool := match P.info? el with
  | some i => (match i.zero with | some (.int .u8 0) => true | _ => false) && i.size == 1 && i.bytes == 1
  | none => false
section
variable {P : Program} {W : World} {n : Nat} {ops : Array Oper} {Q : Env → HL → Prop} {rest : List Oper} {e : Env} {H : HL}
variable {d : Tmp} {ty t t2 : TypeId} {pos : String} {af : Array Edge} {x y : Operand} {v : Value}
end
end Go.Proofs.Ytapcgokcfmklbaa

namespace Go.Proofs.Ytapcgokcfmklbaa
open Go Go.RowKit

/-- a field's value -/
inductive Fd where
  | i (z : Int)
  | s (l : List UInt8)
  | f (b : Nat)
  | b (x : Bool)
def Fd.v : Fd → Value
  | .i z => iv z
  | .s l => sv l
  | .f n => flt n
  | .b x => .bool x
def Fd.k : Fd → Nat
  | .i _ => 0
  | .s _ => 1
  | .f _ => 2
  | .b _ => 3
def Fd.eq : Fd → Fd → Bool
  | .i z, .i w => z == w
  | .s l, .s m => l == m
  | .f m, .f n => fcmpB .eql m n
  | .b x, .b y => x == y
  | _, _ => false
def allEq : List Fd → List Fd → Bool
  | [], [] => true
  | a :: l, b :: m => a.eq b && allEq l m
  | _, _ => false
def tyKind (P : Program) (t : TypeId) : Nat :=
  match P.underlying t with
  | some (.int .i64) => 0
  | some .string => 1
  | some (.float .f32) => 2
  | some .bool => 3
  | _ => 9
def mixF (P : Program) : Nat → List Field → List Nat → Bool
  | _, [], [] => true
  | o, f :: fs, k :: ks => f.name != "_" && f.offset == o && tyKind P f.type == k && (match tyChk P f.type with | some ([_], false, _) => true | _ => false) && mixF P (o + 1) fs ks
  | _, _, _ => false
def mixT (P : Program) (t : TypeId) (ks : List Nat) : Bool :=
  match P.underlying t with
  | some (.struct fs) => !P.stoodInHeld t && !P.eqGuardType P.depth t && mixF P 0 fs.toList ks
  | _ => false
section
variable {P : Program} {W : World} {H : HL} {e : Env} {x y : Operand} {t t' ty : TypeId}
theorem equal_nil {w : World} {d : Nat} {el : TypeId} {A : Option Addr} {l c : Nat} (hu : P.underlying t = some (.slice el)) : (Op.equalIn (d + 1) t (.slice A l c) (.slice none 0 0)).run P w = .ok A.isNone w := by
  unfold Op.equalIn
  cases A <;> simp only [Sem.run_bind, run_underlying hu, Result.andThen_ok, Sem.run_pure, Option.isNone]
/-- a slice against nil -/
theorem QO.sliceNil {el : TypeId} {A : Option Addr} {l c : Nat} (hu : P.underlying t = some (.slice el)) (hx : ev e x = .slice A l c) (hy : ev e y = .slice none 0 0) : QO P W H e (.binOp .eql t x y t') ty (.bool A.isNone) := by
  refine QO.bin hx hy (fun w => ?_)
  have h1 : (eqGuard .eql t x y (.slice A l c) (.slice none 0 0)).run P w = .ok () w := by cases A <;> simp [eqGuard]
  have h2 : binOp .eql t (.slice A l c) (.slice none 0 0) = (do pure (.bool (← Op.equalIn 10000 t (.slice A l c) (.slice none 0 0)))) := rfl
  simp only [Sem.run_bind, h1, Result.andThen_ok, h2, equal_nil (P := P) (d := 9999) hu, Sem.run_pure]
end
section
variable {P : Program} {W : World} {n : Nat} {ops : Array Oper} {Q : Env → HL → Prop} {rest : List Oper} {e : Env} {H : HL}
variable {d : Tmp} {ty t : TypeId} {pos : String} {af : Array Edge} {z : List Value} {ag : Bool} {by_ : Nat}
/-- a slice literal of no elements -/
theorem RS.buildSlice0 {el : TypeId} (hd : Nat.blt d n = true) (hu : P.underlying t = some (.slice el)) (he : tyChk P el = some (z, ag, by_))
    (k : ∀ g, RS P W n ops Q rest (put e d (.slice (some ⟨g, 0, none⟩) 0 0)) (⟨g, el, []⟩ :: H)) : RS P W n ops Q (⟨some d, .buildSlice t 0 #[], ty, pos, af, none⟩ :: rest) e H := by
  refine RS.step (d := some d) hd fun w ho => ?_
  refine ⟨_, _, _, ?_, ho.alloc el [], k _⟩
  simp [execOp, Instr.buildSlice, run_underlying hu, run_size he, Instr.fill, newRow]
  exact congrArg (fun a => w.alloc (.cells a el)) (Array.toList_inj.1 (by rw [Array.toList_map, Array.toList_range]; rfl))
end
end Go.Proofs.Ytapcgokcfmklbaa

namespace Go.Proofs.Ytapcgokcfmklbaa
open Go Go.RowKit

theorem PS.src {W : World} {A : Option Addr} {l : List (Int × Int)} (h : PS W A l) (h0 : 0 < l.length) : ∃ b o, A = some ⟨b, o, none⟩ ∧ ∀ j u, (psC l)[j]? = some u → W.cell? ((⟨b, o, none⟩ : Addr).add j) = some u := by
  obtain ⟨b, o, h1, h2⟩ := h h0
  refine ⟨b, o, h1, fun j u hj => ?_⟩
  have hl := (List.getElem?_eq_some_iff.1 hj).1
  rw [psC_len] at hl
  have e := psC_at (l := l) (i := j / 2) (j := j % 2) (by omega) (by omega)
  rw [show 2 * (j / 2) + j % 2 = j by omega, hj] at e
  have := h2 (j / 2) (by omega) (j % 2) u e.symm
  rw [addr_add] at this ⊢
  rw [show o + j / 2 * 2 + j % 2 = o + j by omega] at this
  exact this
theorem psC_one : ∀ l, (psC l).all (·.oneCell') = true
  | [] => rfl
  | p :: l => by
    show (psC (p :: l)).all (·.oneCell') = true
    unfold psC
    simp only [List.all_cons, psC_one l, Bool.and_true, Bool.and_eq_true]
    exact ⟨rfl, rfl⟩
theorem psC_set : ∀ {l : List (Int × Int)} {i j : Nat} {p : Int × Int} {v : Value} {junk : List Value}, i < l.length → j < 2 → ([iv (l.getD i (0, 0)).1, iv (l.getD i (0, 0)).2] : List Value).set j v = [iv p.1, iv p.2] → (psC l ++ junk).set (i * 2 + j) v = psC (l.set i p) ++ junk
  | [], i, _, _, _, _, h, _, _ => absurd h (Nat.not_lt_zero _)
  | a :: l, 0, j, p, v, junk, _, hj, h => by
    have h2 : ([iv a.1, iv a.2] : List Value).set j v = [iv p.1, iv p.2] := h
    show ([iv a.1, iv a.2] ++ (psC l ++ junk)).set (0 * 2 + j) v = [iv p.1, iv p.2] ++ (psC l ++ junk)
    rw [show 0 * 2 + j = j by omega, List.set_append_left _ _ (by show j < 2; exact hj), h2]
  | a :: l, i + 1, j, p, v, junk, hi, hj, h => by
    have ih := psC_set (l := l) (i := i) (junk := junk) (by simpa using hi) hj h
    show ([iv a.1, iv a.2] ++ (psC l ++ junk)).set ((i + 1) * 2 + j) v = [iv a.1, iv a.2] ++ (psC (l.set i p) ++ junk)
    rw [List.set_append_right _ _ (by show 2 ≤ _; omega), ← ih]
    congr 2
    show (i + 1) * 2 + j - 2 = i * 2 + j
    omega
theorem ps_cell {l : List (Int × Int)} {i j : Nat} {v : Value} {junk : List Value} (hi : i < l.length) (hj : ([iv (l.getD i (0, 0)).1, iv (l.getD i (0, 0)).2] : List Value)[j]? = some v) : (psC l ++ junk)[i * 2 + j]? = some v := by
  have hj6 : j < 2 := (List.getElem?_eq_some_iff.1 hj).1
  rw [List.getElem?_append_left (by rw [psC_len]; omega), Nat.mul_comm i 2, psC_at hi hj6]; exact hj
theorem pts_ext {l m : List (Int × Int)} (hl : l.length = m.length) (h : ∀ j, j < l.length → l.getD j (0, 0) = m.getD j (0, 0)) : l = m := by
  apply List.ext_getElem hl
  intro i h1 h2
  have := h i h1
  rwa [List.getD_eq_getElem?_getD, List.getD_eq_getElem?_getD, List.getElem?_eq_getElem h1, List.getElem?_eq_getElem h2] at this
theorem pts_set {l : List (Int × Int)} {i : Nat} {p : Int × Int} (hi : i < l.length) : (l.set i p).getD i (0, 0) = p := by simp [List.getD, hi]
theorem pts_set_ne {l : List (Int × Int)} {i m : Nat} {p : Int × Int} (h : m ≠ i) : (l.set i p).getD m (0, 0) = l.getD m (0, 0) := by
  rw [List.getD_eq_getElem?_getD, List.getElem?_set_ne (fun e => h e.symm), List.getD_eq_getElem?_getD]
/-- the first coordinate of the k-th one changed -/
def ptx (ps : List (Int × Int)) (k : Nat) (x : Int) : List (Int × Int) := ps.set k (x, (ps.getD k (0, 0)).2)
theorem ptx_len (ps : List (Int × Int)) (k : Nat) (x : Int) : (ptx ps k x).length = ps.length := by simp [ptx]
theorem ptx_at {ps : List (Int × Int)} {k : Nat} {x : Int} (h : k < ps.length) : (ptx ps k x).getD k (0, 0) = (x, (ps.getD k (0, 0)).2) := pts_set h
theorem ptx_set {ps : List (Int × Int)} {k : Nat} {x : Int} {junk : List Value} (h : k < ps.length) : (psC ps ++ junk).set (k * 2 + 0) (iv x) = psC (ptx ps k x) ++ junk := psC_set h (by omega) rfl
theorem pty_set {ps : List (Int × Int)} {k : Nat} {x y : Int} {junk : List Value} (h : k < ps.length) : (psC (ptx ps k x) ++ junk).set (k * 2 + 1) (iv y) = psC (ps.set k (x, y)) ++ junk := by
  rw [psC_set (p := (x, y)) (by rw [ptx_len]; exact h) (by omega) (by rw [ptx_at h]; rfl)]
  unfold ptx; rw [List.set_set]
theorem movPs_set {ps : List (Int × Int)} {dx dy : Int} {k : Nat} (hk : k < ps.length) : (movPs ps dx dy k).set k (movP (ps.getD k (0, 0)) dx dy) = movPs ps dx dy (k + 1) := by
  refine pts_ext (by rw [List.length_set, movPs_len, movPs_len]) fun m hm => ?_
  rw [List.length_set, movPs_len] at hm
  rw [movPs_at hm]
  by_cases e : m = k
  · subst e
    rw [pts_set (by rw [movPs_len]; exact hk), if_pos (by omega)]
  · rw [pts_set_ne e, movPs_at hm]
    by_cases h : m < k
    · rw [if_pos h, if_pos (by omega)]
    · rw [if_neg h, if_neg (by omega)]
theorem movPs_k {ps : List (Int × Int)} {dx dy : Int} {k : Nat} (hk : k < ps.length) : (movPs ps dx dy k).getD k (0, 0) = ps.getD k (0, 0) := by
  rw [movPs_at hk, if_neg (by omega)]
theorem mov_x {ps : List (Int × Int)} {dx dy : Int} {k : Nat} {junk : List Value} (hk : k < ps.length) : (psC (movPs ps dx dy k) ++ junk)[k * 2 + 0]? = some (iv (ps.getD k (0, 0)).1) := ps_cell (by rw [movPs_len]; exact hk) (by rw [movPs_k hk]; rfl)
theorem mov_sx {ps : List (Int × Int)} {dx dy : Int} {k : Nat} {junk : List Value} (x : Int) (hk : k < ps.length) : (psC (movPs ps dx dy k) ++ junk).set (k * 2 + 0) (iv x) = psC (ptx (movPs ps dx dy k) k x) ++ junk := ptx_set (by rw [movPs_len]; exact hk)
theorem mov_y {ps : List (Int × Int)} {dx dy : Int} {k : Nat} {junk : List Value} (x : Int) (hk : k < ps.length) : (psC (ptx (movPs ps dx dy k) k x) ++ junk)[k * 2 + 1]? = some (iv (ps.getD k (0, 0)).2) := ps_cell (by rw [ptx_len, movPs_len]; exact hk) (by rw [ptx_at (by rw [movPs_len]; exact hk), movPs_k hk]; rfl)
theorem mov_sy {ps : List (Int × Int)} {dx dy : Int} {k : Nat} {junk : List Value} (hk : k < ps.length) :
    (psC (ptx (movPs ps dx dy k) k ((ps.getD k (0, 0)).1 + dx)) ++ junk).set (k * 2 + 1) (iv ((ps.getD k (0, 0)).2 + dy)) = psC (movPs ps dx dy (k + 1)) ++ junk := by
  rw [pty_set (by rw [movPs_len]; exact hk), ← movPs_set hk]; rfl
/-- points that can be read as long as the blocks handed on stand -/
def OwnP (A : Option Addr) (l : List (Int × Int)) (H : HL) : Prop := ∀ W w, Own W w H → PS w A l
theorem OwnP.nil {A : Option Addr} {H : HL} : OwnP A [] H := fun _ _ _ h => absurd h (Nat.not_lt_zero _)
theorem OwnP.blk {g t : Nat} {l : List (Int × Int)} {junk : List Value} : OwnP (some ⟨g, 0, none⟩) l [⟨g, t, psC l ++ junk⟩] := fun _ _ ho => PS.blk ho (List.mem_cons_self ..)
theorem OwnP.at_ {A : Option Addr} {l : List (Int × Int)} {H H' : HL} {W w : World} (h : OwnP A l H) (ho : Own W w H') (hs : Sbp H H') : PS w A l := h W w (ho.sbp hs)
theorem Sbp.right {H K : HL} : ∀ {L : HL}, Sbp H K → Sbp H (L ++ K)
  | [], h => h
  | _ :: _, h => .skip (Sbp.right h)
/-- points of an argument, or of a block handed on -/
theorem PS.nil {w : World} {A : Option Addr} : PS w A [] := fun h => absurd h (Nat.not_lt_zero _)
section
variable {P : Program} {W : World} {n : Nat} {ops : Array Oper} {Q : Env → HL → Prop} {rest : List Oper} {e : Env} {H : HL}
variable {d : Tmp} {ty t : TypeId} {pos : String} {af : Array Edge} {x y : Operand} {z : List Value} {ag : Bool} {by_ : Nat}
/-- nothing appended to an empty slice of the call's own -/
theorem QO.append0 {el : TypeId} {g c : Nat} {A : Option Addr} (hu : P.underlying t = some (.slice el)) (he : tyChk P el = some (z, ag, by_)) (hx : ev e x = .slice (some ⟨g, 0, none⟩) 0 0) (hy : ev e y = .slice A 0 c) :
    QO P W H e (.call ⟨.builtin .append, #[x, y], #[t, t]⟩) ty (.slice (some ⟨g, 0, none⟩) 0 0) := fun d pos af gd w ho => by
  obtain ⟨i, zv, ds, hi, _⟩ := (tyF he).ex
  have h1 : (Builtin.append_ #[t, t] ty #[.slice (some ⟨g, 0, none⟩) 0 0, .slice A 0 c]).run P w = .ok (.slice (some ⟨g, 0, none⟩) 0 0) w := by
    cases A <;> simp [Builtin.append_, run_underlying hu, sizeOf, typeInfo, hi, Builtin.lenOf, Builtin.firstCells, storeCells, loadCells, loadCellsFrom]
  simp only [execOp, resolve, invoke, builtin, Sem.run_bind, Sem.run_pure, Result.andThen_ok, List.map_toArray, List.map_cons, List.map_nil, hx, hy, h1]
end
end Go.Proofs.Ytapcgokcfmklbaa

namespace Go.Proofs.Ytapcgokcfmklbaa
open Go Go.Proofs Go.RowKit

set_option maxRecDepth 100000 in
theorem cloneN (c : Nat) (W : World) : Fn_ Try.prog 88 #[.slice none 0 c] W (fun v H => v = .slice none 0 0 ∧ H = []) := by
  refine Fn_.intro Try.func88 rfl rfl (by rfl) ?_
  refine CS.seq ?_
  refine CS.region ?_
  refine RS.q rfl (QO.assign) ?_
  refine RS.nil ?_
  refine thenC_n ?_
  refine CS.seq ?_
  refine CS.seq ?_
  refine CS.region ?_
  refine RS.q rfl (QO.move) ?_
  refine RS.q rfl (QO.sliceNil Try.underlying59 (by rfl) (by rfl)) ?_
  refine RS.nil ?_
  refine thenC_n ?_
  refine CS.condT (by rfl) rfl ?_
  refine CS.seq ?_
  refine CS.region ?_
  refine RS.q rfl (QO.assign) ?_
  refine RS.nil ?_
  refine thenC_n ?_
  refine CS.ret ?_
  refine thenC_r ?_
  refine retQ.mk (H' := []) (.inr rfl) (RVs.tmp (by rfl) RVs.nil) (List.nil_sublist _) ?_
  exact ⟨rfl, rfl⟩

set_option maxRecDepth 100000 in
theorem cloneS (a : Addr) (c : Nat) (W : World) : Fn_ Try.prog 88 #[.slice (some a) 0 c] W (fun v H => ∃ A2 c2, v = .slice A2 0 c2 ∧ H = []) := by
  refine Fn_.intro Try.func88 rfl rfl (by rfl) ?_
  refine CS.seq ?_
  refine CS.region ?_
  refine RS.q rfl (QO.assign) ?_
  refine RS.nil ?_
  refine thenC_n ?_
  refine CS.seq ?_
  refine CS.seq ?_
  refine CS.region ?_
  refine RS.q rfl (QO.move) ?_
  refine RS.q rfl (QO.sliceNil Try.underlying59 (by rfl) (by rfl)) ?_
  refine RS.nil ?_
  refine thenC_n ?_
  refine CS.condF (by rfl) rfl ?_
  refine CS.skip ?_
  refine thenC_n ?_
  refine CS.seq ?_
  refine CS.region ?_
  refine RS.buildSlice0 rfl Try.underlying59 ty31 ?_
  intro g5
  refine RS.q rfl (QO.move) ?_
  refine RS.q rfl (QO.append0 (A := some a) (c := c) Try.underlying59 ty31 (by rfl) (by rfl)) ?_
  refine RS.q rfl (QO.assign) ?_
  refine RS.nil ?_
  refine thenC_n ?_
  refine CS.ret ?_
  refine retQ.mk (H' := []) (.inr rfl) (RVs.tmp (by rfl) RVs.nil) (List.nil_sublist _) ?_
  exact ⟨_, _, rfl, rfl⟩

set_option maxRecDepth 100000 in
theorem cloneP (A : Option Addr) (c : Nat) (l : List (Int × Int)) (W : World) (hA : PS W A l) (h0 : 0 < l.length) (hm : l.length ≤ 500) : Fn_ Try.prog 88 #[.slice A l.length c] W (fun v H => ∃ g cap junk, v = .slice (some ⟨g, 0, none⟩) l.length cap ∧ H = [⟨g, 31, psC l ++ junk⟩] ∧ l.length ≤ cap ∧ cap ≤ maxLen) := by
  obtain ⟨bA, oA, rfl, hsrc⟩ := hA.src (by omega)
  refine Fn_.intro Try.func88 rfl rfl (by rfl) ?_
  refine CS.seq ?_
  refine CS.region ?_
  refine RS.q rfl (QO.assign) ?_
  refine RS.nil ?_
  refine thenC_n ?_
  refine CS.seq ?_
  refine CS.seq ?_
  refine CS.region ?_
  refine RS.q rfl (QO.move) ?_
  refine RS.q rfl (QO.sliceNil Try.underlying59 (by rfl) (by rfl)) ?_
  refine RS.nil ?_
  refine thenC_n ?_
  refine CS.condF (by rfl) rfl ?_
  refine CS.skip ?_
  refine thenC_n ?_
  refine CS.seq ?_
  refine CS.region ?_
  refine RS.buildSlice0 rfl Try.underlying59 ty31 ?_
  intro g5
  refine RS.q rfl (QO.move) ?_
  refine RS.appendRow rfl Try.underlying59 ty31 (by rfl) (Row.own (el := 31) (g := g5) (xs := []) (junk := []) rfl rfl (Nat.le_refl 0) (Nat.zero_le _)) (by repeat (first | exact Suf.base | apply Suf.cons)) (a := ⟨bA, oA, none⟩) (news := psC l) (by rfl) (.inl hsrc) (by rw [psC_len, Nat.mul_comm]; rfl) (psC_one l) (by decide) (by omega) (by unfold maxLen; omega) (by omega) ?_
  intro v7 H7 hrow7
  have hx1 := hrow7.some (by omega)
  obtain ⟨gl, cp, jk, hv7, hH7, hcp, hcpx, hln⟩ := hx1
  rw [Nat.zero_add] at hv7 hcp
  subst hv7 hH7
  refine RS.q rfl (QO.assign) ?_
  refine RS.nil ?_
  refine thenC_n ?_
  refine CS.ret ?_
  refine retQ.mk (H' := [⟨gl, 31, [] ++ psC l ++ jk⟩]) (.inr rfl) (RVs.tmp (by rfl) RVs.nil) (by repeat (first | exact List.Sublist.refl _ | exact List.nil_sublist _ | refine List.Sublist.cons_cons _ ?_ | refine List.Sublist.cons _ ?_ | exact Sbp.refl | exact Sbp.nil | refine Sbp.cons (by repeat (first | exact Rem.head | apply Rem.tail)) ?_ | exact Sbp.app | refine Sbp.skip ?_)) ?_
  exact ⟨gl, cp, jk, rfl, rfl, hcp, hcpx⟩

theorem cloneE (A : Option Addr) (c : Nat) (W : World) : Fn_ Try.prog 88 #[.slice A 0 c] W (fun v H => ∃ A2 c2, v = .slice A2 0 c2 ∧ H = []) := by
  cases A with
  | none => exact (cloneN c W).mono fun v H h => ⟨none, 0, h.1, h.2⟩
  | some a => exact cloneS a c W
end Go.Proofs.Ytapcgokcfmklbaa

namespace Go.Proofs.Ytapcgokcfmklbaa
open Go Go.RowKit

section
variable {P : Program} {W : World} {H : HL} {e : Env} {x y : Operand} {t t' ty : TypeId}
end
section
variable {W : World} {b o : Nat} {l : List KF}
theorem KS.at2 (h : KS W (some ⟨b, o, none⟩) l) {i : Nat} (hi : i < l.length) {j : Nat} {v : Value} (hj : (kfC (l.getD i default))[j]? = some v) : W.cell? ⟨b, o + i * 10 + j, none⟩ = some v := by
  obtain ⟨b', o', e1, h1, _⟩ := h.at_ hi
  injection e1 with e2
  injection e2 with e3 e4
  subst e3 e4
  have := h1 j v hj
  rwa [addr_add] at this
theorem KS.ok (h : KS W (some ⟨b, o, none⟩) l) {i : Nat} (hi : i < l.length) : okWin W (l.getD i default).win (l.getD i default).A := by
  obtain ⟨b', o', e1, _, h2⟩ := h.at_ hi
  exact h2
theorem KS.isS {A : Option Addr} (h : KS W A l) (h0 : 0 < l.length) : ∃ b o, A = Option.some ⟨b, o, none⟩ := by
  obtain ⟨b, o, h1, _⟩ := h h0
  exact ⟨b, o, h1⟩
/-- its window -/
theorem KS.win (h : KS W (Option.some ⟨b, o, none⟩) l) {i : Nat} (hi : i < l.length) {q : Nat} (hq : q = o + i * 10 + 2) : ∀ j v, (winC (l.getD i default).win (l.getD i default).A (l.getD i default).c)[j]? = Option.some v → W.cell? ((⟨b, q, none⟩ : Addr).add j) = Option.some v := fun j v hj => by
  rw [addr_add, hq, show o + i * 10 + 2 + j = o + i * 10 + (j + 2) by omega]; exact h.at2 hi (by unfold kfC; simpa using hj)
/-- its frame -/
theorem KS.frame (h : KS W (Option.some ⟨b, o, none⟩) l) {i : Nat} (hi : i < l.length) {q : Nat} (hq : q = o + i * 10) : W.cell? ⟨b, q, none⟩ = Option.some (iv (l.getD i default).frame) := by
  rw [hq]; exact h.at2 (j := 0) hi rfl
end
end Go.Proofs.Ytapcgokcfmklbaa

namespace Go.Proofs.Ytapcgokcfmklbaa
open Go Go.Proofs Go.RowKit

theorem ty4 : tyChk Try.prog 4 = some ([.bool false], false, 1) := by kernel_rfl
theorem ty61 : tyChk Try.prog 61 = some ([.int .i64 0, .float .f32 0, .float .f32 0, .float .f32 0, .float .f32 0, .float .f32 0, .slice none 0 0, .bool false], true, 64) := by kernel_rfl
theorem fo61_7 : fldOff Try.prog 61 7 = some (7, 4) := by kernel_rfl
theorem ok88 : callOK Try.prog 88 = true := by kernel_rfl

theorem cloneE1 (A : Option Addr) (c : Nat) (l : List (Int × Int)) (W : World) (h : l = []) : Fn_ Try.prog 88 #[.slice A l.length c] W (fun v H => ∃ A2 c2, v = .slice A2 l.length c2 ∧ H = []) := by
  subst h; exact cloneE A c W
set_option maxRecDepth 100000 in
theorem clonedE (u : Win) (A : Option Addr) (c : Nat) (W : World) (he : u.pts = []) : Fn_ Try.prog 70 #[.agg #[iv u.kind, flt u.x, flt u.y, flt u.w, flt u.h, flt u.soft, .slice A u.pts.length c, .bool u.out]] W (fun v H => ∃ A2 c2, v = .agg #[iv u.kind, flt u.x, flt u.y, flt u.w, flt u.h, flt u.soft, .slice A2 u.pts.length c2, .bool u.out] ∧ H = []) := by
  refine Fn_.intro Try.func70 rfl rfl (by rfl) ?_
  refine CS.seq ?_
  refine CS.region ?_
  refine RS.box rfl (by rfl) (by rfl) ?_
  intro g1
  refine RS.alloc rfl ty61 ?_
  intro g2
  refine RS.nil ?_
  refine thenC_n ?_
  refine CS.seq ?_
  refine CS.region ?_
  refine RS.q rfl (QO.fieldAddr fo61_6 (by rfl)) ?_
  first | (refine RS.q rfl (QO.load ty59 (by rfl) (by repeat (first | exact List.Mem.head _ | refine List.Mem.tail _ ?_)) (by rfl)) ?_) | (refine RS.q rfl (QO.loadO ty59 (by rfl) (by assumption)) ?_) | (refine RS.q rfl (QO.load ty59 (by rfl) (by repeat (first | exact List.Mem.head _ | refine List.Mem.tail _ ?_)) (by assumption)) ?_)
  refine RS.call rfl (by rfl) ok88 (by rfl) (fun w ho => cloneE1 A c u.pts _ he) ?_
  rintro _ _ ⟨A2, c2, rfl, rfl⟩
  refine RS.q rfl (QO.fieldAddr fo61_6 (by rfl)) ?_
  refine RS.store1 ty59 rfl (by rfl) (by rfl) (by rfl) (by repeat (first | exact Upd.head | apply Upd.tail)) (by first | (simp; done) | (simp; omega) | omega) ?_
  refine RS.nil ?_
  refine thenC_n ?_
  refine CS.seq ?_
  refine CS.region ?_
  first | (refine RS.q rfl (QO.loadB ty61 (by rfl) (by repeat (first | exact List.Mem.head _ | refine List.Mem.tail _ ?_)) (by rfl)) ?_) | (refine RS.q rfl (QO.loadA ty61 (by rfl) (by repeat (first | exact List.Mem.head _ | refine List.Mem.tail _ ?_)) (by rfl) (by rfl)) ?_) | (refine RS.q rfl (QO.loadOA ty61 (by rfl) (by assumption) (by rfl)) ?_)
  first | refine RS.storeB ty61 (by rfl) (by rfl) (by rfl) (by rfl) (by rfl) (by repeat (first | exact Upd.head | apply Upd.tail)) (by rfl) ?_ | refine RS.storeP ty61 (by rfl) (by rfl) (by rfl) (by rfl) (by rfl) (by repeat (first | exact Upd.head | apply Upd.tail)) (by rfl) ?_
  refine RS.nil ?_
  refine thenC_n ?_
  refine CS.ret ?_
  refine retQ.mk (H' := []) (.inr rfl) (RVs.cellA ty61 (by rfl) (by repeat (first | exact List.Mem.head _ | refine List.Mem.tail _ ?_)) (by rfl) RVs.nil) (List.nil_sublist _) ?_
  exact ⟨A2, c2, rfl, rfl⟩

set_option maxRecDepth 100000 in
theorem clonedP (u : Win) (A : Option Addr) (c : Nat) (W : World) (hA : PS W A u.pts) (h0 : 0 < u.pts.length) (hm : u.pts.length ≤ 500) : Fn_ Try.prog 70 #[.agg #[iv u.kind, flt u.x, flt u.y, flt u.w, flt u.h, flt u.soft, .slice A u.pts.length c, .bool u.out]] W (fun v H => ∃ g cap junk, v = .agg #[iv u.kind, flt u.x, flt u.y, flt u.w, flt u.h, flt u.soft, .slice (some ⟨g, 0, none⟩) u.pts.length cap, .bool u.out] ∧ H = [⟨g, 31, psC u.pts ++ junk⟩] ∧ u.pts.length ≤ cap ∧ cap ≤ maxLen) := by
  refine Fn_.intro Try.func70 rfl rfl (by rfl) ?_
  refine CS.seq ?_
  refine CS.region ?_
  refine RS.box rfl (by rfl) (by rfl) ?_
  intro g1
  refine RS.alloc rfl ty61 ?_
  intro g2
  refine RS.nil ?_
  refine thenC_n ?_
  refine CS.seq ?_
  refine CS.region ?_
  refine RS.q rfl (QO.fieldAddr fo61_6 (by rfl)) ?_
  first | (refine RS.q rfl (QO.load ty59 (by rfl) (by repeat (first | exact List.Mem.head _ | refine List.Mem.tail _ ?_)) (by rfl)) ?_) | (refine RS.q rfl (QO.loadO ty59 (by rfl) (by assumption)) ?_) | (refine RS.q rfl (QO.load ty59 (by rfl) (by repeat (first | exact List.Mem.head _ | refine List.Mem.tail _ ?_)) (by assumption)) ?_)
  refine RS.call rfl (by rfl) ok88 (by rfl) (fun w ho => cloneP A c u.pts _ (hA.own ho) h0 hm) ?_
  rintro _ _ ⟨gl, cp, jk, rfl, rfl, hcp, hcpx⟩
  refine RS.q rfl (QO.fieldAddr fo61_6 (by rfl)) ?_
  refine RS.store1 ty59 rfl (by rfl) (by rfl) (by rfl) (by repeat (first | exact Upd.head | apply Upd.tail)) (by first | (simp; done) | (simp; omega) | omega) ?_
  refine RS.nil ?_
  refine thenC_n ?_
  refine CS.seq ?_
  refine CS.region ?_
  first | (refine RS.q rfl (QO.loadB ty61 (by rfl) (by repeat (first | exact List.Mem.head _ | refine List.Mem.tail _ ?_)) (by rfl)) ?_) | (refine RS.q rfl (QO.loadA ty61 (by rfl) (by repeat (first | exact List.Mem.head _ | refine List.Mem.tail _ ?_)) (by rfl) (by rfl)) ?_) | (refine RS.q rfl (QO.loadOA ty61 (by rfl) (by assumption) (by rfl)) ?_)
  first | refine RS.storeB ty61 (by rfl) (by rfl) (by rfl) (by rfl) (by rfl) (by repeat (first | exact Upd.head | apply Upd.tail)) (by rfl) ?_ | refine RS.storeP ty61 (by rfl) (by rfl) (by rfl) (by rfl) (by rfl) (by repeat (first | exact Upd.head | apply Upd.tail)) (by rfl) ?_
  refine RS.nil ?_
  refine thenC_n ?_
  refine CS.ret ?_
  refine retQ.mk (H' := [⟨gl, 31, psC u.pts ++ jk⟩]) (.inr rfl) (RVs.cellA ty61 (by rfl) (by repeat (first | exact List.Mem.head _ | refine List.Mem.tail _ ?_)) (by rfl) RVs.nil) (by repeat (first | exact List.Sublist.refl _ | exact List.nil_sublist _ | refine List.Sublist.cons_cons _ ?_ | refine List.Sublist.cons _ ?_ | exact Sbp.refl | exact Sbp.nil | refine Sbp.cons (by repeat (first | exact Rem.head | apply Rem.tail)) ?_ | exact Sbp.app | refine Sbp.skip ?_)) ?_
  exact ⟨gl, cp, jk, rfl, rfl, hcp, hcpx⟩

end Go.Proofs.Ytapcgokcfmklbaa

namespace Go.Proofs.Ytapcgokcfmklbaa
open Go Go.Proofs Go.RowKit

theorem ok74 : callOK Try.prog 74 = true := by kernel_rfl

def e3 (k : KF) : Int := if (if decide (k.frame < 0 ∨ 16777216 < k.frame) = true then (3 : Int) else 0) ≠ 0 then (if decide (k.frame < 0 ∨ 16777216 < k.frame) = true then (3 : Int) else 0) else if (if decide (k.ease < 1 ∨ 3 < k.ease) = true then (1 : Int) else 0) ≠ 0 then (if decide (k.ease < 1 ∨ 3 < k.ease) = true then (1 : Int) else 0) else winE k.win
end Go.Proofs.Ytapcgokcfmklbaa

namespace Go.Proofs.Ytapcgokcfmklbaa
open Go Go.RowKit

section
variable {P : Program} {W : World} {H : HL} {e : Env} {x : Operand} {t t' ty : TypeId}
theorem QO.conv_ff {s k : FloatKind} {v d : Nat} (hu : (P.underlying t).isSome = true) (hu' : P.underlying t' = some (.float k)) (hx : ev e x = .float s v) (h : floatToFloatBits s v k = some d) : QO P W H e (.convert t t' x) ty (.float k d) := fun d' pos af gd w _ => by
  have h1 := run_convert_float_float (P := P) (w := w) t t' s k v d hu hu' h
  simp only [execOp, hx, Sem.run_bind, Sem.run_pure]
  simp [h1]
end
/-- the magnitude of a double, in bits -/
def absN (d : Nat) : Nat := (IntKind.u64.wrap ((BitVec.ofInt 64 (d : Int) &&& ~~~ BitVec.ofInt 64 9223372036854775808).toNat : Int)).toNat
def absF (r : Nat) : Option Nat := (floatToFloatBits .f32 r .f64).bind fun d => floatToFloatBits .f64 (absN d) .f32
theorem absF_some {r s : Nat} (h : absF r = some s) : ∃ d, floatToFloatBits .f32 r .f64 = some d ∧ floatToFloatBits .f64 (absN d) .f32 = some s := by
  unfold absF at h
  exact Option.bind_eq_some_iff.1 h
/-- the pattern -/
def pat (i : Nat) : Nat := cvF (((i * i * 7 + i * 13) % 251 + i : Nat) : Int)
def difR (u v : Nat) : Option Nat := (fop .sub u v).bind absF
/-- how far two singles differ -/
def dif (u v : Nat) : Nat := if cl u = cl v then 0 else cl ((difR u v).getD 0)
def cmpF (p q t : Nat) : Nat := dif (pat (4 * ((3 + t / 9) * 9 + 3 + t / 3 % 3) + t % 3)) (pat (4 * ((1 + q + t / 9) * 9 + 1 + p + t / 3 % 3) + t % 3))
def cmpL (p q n : Nat) : List Nat := (List.range n).map (cmpF p q)
/-- how far the pattern differs from itself, moved -/
def cmpR (p q : Nat) : Nat := fo .quo (sum (cmpL p q 27)) (cvF 27)
theorem cmpR_all : ∀ p : Nat, p < 5 → ∀ q : Nat, q < 5 → nan32 (cmpR p q) = false ∧ (p = 2 ∧ q = 2 → cmpR p q = 0) ∧ (¬ (p = 2 ∧ q = 2) → fcmpB .lss 0 (cmpR p q) = true ∧ fcmpB .lss (cmpR p q) 0 = false) := by decide +kernel
structure TS where
  fnd : Bool
  bx : Int
  bz : Int
  ls : Nat
/-- what is known behind k places, the right one being the k0-th -/
def TInv (k0 : Nat) (dx dz : Int) (k : Nat) (s : TS) : Prop :=
  (k ≤ k0 → s.fnd = decide (0 < k) ∧ (0 < k → fcmpB .lss 0 s.ls = true)) ∧ (k0 < k → s.fnd = true ∧ s.bx = dx ∧ s.bz = dz ∧ s.ls = 0)
theorem TInv.start (k0 : Nat) (dx dz : Int) (s : TS) (h : s.fnd = false) : TInv k0 dx dz 0 s := ⟨fun _ => ⟨h, fun h => by omega⟩, fun h => by omega⟩
theorem TInv.step {px py qx qy k : Nat} {s : TS} (hpx : px < 3) (hpy : py < 3) (hqx : qx < 3) (hqy : qy < 3) (hk : k = 3 * qy + qx) (h : TInv (3 * py + px) ((px : Int) - 1) ((py : Int) - 1) k s) :
    ((!s.fnd) = true ∨ fcmpB .lss (cmpR (qx + 2 - px) (qy + 2 - py)) s.ls = true → TInv (3 * py + px) ((px : Int) - 1) ((py : Int) - 1) (k + 1) ⟨true, (qx : Int) - 1, (qy : Int) - 1, cmpR (qx + 2 - px) (qy + 2 - py)⟩) ∧
    ((!s.fnd) = false → fcmpB .lss (cmpR (qx + 2 - px) (qy + 2 - py)) s.ls = false → TInv (3 * py + px) ((px : Int) - 1) ((py : Int) - 1) (k + 1) s) := by
  obtain ⟨c1, c2, c3⟩ := cmpR_all (qx + 2 - px) (by omega) (qy + 2 - py) (by omega)
  obtain ⟨h1, h2⟩ := h
  refine ⟨fun hu => ⟨fun hk1 => ⟨?_, fun _ => ?_⟩, fun hk1 => ?_⟩, fun hf hu => ⟨fun hk1 => ⟨?_, fun _ => ?_⟩, fun hk1 => ?_⟩⟩
  · exact (decide_eq_true (by omega)).symm
  · exact (c3 (by omega)).1
  · rcases Nat.lt_or_ge (3 * py + px) k with h9 | h9
    · exfalso
      obtain ⟨e1, _, _, e4⟩ := h2 h9
      rw [e1, e4] at hu
      rcases hu with hu | hu
      · cases hu
      · rw [(c3 (by omega)).2] at hu; cases hu
    · have e : qx = px ∧ qy = py := by omega
      refine ⟨rfl, ?_, ?_, c2 (by omega)⟩
      · show (qx : Int) - 1 = _; omega
      · show (qy : Int) - 1 = _; omega
  · have := (h1 (by omega)).1
    rw [decide_eq_true (by omega)]
    cases hs : s.fnd
    · rw [hs] at hf; cases hf
    · rfl
  · rcases Nat.eq_zero_or_pos k with h0 | h0
    · exfalso
      have := (h1 (by omega)).1
      rw [h0] at this
      rw [this] at hf; cases hf
    · exact (h1 (by omega)).2 h0
  · rcases Nat.lt_or_ge (3 * py + px) k with h9 | h9
    · exact h2 h9
    · exfalso
      have e : qx + 2 - px = 2 ∧ qy + 2 - py = 2 := by omega
      rw [c2 e] at hu
      rcases Nat.eq_zero_or_pos k with h0 | h0
      · have := (h1 (by omega)).1
        rw [h0] at this
        rw [this] at hf; cases hf
      · rw [(h1 (by omega)).2 h0] at hu; cases hu
theorem TInv.done {px py : Nat} {dx dz : Int} {s : TS} (hpx : px < 3) (hpy : py < 3) (h : TInv (3 * py + px) dx dz 9 s) : s.fnd = true ∧ s.bx = dx ∧ s.bz = dz ∧ s.ls = 0 := h.2 (by omega)
end Go.Proofs.Ytapcgokcfmklbaa

namespace Go.Proofs.Ytapcgokcfmklbaa
open Go Go.Proofs Go.RowKit

theorem ok125 : callOK Try.prog 125 = true := by kernel_rfl
section
variable {P : Program} {W : World} {H : HL} {e : Env} {x y : Operand} {t t' ty : TypeId}
end
theorem limV_1 {t : Nat} (h : fcmpB .lss t 0 = true) : cl 0 = limV t := by unfold limV; rw [if_pos h]; rfl
theorem limV_2 {t : Nat} (h : fcmpB .lss t 0 = false) (h2 : fcmpB .gtr t 1065353216 = true) : cl 1065353216 = limV t := by unfold limV; rw [if_neg (by rw [h]; decide), if_pos h2]; rfl
theorem limV_3 {t : Nat} (h : fcmpB .lss t 0 = false) (h2 : fcmpB .gtr t 1065353216 = false) : cl t = limV t := by unfold limV; rw [if_neg (by rw [h]; decide), if_neg (by rw [h2]; decide)]
set_option maxRecDepth 100000 in
theorem limit1 (t : Nat) (W : World) : Fn_ Try.prog 125 #[flt t, flt 0, flt 1065353216] W (fun v H => v = flt (limV t) ∧ H = []) := by
  refine Fn_.intro Try.func125 rfl rfl (by rfl) ?_
  refine CS.seq ?_
  refine CS.region ?_
  refine RS.q rfl (QO.assign) ?_
  refine RS.nil ?_
  refine thenC_n ?_
  refine CS.seq ?_
  refine CS.block ?_
  refine CS.seq ?_
  refine CS.region ?_
  refine RS.q rfl (QO.move) ?_
  refine RS.q rfl (QO.move) ?_
  refine RS.q rfl (QO.fcmp32 (by rfl) (by rfl) (by simp)) ?_
  refine RS.q rfl (QO.assign) ?_
  refine RS.nil ?_
  refine thenC_n ?_
  refine CS.cond (by rfl) (fun hb0 => ?_) (fun hb0 => ?_)
  · refine CS.seq ?_
    refine CS.region ?_
    refine RS.q rfl (QO.move) ?_
    refine RS.call rfl (by rfl) ok57 (by rfl) (fun w ho => clean _ _) ?_
    rintro _ _ ⟨rfl, rfl⟩
    refine RS.q rfl (QO.assign) ?_
    refine RS.nil ?_
    refine thenC_n ?_
    refine CS.ret ?_
    refine blockC_r ?_
    refine thenC_r ?_
    refine retQ.mk (H' := []) (.inr rfl) (RVs.tmp (by rfl) RVs.nil) (List.nil_sublist _) ?_
    first | exact ⟨congrArg flt (limV_1 (by assumption)), rfl⟩ | exact ⟨congrArg flt (limV_2 (by assumption) (by assumption)), rfl⟩ | exact ⟨congrArg flt (limV_3 (by assumption) (by assumption)), rfl⟩
  · refine CS.seq ?_
    refine CS.region ?_
    refine RS.q rfl (QO.move) ?_
    refine RS.q rfl (QO.move) ?_
    refine RS.q rfl (QO.fcmp32 (by rfl) (by rfl) (by simp)) ?_
    refine RS.q rfl (QO.assign) ?_
    refine RS.nil ?_
    refine thenC_n ?_
    refine CS.cond (by rfl) (fun hb1 => ?_) (fun hb1 => ?_)
    · refine CS.seq ?_
      refine CS.region ?_
      refine RS.q rfl (QO.move) ?_
      refine RS.call rfl (by rfl) ok57 (by rfl) (fun w ho => clean _ _) ?_
      rintro _ _ ⟨rfl, rfl⟩
      refine RS.q rfl (QO.assign) ?_
      refine RS.nil ?_
      refine thenC_n ?_
      refine CS.ret ?_
      refine blockC_r ?_
      refine thenC_r ?_
      refine retQ.mk (H' := []) (.inr rfl) (RVs.tmp (by rfl) RVs.nil) (List.nil_sublist _) ?_
      first | exact ⟨congrArg flt (limV_1 (by assumption)), rfl⟩ | exact ⟨congrArg flt (limV_2 (by assumption) (by assumption)), rfl⟩ | exact ⟨congrArg flt (limV_3 (by assumption) (by assumption)), rfl⟩
    · refine CS.skip ?_
      refine blockC_n ?_
      refine thenC_n ?_
      refine CS.seq ?_
      refine CS.region ?_
      refine RS.q rfl (QO.move) ?_
      refine RS.call rfl (by rfl) ok57 (by rfl) (fun w ho => clean _ _) ?_
      rintro _ _ ⟨rfl, rfl⟩
      refine RS.q rfl (QO.assign) ?_
      refine RS.nil ?_
      refine thenC_n ?_
      refine CS.ret ?_
      refine retQ.mk (H' := []) (.inr rfl) (RVs.tmp (by rfl) RVs.nil) (List.nil_sublist _) ?_
      first | exact ⟨congrArg flt (limV_1 (by assumption)), rfl⟩ | exact ⟨congrArg flt (limV_2 (by assumption) (by assumption)), rfl⟩ | exact ⟨congrArg flt (limV_3 (by assumption) (by assumption)), rfl⟩

set_option maxRecDepth 100000 in
theorem smooth_ (t : Nat) (W : World) : Fn_ Try.prog 71 #[flt t] W (fun v H => v = flt (smoothV t) ∧ H = []) := by
  refine Fn_.intro Try.func71 rfl rfl (by rfl) ?_
  refine CS.seq ?_
  refine CS.region ?_
  refine RS.q rfl (QO.assign) ?_
  refine RS.nil ?_
  refine thenC_n ?_
  refine CS.seq ?_
  refine CS.region ?_
  refine RS.q rfl (QO.move) ?_
  refine RS.call rfl (by rfl) ok125 (by rfl) (fun w ho => limit1 t _) ?_
  rintro _ _ ⟨rfl, rfl⟩
  refine RS.q rfl (QO.assign) ?_
  refine RS.nil ?_
  refine thenC_n ?_
  refine CS.seq ?_
  refine CS.region ?_
  refine RS.q rfl (QO.move) ?_
  refine RS.q rfl (QO.move) ?_
  refine RS.farith rfl (by rfl) (by rfl) (by simp) ?_
  intro r8 hr8
  refine RS.q rfl (QO.move) ?_
  refine RS.farith rfl (by rfl) (by rfl) (by simp) ?_
  intro r10 hr10
  refine RS.farith rfl (by rfl) (by rfl) (by simp) ?_
  intro r11 hr11
  refine RS.farith rfl (by rfl) (by rfl) (by simp) ?_
  intro r12 hr12
  refine RS.call rfl (by rfl) ok57 (by rfl) (fun w ho => clean _ _) ?_
  rintro _ _ ⟨rfl, rfl⟩
  refine RS.q rfl (QO.assign) ?_
  refine RS.nil ?_
  refine thenC_n ?_
  refine CS.ret ?_
  refine retQ.mk (H' := []) (.inr rfl) (RVs.tmp (by rfl) RVs.nil) (List.nil_sublist _) ?_
  exact ⟨congrArg flt (smoothV_is hr8 hr10 hr11 hr12), rfl⟩

end Go.Proofs.Ytapcgokcfmklbaa

namespace Go.Proofs.Ytapcgokcfmklbaa
open Go Go.RowKit

def wV (u : Win) (A : Option Addr) (c : Nat) : Value := .agg #[iv u.kind, flt u.x, flt u.y, flt u.w, flt u.h, flt u.soft, .slice A u.pts.length c, .bool u.out]
theorem PS.cell_ {W : World} {A : Option Addr} {l : List (Int × Int)} {b o : Nat} (h : PS W A l) (hA : A = some ⟨b, o, none⟩) {i j q : Nat} {v : Value} (hi : i < l.length) (hq : q = o + i * 2 + j) (hv : ([iv (l.getD i (0, 0)).1, iv (l.getD i (0, 0)).2] : List Value)[j]? = some v) : W.cell? ⟨b, q, none⟩ = some v := by
  obtain ⟨b', o', e1, h1⟩ := h (by omega)
  rw [hA] at e1
  injection e1 with e2
  injection e2 with e3 e4
  subst e3 e4
  have := h1 i hi j v hv
  rwa [addr_add, ← hq] at this
theorem PS.isS {W : World} {A : Option Addr} {l : List (Int × Int)} (h : PS W A l) (h0 : 0 < l.length) : ∃ b o, A = Option.some ⟨b, o, none⟩ := by
  obtain ⟨b, o, h1, _⟩ := h h0
  exact ⟨b, o, h1⟩
end Go.Proofs.Ytapcgokcfmklbaa

namespace Go.Proofs.Ytapcgokcfmklbaa
open Go Go.RowKit

/-- none of X has come up -/
def noX (X : List Nat) (listed : Array Bool) : Bool := X.all fun x => !listed.getD x false
/-- Whatever order is picked from here on; behind each operation the world meets T, and S as long as none of X has come up. -/
def wpAny2 (P : Program) (ops : Array Oper) (Q : Exit → Act → World → Prop) (S T : World → Prop) (X : List Nat) : Nat → Array Bool → Act → World → Prop
  | 0, listed, a, w => Region.ready .any ops listed = [] ∧ Q .normal a w
  | fuel + 1, listed, a, w =>
    (Region.ready .any ops listed = [] → Q .normal a w) ∧
    ∀ i ∈ Region.ready .any ops listed, wpOp P ops Q i (fun a' w' => ((noX X (listed.setIfInBounds i true) = true → S w') ∧ T w') ∧ wpAny2 P ops Q S T X fuel (listed.setIfInBounds i true) a' w') a w
/-- each operation of X waits for i -/
def waitsX (ops : Array Oper) (X : List Nat) (i : Nat) : Bool := X.all fun j => match ops[j]? with
  | some o => o.after.any fun e => Region.binds .any e && e.on == i
  | none => true
section
variable {P : Program} {ops : Array Oper} {Q : Exit → Act → World → Prop} {S T : World → Prop} {X : List Nat}
end
/-! ### in the calculus -/
def RT2 (P : Program) (W : World) (n : Nat) (ops : Array Oper) (X : List Nat) (HS HT : HL) (Q : Env → HL → Prop) (fuel : Nat) (listed : Array Bool) (e : Env) (H : HL) : Prop :=
  Region.noSelect ops = true → (noX X listed = true → HS.Sublist H) → HT.Sublist H → ∀ a w, Rep n a e → Own W w H → wpAny2 P ops (PostN W n Q) (fun w => Own W w HS) (fun w => Own W w HT) X fuel listed a w
section
variable {P : Program} {W : World} {n : Nat} {ops : Array Oper} {X : List Nat} {HS HT H : HL} {Q : Env → HL → Prop} {fuel : Nat} {listed : Array Bool} {e : Env}
variable {d : Tmp} {op : Op} {ty : TypeId} {pos : String} {af : Array Edge} {v : Value} {i j : Nat}
theorem RT2.done (hr : Region.ready .any ops listed = []) (h : Q e H) : RT2 P W n ops X HS HT Q fuel listed e H := by
  intro _ _ _ a w hrep ho
  have hp : PostN W n Q .normal a w := ⟨e, H, hrep, ho, h⟩
  cases fuel with
  | zero => exact ⟨hr, hp⟩
  | succ f => exact ⟨fun _ => hp, by rw [hr]; simp⟩
def take2OK (ops : Array Oper) (X : List Nat) (listed : Array Bool) (i : Nat) : Bool := !X.contains i && Region.free .any ops listed i && (Region.ready .any ops listed).contains i
def take1OK (ops : Array Oper) (X : List Nat) (listed : Array Bool) (i : Nat) : Bool := take2OK ops X listed i && waitsX ops X i && noX X listed
/-- the only one that may come up, before X -/
theorem RT2.one {o : Oper} (hr : Region.ready .any ops listed = [i]) (hi : ops[i]? = some o)
    (h : RS P W n ops (fun e' H' => HS.Sublist H' ∧ HT.Sublist H' ∧ RT2 P W n ops X HS HT Q fuel (listed.setIfInBounds i true) e' H') [o] e H) :
    RT2 P W n ops X HS HT Q (fuel + 1) listed e H := by
  intro hs hS hT a w hrep ho
  refine ⟨fun h0 => (by rw [hr] at h0; cases h0), fun q hq => ?_⟩
  rw [hr] at hq
  obtain rfl : q = i := by simpa using hq
  exact wpOp_mono (fun a' w' ⟨e', H', h1, h2, h3, h4, h5⟩ => ⟨⟨fun _ => h2.sub h3, h2.sub h4⟩, h5 hs (fun _ => h3) h4 a' w' h1 h2⟩) (wpOp_of_RS hi h hrep ho)
end
end Go.Proofs.Ytapcgokcfmklbaa

namespace Go.Proofs.Ytapcgokcfmklbaa
open Go Go.Proofs Go.RowKit

theorem pl61 : places Try.prog 61 = some #[(0, 1), (1, 1), (2, 1), (3, 1), (4, 1), (5, 1), (6, 1), (7, 1)] := by kernel_rfl
theorem ok70 : callOK Try.prog 70 = true := by kernel_rfl
theorem ok71 : callOK Try.prog 71 = true := by kernel_rfl
end Go.Proofs.Ytapcgokcfmklbaa

namespace Go.Proofs.Ytapcgokcfmklbaa
open Go Go.RowKit

section
variable {P : Program} {W : World} {H : HL} {e : Env} {x y : Operand} {t t' ty : TypeId}
/-- adding where there is a sum -/
theorem QO.faddS {i j r : Nat} (hx : ev e x = .float .f32 i) (hy : ev e y = .float .f32 j) (h : fop .add i j = some r) : QO P W H e (.binOp .add t x y t') ty (.float .f32 r) := by
  refine QO.bin hx hy (fun w => ?_)
  have h1 : (eqGuard .add t x y (.float .f32 i) (.float .f32 j)).run P w = .ok () w := by simp [eqGuard]
  have h2 : Ieee.single.add i j = some r := h
  simp only [Sem.run_bind, h1, Result.andThen_ok]
  simp [binOp, Op.floatArith, FloatKind.format, h2]
end
theorem retM {r m : Win} {A : Option Addr} {c n : Nat} {e e2 : Int} (h : r = m) (he : e = e2) (hn : m.pts.length = n) : Value.tuple #[.agg #[iv m.kind, flt m.x, flt m.y, flt m.w, flt m.h, flt m.soft, .slice A n c, .bool m.out], iv e2] = .tuple #[wV r A c, iv e] := by subst h he hn; rfl
theorem retZ {r : Win} {e e2 : Int} (h : r = zeroW) (he : e = e2) : Value.tuple #[.agg #[iv 0, flt 0, flt 0, flt 0, flt 0, flt 0, .slice none 0 0, .bool false], iv e2] = .tuple #[wV r none 0, iv e] := by subst h he; rfl
theorem ownZ {r : Win} {A : Option Addr} {H : HL} (h : r = zeroW) : OwnP A r.pts H := by rw [h]; exact OwnP.nil
/-- a window without points, moved -/
def movNW (u : Win) (dx dy : Int) : Win := ⟨u.kind, addV u.x dx, addV u.y dy, u.w, u.h, u.soft, u.pts, u.out⟩
/-- a window of points, the first k moved -/
def movPW (u : Win) (dx dy : Int) (k : Nat) : Win := ⟨u.kind, u.x, u.y, u.w, u.h, u.soft, movPs u.pts dx dy k, u.out⟩
section
variable {u : Win} {dx dy : Int} {k : Nat}
theorem movN (hp : u.pts = []) (hk : u.kind ≠ 3) : movW u dx dy = movNW u dx dy := by
  unfold movW movNW
  rw [if_pos hk, if_pos hk, hp]; rfl
theorem movPk (hk : u.kind = 3) (h : k = u.pts.length) : movW u dx dy = movPW u dx dy k := by
  unfold movW movPW
  rw [if_neg (by omega), if_neg (by omega), h]
theorem mov_bad {m : Win} (h : winE u = 0) (hx : plcB dx = true) (hy : plcB dy = true) (hm : movW u dx dy = m) (h3 : winE m ≠ 0) : movE u dx dy = winE m ∧ movR u dx dy = zeroW := by
  rw [← hm] at h3 ⊢; exact mov_4 h hx hy h3
theorem mov_ok {m : Win} (h : winE u = 0) (hx : plcB dx = true) (hy : plcB dy = true) (hm : movW u dx dy = m) (h3 : winE m = 0) : movE u dx dy = 0 ∧ movR u dx dy = m := by
  rw [← hm] at h3 ⊢; exact mov_5 h hx hy h3
theorem kind_N (h : winE u = 0) (hp : u.pts = []) : u.kind ≠ 3 := fun hk => by have := (winE_pts h).2.2 hk; rw [hp] at this; simp at this
theorem kind_P (h : winE u = 0) (hp : ¬ u.pts = []) : u.kind = 3 := Decidable.byContradiction fun hk => hp ((winE_pts h).2.1 hk)
theorem ownM {r m : Win} {A : Option Addr} {H : HL} (h : r = m) (hO : OwnP A m.pts H) : OwnP A r.pts H := by rw [h]; exact hO
theorem len_P (hp : ¬ u.pts = []) : 0 < u.pts.length := Nat.pos_of_ne_zero fun h => hp (List.eq_nil_of_length_eq_zero h)
end
end Go.Proofs.Ytapcgokcfmklbaa

namespace Go.Proofs.Ytapcgokcfmklbaa
open Go Go.Proofs Go.RowKit

theorem checkWindowL (u : Win) (A : Option Addr) (c n : Nat) (W : World) (hn : u.pts.length = n) (hA : PS W A u.pts) (hm : n ≤ maxLen) : Fn_ Try.prog 74 #[.agg #[iv u.kind, flt u.x, flt u.y, flt u.w, flt u.h, flt u.soft, .slice A n c, .bool u.out]] W (fun v H => v = iv (winE u) ∧ H = []) := by
  subst hn; exact checkWindow u A c W hA hm

set_option maxRecDepth 100000 in
theorem moved0 (u : Win) (A : Option Addr) (c : Nat) (dx dy : Int) (W : World) (hA : PS W A u.pts) (hm : u.pts.length ≤ maxLen) (he : winE u ≠ 0) : Fn_ Try.prog 28 #[.agg #[iv u.kind, flt u.x, flt u.y, flt u.w, flt u.h, flt u.soft, .slice A u.pts.length c, .bool u.out], iv dx, iv dy] W (fun v H => ∃ A2 c2, v = .tuple #[wV (movR u dx dy) A2 c2, iv (movE u dx dy)] ∧ OwnP A2 (movR u dx dy).pts H) := by
  refine Fn_.intro Try.func28 rfl rfl (by rfl) ?_
  refine CS.seq ?_
  refine CS.region ?_
  refine RS.box rfl (by rfl) (by rfl) ?_
  intro g3
  refine RS.alloc rfl ty61 ?_
  intro g6
  refine RS.q rfl (QO.assign) ?_
  refine RS.nil ?_
  refine thenC_n ?_
  refine CS.seq ?_
  refine CS.seq ?_
  refine CS.region ?_
  first | (refine RS.q rfl (QO.loadB ty61 (by rfl) (by repeat (first | exact List.Mem.head _ | refine List.Mem.tail _ ?_)) (by rfl)) ?_) | (refine RS.q rfl (QO.loadA ty61 (by rfl) (by repeat (first | exact List.Mem.head _ | refine List.Mem.tail _ ?_)) (by rfl) (by rfl)) ?_) | (refine RS.q rfl (QO.loadOA ty61 (by rfl) (by assumption) (by rfl)) ?_)
  refine RS.call rfl (by rfl) ok74 (by rfl) (fun w ho => checkWindow u A c _ (hA.own ho) hm) ?_
  rintro _ _ ⟨rfl, rfl⟩
  refine RS.q rfl (QO.assign) ?_
  refine RS.nil ?_
  refine thenC_n ?_
  refine CS.seq ?_
  refine CS.region ?_
  refine RS.q rfl (QO.move) ?_
  refine RS.qv rfl (QO.neq (by rfl) (by rfl)) (congrArg Value.bool (show (winE u != 0) = true from bne_iff_ne.2 he)) ?_
  refine RS.nil ?_
  refine thenC_n ?_
  refine CS.condT (by rfl) rfl ?_
  refine CS.seq ?_
  refine CS.region ?_
  refine RS.q rfl (QO.build ty61 pl61 (by rfl)) ?_
  refine RS.q rfl (QO.move) ?_
  first | refine RS.storeB ty61 (by rfl) (by rfl) (by rfl) (by rfl) (by rfl) (by repeat (first | exact Upd.head | apply Upd.tail)) (by rfl) ?_ | refine RS.storeP ty61 (by rfl) (by rfl) (by rfl) (by rfl) (by rfl) (by repeat (first | exact Upd.head | apply Upd.tail)) (by rfl) ?_
  refine RS.q rfl (QO.assign) ?_
  refine RS.nil ?_
  refine thenC_n ?_
  refine CS.ret ?_
  refine thenC_r ?_
  refine retQ.mk (H' := []) (.inr rfl) (RVs.cellA ty61 (by rfl) (by repeat (first | exact List.Mem.head _ | refine List.Mem.tail _ ?_)) (by rfl) (RVs.tmp (by rfl) RVs.nil)) (List.nil_sublist _) ?_
  exact ⟨none, 0, retZ (mov_1 he).2 (mov_1 he).1, ownZ (mov_1 he).2⟩

set_option maxRecDepth 100000 in
theorem moved1 (u : Win) (A : Option Addr) (c : Nat) (dx dy : Int) (W : World) (hA : PS W A u.pts) (hm : u.pts.length ≤ maxLen) (he : winE u = 0) (hx : plcB dx = false) : Fn_ Try.prog 28 #[.agg #[iv u.kind, flt u.x, flt u.y, flt u.w, flt u.h, flt u.soft, .slice A u.pts.length c, .bool u.out], iv dx, iv dy] W (fun v H => ∃ A2 c2, v = .tuple #[wV (movR u dx dy) A2 c2, iv (movE u dx dy)] ∧ OwnP A2 (movR u dx dy).pts H) := by
  refine Fn_.intro Try.func28 rfl rfl (by rfl) ?_
  refine CS.seq ?_
  refine CS.region ?_
  refine RS.box rfl (by rfl) (by rfl) ?_
  intro g3
  refine RS.alloc rfl ty61 ?_
  intro g6
  refine RS.q rfl (QO.assign) ?_
  refine RS.nil ?_
  refine thenC_n ?_
  refine CS.seq ?_
  refine CS.seq ?_
  refine CS.region ?_
  first | (refine RS.q rfl (QO.loadB ty61 (by rfl) (by repeat (first | exact List.Mem.head _ | refine List.Mem.tail _ ?_)) (by rfl)) ?_) | (refine RS.q rfl (QO.loadA ty61 (by rfl) (by repeat (first | exact List.Mem.head _ | refine List.Mem.tail _ ?_)) (by rfl) (by rfl)) ?_) | (refine RS.q rfl (QO.loadOA ty61 (by rfl) (by assumption) (by rfl)) ?_)
  refine RS.call rfl (by rfl) ok74 (by rfl) (fun w ho => checkWindow u A c _ (hA.own ho) hm) ?_
  rintro _ _ ⟨rfl, rfl⟩
  refine RS.q rfl (QO.assign) ?_
  refine RS.nil ?_
  refine thenC_n ?_
  refine CS.seq ?_
  refine CS.region ?_
  refine RS.q rfl (QO.move) ?_
  refine RS.qv rfl (QO.neq (by rfl) (by rfl)) (congrArg Value.bool (show (winE u != 0) = false from by rw [he]; rfl)) ?_
  refine RS.nil ?_
  refine thenC_n ?_
  refine CS.condF (by rfl) rfl ?_
  refine CS.skip ?_
  refine thenC_n ?_
  refine CS.seq ?_
  refine CS.seq ?_
  refine CS.region ?_
  refine RS.q rfl (QO.move) ?_
  refine RS.call rfl (by rfl) ok85 (by rfl) (fun w ho => placed dx _) ?_
  rintro _ _ ⟨rfl, rfl⟩
  refine RS.qv rfl (QO.not (by rfl)) (congrArg Value.bool (show (!plcB dx) = true by rw [hx]; rfl)) ?_
  refine RS.q rfl (QO.move) ?_
  refine RS.off (dj := 20) rfl (.inl (congrArg Value.bool rfl)) (fun _ => rfl) rfl ?_
  refine RS.off (dj := 20) rfl (.inl (congrArg Value.bool rfl)) (fun _ => rfl) rfl ?_
  refine RS.off (dj := 20) rfl (.inl (congrArg Value.bool rfl)) (fun _ => rfl) rfl ?_
  refine RS.q rfl (QO.pickT (by rfl) rfl (by rfl)) ?_
  refine RS.nil ?_
  refine thenC_n ?_
  refine CS.condT (by rfl) rfl ?_
  refine CS.seq ?_
  refine CS.region ?_
  refine RS.q rfl (QO.build ty61 pl61 (by rfl)) ?_
  first | refine RS.storeB ty61 (by rfl) (by rfl) (by rfl) (by rfl) (by rfl) (by repeat (first | exact Upd.head | apply Upd.tail)) (by rfl) ?_ | refine RS.storeP ty61 (by rfl) (by rfl) (by rfl) (by rfl) (by rfl) (by repeat (first | exact Upd.head | apply Upd.tail)) (by rfl) ?_
  refine RS.q rfl (QO.assign) ?_
  refine RS.nil ?_
  refine thenC_n ?_
  refine CS.ret ?_
  refine thenC_r ?_
  refine retQ.mk (H' := []) (.inr rfl) (RVs.cellA ty61 (by rfl) (by repeat (first | exact List.Mem.head _ | refine List.Mem.tail _ ?_)) (by rfl) (RVs.tmp (by rfl) RVs.nil)) (List.nil_sublist _) ?_
  exact ⟨none, 0, retZ (mov_2 he (.inl hx)).2 (mov_2 he (.inl hx)).1, ownZ (mov_2 he (.inl hx)).2⟩

set_option maxRecDepth 100000 in
theorem moved2 (u : Win) (A : Option Addr) (c : Nat) (dx dy : Int) (W : World) (hA : PS W A u.pts) (hm : u.pts.length ≤ maxLen) (he : winE u = 0) (hx : plcB dx = true) (hy : plcB dy = false) : Fn_ Try.prog 28 #[.agg #[iv u.kind, flt u.x, flt u.y, flt u.w, flt u.h, flt u.soft, .slice A u.pts.length c, .bool u.out], iv dx, iv dy] W (fun v H => ∃ A2 c2, v = .tuple #[wV (movR u dx dy) A2 c2, iv (movE u dx dy)] ∧ OwnP A2 (movR u dx dy).pts H) := by
  refine Fn_.intro Try.func28 rfl rfl (by rfl) ?_
  refine CS.seq ?_
  refine CS.region ?_
  refine RS.box rfl (by rfl) (by rfl) ?_
  intro g3
  refine RS.alloc rfl ty61 ?_
  intro g6
  refine RS.q rfl (QO.assign) ?_
  refine RS.nil ?_
  refine thenC_n ?_
  refine CS.seq ?_
  refine CS.seq ?_
  refine CS.region ?_
  first | (refine RS.q rfl (QO.loadB ty61 (by rfl) (by repeat (first | exact List.Mem.head _ | refine List.Mem.tail _ ?_)) (by rfl)) ?_) | (refine RS.q rfl (QO.loadA ty61 (by rfl) (by repeat (first | exact List.Mem.head _ | refine List.Mem.tail _ ?_)) (by rfl) (by rfl)) ?_) | (refine RS.q rfl (QO.loadOA ty61 (by rfl) (by assumption) (by rfl)) ?_)
  refine RS.call rfl (by rfl) ok74 (by rfl) (fun w ho => checkWindow u A c _ (hA.own ho) hm) ?_
  rintro _ _ ⟨rfl, rfl⟩
  refine RS.q rfl (QO.assign) ?_
  refine RS.nil ?_
  refine thenC_n ?_
  refine CS.seq ?_
  refine CS.region ?_
  refine RS.q rfl (QO.move) ?_
  refine RS.qv rfl (QO.neq (by rfl) (by rfl)) (congrArg Value.bool (show (winE u != 0) = false from by rw [he]; rfl)) ?_
  refine RS.nil ?_
  refine thenC_n ?_
  refine CS.condF (by rfl) rfl ?_
  refine CS.skip ?_
  refine thenC_n ?_
  refine CS.seq ?_
  refine CS.seq ?_
  refine CS.region ?_
  refine RS.q rfl (QO.move) ?_
  refine RS.call rfl (by rfl) ok85 (by rfl) (fun w ho => placed dx _) ?_
  rintro _ _ ⟨rfl, rfl⟩
  refine RS.qv rfl (QO.not (by rfl)) (congrArg Value.bool (show (!plcB dx) = false by rw [hx]; rfl)) ?_
  refine RS.q rfl (QO.move) ?_
  refine RS.on (dj := 20) rfl (congrArg Value.bool rfl) ?_
  refine RS.q rfl (QO.move) ?_
  refine RS.on (dj := 20) rfl (congrArg Value.bool rfl) ?_
  refine RS.call rfl (by rfl) ok85 (by rfl) (fun w ho => placed dy _) ?_
  rintro _ _ ⟨rfl, rfl⟩
  refine RS.on (dj := 20) rfl (congrArg Value.bool rfl) ?_
  refine RS.qv rfl (QO.not (by rfl)) (congrArg Value.bool (show (!plcB dy) = true by rw [hy]; rfl)) ?_
  refine RS.q rfl (QO.pickF (by rfl) rfl (by rfl)) ?_
  refine RS.nil ?_
  refine thenC_n ?_
  refine CS.condT (by rfl) rfl ?_
  refine CS.seq ?_
  refine CS.region ?_
  refine RS.q rfl (QO.build ty61 pl61 (by rfl)) ?_
  first | refine RS.storeB ty61 (by rfl) (by rfl) (by rfl) (by rfl) (by rfl) (by repeat (first | exact Upd.head | apply Upd.tail)) (by rfl) ?_ | refine RS.storeP ty61 (by rfl) (by rfl) (by rfl) (by rfl) (by rfl) (by repeat (first | exact Upd.head | apply Upd.tail)) (by rfl) ?_
  refine RS.q rfl (QO.assign) ?_
  refine RS.nil ?_
  refine thenC_n ?_
  refine CS.ret ?_
  refine thenC_r ?_
  refine retQ.mk (H' := []) (.inr rfl) (RVs.cellA ty61 (by rfl) (by repeat (first | exact List.Mem.head _ | refine List.Mem.tail _ ?_)) (by rfl) (RVs.tmp (by rfl) RVs.nil)) (List.nil_sublist _) ?_
  exact ⟨none, 0, retZ (mov_2 he (.inr hy)).2 (mov_2 he (.inr hy)).1, ownZ (mov_2 he (.inr hy)).2⟩

set_option maxHeartbeats 4000000 in
set_option maxRecDepth 100000 in
theorem moved3 (u : Win) (A : Option Addr) (c : Nat) (dx dy : Int) (W : World) (hA : PS W A u.pts) (hm : u.pts.length ≤ maxLen) (he : winE u = 0) (hx : plcB dx = true) (hy : plcB dy = true) (hp : u.pts = []) : Fn_ Try.prog 28 #[.agg #[iv u.kind, flt u.x, flt u.y, flt u.w, flt u.h, flt u.soft, .slice A u.pts.length c, .bool u.out], iv dx, iv dy] W (fun v H => ∃ A2 c2, v = .tuple #[wV (movR u dx dy) A2 c2, iv (movE u dx dy)] ∧ OwnP A2 (movR u dx dy).pts H) := by
  have hxy := winE_xy he
  have hdx := plcB_T hx
  have hdy := plcB_T hy
  have hlz : u.pts.length = 0 := by rw [hp]; rfl
  refine Fn_.intro Try.func28 rfl rfl (by rfl) ?_
  refine CS.seq ?_
  refine CS.region ?_
  refine RS.box rfl (by rfl) (by rfl) ?_
  intro g3
  refine RS.alloc rfl ty61 ?_
  intro g6
  refine RS.q rfl (QO.assign) ?_
  refine RS.nil ?_
  refine thenC_n ?_
  refine CS.seq ?_
  refine CS.seq ?_
  refine CS.region ?_
  first | (refine RS.q rfl (QO.loadB ty61 (by rfl) (by repeat (first | exact List.Mem.head _ | refine List.Mem.tail _ ?_)) (by rfl)) ?_) | (refine RS.q rfl (QO.loadA ty61 (by rfl) (by repeat (first | exact List.Mem.head _ | refine List.Mem.tail _ ?_)) (by rfl) (by rfl)) ?_) | (refine RS.q rfl (QO.loadOA ty61 (by rfl) (by assumption) (by rfl)) ?_)
  refine RS.call rfl (by rfl) ok74 (by rfl) (fun w ho => checkWindow u A c _ (hA.own ho) hm) ?_
  rintro _ _ ⟨rfl, rfl⟩
  refine RS.q rfl (QO.assign) ?_
  refine RS.nil ?_
  refine thenC_n ?_
  refine CS.seq ?_
  refine CS.region ?_
  refine RS.q rfl (QO.move) ?_
  refine RS.qv rfl (QO.neq (by rfl) (by rfl)) (congrArg Value.bool (show (winE u != 0) = false from by rw [he]; rfl)) ?_
  refine RS.nil ?_
  refine thenC_n ?_
  refine CS.condF (by rfl) rfl ?_
  refine CS.skip ?_
  refine thenC_n ?_
  refine CS.seq ?_
  refine CS.seq ?_
  refine CS.region ?_
  refine RS.q rfl (QO.move) ?_
  refine RS.call rfl (by rfl) ok85 (by rfl) (fun w ho => placed dx _) ?_
  rintro _ _ ⟨rfl, rfl⟩
  refine RS.qv rfl (QO.not (by rfl)) (congrArg Value.bool (show (!plcB dx) = false by rw [hx]; rfl)) ?_
  refine RS.q rfl (QO.move) ?_
  refine RS.on (dj := 20) rfl (congrArg Value.bool rfl) ?_
  refine RS.q rfl (QO.move) ?_
  refine RS.on (dj := 20) rfl (congrArg Value.bool rfl) ?_
  refine RS.call rfl (by rfl) ok85 (by rfl) (fun w ho => placed dy _) ?_
  rintro _ _ ⟨rfl, rfl⟩
  refine RS.on (dj := 20) rfl (congrArg Value.bool rfl) ?_
  refine RS.qv rfl (QO.not (by rfl)) (congrArg Value.bool (show (!plcB dy) = false by rw [hy]; rfl)) ?_
  refine RS.q rfl (QO.pickF (by rfl) rfl (by rfl)) ?_
  refine RS.nil ?_
  refine thenC_n ?_
  refine CS.condF (by rfl) rfl ?_
  refine CS.skip ?_
  refine thenC_n ?_
  refine CS.seq ?_
  refine CS.region ?_
  first | (refine RS.q rfl (QO.loadB ty61 (by rfl) (by repeat (first | exact List.Mem.head _ | refine List.Mem.tail _ ?_)) (by rfl)) ?_) | (refine RS.q rfl (QO.loadA ty61 (by rfl) (by repeat (first | exact List.Mem.head _ | refine List.Mem.tail _ ?_)) (by rfl) (by rfl)) ?_) | (refine RS.q rfl (QO.loadOA ty61 (by rfl) (by assumption) (by rfl)) ?_)
  refine RS.call rfl (by rfl) ok70 (by rfl) (fun w ho => clonedE u A c _ hp) ?_
  rintro _ _ ⟨A2, c2, rfl, rfl⟩
  first | refine RS.storeB ty61 (by rfl) (by rfl) (by rfl) (by rfl) (by rfl) (by repeat (first | exact Upd.head | apply Upd.tail)) (by rfl) ?_ | refine RS.storeP ty61 (by rfl) (by rfl) (by rfl) (by rfl) (by rfl) (by repeat (first | exact Upd.head | apply Upd.tail)) (by rfl) ?_
  refine RS.nil ?_
  refine thenC_n ?_
  refine CS.seq ?_
  refine CS.seq ?_
  refine CS.region ?_
  refine RS.q rfl (QO.fieldAddr fo61_0 (by rfl)) ?_
  first | (refine RS.q rfl (QO.load ty3 (by rfl) (by repeat (first | exact List.Mem.head _ | refine List.Mem.tail _ ?_)) (by rfl)) ?_) | (refine RS.q rfl (QO.loadO ty3 (by rfl) (by assumption)) ?_) | (refine RS.q rfl (QO.load ty3 (by rfl) (by repeat (first | exact List.Mem.head _ | refine List.Mem.tail _ ?_)) (by assumption)) ?_)
  refine RS.qv rfl (QO.neq (by rfl) (by rfl)) (congrArg Value.bool (show (u.kind != 3) = true from bne_iff_ne.2 (kind_N he hp))) ?_
  refine RS.nil ?_
  refine thenC_n ?_
  refine CS.condT (by rfl) rfl ?_
  refine CS.seq ?_
  refine CS.region ?_
  refine RS.q rfl (QO.fieldAddr fo61_1 (by rfl)) ?_
  first | (refine RS.q rfl (QO.load ty29 (by rfl) (by repeat (first | exact List.Mem.head _ | refine List.Mem.tail _ ?_)) (by rfl)) ?_) | (refine RS.q rfl (QO.loadO ty29 (by rfl) (by assumption)) ?_) | (refine RS.q rfl (QO.load ty29 (by rfl) (by repeat (first | exact List.Mem.head _ | refine List.Mem.tail _ ?_)) (by assumption)) ?_)
  refine RS.q rfl (QO.move) ?_
  refine RS.q rfl (QO.conv_i64_f32 Try.underlying3 Try.underlying29 (by rfl)) ?_
  refine RS.q rfl (QO.faddS (by rfl) (by rfl) (add_moved hxy.1 hxy.2.1 (by omega)).1) ?_
  refine RS.q rfl (QO.fieldAddr fo61_1 (by rfl)) ?_
  refine RS.store1 ty29 rfl (by rfl) (by rfl) (by rfl) (by repeat (first | exact Upd.head | apply Upd.tail)) (by first | (simp; done) | (simp; omega) | omega) ?_
  refine RS.nil ?_
  refine thenC_n ?_
  refine CS.region ?_
  refine RS.q rfl (QO.fieldAddr fo61_2 (by rfl)) ?_
  first | (refine RS.q rfl (QO.load ty29 (by rfl) (by repeat (first | exact List.Mem.head _ | refine List.Mem.tail _ ?_)) (by rfl)) ?_) | (refine RS.q rfl (QO.loadO ty29 (by rfl) (by assumption)) ?_) | (refine RS.q rfl (QO.load ty29 (by rfl) (by repeat (first | exact List.Mem.head _ | refine List.Mem.tail _ ?_)) (by assumption)) ?_)
  refine RS.q rfl (QO.move) ?_
  refine RS.q rfl (QO.conv_i64_f32 Try.underlying3 Try.underlying29 (by rfl)) ?_
  refine RS.q rfl (QO.faddS (by rfl) (by rfl) (add_moved hxy.2.2.1 hxy.2.2.2 (by omega)).1) ?_
  refine RS.q rfl (QO.fieldAddr fo61_2 (by rfl)) ?_
  refine RS.store1 ty29 rfl (by rfl) (by rfl) (by rfl) (by repeat (first | exact Upd.head | apply Upd.tail)) (by first | (simp; done) | (simp; omega) | omega) ?_
  refine RS.nil ?_
  refine thenC_n ?_
  refine CS.seq ?_
  refine CS.seq ?_
  refine CS.region ?_
  refine RS.q rfl (QO.fieldAddr fo61_6 (by rfl)) ?_
  first | (refine RS.q rfl (QO.load ty59 (by rfl) (by repeat (first | exact List.Mem.head _ | refine List.Mem.tail _ ?_)) (by rfl)) ?_) | (refine RS.q rfl (QO.loadO ty59 (by rfl) (by assumption)) ?_) | (refine RS.q rfl (QO.load ty59 (by rfl) (by repeat (first | exact List.Mem.head _ | refine List.Mem.tail _ ?_)) (by assumption)) ?_)
  refine RS.q rfl (QO.lenS Try.underlying59 (by rfl)) ?_
  refine RS.q rfl (QO.move) ?_
  refine RS.nil ?_
  refine thenC_n ?_
  refine CS.block ?_
  refine CS.loop (X := Unit) (9 :: 46 :: 47 :: 48 :: 49 :: 50 :: 51 :: 52 :: 53 :: 54 :: 55 :: 56 :: 57 :: 58 :: 59 :: 60 :: 61 :: 62 :: 63 :: 64 :: 65 :: 66 :: 67 :: 68 :: 69 :: []) (fun z => [(46, iv 0)]) (fun z => [⟨g6, 61, [iv 0, flt 0, flt 0, flt 0, flt 0, flt 0, .slice none 0 0, .bool false]⟩, ⟨g3, 61, [iv u.kind, flt (addV u.x dx), flt (addV u.y dy), flt u.w, flt u.h, flt u.soft, .slice A2 u.pts.length c2, .bool u.out]⟩]) (fun z => True) (fun z => 0) () trivial ?_ ?_ ?_
  · exact (by repeat (first | exact kn_nil | refine kn_cons (by rfl) ?_))
  · exact (by repeat (first | exact List.Sublist.refl _ | exact List.nil_sublist _ | refine List.Sublist.cons_cons _ ?_ | refine List.Sublist.cons _ ?_ | exact Sbp.refl | exact Sbp.nil | refine Sbp.cons (by repeat (first | exact Rem.head | apply Rem.tail)) ?_ | exact Sbp.app | refine Sbp.skip ?_))
  · intro z gj11 hz
    refine CS.seq ?_
    refine CS.region ?_
    refine RS.qv rfl (QO.lss (by rfl) (by rfl)) (congrArg Value.bool (show _ = false from decide_eq_false (by omega))) ?_
    refine RS.nil ?_
    refine thenC_n ?_
    refine CS.seq ?_
    refine CS.condF (by rfl) rfl ?_
    refine CS.exit ?_
    refine thenC_x ?_
    refine loopQ_x ?_
    refine blockC_x ?_
    refine thenC_n ?_
    refine CS.seq ?_
    refine CS.seq ?_
    refine CS.region ?_
    first | (refine RS.q rfl (QO.loadB ty61 (by rfl) (by repeat (first | exact List.Mem.head _ | refine List.Mem.tail _ ?_)) (by rfl)) ?_) | (refine RS.q rfl (QO.loadA ty61 (by rfl) (by repeat (first | exact List.Mem.head _ | refine List.Mem.tail _ ?_)) (by rfl) (by rfl)) ?_) | (refine RS.q rfl (QO.loadOA ty61 (by rfl) (by assumption) (by rfl)) ?_)
    refine RS.call rfl (by rfl) ok74 (by rfl) (fun w ho => checkWindowL (movNW u dx dy) A2 c2 u.pts.length _ rfl (by show PS _ A2 u.pts; rw [hp]; exact PS.nil) hm) ?_
    rintro _ _ ⟨rfl, rfl⟩
    refine RS.q rfl (QO.assign) ?_
    refine RS.nil ?_
    refine thenC_n ?_
    refine CS.seq ?_
    refine CS.region ?_
    refine RS.q rfl (QO.move) ?_
    refine RS.q rfl (QO.neq (by rfl) (by rfl)) ?_
    refine RS.nil ?_
    refine thenC_n ?_
    refine CS.cond (by rfl) (fun hb0 => ?_) (fun hb0 => ?_)
    · have hb0p := bne_iff_ne.1 hb0
      refine CS.seq ?_
      refine CS.region ?_
      refine RS.q rfl (QO.build ty61 pl61 (by rfl)) ?_
      refine RS.q rfl (QO.move) ?_
      first | refine RS.storeB ty61 (by rfl) (by rfl) (by rfl) (by rfl) (by rfl) (by repeat (first | exact Upd.head | apply Upd.tail)) (by rfl) ?_ | refine RS.storeP ty61 (by rfl) (by rfl) (by rfl) (by rfl) (by rfl) (by repeat (first | exact Upd.head | apply Upd.tail)) (by rfl) ?_
      refine RS.q rfl (QO.assign) ?_
      refine RS.nil ?_
      refine thenC_n ?_
      refine CS.ret ?_
      refine thenC_r ?_
      refine retQ.mk (H' := []) (.inr rfl) (RVs.cellA ty61 (by rfl) (by repeat (first | exact List.Mem.head _ | refine List.Mem.tail _ ?_)) (by rfl) (RVs.tmp (by rfl) RVs.nil)) (List.nil_sublist _) ?_
      exact ⟨none, 0, retZ (mov_bad he hx hy (movN hp (kind_N he hp)) (by assumption)).2 (mov_bad he hx hy (movN hp (kind_N he hp)) (by assumption)).1, ownZ (mov_bad he hx hy (movN hp (kind_N he hp)) (by assumption)).2⟩
    · have hb0p := of_bne_false hb0
      refine CS.skip ?_
      refine thenC_n ?_
      refine CS.seq ?_
      refine CS.region ?_
      first | (refine RS.q rfl (QO.loadB ty61 (by rfl) (by repeat (first | exact List.Mem.head _ | refine List.Mem.tail _ ?_)) (by rfl)) ?_) | (refine RS.q rfl (QO.loadA ty61 (by rfl) (by repeat (first | exact List.Mem.head _ | refine List.Mem.tail _ ?_)) (by rfl) (by rfl)) ?_) | (refine RS.q rfl (QO.loadOA ty61 (by rfl) (by assumption) (by rfl)) ?_)
      first | refine RS.storeB ty61 (by rfl) (by rfl) (by rfl) (by rfl) (by rfl) (by repeat (first | exact Upd.head | apply Upd.tail)) (by rfl) ?_ | refine RS.storeP ty61 (by rfl) (by rfl) (by rfl) (by rfl) (by rfl) (by repeat (first | exact Upd.head | apply Upd.tail)) (by rfl) ?_
      refine RS.q rfl (QO.assign) ?_
      refine RS.nil ?_
      refine thenC_n ?_
      refine CS.ret ?_
      refine retQ.mk (H' := []) (.inr rfl) (RVs.cellA ty61 (by rfl) (by repeat (first | exact List.Mem.head _ | refine List.Mem.tail _ ?_)) (by rfl) (RVs.tmp (by rfl) RVs.nil)) (List.nil_sublist _) ?_
      exact ⟨A2, c2, retM (m := movNW u dx dy) (mov_ok he hx hy (movN hp (kind_N he hp)) (by assumption)).2 (mov_ok he hx hy (movN hp (kind_N he hp)) (by assumption)).1 rfl, ownM (mov_ok he hx hy (movN hp (kind_N he hp)) (by assumption)).2 (by show OwnP A2 u.pts _; rw [hp]; exact OwnP.nil)⟩

set_option maxHeartbeats 4000000 in
set_option maxRecDepth 100000 in
theorem moved4 (u : Win) (A : Option Addr) (c : Nat) (dx dy : Int) (W : World) (hA : PS W A u.pts) (hm : u.pts.length ≤ maxLen) (he : winE u = 0) (hx : plcB dx = true) (hy : plcB dy = true) (hp : ¬ u.pts = []) : Fn_ Try.prog 28 #[.agg #[iv u.kind, flt u.x, flt u.y, flt u.w, flt u.h, flt u.soft, .slice A u.pts.length c, .bool u.out], iv dx, iv dy] W (fun v H => ∃ A2 c2, v = .tuple #[wV (movR u dx dy) A2 c2, iv (movE u dx dy)] ∧ OwnP A2 (movR u dx dy).pts H) := by
  have hdx := plcB_T hx
  have hdy := plcB_T hy
  have hl32 := (winE_pts he).1
  refine Fn_.intro Try.func28 rfl rfl (by rfl) ?_
  refine CS.seq ?_
  refine CS.region ?_
  refine RS.box rfl (by rfl) (by rfl) ?_
  intro g3
  refine RS.alloc rfl ty61 ?_
  intro g6
  refine RS.q rfl (QO.assign) ?_
  refine RS.nil ?_
  refine thenC_n ?_
  refine CS.seq ?_
  refine CS.seq ?_
  refine CS.region ?_
  first | (refine RS.q rfl (QO.loadB ty61 (by rfl) (by repeat (first | exact List.Mem.head _ | refine List.Mem.tail _ ?_)) (by rfl)) ?_) | (refine RS.q rfl (QO.loadA ty61 (by rfl) (by repeat (first | exact List.Mem.head _ | refine List.Mem.tail _ ?_)) (by rfl) (by rfl)) ?_) | (refine RS.q rfl (QO.loadOA ty61 (by rfl) (by assumption) (by rfl)) ?_)
  refine RS.call rfl (by rfl) ok74 (by rfl) (fun w ho => checkWindow u A c _ (hA.own ho) hm) ?_
  rintro _ _ ⟨rfl, rfl⟩
  refine RS.q rfl (QO.assign) ?_
  refine RS.nil ?_
  refine thenC_n ?_
  refine CS.seq ?_
  refine CS.region ?_
  refine RS.q rfl (QO.move) ?_
  refine RS.qv rfl (QO.neq (by rfl) (by rfl)) (congrArg Value.bool (show (winE u != 0) = false from by rw [he]; rfl)) ?_
  refine RS.nil ?_
  refine thenC_n ?_
  refine CS.condF (by rfl) rfl ?_
  refine CS.skip ?_
  refine thenC_n ?_
  refine CS.seq ?_
  refine CS.seq ?_
  refine CS.region ?_
  refine RS.q rfl (QO.move) ?_
  refine RS.call rfl (by rfl) ok85 (by rfl) (fun w ho => placed dx _) ?_
  rintro _ _ ⟨rfl, rfl⟩
  refine RS.qv rfl (QO.not (by rfl)) (congrArg Value.bool (show (!plcB dx) = false by rw [hx]; rfl)) ?_
  refine RS.q rfl (QO.move) ?_
  refine RS.on (dj := 20) rfl (congrArg Value.bool rfl) ?_
  refine RS.q rfl (QO.move) ?_
  refine RS.on (dj := 20) rfl (congrArg Value.bool rfl) ?_
  refine RS.call rfl (by rfl) ok85 (by rfl) (fun w ho => placed dy _) ?_
  rintro _ _ ⟨rfl, rfl⟩
  refine RS.on (dj := 20) rfl (congrArg Value.bool rfl) ?_
  refine RS.qv rfl (QO.not (by rfl)) (congrArg Value.bool (show (!plcB dy) = false by rw [hy]; rfl)) ?_
  refine RS.q rfl (QO.pickF (by rfl) rfl (by rfl)) ?_
  refine RS.nil ?_
  refine thenC_n ?_
  refine CS.condF (by rfl) rfl ?_
  refine CS.skip ?_
  refine thenC_n ?_
  refine CS.seq ?_
  refine CS.region ?_
  first | (refine RS.q rfl (QO.loadB ty61 (by rfl) (by repeat (first | exact List.Mem.head _ | refine List.Mem.tail _ ?_)) (by rfl)) ?_) | (refine RS.q rfl (QO.loadA ty61 (by rfl) (by repeat (first | exact List.Mem.head _ | refine List.Mem.tail _ ?_)) (by rfl) (by rfl)) ?_) | (refine RS.q rfl (QO.loadOA ty61 (by rfl) (by assumption) (by rfl)) ?_)
  refine RS.call rfl (by rfl) ok70 (by rfl) (fun w ho => clonedP u A c _ (hA.own ho) (len_P hp) (by omega)) ?_
  rintro _ _ ⟨gp, cp, jk, rfl, rfl, hcp, hcpx⟩
  first | refine RS.storeB ty61 (by rfl) (by rfl) (by rfl) (by rfl) (by rfl) (by repeat (first | exact Upd.head | apply Upd.tail)) (by rfl) ?_ | refine RS.storeP ty61 (by rfl) (by rfl) (by rfl) (by rfl) (by rfl) (by repeat (first | exact Upd.head | apply Upd.tail)) (by rfl) ?_
  refine RS.nil ?_
  refine thenC_n ?_
  refine CS.seq ?_
  refine CS.seq ?_
  refine CS.region ?_
  refine RS.q rfl (QO.fieldAddr fo61_0 (by rfl)) ?_
  first | (refine RS.q rfl (QO.load ty3 (by rfl) (by repeat (first | exact List.Mem.head _ | refine List.Mem.tail _ ?_)) (by rfl)) ?_) | (refine RS.q rfl (QO.loadO ty3 (by rfl) (by assumption)) ?_) | (refine RS.q rfl (QO.load ty3 (by rfl) (by repeat (first | exact List.Mem.head _ | refine List.Mem.tail _ ?_)) (by assumption)) ?_)
  refine RS.qv rfl (QO.neq (by rfl) (by rfl)) (congrArg Value.bool (show (u.kind != 3) = false from by rw [kind_P he hp]; rfl)) ?_
  refine RS.nil ?_
  refine thenC_n ?_
  refine CS.condF (by rfl) rfl ?_
  refine CS.skip ?_
  refine thenC_n ?_
  refine CS.seq ?_
  refine CS.seq ?_
  refine CS.region ?_
  refine RS.q rfl (QO.fieldAddr fo61_6 (by rfl)) ?_
  first | (refine RS.q rfl (QO.load ty59 (by rfl) (by repeat (first | exact List.Mem.head _ | refine List.Mem.tail _ ?_)) (by rfl)) ?_) | (refine RS.q rfl (QO.loadO ty59 (by rfl) (by assumption)) ?_) | (refine RS.q rfl (QO.load ty59 (by rfl) (by repeat (first | exact List.Mem.head _ | refine List.Mem.tail _ ?_)) (by assumption)) ?_)
  refine RS.q rfl (QO.lenS Try.underlying59 (by rfl)) ?_
  refine RS.q rfl (QO.move) ?_
  refine RS.nil ?_
  refine thenC_n ?_
  refine CS.block ?_
  refine CS.loop (X := Nat) (9 :: 46 :: 47 :: 48 :: 49 :: 50 :: 51 :: 52 :: 53 :: 54 :: 55 :: 56 :: 57 :: 58 :: 59 :: 60 :: 61 :: 62 :: 63 :: 64 :: 65 :: 66 :: 67 :: 68 :: 69 :: []) (fun k => [(46, iv (k : Int))]) (fun k => [⟨gp, 31, psC (movPs u.pts dx dy k) ++ jk⟩, ⟨g6, 61, [iv 0, flt 0, flt 0, flt 0, flt 0, flt 0, .slice none 0 0, .bool false]⟩, ⟨g3, 61, [iv u.kind, flt u.x, flt u.y, flt u.w, flt u.h, flt u.soft, .slice (some ⟨gp, 0, none⟩) u.pts.length cp, .bool u.out]⟩]) (fun k => k ≤ u.pts.length) (fun k => u.pts.length - k) 0 (Nat.zero_le _) ?_ ?_ ?_
  · exact (by repeat (first | exact kn_nil | refine kn_cons (by rfl) ?_))
  · exact (by rw [movPs_0]; exact (by repeat (first | exact List.Sublist.refl _ | exact List.nil_sublist _ | refine List.Sublist.cons_cons _ ?_ | refine List.Sublist.cons _ ?_ | exact Sbp.refl | exact Sbp.nil | refine Sbp.cons (by repeat (first | exact Rem.head | apply Rem.tail)) ?_ | exact Sbp.app | refine Sbp.skip ?_)))
  · intro k gj11 hz
    refine CS.seq ?_
    refine CS.region ?_
    refine RS.q rfl (QO.lss (by rfl) (by rfl)) ?_
    refine RS.nil ?_
    refine thenC_n ?_
    refine CS.seq ?_
    refine CS.cond (by rfl) (fun hb0 => ?_) (fun hb0 => ?_)
    · have hb0p := of_decide_eq_true hb0
      refine CS.skip ?_
      refine thenC_n ?_
      refine CS.seq ?_
      refine CS.block ?_
      refine CS.seq ?_
      refine CS.region ?_
      refine RS.q rfl (QO.move) ?_
      refine RS.q rfl (QO.assign) ?_
      refine RS.nil ?_
      refine thenC_n ?_
      refine CS.seq ?_
      refine CS.region ?_
      refine RS.q rfl (QO.fieldAddr fo61_6 (by rfl)) ?_
      first | (refine RS.q rfl (QO.load ty59 (by rfl) (by repeat (first | exact List.Mem.head _ | refine List.Mem.tail _ ?_)) (by rfl)) ?_) | (refine RS.q rfl (QO.loadO ty59 (by rfl) (by assumption)) ?_) | (refine RS.q rfl (QO.load ty59 (by rfl) (by repeat (first | exact List.Mem.head _ | refine List.Mem.tail _ ?_)) (by assumption)) ?_)
      refine RS.q rfl (QO.move) ?_
      refine RS.qv rfl (QO.idx Try.underlying59 ty31 (by rfl) (by rfl) (by omega) (by omega)) (congrArg (fun o => Value.pointer (some ⟨gp, o, none⟩)) (show 0 + (k : Int).toNat * 2 = k * 2 by rw [Int.toNat_natCast]; omega)) ?_
      refine RS.q rfl (QO.fieldAddr fo31_0 (by rfl)) ?_
      have hpk := winE_place he (show k < u.pts.length by omega)
      refine RS.q rfl (QO.load ty3 (by rfl) (by repeat (first | exact List.Mem.head _ | refine List.Mem.tail _ ?_)) (mov_x (show k < u.pts.length by omega))) ?_
      refine RS.q rfl (QO.move) ?_
      first | (refine RS.q rfl (QO.add (by rfl) (by rfl) (by omega) (by omega)) ?_) | (refine RS.q rfl (QO.ibin (by rfl) (by rfl) trivial) ?_)
      refine RS.qv rfl (QO.idx Try.underlying59 ty31 (by rfl) (by rfl) (by omega) (by omega)) (congrArg (fun o => Value.pointer (some ⟨gp, o, none⟩)) (show 0 + (k : Int).toNat * 2 = k * 2 by rw [Int.toNat_natCast]; omega)) ?_
      refine RS.q rfl (QO.fieldAddr fo31_0 (by rfl)) ?_
      refine RS.store1e ty3 rfl (by rfl) (by rfl) (by rfl) (mov_sx _ (show k < u.pts.length by omega)) (by repeat (first | exact Upd.head | apply Upd.tail)) (by rw [List.length_append, psC_len, movPs_len]; omega) ?_
      refine RS.nil ?_
      refine thenC_n ?_
      refine CS.region ?_
      refine RS.q rfl (QO.fieldAddr fo61_6 (by rfl)) ?_
      first | (refine RS.q rfl (QO.load ty59 (by rfl) (by repeat (first | exact List.Mem.head _ | refine List.Mem.tail _ ?_)) (by rfl)) ?_) | (refine RS.q rfl (QO.loadO ty59 (by rfl) (by assumption)) ?_) | (refine RS.q rfl (QO.load ty59 (by rfl) (by repeat (first | exact List.Mem.head _ | refine List.Mem.tail _ ?_)) (by assumption)) ?_)
      refine RS.q rfl (QO.move) ?_
      refine RS.qv rfl (QO.idx Try.underlying59 ty31 (by rfl) (by rfl) (by omega) (by omega)) (congrArg (fun o => Value.pointer (some ⟨gp, o, none⟩)) (show 0 + (k : Int).toNat * 2 = k * 2 by rw [Int.toNat_natCast]; omega)) ?_
      refine RS.q rfl (QO.fieldAddr fo31_1 (by rfl)) ?_
      refine RS.q rfl (QO.load ty3 (by rfl) (by repeat (first | exact List.Mem.head _ | refine List.Mem.tail _ ?_)) (mov_y _ (show k < u.pts.length by omega))) ?_
      refine RS.q rfl (QO.move) ?_
      first | (refine RS.q rfl (QO.add (by rfl) (by rfl) (by omega) (by omega)) ?_) | (refine RS.q rfl (QO.ibin (by rfl) (by rfl) trivial) ?_)
      refine RS.qv rfl (QO.idx Try.underlying59 ty31 (by rfl) (by rfl) (by omega) (by omega)) (congrArg (fun o => Value.pointer (some ⟨gp, o, none⟩)) (show 0 + (k : Int).toNat * 2 = k * 2 by rw [Int.toNat_natCast]; omega)) ?_
      refine RS.q rfl (QO.fieldAddr fo31_1 (by rfl)) ?_
      refine RS.store1e ty3 rfl (by rfl) (by rfl) (by rfl) (mov_sy (show k < u.pts.length by omega)) (by repeat (first | exact Upd.head | apply Upd.tail)) (by rw [List.length_append, psC_len, ptx_len, movPs_len]; omega) ?_
      refine RS.nil ?_
      refine blockC_n ?_
      refine thenC_n ?_
      refine CS.region ?_
      first | (refine RS.q rfl (QO.add (by rfl) (by rfl) (by omega) (by omega)) ?_) | (refine RS.q rfl (QO.ibin (by rfl) (by rfl) trivial) ?_)
      refine RS.q rfl (QO.move) ?_
      refine RS.nil ?_
      refine loopQ_n (by intro t ht; repeat (first | with_reducible exact rfl | exact frame_puts ht (frame_mix ht) _ rfl | (refine frame_put rfl ht ?_) | (refine frame_puts ht ?_ _ rfl) | exact frame_mix ht | (refine frame_mix2 rfl ht ?_) | exact rfl)) ?_
      exact ⟨k + 1, by omega, by omega, (by repeat (first | exact kn_nil | refine kn_cons (by rfl) ?_)), (by repeat (first | exact List.Sublist.refl _ | exact List.nil_sublist _ | refine List.Sublist.cons_cons _ ?_ | refine List.Sublist.cons _ ?_ | exact Sbp.refl | exact Sbp.nil | refine Sbp.cons (by repeat (first | exact Rem.head | apply Rem.tail)) ?_ | exact Sbp.app | refine Sbp.skip ?_))⟩
    · have hb0p := of_decide_eq_false hb0
      refine CS.exit ?_
      refine thenC_x ?_
      refine loopQ_x ?_
      refine blockC_x ?_
      refine thenC_n ?_
      refine CS.seq ?_
      refine CS.seq ?_
      refine CS.region ?_
      first | (refine RS.q rfl (QO.loadB ty61 (by rfl) (by repeat (first | exact List.Mem.head _ | refine List.Mem.tail _ ?_)) (by rfl)) ?_) | (refine RS.q rfl (QO.loadA ty61 (by rfl) (by repeat (first | exact List.Mem.head _ | refine List.Mem.tail _ ?_)) (by rfl) (by rfl)) ?_) | (refine RS.q rfl (QO.loadOA ty61 (by rfl) (by assumption) (by rfl)) ?_)
      refine RS.call rfl (by rfl) ok74 (by rfl) (fun w ho => checkWindowL (movPW u dx dy k) (some ⟨gp, 0, none⟩) cp u.pts.length _ (movPs_len ..) (PS.blk (t := 31) (junk := jk) ho (by repeat (first | exact List.Mem.head _ | refine List.Mem.tail _ ?_))) hm) ?_
      rintro _ _ ⟨rfl, rfl⟩
      refine RS.q rfl (QO.assign) ?_
      refine RS.nil ?_
      refine thenC_n ?_
      refine CS.seq ?_
      refine CS.region ?_
      refine RS.q rfl (QO.move) ?_
      refine RS.q rfl (QO.neq (by rfl) (by rfl)) ?_
      refine RS.nil ?_
      refine thenC_n ?_
      refine CS.cond (by rfl) (fun hb1 => ?_) (fun hb1 => ?_)
      · have hb1p := bne_iff_ne.1 hb1
        refine CS.seq ?_
        refine CS.region ?_
        refine RS.q rfl (QO.build ty61 pl61 (by rfl)) ?_
        refine RS.q rfl (QO.move) ?_
        first | refine RS.storeB ty61 (by rfl) (by rfl) (by rfl) (by rfl) (by rfl) (by repeat (first | exact Upd.head | apply Upd.tail)) (by rfl) ?_ | refine RS.storeP ty61 (by rfl) (by rfl) (by rfl) (by rfl) (by rfl) (by repeat (first | exact Upd.head | apply Upd.tail)) (by rfl) ?_
        refine RS.q rfl (QO.assign) ?_
        refine RS.nil ?_
        refine thenC_n ?_
        refine CS.ret ?_
        refine thenC_r ?_
        refine retQ.mk (H' := []) (.inr rfl) (RVs.cellA ty61 (by rfl) (by repeat (first | exact List.Mem.head _ | refine List.Mem.tail _ ?_)) (by rfl) (RVs.tmp (by rfl) RVs.nil)) (List.nil_sublist _) ?_
        exact ⟨none, 0, retZ (mov_bad he hx hy (movPk (k := k) (kind_P he hp) (by omega)) (by assumption)).2 (mov_bad he hx hy (movPk (k := k) (kind_P he hp) (by omega)) (by assumption)).1, ownZ (mov_bad he hx hy (movPk (k := k) (kind_P he hp) (by omega)) (by assumption)).2⟩
      · have hb1p := of_bne_false hb1
        refine CS.skip ?_
        refine thenC_n ?_
        refine CS.seq ?_
        refine CS.region ?_
        first | (refine RS.q rfl (QO.loadB ty61 (by rfl) (by repeat (first | exact List.Mem.head _ | refine List.Mem.tail _ ?_)) (by rfl)) ?_) | (refine RS.q rfl (QO.loadA ty61 (by rfl) (by repeat (first | exact List.Mem.head _ | refine List.Mem.tail _ ?_)) (by rfl) (by rfl)) ?_) | (refine RS.q rfl (QO.loadOA ty61 (by rfl) (by assumption) (by rfl)) ?_)
        first | refine RS.storeB ty61 (by rfl) (by rfl) (by rfl) (by rfl) (by rfl) (by repeat (first | exact Upd.head | apply Upd.tail)) (by rfl) ?_ | refine RS.storeP ty61 (by rfl) (by rfl) (by rfl) (by rfl) (by rfl) (by repeat (first | exact Upd.head | apply Upd.tail)) (by rfl) ?_
        refine RS.q rfl (QO.assign) ?_
        refine RS.nil ?_
        refine thenC_n ?_
        refine CS.ret ?_
        refine retQ.mk (H' := [⟨gp, 31, psC (movPs u.pts dx dy k) ++ jk⟩]) (.inr rfl) (RVs.cellA ty61 (by rfl) (by repeat (first | exact List.Mem.head _ | refine List.Mem.tail _ ?_)) (by rfl) (RVs.tmp (by rfl) RVs.nil)) (by repeat (first | exact List.Sublist.refl _ | exact List.nil_sublist _ | refine List.Sublist.cons_cons _ ?_ | refine List.Sublist.cons _ ?_ | exact Sbp.refl | exact Sbp.nil | refine Sbp.cons (by repeat (first | exact Rem.head | apply Rem.tail)) ?_ | exact Sbp.app | refine Sbp.skip ?_)) ?_
        exact ⟨_, cp, retM (m := movPW u dx dy k) (mov_ok he hx hy (movPk (k := k) (kind_P he hp) (by omega)) (by assumption)).2 (mov_ok he hx hy (movPk (k := k) (kind_P he hp) (by omega)) (by assumption)).1 (movPs_len ..), ownM (mov_ok he hx hy (movPk (k := k) (kind_P he hp) (by omega)) (by assumption)).2 OwnP.blk⟩

theorem moved_ (u : Win) (A : Option Addr) (c : Nat) (dx dy : Int) (W : World) (hA : PS W A u.pts) (hm : u.pts.length ≤ maxLen) : Fn_ Try.prog 28 #[.agg #[iv u.kind, flt u.x, flt u.y, flt u.w, flt u.h, flt u.soft, .slice A u.pts.length c, .bool u.out], iv dx, iv dy] W (fun v H => ∃ A2 c2, v = .tuple #[wV (movR u dx dy) A2 c2, iv (movE u dx dy)] ∧ OwnP A2 (movR u dx dy).pts H) := by
  by_cases he : winE u = 0
  · cases hx : plcB dx with
    | false => exact moved1 u A c dx dy W hA hm he hx
    | true =>
      cases hy : plcB dy with
      | false => exact moved2 u A c dx dy W hA hm he hx hy
      | true =>
        by_cases hp : u.pts = []
        · exact moved3 u A c dx dy W hA hm he hx hy hp
        · exact moved4 u A c dx dy W hA hm he hx hy hp
  · exact moved0 u A c dx dy W hA hm he

end Go.Proofs.Ytapcgokcfmklbaa

namespace Go.Proofs.Ytapcgokcfmklbaa
open Go Go.RowKit

/-- the first k points, mixed -/
def mixG (ps qs : List (Int × Int)) (t k : Nat) : List (Int × Int) := (List.range k).map fun i => mixP (ps.getD i (0, 0)) (qs.getD i (0, 0)) t
/-- points of the call's own, or of a key frame -/
def PtsOf (l : List KF) (A : Option Addr) (ps : List (Int × Int)) (H : HL) : Prop := OwnP A ps H ∨ ∃ j, j < l.length ∧ A = (l.getD j default).A ∧ ps = (l.getD j default).win.pts
theorem PtsOf.at_ {l : List KF} {A A0 : Option Addr} {ps : List (Int × Int)} {H H' : HL} {W w : World} (h : PtsOf l A ps H) (hA : KS w A0 l) (ho : Own W w H') (hs : Sbp H H') : PS w A ps := by
  rcases h with h | ⟨j, hj, rfl, rfl⟩
  · exact h.at_ ho hs
  · obtain ⟨_, _, _, _, h2⟩ := hA.at_ hj
    exact h2.1
end Go.Proofs.Ytapcgokcfmklbaa

namespace Go.Proofs.Ytapcgokcfmklbaa
open Go Go.Proofs Go.RowKit

end Go.Proofs.Ytapcgokcfmklbaa

namespace Go.Proofs.Ytapcgokcfmklbaa
open Go Go.RowKit

theorem movR_len {u : Win} {dx dy : Int} (h : u.pts.length ≤ maxLen) : (movR u dx dy).pts.length ≤ maxLen := by
  unfold movR
  split
  · unfold movW
    simp only [movPs_len]
    exact h
  · exact Nat.zero_le _
end Go.Proofs.Ytapcgokcfmklbaa

namespace Go.Proofs.Ytapcgokcfmklbaa
open Go Go.RowKit

/-- a single that is a whole number (either zero for 0) -/
def whl (x : Nat) (n : Int) : Prop := ∃ s m i, Ieee.single.read x = .number s m i ∧ -149 ≤ i ∧ ∀ L : Nat, L = 1074 → val64 s m i = n * 2 ^ L
theorem p2L (L : Nat) : (2 : Int) ^ L ≠ 0 := Int.ne_of_gt (Int.pow_pos (by decide))
theorem near_val (f : Ieee.Format) (neg : Bool) {m n : Nat} {i j : Int} (hi : -1074 ≤ i) (hj : -1074 ≤ j) (hm : m ≠ 0) (h : m * 2 ^ (i + 1074).toNat = n * 2 ^ (j + 1074).toNat) : f.nearest neg m i = f.nearest neg n j := by
  have hn : n ≠ 0 := fun h0 => by
    subst h0
    rw [Nat.zero_mul] at h
    exact Nat.mul_ne_zero hm (Nat.ne_of_gt (Nat.two_pow_pos _)) h
  have e1 := nearest_up f neg (t := (i + 1074).toNat) (p := -1074) hm
  have e2 := nearest_up f neg (t := (j + 1074).toNat) (p := -1074) hn
  rw [show (-1074 : Int) + ((i + 1074).toNat : Nat) = i by omega] at e1
  rw [show (-1074 : Int) + ((j + 1074).toNat : Nat) = j by omega] at e2
  rw [← e1, ← e2, h]
theorem cv_near (n : Int) : cvF n = Ieee.single.nearest (decide (n < 0)) n.natAbs 0 := rfl
theorem cv_scaled {n : Int} (h : n ≠ 0) {L : Nat} : Ieee.single.nearest (decide (n * 2 ^ L < 0)) (n * 2 ^ L).natAbs (-(L : Int)) = cvF n := by
  have hk : (0 : Int) < 2 ^ L := Int.pow_pos (by decide)
  have e3 : decide (n * 2 ^ L < 0) = decide (n < 0) := by
    apply decide_eq_decide.2
    constructor
    · intro h
      rcases Int.lt_or_le n 0 with h1 | h1
      · exact h1
      · have := Int.mul_nonneg h1 (Int.le_of_lt hk); omega
    · intro h; exact Int.mul_neg_of_neg_of_pos h hk
  have e4 : (n * 2 ^ L).natAbs = n.natAbs * 2 ^ L := by rw [Int.natAbs_mul, Int.natAbs_pow]; rfl
  rw [e3, e4, nearest_up _ _ (by omega), cv_near]
  congr 1; omega
theorem cv_val {n : Int} (h : n.natAbs ≤ 16777215) : whl (cvF n) n ∧ ∃ m i, Ieee.single.read (cvF n) = .number (decide (n < 0)) m i := by
  have e : cvF n = Ieee.single.nearest (decide (n < 0)) n.natAbs 0 := rfl
  by_cases h0 : n = 0
  · subst h0
    have hr : Ieee.single.read (cvF 0) = .number false 0 (-149) := by decide +kernel
    exact ⟨⟨false, 0, -149, hr, by omega, fun L _ => by unfold val64 Ieee.signed; simp⟩, 0, -149, hr⟩
  · have ha : n.natAbs ≠ 0 := by omega
    have hl := single_log ha h
    have g1 : Ieee.single.fractionBits = 23 := rfl
    have g2 : Ieee.single.leastPlace = -149 := by decide
    have g3 : Ieee.single.binade = 8388608 := by decide
    have g4 : Ieee.single.infRung = 2139095040 := by decide
    have c23 : (2 : Nat) ^ 23 = 8388608 := by decide
    have c24 : (2 : Nat) ^ (23 + 1) = 16777216 := by decide
    have hnr := nearest_rnd Ieee.single (decide (n < 0)) ha (p := 0) (L := (n.natAbs.log2 : Int) - 23) (by rw [g1, g2]; omega)
    obtain ⟨k, hk⟩ : ∃ k, 23 - n.natAbs.log2 = k := ⟨_, rfl⟩
    have q1 : (0 - ((n.natAbs.log2 : Int) - 23)).toNat = k := by omega
    have q2 : ((n.natAbs.log2 : Int) - 23 - 0).toNat = 0 := by omega
    rw [q1, q2, rnd_zero, g2, g3, g4] at hnr
    have hlog : (n.natAbs * 2 ^ k).log2 = 23 := by rw [log2_up ha]; omega
    obtain ⟨K, hK⟩ : ∃ K, n.natAbs * 2 ^ k = K := ⟨_, rfl⟩
    rw [hK] at hnr hlog
    have hK0 : K ≠ 0 := by rw [← hK]; exact Nat.mul_ne_zero ha (Nat.ne_of_gt (Nat.two_pow_pos _))
    have h1 := Nat.log2_self_le hK0
    have h2 : K < 2 ^ (K.log2 + 1) := Nat.lt_log2_self
    rw [hlog, c23] at h1
    rw [hlog, c24] at h2
    obtain ⟨u, hu⟩ : ∃ u : Nat, ((n.natAbs.log2 : Int) - 23 - -149).toNat = u := ⟨_, rfl⟩
    have hub : u ≤ 149 := by omega
    rw [hu, Nat.min_eq_left (by omega)] at hnr
    have hrd := word_read (decide (n < 0)) (R := u * 8388608 + K) (by omega)
    rw [if_neg (by omega)] at hrd
    rw [e, hnr]
    have e1 : 8388608 + (u * 8388608 + K) % 8388608 = K := by omega
    have e2 : (u * 8388608 + K) / 8388608 - 1 = u := by omega
    rw [e1, e2] at hrd
    refine ⟨⟨_, _, _, hrd, by omega, fun L hL => ?_⟩, _, _, hrd⟩
    unfold val64 Ieee.signed
    rw [Nat.shiftLeft_eq, ← hK, Nat.mul_assoc, ← Nat.pow_add, show k + (-149 + (u : Int) + 1074).toNat = L by omega]
    have hc : ((n.natAbs * 2 ^ L : Nat) : Int) = (n.natAbs : Int) * 2 ^ L := by rw [Int.natCast_mul, Int.natCast_pow]; rfl
    rw [hc]
    by_cases hn : n < 0
    · rw [decide_eq_true hn, if_pos rfl, ← Int.neg_mul]; congr 1; omega
    · rw [decide_eq_false hn, if_neg (by decide)]; congr 1; omega
theorem val_pos {s : Bool} {m : Nat} {i : Int} {n : Int} {L : Nat} (h : val64 s m i = n * 2 ^ L) (hn : 0 < n) : s = false := by
  cases s with
  | false => rfl
  | true =>
    have h1 : (0 : Int) < n * 2 ^ L := Int.mul_pos hn (Int.pow_pos (by decide))
    rw [← h] at h1
    unfold val64 Ieee.signed at h1
    rw [if_pos rfl] at h1
    have : (0 : Int) ≤ ((m <<< (i + 1074).toNat : Nat) : Int) := Int.natCast_nonneg _
    omega
theorem val_neg2 {s : Bool} {m : Nat} {i : Int} {n : Int} {L : Nat} (h : val64 s m i = n * 2 ^ L) (hn : n < 0) : s = true := by
  cases s with
  | true => rfl
  | false =>
    have h1 : n * 2 ^ L < (0 : Int) := Int.mul_neg_of_neg_of_pos hn (Int.pow_pos (by decide))
    rw [← h] at h1
    unfold val64 Ieee.signed at h1
    rw [if_neg (by decide)] at h1
    have : (0 : Int) ≤ ((m <<< (i + 1074).toNat : Nat) : Int) := Int.natCast_nonneg _
    omega
theorem word_cv0 : Ieee.single.word false 0 = cvF 0 := by decide +kernel
theorem add_w {x : Nat} {a d : Int} (hx : whl x a) (hd : d.natAbs ≤ 16777215) : fop .add x (cvF d) = some (cvF (a + d)) := by
  obtain ⟨L, hL⟩ : ∃ L : Nat, L = 1074 := ⟨_, rfl⟩
  obtain ⟨s, m, i, hr, hi, hv⟩ := hx
  obtain ⟨⟨t, n, j, hr2, hj, hv2⟩, n', j', hr3⟩ := cv_val hd
  have hv := hv L hL
  have hv2 := hv2 L hL
  have ht : t = decide (d < 0) := by rw [hr2] at hr3; injection hr3
  have hs : val64 s m i + val64 t n j = (a + d) * 2 ^ L := by rw [hv, hv2, Int.add_mul]
  show Ieee.single.add x (cvF d) = _
  unfold Ieee.Format.add
  rw [hr, hr2]
  by_cases h0 : a + d = 0
  · rw [h0, Int.zero_mul] at hs
    rw [h0, sum_zero Ieee.single (by omega) (by omega) hs]
    have h1 : (s && t) = false := by
      by_cases hdn : d < 0
      · rw [val_pos hv (by omega)]; rfl
      · rw [ht, decide_eq_false hdn, Bool.and_false]
    rw [h1, word_cv0]
  · have h1 : val64 s m i + val64 t n j ≠ 0 := by rw [hs]; exact Int.mul_ne_zero h0 (p2L L)
    rw [sum_write Ieee.single (by omega) (by omega) h1, hs]
    have := cv_scaled h0 (L := L)
    rw [show (-(L : Int)) = -1074 by omega] at this
    rw [this]
theorem sub_w {y : Nat} {x a : Int} (hy : whl y a) (hx : x.natAbs ≤ 16777215) : fop .sub (cvF x) y = some (cvF (x - a)) := by
  obtain ⟨L, hL⟩ : ∃ L : Nat, L = 1074 := ⟨_, rfl⟩
  obtain ⟨t, n, j, hr2, hj, hv2⟩ := hy
  obtain ⟨⟨s, m, i, hr, hi, hv⟩, n', j', hr3⟩ := cv_val hx
  have hv := hv L hL
  have hv2 := hv2 L hL
  have ht : s = decide (x < 0) := by rw [hr] at hr3; injection hr3
  have hs : val64 s m i + val64 (!t) n j = (x - a) * 2 ^ L := by rw [val_neg, hv, hv2, Int.sub_mul]; omega
  show Ieee.single.sub (cvF x) y = _
  unfold Ieee.Format.sub
  rw [hr, hr2]
  show (((Ieee.Datum.number s m i).sum (.number (!t) n j)).map Ieee.single.write) = _
  by_cases h0 : x - a = 0
  · rw [h0, Int.zero_mul] at hs
    rw [h0, sum_zero Ieee.single (by omega) (by omega) hs]
    have h1 : (s && !t) = false := by
      by_cases hdn : x < 0
      · rw [val_neg2 hv2 (by omega)]; simp
      · rw [ht, decide_eq_false hdn, Bool.false_and]
    rw [h1, word_cv0]
  · have h1 : val64 s m i + val64 (!t) n j ≠ 0 := by rw [hs]; exact Int.mul_ne_zero h0 (p2L L)
    rw [sum_write Ieee.single (by omega) (by omega) h1, hs]
    have := cv_scaled h0 (L := L)
    rw [show (-(L : Int)) = -1074 by omega] at this
    rw [this]
/-- the value is that of a whole number -/
theorem whl_of_eq {v : Nat} {n : Int} (hv : numB v = true) (hn : n.natAbs ≤ 16777215) (h : fcmpB .neq v (cvF n) = false) : whl v n := by
  obtain ⟨⟨t, m, j, hr2, hj, hv2⟩, _⟩ := cv_val hn
  have hc : numB (cvF n) = true := by unfold numB; rw [hr2]
  have ho := order_fval hv hc
  unfold fcmpB at h
  rw [ho] at h
  have he : fval v = fval (cvF n) := by
    have h2 : some (compare (fval v) (fval (cvF n))) = some .eq := by
      have := of_bne_false h; exact this
    injection h2 with h3
    exact Int.compare_eq_eq.1 h3
  unfold numB at hv
  cases hd : Ieee.single.read v with
  | nan s f => rw [hd] at hv; cases hv
  | infinity s => rw [hd] at hv; cases hv
  | number s k i =>
    have hb := num_bd hd
    refine ⟨s, k, i, hd, by omega, fun L hL => ?_⟩
    unfold fval at he
    rw [hd, hr2] at he
    obtain ⟨K, hK⟩ : ∃ K : Nat, K = 925 := ⟨_, rfl⟩
    have e1 : val64 s k i = Ieee.signed s k (i + 149).toNat * 2 ^ K := by unfold val64; rw [← signed_shift]; congr 1; omega
    have e2 : val64 t m j = Ieee.signed t m (j + 149).toNat * 2 ^ K := by unfold val64; rw [← signed_shift]; congr 1; omega
    rw [e1, show Ieee.signed s k (i + 149).toNat = Ieee.signed t m (j + 149).toNat from he, ← e2, hv2 L hL]
end Go.Proofs.Ytapcgokcfmklbaa

namespace Go.Proofs.Ytapcgokcfmklbaa
open Go Go.RowKit

/-! the magnitude -/
theorem absN_word (s : Bool) {R : Nat} (hR : R < 9223372036854775808) : absN (Ieee.double.word s R) = R := by
  have e1 : Ieee.double.signWeight = 9223372036854775808 := rfl
  have e2 : (~~~ BitVec.ofInt 64 9223372036854775808) = BitVec.ofNat 64 (2 ^ 63 - 1) := by decide
  have key : ∀ d : Nat, d < 2 ^ 64 → (BitVec.ofInt 64 (d : Int) &&& ~~~ BitVec.ofInt 64 9223372036854775808).toNat = d % 2 ^ 63 := fun d hd => by
    rw [e2, BitVec.toNat_and, BitVec.toNat_ofInt, BitVec.toNat_ofNat]
    have h1 : (((d : Int) % ((2 ^ 64 : Nat) : Int)).toNat) = d := by omega
    have h2 : (2 ^ 63 - 1) % 2 ^ 64 = 2 ^ 63 - 1 := by decide
    rw [h1, h2, Nat.and_two_pow_sub_one_eq_mod]
  have hw : Ieee.double.word s R < 2 ^ 64 := by unfold Ieee.Format.word; rw [e1]; split <;> omega
  have hm : Ieee.double.word s R % 2 ^ 63 = R := by unfold Ieee.Format.word; rw [e1]; split <;> omega
  unfold absN
  rw [key _ hw, hm]
  have h3 : IntKind.u64.wrap (R : Int) = (R : Int) := by unfold IntKind.wrap; simp [IntKind.bits, IntKind.signed]; omega
  rw [h3]; rfl
theorem near_word (m : Nat) (i : Int) : ∃ R, R ≤ 9218868437227405312 ∧ ∀ t, Ieee.double.nearest t m i = Ieee.double.word t R := by
  have e3 : Ieee.double.infRung = 9218868437227405312 := rfl
  by_cases h : m = 0
  · subst h
    exact ⟨0, by omega, fun t => by unfold Ieee.Format.nearest; rw [if_pos rfl]⟩
  · exact ⟨_, by rw [← e3]; exact Nat.min_le_right _ _, fun t => nearest_rnd Ieee.double t h rfl⟩
theorem abs_whole {k : Int} (hk : k.natAbs ≤ 16777215) : absF (cvF k) = some (cvF (k.natAbs : Int)) := by
  by_cases h0 : k = 0
  · subst h0; decide +kernel
  · obtain ⟨⟨s, m, i, hr, hi, hv⟩, _⟩ := cv_val hk
    obtain ⟨L, hL⟩ : ∃ L : Nat, L = 1074 := ⟨_, rfl⟩
    have hv := hv L hL
    have hb := num_bd hr
    obtain ⟨R, hR, hw⟩ := near_word m i
    unfold absF
    rw [wide_conv hr, Option.bind_some, hw s, absN_word s (by omega)]
    have hf : R = Ieee.double.nearest false m i := by rw [hw false]; rfl
    rw [hf]
    obtain ⟨m2, i2, h1, h2, h3⟩ := wide_ex (s := false) hb.1 (by omega) hb.2.1
    have e1 : m * 2 ^ (i + 1074).toNat = k.natAbs * 2 ^ L := by
      have := congrArg Int.natAbs hv
      unfold val64 at this
      rw [val_abs, Int.natAbs_mul, Int.natAbs_pow] at this
      exact this
    have e2 : m2 * 2 ^ (i2 + 1074).toNat = m * 2 ^ (i + 1074).toNat := by
      have := congrArg Int.natAbs h3
      unfold val64 at this
      rw [val_abs, val_abs] at this
      exact this
    have hka : k.natAbs ≠ 0 := by omega
    have hm2 : m2 ≠ 0 := fun h => by
      subst h
      rw [Nat.zero_mul] at e2
      rw [← e2] at e1
      exact Nat.mul_ne_zero hka (Nat.ne_of_gt (Nat.two_pow_pos L)) e1.symm
    have e3 : cvF (k.natAbs : Int) = Ieee.single.nearest false k.natAbs 0 := by
      rw [cv_near, decide_eq_false (by omega), Int.natAbs_natCast]
    refine f64_f32 h1 ?_ ?_
    · rw [e3]
      refine near_val _ _ h2 (by omega) hm2 ?_
      rw [e2, e1, show ((0 : Int) + 1074).toNat = L by omega]
    · obtain ⟨_, m3, i3, h4⟩ := cv_val (n := (k.natAbs : Int)) (by omega)
      rw [h4]; rfl
/-! an edge -/
def fadeV (d soft : Nat) : Nat := if fcmpB .lss d soft then fo .sub 1065353216 (smoothV (fo .quo d soft)) else 0
def edgeV (d soft : Nat) : Nat := if fcmpB .gtr d 0 then fadeV d soft else 1065353216
theorem fb_num {x : Nat} {B : Int} (h : fb x B) : nan32 x = false := by
  obtain ⟨s, m, i, hr, _⟩ := h
  exact nan_of_num (by unfold numB; rw [hr])
theorem fo_of {op : BinOp} {a b r : Nat} {B : Int} (h : fop op a b = some r) (hb : fb r B) : fo op a b = r := by
  unfold fo; rw [h]; exact cl_num (fb_num hb)
theorem fb_one : fb 1065353216 1 := ⟨false, 8388608, -23, by decide +kernel, .inr (by decide +kernel)⟩
theorem fb_two : fb 1073741824 2 := ⟨false, 8388608, -22, by decide +kernel, .inr (by decide +kernel)⟩
theorem fb_three : fb 1077936128 2 := ⟨false, 12582912, -22, by decide +kernel, .inr (by decide +kernel)⟩
theorem fb_zero (B : Int) : fb 0 B := ⟨false, 0, -149, by decide +kernel, .inl rfl⟩
theorem unit_fb {x : Nat} (hn : nan32 x = false) (h1 : fcmpB .lss x 0 = false) (h2 : fcmpB .gtr x 1065353216 = false) : fb x 1 := by
  have hr1 : Ieee.single.read 0 = .number false 0 (-149) := by decide +kernel
  have hr2 : Ieee.single.read 1065353216 = .number false 8388608 (-23) := by decide +kernel
  unfold fcmpB Ieee.Format.order at h1 h2
  rw [hr1] at h1
  rw [hr2] at h2
  rcases read_num hn with ⟨s, m, i, hd⟩ | ⟨s, hd⟩
  · rw [hd] at h1 h2
    have k1 : ¬ Ieee.signed s m (i - min i (-149)).toNat < Ieee.signed false 0 (-149 - min i (-149)).toNat := fun h => by
      have e : (Ieee.Datum.number s m i).order (.number false 0 (-149)) = some .lt := congrArg some (by rw [Int.compare_eq_lt]; exact h)
      rw [e] at h1; exact absurd h1 (by decide)
    have k2 : ¬ Ieee.signed false 8388608 (-23 - min i (-23)).toNat < Ieee.signed s m (i - min i (-23)).toNat := fun h => by
      have e : (Ieee.Datum.number s m i).order (.number false 8388608 (-23)) = some .gt := congrArg some (by rw [Int.compare_eq_gt]; exact h)
      rw [e] at h2; exact absurd h2 (by decide)
    have eF : ∀ u, Ieee.signed false 8388608 u = ((8388608 * 2 ^ u : Nat) : Int) := fun u => by unfold Ieee.signed; rw [if_neg (by decide), Nat.shiftLeft_eq]
    have e0 : ∀ u, Ieee.signed false 0 u = 0 := fun u => by unfold Ieee.signed; simp
    rw [eF] at k2
    rw [e0] at k1
    by_cases h0 : m = 0
    · exact ⟨s, m, i, hd, .inl h0⟩
    · have hs : s = false := by
        cases s with
        | false => rfl
        | true =>
          exfalso
          apply k1
          unfold Ieee.signed
          rw [if_pos rfl, Nat.shiftLeft_eq]
          have := Nat.mul_pos (Nat.pos_of_ne_zero h0) (Nat.two_pow_pos (i - min i (-149)).toNat)
          omega
      subst hs
      have eM : ∀ u, Ieee.signed false m u = ((m * 2 ^ u : Nat) : Int) := fun u => by unfold Ieee.signed; rw [if_neg (by decide), Nat.shiftLeft_eq]
      rw [eM] at k2
      have hb : m * 2 ^ (i - min i (-23)).toNat ≤ 8388608 * 2 ^ (-23 - min i (-23)).toNat := by omega
      refine ⟨false, m, i, hd, .inr ?_⟩
      have c : (8388608 : Nat) = 2 ^ 23 := by decide
      rw [c, ← Nat.pow_add] at hb
      have h3 := log_le (Nat.mul_ne_zero h0 (Nat.ne_of_gt (Nat.two_pow_pos _))) hb
      rw [log2_up h0] at h3
      omega
  · rw [hd] at h1 h2
    cases s
    · exact absurd h2 (by decide)
    · exact absurd h1 (by decide)
theorem lim_fb {t : Nat} (hn : nan32 t = false) : fb (limV t) 1 := by
  unfold limV
  split
  · exact fb_zero 1
  · split
    · exact fb_one
    · rename_i h1 h2
      rw [cl_num hn]
      exact unit_fb hn (by simpa using h1) (by simpa using h2)
theorem smooth_fb {t : Nat} (hn : nan32 t = false) : fb (smoothV t) 14 := by
  have h0 := lim_fb hn
  obtain ⟨a, ha, hab, _⟩ := fb_mul h0 h0 (by omega) (by omega)
  obtain ⟨b, hb, hbb, _⟩ := fb_mul fb_two h0 (by omega) (by omega)
  obtain ⟨c, hc, hcb, _⟩ := fb_sub (fb_mono fb_three (by omega)) hbb (by omega) (by omega)
  obtain ⟨d, hd, hdb, _⟩ := fb_mul hab hcb (by omega) (by omega)
  unfold smoothV
  rw [fo_of ha hab, fo_of hb hbb, fo_of hc hcb, fo_of hd hdb]
  exact fb_mono hdb (by omega)
theorem single_near_num (s : Bool) (m : Nat) (i : Int) : nan32 (Ieee.single.nearest s m i) = false := by
  have e1 : Ieee.single.signWeight = 2147483648 := rfl
  have e3 : Ieee.single.infRung = 2139095040 := rfl
  have key : ∀ R, R ≤ 2139095040 → nan32 (Ieee.single.word s R) = false := fun R hR => by
    unfold nan32 Ieee.Format.word
    rw [e1]
    refine decide_eq_false ?_
    split <;> omega
  by_cases h : m = 0
  · subst h
    unfold Ieee.Format.nearest
    rw [if_pos rfl]; exact key 0 (by omega)
  · rw [nearest_rnd Ieee.single s h rfl]
    exact key _ (by rw [← e3]; exact Nat.min_le_right _ _)
theorem quo_num {d soft : Nat} (hs : numB soft = true) (h1 : fcmpB .gtr d 0 = true) (h2 : fcmpB .lss d soft = true) : nan32 (fo .quo d soft) = false := by
  have hdn : numB d = true := by
    unfold fcmpB Ieee.Format.order at h1 h2
    have hr1 : Ieee.single.read 0 = .number false 0 (-149) := by decide +kernel
    rw [hr1] at h1
    unfold numB at hs ⊢
    cases hd : Ieee.single.read d with
    | nan s f => rw [hd] at h1; exact Bool.noConfusion (show false = true from h1)
    | infinity s =>
      rw [hd] at h1 h2
      cases he : Ieee.single.read soft with
      | nan s f => rw [he] at hs; cases hs
      | infinity s => rw [he] at hs; cases hs
      | number t n j =>
        rw [he] at h2
        cases s
        · exact Bool.noConfusion (show false = true from h2)
        · exact Bool.noConfusion (show false = true from h1)
    | number s m i => rfl
  have h0 : numB 0 = true := by decide +kernel
  have o1 := order_fval hdn h0
  have o2 := order_fval hdn hs
  have f0 : fval 0 = 0 := by decide +kernel
  unfold fcmpB at h1 h2
  rw [o1, f0] at h1
  rw [o2] at h2
  have k1 : 0 < fval d := by
    have : some (compare (fval d) 0) = some .gt := by simpa using h1
    injection this with h
    exact Int.compare_eq_gt.1 h
  have k2 : fval d < fval soft := by
    have : some (compare (fval d) (fval soft)) = some .lt := by simpa using h2
    injection this with h
    exact Int.compare_eq_lt.1 h
  unfold numB at hdn hs
  split at hdn
  · rename_i s m i e1
    split at hs
    · rename_i t n j e2
      have hn0 : n ≠ 0 := fun h => by
        subst h
        have : fval soft = 0 := by unfold fval; rw [e2]; unfold Ieee.signed; simp
        omega
      have h3 : fop .quo d soft = _ := single_div e1 e2 hn0
      unfold fo
      rw [h3, Option.getD_some, nan_cl]
      exact single_near_num _ _ _
    · cases hs
  · cases hdn
theorem fade_fb {d soft : Nat} (hs : numB soft = true) (h1 : fcmpB .gtr d 0 = true) : fb (fadeV d soft) 17 := by
  unfold fadeV
  split
  · rename_i h2
    have h3 := smooth_fb (quo_num hs h1 h2)
    obtain ⟨r, hr, hrb, _⟩ := fb_sub (fb_mono fb_one (by omega)) h3 (by omega) (by omega)
    rw [fo_of hr hrb]; exact fb_mono hrb (by omega)
  · exact fb_zero 17
theorem edge_fb {d soft : Nat} (hs : numB soft = true) : fb (edgeV d soft) 17 := by
  unfold edgeV
  split
  · rename_i h; exact fade_fb hs h
  · exact fb_mono fb_one (by omega)
/-- turned out or not: a number -/
def turnV (out : Bool) (v : Nat) : Nat := if out then fo .sub 1065353216 v else cl v
theorem turn_num {out : Bool} {v : Nat} (h : fb v 17) : nan32 (turnV out v) = false := by
  unfold turnV
  split
  · obtain ⟨r, hr, hrb, _⟩ := fb_sub (fb_mono fb_one (by omega)) h (by omega) (by omega)
    rw [fo_of hr hrb]; exact fb_num hrb
  · rw [nan_cl]; exact fb_num h
end Go.Proofs.Ytapcgokcfmklbaa

namespace Go.Proofs.Ytapcgokcfmklbaa
open Go Go.RowKit

theorem rnd_le (n a : Nat) : rnd n a ≤ n / 2 ^ a + 1 := by unfold rnd; split <;> omega
/-- a double near a number that is not great is not great -/
theorem dnear_log {s : Bool} {M : Nat} {P : Int} (h0 : M ≠ 0) (hE : P + (M.log2 : Int) ≤ 100) : ∃ m i, Ieee.double.read (Ieee.double.nearest s M P) = .number s m i ∧ (m = 0 ∨ i + (m.log2 : Int) ≤ 118) := by
  have f1 : Ieee.double.fractionBits = 52 := rfl
  have f2 : Ieee.double.leastPlace = -1074 := by decide
  have f3 : Ieee.double.binade = 4503599627370496 := by decide
  have f4 : Ieee.double.infRung = 9218868437227405312 := by decide
  have f5 : Ieee.double.signWeight = 9223372036854775808 := by decide
  have c52 : (2 : Nat) ^ 52 = 4503599627370496 := by decide
  have c53 : (2 : Nat) ^ 53 = 9007199254740992 := by decide
  obtain ⟨L, hL⟩ : ∃ L, max (P + (M.log2 : Int) - Ieee.double.fractionBits) Ieee.double.leastPlace = L := ⟨_, rfl⟩
  have hn := nearest_rnd Ieee.double s h0 hL
  rw [f1, f2] at hL
  rw [f2, f3, f4] at hn
  obtain ⟨K, hK⟩ : ∃ K, rnd (M * 2 ^ (P - L).toNat) (L - P).toNat = K := ⟨_, rfl⟩
  have hK2 : K ≤ 9007199254740992 := by
    have h1 := rnd_le (M * 2 ^ (P - L).toNat) (L - P).toNat
    have h2 : M * 2 ^ (P - L).toNat / 2 ^ (L - P).toNat < 2 ^ 53 := by
      rw [Nat.div_lt_iff_lt_mul (Nat.two_pow_pos _), ← Nat.pow_add]
      have h3 : M < 2 ^ (M.log2 + 1) := Nat.lt_log2_self
      have h4 : M * 2 ^ (P - L).toNat < 2 ^ (M.log2 + 1) * 2 ^ (P - L).toNat := Nat.mul_lt_mul_of_pos_right h3 (Nat.two_pow_pos _)
      rw [← Nat.pow_add] at h4
      exact Nat.lt_of_lt_of_le h4 (Nat.pow_le_pow_right (by decide) (by omega))
    rw [hK] at h1
    rw [c53] at h2
    omega
  rw [hK] at hn
  obtain ⟨u, hu⟩ : ∃ u : Nat, (L - -1074).toNat = u := ⟨_, rfl⟩
  have hub : u ≤ 1122 := by omega
  rw [hu, Nat.min_eq_left (by omega)] at hn
  obtain ⟨R, hR⟩ : ∃ R, u * 4503599627370496 + K = R := ⟨_, rfl⟩
  have hRb : R ≤ 1124 * 4503599627370496 := by omega
  rw [hR] at hn
  rw [hn]
  have hw1 : (Ieee.double.word s R / 9223372036854775808 % 2 == 1) = s := by
    unfold Ieee.Format.word
    rw [f5]
    cases s
    · simp only [Bool.false_eq_true, if_false]
      rw [Nat.div_eq_of_lt (by omega)]; rfl
    · simp only [if_true]
      rw [show (9223372036854775808 + R) / 9223372036854775808 = 1 by omega]; rfl
  have hw2 : Ieee.double.word s R % 9223372036854775808 = R := by
    unfold Ieee.Format.word
    rw [f5]
    cases s
    · simp only [Bool.false_eq_true, if_false]; omega
    · simp only [if_true]; omega
  unfold Ieee.Format.read
  simp only [f2, f3, f4, f5]
  rw [hw1, hw2]
  have lg : ∀ m : Nat, m ≠ 0 → m < 2 ^ 53 → m.log2 ≤ 52 := fun m h1 h2 => by
    have := (Nat.log2_lt h1).2 h2
    omega
  by_cases h1 : R < 4503599627370496
  · rw [if_pos h1]
    refine ⟨_, _, rfl, ?_⟩
    by_cases hz : R = 0
    · exact .inl hz
    · have := lg R hz (by rw [c53]; omega)
      right; omega
  · rw [if_neg h1, if_pos (by omega)]
    refine ⟨_, _, rfl, .inr ?_⟩
    have := lg (4503599627370496 + R % 4503599627370496) (by omega) (by rw [c53]; omega)
    omega
theorem rootFrom_lt (n : Nat) : ∀ (todo root : Nat), Ieee.Datum.rootFrom n todo root < root + 2 ^ todo
  | 0, root => by show root < root + 1; omega
  | todo + 1, root => by
    unfold Ieee.Datum.rootFrom
    have h1 : 1 <<< todo = 2 ^ todo := by rw [Nat.shiftLeft_eq, Nat.one_mul]
    have h2 : 2 ^ (todo + 1) = 2 ^ todo + 2 ^ todo := by rw [Nat.pow_succ]; omega
    simp only [h1]
    split
    · have := rootFrom_lt n todo (root + 2 ^ todo); omega
    · have := rootFrom_lt n todo root
      have := Nat.two_pow_pos todo
      omega
def rootF (s : Nat) : Option Nat := (floatToFloatBits .f32 s .f64).bind fun d => (Ieee.double.sqrt d).bind fun r => floatToFloatBits .f64 r .f32
theorem rootF_some {s t : Nat} (h : rootF s = some t) : ∃ d r, floatToFloatBits .f32 s .f64 = some d ∧ Ieee.double.sqrt d = some r ∧ floatToFloatBits .f64 r .f32 = some t := by
  unfold rootF at h
  obtain ⟨d, h1, h2⟩ := Option.bind_eq_some_iff.1 h
  obtain ⟨r, h3, h4⟩ := Option.bind_eq_some_iff.1 h2
  exact ⟨d, r, h1, h3, h4⟩
theorem nn_read {s : Nat} (h : s ≤ 2139095040) : (∃ m i, Ieee.single.read s = .number false m i) ∨ s = 2139095040 := by
  by_cases h1 : s = 2139095040
  · exact .inr h1
  · have hw : Ieee.single.word false s = s := rfl
    have := word_read false (R := s) (by omega)
    rw [hw] at this
    split at this
    · exact .inl ⟨_, _, this⟩
    · exact .inl ⟨_, _, this⟩
theorem root_there {s : Nat} (h : s ≤ 2139095040) : (rootF s).isSome = true := by
  rcases nn_read h with ⟨m, i, hr⟩ | rfl
  · have hb := num_bd hr
    unfold rootF
    rw [wide_conv hr, Option.bind_some]
    obtain ⟨m2, i2, h1, h2, h3⟩ := wide_ex (s := false) hb.1 (by omega) hb.2.1
    unfold Ieee.Format.sqrt
    rw [h1]
    by_cases h0 : m2 = 0
    · subst h0
      have e0 : (Ieee.Datum.number false 0 i2).root (Ieee.double.fractionBits + 2) = some (.number false 0 i2) := by unfold Ieee.Datum.root; exact if_pos rfl
      have e : Ieee.double.write (.number false 0 i2) = Ieee.double.word false 0 := by
        show Ieee.double.nearest false 0 i2 = _
        unfold Ieee.Format.nearest; rw [if_pos rfl]
      rw [e0, Option.map_some, Option.bind_some, e, zero_back false (r := 0) rfl]; rfl
    · have hz : ∃ M P, (Ieee.Datum.number false m2 i2).root (Ieee.double.fractionBits + 2) = some (.number false M P) ∧ M ≠ 0 ∧ 2 * (P + (M.log2 : Int)) ≤ i2 + (m2.log2 : Int) + 4 := by
        have e54 : Ieee.double.fractionBits + 2 = 54 := rfl
        rw [e54]
        obtain ⟨more, hm⟩ : ∃ more, 2 * 54 - m2.log2 + ((i2 - ((2 * 54 - m2.log2 : Nat) : Int)) % 2).toNat = more := ⟨_, rfl⟩
        obtain ⟨n, hn⟩ : ∃ n, m2 <<< more = n := ⟨_, rfl⟩
        obtain ⟨w, hw⟩ : ∃ w, Ieee.Datum.rootFrom n (n.log2 / 2 + 1) 0 = w := ⟨_, rfl⟩
        have e1 : (Ieee.Datum.number false m2 i2).root 54 = some (.number false (2 * w + (w * w != n).toNat) ((i2 - (more : Int)) / 2 - 1)) := by
          unfold Ieee.Datum.root
          simp only [if_neg h0, Bool.false_eq_true, if_false]
          rw [hm, hn, hw]
        have hn2 : n = m2 * 2 ^ more := by rw [← hn, Nat.shiftLeft_eq]
        have hn0 : n ≠ 0 := by rw [hn2]; exact Nat.mul_ne_zero h0 (Nat.ne_of_gt (Nat.two_pow_pos _))
        have hl : n.log2 = m2.log2 + more := by rw [hn2, log2_up h0]
        have hwb := rootFrom_lt n (n.log2 / 2 + 1) 0
        rw [hw, Nat.zero_add] at hwb
        have hM0 : 2 * w + (w * w != n).toNat ≠ 0 := by
          by_cases hw0 : w = 0
          · subst hw0
            have : (0 * 0 != n) = true := by simp; omega
            rw [this]; decide
          · omega
        have hMb : (2 * w + (w * w != n).toNat).log2 < n.log2 / 2 + 2 := by
          rw [Nat.log2_lt hM0, Nat.pow_succ]
          have := Bool.toNat_le (w * w != n)
          omega
        refine ⟨_, _, e1, hM0, ?_⟩
        omega
      obtain ⟨M, P, e1, e2, e3⟩ := hz
      rw [e1, Option.map_some, Option.bind_some]
      have hlog : i2 + (m2.log2 : Int) ≤ 128 := by
        have hv := congrArg Int.natAbs h3
        unfold val64 at hv
        rw [val_abs, val_abs] at hv
        have hm0 : m ≠ 0 := fun h => by
          subst h
          rw [Nat.zero_mul] at hv
          exact Nat.mul_ne_zero h0 (Nat.ne_of_gt (Nat.two_pow_pos _)) hv
        have g := congrArg Nat.log2 hv
        rw [log2_up h0, log2_up hm0] at g
        have := single_log hm0 hb.1
        omega
      obtain ⟨m3, i3, q1, q2⟩ := dnear_log (s := false) e2 (P := P) (by omega)
      have q3 : fb (Ieee.single.nearest false m3 i3) 122 := near_fb0 false (by omega) (by omega) (q2.imp id fun h => by omega)
      have q4 := f64_f32 q1 rfl (fb_fin q3)
      have e4 : Ieee.double.write (.number false M P) = Ieee.double.nearest false M P := rfl
      rw [e4, q4]; rfl
  · decide +kernel
end Go.Proofs.Ytapcgokcfmklbaa

namespace Go.Proofs.Ytapcgokcfmklbaa
open Go Go.RowKit

/-! numbers that are not negative -/
theorem near_le (m : Nat) (i : Int) : Ieee.single.nearest false m i ≤ 2139095040 := by
  have e3 : Ieee.single.infRung = 2139095040 := rfl
  by_cases h : m = 0
  · subst h
    unfold Ieee.Format.nearest
    rw [if_pos rfl]; decide
  · rw [nearest_rnd Ieee.single false h rfl]
    have e4 : ∀ R, Ieee.single.word false R = R := fun _ => rfl
    rw [e4, e3]; exact Nat.min_le_right _ _
theorem sq_nn {a : Nat} (h : nan32 a = false) : ∃ r, fop .mul a a = some r ∧ r ≤ 2139095040 := by
  rcases read_num h with ⟨s, m, i, hd⟩ | ⟨s, hd⟩
  · refine ⟨Ieee.single.nearest false (m * m) (i + i), ?_, near_le _ _⟩
    show Ieee.single.mul a a = _
    unfold Ieee.Format.mul
    rw [hd]
    show some (Ieee.single.write (.number (s ^^ s) (m * m) (i + i))) = _
    rw [Bool.xor_self]; rfl
  · refine ⟨2139095040, ?_, Nat.le_refl _⟩
    show Ieee.single.mul a a = _
    unfold Ieee.Format.mul
    rw [hd]
    show some (Ieee.single.write (.infinity (s ^^ s))) = _
    rw [Bool.xor_self]; rfl
theorem inf_read : Ieee.single.read 2139095040 = .infinity false := by decide +kernel
theorem add_nn {a b : Nat} (ha : a ≤ 2139095040) (hb : b ≤ 2139095040) : ∃ r, fop .add a b = some r ∧ r ≤ 2139095040 := by
  show ∃ r, Ieee.single.add a b = some r ∧ _
  unfold Ieee.Format.add
  rcases nn_read ha with ⟨m, i, h1⟩ | rfl
  · rcases nn_read hb with ⟨n, j, h2⟩ | rfl
    · rw [h1, h2]
      refine ⟨Ieee.single.nearest false (Ieee.signed false m (i - min i j).toNat + Ieee.signed false n (j - min i j).toNat).natAbs (min i j), ?_, near_le _ _⟩
      have h3 : (0 : Int) ≤ Ieee.signed false m (i - min i j).toNat + Ieee.signed false n (j - min i j).toNat := by
        unfold Ieee.signed
        rw [if_neg (by decide), if_neg (by decide)]
        exact Int.add_nonneg (Int.natCast_nonneg _) (Int.natCast_nonneg _)
      have e : (Ieee.Datum.number false m i).sum (.number false n j) = some (.number (if Ieee.signed false m (i - min i j).toNat + Ieee.signed false n (j - min i j).toNat = 0 then false && false else decide (Ieee.signed false m (i - min i j).toNat + Ieee.signed false n (j - min i j).toNat < 0)) (Ieee.signed false m (i - min i j).toNat + Ieee.signed false n (j - min i j).toNat).natAbs (min i j)) := rfl
      rw [e, decide_eq_false (Int.not_lt.2 h3)]
      have e2 : (if Ieee.signed false m (i - min i j).toNat + Ieee.signed false n (j - min i j).toNat = 0 then false && false else false) = false := by split <;> rfl
      rw [e2]; rfl
    · rw [h1, inf_read]; exact ⟨2139095040, rfl, Nat.le_refl _⟩
  · rcases nn_read hb with ⟨n, j, h2⟩ | rfl
    · rw [h2, inf_read]; exact ⟨2139095040, rfl, Nat.le_refl _⟩
    · rw [inf_read]; exact ⟨2139095040, rfl, Nat.le_refl _⟩
theorem nn_num {a : Nat} (h : a ≤ 2139095040) : nan32 a = false := by
  unfold nan32; exact decide_eq_false (by omega)
theorem div_num {p : Int} {w : Nat} (hp : p.natAbs ≤ 16777215) (hw : numB w = true) (h0 : fcmpB .eql w 0 = false) : nan32 (fo .quo (cvF p) w) = false := by
  obtain ⟨⟨s, m, i, hr, _, _⟩, _⟩ := cv_val hp
  have hz : numB 0 = true := by decide +kernel
  have f0 : fval 0 = 0 := by decide +kernel
  have ho := order_fval hw hz
  unfold fcmpB at h0
  rw [ho, f0] at h0
  have hf : fval w ≠ 0 := fun h => by rw [h] at h0; exact absurd h0 (by decide)
  unfold numB at hw
  split at hw
  · rename_i t n j e2
    have hn0 : n ≠ 0 := fun h => by
      subst h
      apply hf
      unfold fval; rw [e2]; unfold Ieee.signed; simp
    have h3 : fop .quo (cvF p) w = _ := single_div hr e2 hn0
    unfold fo
    rw [h3, Option.getD_some, nan_cl]
    exact single_near_num _ _ _
  · cases hw
/-! what a window covers -/
def maxV (a b : Nat) : Nat := if fcmpB .gtr b a then b else a
def boxV (u : Win) (p q : Int) : Nat := edgeV (maxV (fo .sub (cvF (p.natAbs : Int)) u.w) (fo .sub (cvF (q.natAbs : Int)) u.h)) u.soft
def sqV (u : Win) (p q : Int) : Nat := fo .add (fo .mul (fo .quo (cvF p) u.w) (fo .quo (cvF p) u.w)) (fo .mul (fo .quo (cvF q) u.h) (fo .quo (cvF q) u.h))
def rootV (s : Nat) : Nat := cl ((rootF s).getD 0)
def leastV (u : Win) : Nat := if fcmpB .lss u.h u.w then u.h else u.w
def ellV (u : Win) (p q : Int) : Nat := if fcmpB .gtr (rootV (sqV u p q)) 1065353216 then edgeV (fo .mul (fo .sub (rootV (sqV u p q)) 1065353216) (leastV u)) u.soft else 1065353216
theorem sqV_nn {u : Win} {p q : Int} (hp : p.natAbs ≤ 16777215) (hq : q.natAbs ≤ 16777215) (hw : numB u.w = true) (hh : numB u.h = true) (h1 : fcmpB .eql u.w 0 = false) (h2 : fcmpB .eql u.h 0 = false) : sqV u p q ≤ 2139095040 := by
  obtain ⟨r, hr, hr2⟩ := sq_nn (div_num hp hw h1)
  obtain ⟨s, hs, hs2⟩ := sq_nn (div_num hq hh h2)
  obtain ⟨t, ht, ht2⟩ := add_nn hr2 hs2
  unfold sqV
  have e1 : fo .mul (fo .quo (cvF p) u.w) (fo .quo (cvF p) u.w) = r := by unfold fo at hr ⊢; rw [hr]; exact cl_num (nn_num hr2)
  have e2 : fo .mul (fo .quo (cvF q) u.h) (fo .quo (cvF q) u.h) = s := by unfold fo at hs ⊢; rw [hs]; exact cl_num (nn_num hs2)
  rw [e1, e2]
  unfold fo
  rw [ht]
  show cl t ≤ _
  rw [cl_num (nn_num ht2)]; exact ht2
/-! edges that are crossed -/
def crE (p q : Int × Int) (x y : Int) : Bool :=
  if decide (y < p.2) = decide (y < q.2) then false else (decide (p.2 < q.2) && decide ((x - p.1) * (q.2 - p.2) < (q.1 - p.1) * (y - p.2))) || (decide (q.2 ≤ p.2) && decide ((q.1 - p.1) * (y - p.2) < (x - p.1) * (q.2 - p.2)))
def crN (l : List (Int × Int)) (x y : Int) : Nat → Nat
  | 0 => 0
  | k + 1 => crN l x y k + if crE (l.getD k (0, 0)) (l.getD ((k + 1) % l.length) (0, 0)) x y then 1 else 0
theorem crE_mov (p q : Int × Int) (x y dx dy : Int) : crE (movP p dx dy) (movP q dx dy) (x + dx) (y + dy) = crE p q x y := by
  unfold crE movP
  simp only [Int.add_lt_add_iff_right, Int.add_le_add_iff_right, Int.add_sub_add_right]
theorem movPs_all {ps : List (Int × Int)} {dx dy : Int} {i : Nat} (h : i < ps.length) : (movPs ps dx dy ps.length).getD i (0, 0) = movP (ps.getD i (0, 0)) dx dy := by
  rw [movPs_at h, if_pos h]
theorem crN_mov (ps : List (Int × Int)) (x y dx dy : Int) : ∀ k, k ≤ ps.length → crN (movPs ps dx dy ps.length) (x + dx) (y + dy) k = crN ps x y k
  | 0, _ => rfl
  | k + 1, h => by
    unfold crN
    rw [crN_mov ps x y dx dy k (by omega), movPs_len, movPs_all (by omega), movPs_all (Nat.mod_lt _ (by omega)), crE_mov]
def polyV (u : Win) (x y : Int) : Nat := if crN u.pts x y u.pts.length % 2 = 1 then 1065353216 else 0
/-- what a right window covers at a place; p, q: how far the place lies from it -/
def covV (u : Win) (p q x y : Int) : Nat := turnV u.out (if u.kind = 1 then boxV u p q else if u.kind = 2 then ellV u p q else polyV u x y)
theorem covV_num {u : Win} {p q x y : Int} (hs : numB u.soft = true) : nan32 (covV u p q x y) = false := by
  refine turn_num ?_
  split
  · exact edge_fb hs
  · split
    · unfold ellV
      split
      · exact edge_fb hs
      · exact fb_mono fb_one (by omega)
    · unfold polyV
      split
      · exact fb_mono fb_one (by omega)
      · exact fb_zero 17
/-! a single made a whole number -/
section
variable {P : Program} {W : World} {H : HL} {e : Env} {x : Operand} {t t' ty : TypeId}
theorem QO.conv_f32_i64n {d : Nat} {n : Int} (hu : (P.underlying t).isSome = true) (hu' : P.underlying t' = some (.int .i64)) (hx : ev e x = .float .f32 d) (h : floatToIntVal .f32 d .i64 = some n) : QO P W H e (.convert t t' x) ty (.int .i64 n) := fun d' pos af gd w _ => by
  have h1 := run_convert_float_int (P := P) (w := w) t t' .f32 .i64 d n hu hu' h
  simp only [execOp, hx, Sem.run_bind, Sem.run_pure]
  simp [h1]
end
theorem int_there {v : Nat} (h : fb v 24) : ∃ n, floatToIntVal .f32 v .i64 = some n ∧ n.natAbs ≤ 16777215 := by
  obtain ⟨s, m, i, hd, hb⟩ := h
  have hq : m * 2 ^ i.toNat / 2 ^ (-i).toNat ≤ 16777215 := by
    rcases hb with h0 | hb
    · subst h0; simp
    · by_cases h0 : m = 0
      · subst h0; simp
      · refine Nat.le_of_lt_succ ((Nat.div_lt_iff_lt_mul (Nat.two_pow_pos _)).2 ?_)
        have h1 : m < 2 ^ (m.log2 + 1) := Nat.lt_log2_self
        have h2 : m * 2 ^ i.toNat < 2 ^ (m.log2 + 1) * 2 ^ i.toNat := Nat.mul_lt_mul_of_pos_right h1 (Nat.two_pow_pos _)
        rw [← Nat.pow_add] at h2
        have c : (16777215 + 1 : Nat) = 2 ^ 24 := by decide
        rw [show Nat.succ 16777215 = 2 ^ 24 from c, ← Nat.pow_add]
        exact Nat.lt_of_lt_of_le h2 (Nat.pow_le_pow_right (by decide) (by omega))
  have hI : (FloatKind.f32.decode v).toInt .zero = some (Ieee.signed s (m * 2 ^ i.toNat / 2 ^ (-i).toNat) 0) := by
    have e : FloatKind.f32.decode v = .number s m i := hd
    rw [e]
    unfold Ieee.Datum.toInt Ieee.Datum.integral
    simp only [cut_zero, Nat.shiftLeft_eq]
  have hv := val_abs s (m * 2 ^ i.toNat / 2 ^ (-i).toNat) 0
  rw [Nat.pow_zero, Nat.mul_one] at hv
  refine ⟨Ieee.signed s (m * 2 ^ i.toNat / 2 ^ (-i).toNat) 0, ?_, by omega⟩
  unfold floatToIntVal
  rw [hI]
  have q1 : IntKind.i64.min = -9223372036854775808 := by decide
  have q2 : IntKind.i64.max = 9223372036854775807 := by decide
  simp only [q1, q2]
  exact if_pos ⟨by omega, by omega⟩
theorem ge_num {v c : Nat} (hc : numB c = true) (h1 : fcmpB .geq v c = true) {d : Nat} (hd : numB d = true) (h2 : fcmpB .leq v d = true) : numB v = true := by
  unfold fcmpB Ieee.Format.order at h1 h2
  unfold numB at hc hd ⊢
  cases hv : Ieee.single.read v with
  | nan s f =>
    rw [hv] at h1
    split at hc
    · rename_i t n j e; rw [e] at h1; exact Bool.noConfusion (show false = true from h1)
    · cases hc
  | infinity s =>
    rw [hv] at h1 h2
    split at hc
    · rename_i t n j e
      split at hd
      · rename_i t2 n2 j2 e2
        rw [e] at h1
        rw [e2] at h2
        cases s
        · exact Bool.noConfusion (show false = true from h2)
        · exact Bool.noConfusion (show false = true from h1)
      · cases hd
    · cases hc
  | number s m i => rfl
/-- between -100000 and 100000 -/
theorem mid_fb {v : Nat} (h1 : fcmpB .geq v 3351465984 = true) (h2 : fcmpB .leq v 1203982336 = true) : numB v = true ∧ fb v 24 := by
  have n1 : numB 3351465984 = true := by decide +kernel
  have n2 : numB 1203982336 = true := by decide +kernel
  have n3 : numB 3380609024 = true := by decide +kernel
  have n4 : numB 1233125376 = true := by decide +kernel
  have hv := ge_num n1 h1 n2 h2
  refine ⟨hv, place_fb hv ?_⟩
  have o1 := order_fval hv n1
  have o2 := order_fval hv n2
  have o3 := order_fval hv n3
  have o4 := order_fval hv n4
  have c1 : fval 3380609024 < fval 3351465984 := by decide +kernel
  have c2 : fval 1203982336 < fval 1233125376 := by decide +kernel
  unfold fcmpB at h1 h2
  rw [o1] at h1
  rw [o2] at h2
  have k1 : fval 3351465984 ≤ fval v := by
    refine Int.not_lt.1 fun h => ?_
    rw [Int.compare_eq_lt.2 h] at h1
    exact Bool.noConfusion (show false = true from h1)
  have k2 : fval v ≤ fval 1203982336 := by
    refine Int.not_lt.1 fun h => ?_
    rw [Int.compare_eq_gt.2 h] at h2
    exact Bool.noConfusion (show false = true from h2)
  unfold outF fcmpB
  rw [o3, o4, Int.compare_eq_gt.2 (by omega), Int.compare_eq_lt.2 (by omega)]
  rfl
/-- a whole number within a window's bounds -/
theorem whl_bd {v : Nat} {n : Int} (hw : whl v n) (hv : numB v = true) (h : outF v 3380609024 1233125376 = false) : n.natAbs ≤ 1048576 := by
  obtain ⟨s, m, i, hr, hi, hval⟩ := hw
  have n3 : numB 3380609024 = true := by decide +kernel
  have n4 : numB 1233125376 = true := by decide +kernel
  have o3 := order_fval hv n3
  have o4 := order_fval hv n4
  unfold outF fcmpB at h
  rw [o3, o4, Bool.or_eq_false_iff] at h
  have k1 : fval 3380609024 ≤ fval v := by
    refine Int.not_lt.1 fun h9 => ?_
    rw [Int.compare_eq_lt.2 h9] at h
    exact Bool.noConfusion (show true = false from h.1)
  have k2 : fval v ≤ fval 1233125376 := by
    refine Int.not_lt.1 fun h9 => ?_
    rw [Int.compare_eq_gt.2 h9] at h
    exact Bool.noConfusion (show true = false from h.2)
  obtain ⟨L, hL⟩ : ∃ L : Nat, L = 1074 := ⟨_, rfl⟩
  obtain ⟨K, hK⟩ : ∃ K : Nat, K = 925 := ⟨_, rfl⟩
  obtain ⟨J, hJ⟩ : ∃ J : Nat, J = 149 := ⟨_, rfl⟩
  have e1 : val64 s m i = fval v * 2 ^ K := by unfold val64 fval; rw [hr]; show _ = Ieee.signed s m (i + 149).toNat * 2 ^ K; rw [← signed_shift]; congr 1; omega
  have e2 := hval L hL
  have e3 : (2 : Int) ^ L = 2 ^ J * 2 ^ K := by rw [← Int.pow_add]; congr 1; omega
  rw [e3, ← Int.mul_assoc, e1] at e2
  have e4 : fval v = n * 2 ^ J := Int.eq_of_mul_eq_mul_right (p2L K) e2
  have c1 : fval 3380609024 = -1048576 * 2 ^ J := by rw [hJ]; decide +kernel
  have c2 : fval 1233125376 = 1048576 * 2 ^ J := by rw [hJ]; decide +kernel
  rw [e4, c1] at k1
  rw [e4, c2] at k2
  have hp : (0 : Int) < 2 ^ J := Int.pow_pos (by decide)
  have := Int.le_of_mul_le_mul_right k1 hp
  have := Int.le_of_mul_le_mul_right k2 hp
  omega
end Go.Proofs.Ytapcgokcfmklbaa

namespace Go.Proofs.Ytapcgokcfmklbaa
open Go Go.RowKit

theorem winE_cnf {u : Win} (h : winE u = 0) : ¬ cnfW u := by
  unfold winE at h
  split at h
  · omega
  · split at h
    · omega
    · split at h
      · omega
      · split at h
        · omega
        · split at h
          · omega
          · split at h
            · omega
            · rename_i q; exact q
theorem winE_ell {u : Win} (h : winE u = 0) (hk : u.kind = 2) : fcmpB .eql u.w 0 = false ∧ fcmpB .eql u.h 0 = false := by
  have h1 := winE_cnf h
  unfold cnfW ez at h1
  have h2 : ¬ ((fcmpB .eql u.w 0 || fcmpB .eql u.h 0) = true) := fun h3 => h1 (.inr ⟨hk, h3⟩)
  simpa using h2
theorem winE_num {u : Win} (h : winE u = 0) : numB u.w = true ∧ numB u.h = true ∧ numB u.soft = true := by
  obtain ⟨_, h1, _⟩ := winE_ok h
  obtain ⟨_, _, n3, n4, n5⟩ := numW_all h1
  exact ⟨n3, n4, n5⟩
theorem edgeV_congr {a b s : Nat} (h : cl a = cl b) : edgeV a s = edgeV b s := by
  unfold edgeV fadeV
  rw [fcmpB_congr (op := .gtr) (b := 0) (b' := 0) h rfl, fcmpB_congr (op := .lss) (b := s) (b' := s) h rfl, fo_congr (op := .quo) (b := s) (b' := s) h rfl]
theorem smoothV_congr {a b : Nat} (h : cl a = cl b) : smoothV a = smoothV b := by
  have e : limV a = limV b := by
    unfold limV
    rw [fcmpB_congr (op := .lss) (b := 0) (b' := 0) h rfl, fcmpB_congr (op := .gtr) (b := 1065353216) (b' := 1065353216) h rfl, h]
  unfold smoothV; rw [e]
theorem fade_1 {d s t r : Nat} (h : fcmpB .lss d s = true) (h1 : FR (fop .quo d s) t) (h2 : FR (fop .sub 1065353216 (smoothV t)) r) : cl r = fadeV d s := by
  unfold fadeV
  rw [if_pos h, h2.cl, smoothV_congr (h1.cl.trans (cl_fo _ _ _).symm)]
theorem fade_2 {d s : Nat} (h : fcmpB .lss d s = false) : cl 0 = fadeV d s := by
  unfold fadeV; rw [if_neg (by rw [h]; decide)]; rfl
theorem edge_1 {d s e : Nat} (h : fcmpB .gtr d 0 = true) (he : cl e = fadeV d s) : cl e = edgeV d s := by unfold edgeV; rw [if_pos h]; exact he
theorem edge_2 {d s : Nat} (h : fcmpB .gtr d 0 = false) : cl 1065353216 = edgeV d s := by unfold edgeV; rw [if_neg (by rw [h]; decide)]; rfl
theorem root_eq {s S : Nat} (h : cl s = S) (hS : S ≤ 2139095040) : s = S := by
  have h1 : nan32 s = false := by rw [← nan_cl, h]; exact nn_num hS
  rw [← h, cl_num h1]
section
variable {u : Win} {p q : Int}
theorem box_1 {a b e : Nat} (ha : FR (fop .sub (cvF (p.natAbs : Int)) u.w) a) (hb : FR (fop .sub (cvF (q.natAbs : Int)) u.h) b) (h : fcmpB .gtr b a = true) (he : cl e = edgeV b u.soft) : cl e = boxV u p q := by
  have h1 := ha.cl.trans (cl_fo _ _ _).symm
  have h2 := hb.cl.trans (cl_fo _ _ _).symm
  rw [he]
  unfold boxV maxV
  rw [← fcmpB_congr (op := .gtr) h2 h1, if_pos h]
  exact edgeV_congr h2
theorem box_2 {a b e : Nat} (ha : FR (fop .sub (cvF (p.natAbs : Int)) u.w) a) (hb : FR (fop .sub (cvF (q.natAbs : Int)) u.h) b) (h : fcmpB .gtr b a = false) (he : cl e = edgeV a u.soft) : cl e = boxV u p q := by
  have h1 := ha.cl.trans (cl_fo _ _ _).symm
  have h2 := hb.cl.trans (cl_fo _ _ _).symm
  rw [he]
  unfold boxV maxV
  rw [← fcmpB_congr (op := .gtr) h2 h1, if_neg (by rw [h]; decide)]
  exact edgeV_congr h1
theorem ell_s {a b c d s : Nat} (ha : FR (fop .quo (cvF p) u.w) a) (hb : FR (fop .quo (cvF q) u.h) b) (hc : FR (fop .mul a a) c) (hd : FR (fop .mul b b) d) (hs : FR (fop .add c d) s) : cl s = sqV u p q := by
  have h1 := ha.cl.trans (cl_fo _ _ _).symm
  have h2 := hb.cl.trans (cl_fo _ _ _).symm
  have h3 := (hc.cl' h1 h1).trans (cl_fo _ _ _).symm
  have h4 := (hd.cl' h2 h2).trans (cl_fo _ _ _).symm
  exact hs.cl' h3 h4
theorem ell_1 {a b e l : Nat} (hl : l = leastV u) (hg : fcmpB .gtr (rootV (sqV u p q)) 1065353216 = true) (h1 : FR (fop .sub (rootV (sqV u p q)) 1065353216) a) (h2 : FR (fop .mul a l) b) (he : cl e = edgeV b u.soft) : cl e = ellV u p q := by
  subst hl
  rw [he]
  unfold ellV
  rw [if_pos hg]
  exact edgeV_congr ((h2.cl' (h1.cl.trans (cl_fo _ _ _).symm) rfl).trans (cl_fo _ _ _).symm)
theorem least_1 (h : fcmpB .lss u.h u.w = true) : u.h = leastV u := by unfold leastV; rw [if_pos h]
theorem least_2 (h : fcmpB .lss u.h u.w = false) : u.w = leastV u := by unfold leastV; rw [if_neg (by rw [h]; decide)]
theorem ell_2 (hg : fcmpB .gtr (rootV (sqV u p q)) 1065353216 = false) : cl 1065353216 = ellV u p q := by
  unfold ellV; rw [if_neg (by rw [hg]; decide)]; rfl
end
theorem turn_T {o : Bool} {e r V : Nat} (ho : o = true) (hr : FR (fop .sub 1065353216 e) r) (he : cl e = V) : cl r = turnV o V := by
  unfold turnV
  rw [if_pos ho]
  exact hr.cl' rfl (by rw [← he, cl_cl])
theorem turn_F {o : Bool} {e V : Nat} (ho : o = false) (he : cl e = V) : cl e = turnV o V := by
  unfold turnV
  rw [if_neg (by rw [ho]; decide), ← he, cl_cl]
theorem poly_1 {u : Win} {x y : Int} (h : (((crN u.pts x y u.pts.length % 2 : Nat) : Int) == 1) = true) : cl 1065353216 = polyV u x y := by
  have : crN u.pts x y u.pts.length % 2 = 1 := by have := eq_of_beq h; omega
  unfold polyV; rw [if_pos this]; rfl
theorem poly_2 {u : Win} {x y : Int} (h : (((crN u.pts x y u.pts.length % 2 : Nat) : Int) == 1) = false) : cl 0 = polyV u x y := by
  have : ¬ crN u.pts x y u.pts.length % 2 = 1 := fun h1 => by rw [h1] at h; exact absurd h (by decide)
  unfold polyV; rw [if_neg this]; rfl
theorem cov_b {u : Win} {p q x y : Int} (h : u.kind = 1) : turnV u.out (boxV u p q) = covV u p q x y := by unfold covV; rw [if_pos h]
theorem cov_e {u : Win} {p q x y : Int} (h : u.kind = 2) : turnV u.out (ellV u p q) = covV u p q x y := by unfold covV; rw [if_neg (by omega), if_pos h]
theorem cov_p {u : Win} {p q x y : Int} (h : u.kind = 3) : turnV u.out (polyV u x y) = covV u p q x y := by unfold covV; rw [if_neg (by omega), if_neg (by omega)]
/-! crossings -/
theorem tm1 (a b : Nat) : ((a : Int) + 1).tmod (b : Int) = (((a + 1) % b : Nat) : Int) := rfl
theorem tm0 (a b : Nat) : (a : Int).tmod (b : Int) = ((a % b : Nat) : Int) := rfl
theorem crN_le (l : List (Int × Int)) (x y : Int) : ∀ k, crN l x y k ≤ k
  | 0 => Nat.le_refl _
  | k + 1 => by
    unfold crN
    have := crN_le l x y k
    split <;> omega
section
variable {p q : Int × Int} {x y a b : Int}
theorem crE_e (h : (decide (y < p.2) == decide (y < q.2)) = true) : crE p q x y = false := by
  unfold crE; rw [if_pos (eq_of_beq h)]
theorem crE_n (h : (decide (y < p.2) == decide (y < q.2)) = false) : crE p q x y = ((decide (p.2 < q.2) && decide ((x - p.1) * (q.2 - p.2) < (q.1 - p.1) * (y - p.2))) || (decide (q.2 ≤ p.2) && decide ((q.1 - p.1) * (y - p.2) < (x - p.1) * (q.2 - p.2)))) := by
  unfold crE; rw [if_neg (fun h1 => by rw [h1] at h; simp at h)]
theorem crE_1 (h : (decide (y < p.2) == decide (y < q.2)) = false) (h1 : p.2 < q.2) (h2 : (x - p.1) * (q.2 - p.2) < (q.1 - p.1) * (y - p.2)) : crE p q x y = true := by
  rw [crE_n h, decide_eq_true h1, decide_eq_true h2]; rfl
theorem crE_2 (h : (decide (y < p.2) == decide (y < q.2)) = false) (h1 : p.2 < q.2) (h2 : ¬ (x - p.1) * (q.2 - p.2) < (q.1 - p.1) * (y - p.2)) : crE p q x y = false := by
  rw [crE_n h, decide_eq_false h2, decide_eq_false (show ¬ q.2 ≤ p.2 by omega), Bool.and_false]; rfl
theorem crE_3 (h : (decide (y < p.2) == decide (y < q.2)) = false) (h1 : ¬ p.2 < q.2) (h2 : (q.1 - p.1) * (y - p.2) < (x - p.1) * (q.2 - p.2)) : crE p q x y = true := by
  rw [crE_n h, decide_eq_true h2, decide_eq_true (show q.2 ≤ p.2 by omega), Bool.true_and, Bool.or_true]
theorem crE_4 (h : (decide (y < p.2) == decide (y < q.2)) = false) (h1 : ¬ p.2 < q.2) (h2 : ¬ (q.1 - p.1) * (y - p.2) < (x - p.1) * (q.2 - p.2)) : crE p q x y = false := by
  rw [crE_n h, decide_eq_false h1, decide_eq_false h2, Bool.and_false]; rfl
end
theorem crN_T {l : List (Int × Int)} {x y : Int} {k : Nat} {p q : Int × Int} (hp : l.getD k (0, 0) = p) (hq : l.getD ((k + 1) % l.length) (0, 0) = q) (h : crE p q x y = true) : iv (((crN l x y k : Nat) : Int) + 1) = iv ((crN l x y (k + 1) : Nat) : Int) := by
  show _ = iv (((crN l x y k + if crE (l.getD k (0, 0)) (l.getD ((k + 1) % l.length) (0, 0)) x y then 1 else 0 : Nat)) : Int)
  rw [hp, hq, h]; rfl
theorem crN_F {l : List (Int × Int)} {x y : Int} {k : Nat} {p q : Int × Int} (hp : l.getD k (0, 0) = p) (hq : l.getD ((k + 1) % l.length) (0, 0) = q) (h : crE p q x y = false) : iv ((crN l x y k : Nat) : Int) = iv ((crN l x y (k + 1) : Nat) : Int) := by
  show _ = iv (((crN l x y k + if crE (l.getD k (0, 0)) (l.getD ((k + 1) % l.length) (0, 0)) x y then 1 else 0 : Nat)) : Int)
  rw [hp, hq, h]; rfl
theorem mul_bdI {a b : Int} (ha : a.natAbs ≤ 8388608) (hb : b.natAbs ≤ 8388608) : -9223372036854775808 ≤ a * b ∧ a * b ≤ 9223372036854775807 := by
  have h : (a * b).natAbs ≤ 8388608 * 8388608 := by rw [Int.natAbs_mul]; exact Nat.mul_le_mul ha hb
  omega
theorem pts_at {W : World} {A : Option Addr} {l : List (Int × Int)} {b o : Nat} (h : PS W A l) (hA : A = some ⟨b, o, none⟩) {i q : Nat} {p : Int × Int} (hi : i < l.length) (hq : q = o + i * 2) (hp : l.getD i (0, 0) = p) : ∀ j v, ([iv p.1, iv p.2] : List Value)[j]? = some v → W.cell? ((⟨b, q, none⟩ : Addr).add j) = some v := fun j v hj => by
  rw [addr_add]
  exact h.cell_ hA hi (by rw [hq]) (by rw [hp]; exact hj)
end Go.Proofs.Ytapcgokcfmklbaa
