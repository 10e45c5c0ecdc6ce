/-
  Contracts: a Builder, blanks trimmed, greatest and least numbers. Conditions: as each theorem says.
-/
import Derived.Test.YtapcgokcfmklbaaDoorC2
import Derived.Test.YtapcgokcfmklbaaDoorMut
import Derived.Test.YtapcgokcfmklbaaDoorSkt
namespace Go.Proofs.YtapcgokcfmklbaaDoor
open Go Go.Proofs Go.RowKit

theorem ty106 : tyChk Tryd.prog 106 = some ([.pointer none], false, 8) := by kernel_rfl
theorem ty107 : tyChk Tryd.prog 107 = some ([.slice none 0 0], false, 24) := by kernel_rfl
theorem ty109 : tyChk Tryd.prog 109 = some ([.pointer none, .slice none 0 0], true, 32) := by kernel_rfl
theorem fo109_0 : fldOff Tryd.prog 109 0 = some (0, 106) := by kernel_rfl
theorem fo109_1 : fldOff Tryd.prog 109 1 = some (1, 107) := by kernel_rfl
theorem ok60 : callOK Tryd.prog 60 = true := by kernel_rfl
theorem ok125 : callOK Tryd.prog 125 = true := by kernel_rfl
theorem ok126 : callOK Tryd.prog 126 = true := by kernel_rfl
theorem ok127 : callOK Tryd.prog 127 = true := by kernel_rfl

theorem ext156 (a : Option Addr) (w : World) : (callFunc 156 [Value.pointer a].toArray).run Tryd.prog w = .ok (.value (.pointer a)) w := by kernel_rfl
theorem u8_5 : u8ok Tryd.prog 5 = true := by kernel_rfl
theorem lies109 : liesAt Tryd.prog Tryd.prog.depth 109 (2 / Tryd.prog.cellsOf 109) 0 109 1 = true := by kernel_rfl
theorem co5 : Tryd.prog.cellsOf 5 = 1 := by kernel_rfl

set_option maxRecDepth 100000 in
theorem copyN (g : Nat) (u : Value) (HR : HL) (W : World) : FnH Tryd.prog 126 #[.pointer (some ⟨g, 0, none⟩)] W (⟨g, 109, [.pointer none, u]⟩ :: HR) (fun v H => H = ⟨g, 109, [.pointer (some ⟨g, 0, none⟩), u]⟩ :: HR) := by
  refine FnH.intro Tryd.func126 rfl rfl (by rfl) ?_
  refine CS.seq ?_
  refine CS.region ?_
  refine RS.q rfl (QO.move) ?_
  refine RS.q rfl (QO.nilchk (by rfl)) ?_
  refine RS.q rfl (QO.fieldAddr fo109_0 (by rfl)) ?_
  first | (refine RS.q rfl (QO.load ty106 (by rfl) (by repeat (first | exact List.Mem.head _ | refine List.Mem.tail _ ?_)) (by rfl)) ?_) | (refine RS.q rfl (QO.loadO ty106 (by rfl) (by assumption)) ?_) | (refine RS.q rfl (QO.load ty106 (by rfl) (by repeat (first | exact List.Mem.head _ | refine List.Mem.tail _ ?_)) (by assumption)) ?_)
  refine RS.q rfl (QO.ptrNilT Tryd.underlying106 (by rfl) (by rfl)) ?_
  refine RS.nil ?_
  refine thenC_n ?_
  refine CS.condT (by rfl) rfl ?_
  refine CS.region ?_
  refine RS.q rfl (QO.move) ?_
  refine RS.q rfl (QO.move) ?_
  refine RS.q rfl (QO.toUnsafe (tb := 109) (g := g) (cs := [.pointer none, u]) Tryd.underlying106 Tryd.underlying206 ty109 (by decide) (by rfl) (by repeat (first | exact List.Mem.head _ | refine List.Mem.tail _ ?_)) (by show 0 < 2; omega)) ?_
  refine RS.q rfl (QO.ext (by rfl) (ext156 _)) ?_
  refine RS.q rfl (QO.fromUnsafe (tb := 109) (g := g) (cs := [.pointer none, u]) Tryd.underlying206 Tryd.underlying106 ty109 (by rfl) (by repeat (first | exact List.Mem.head _ | refine List.Mem.tail _ ?_)) lies109) ?_
  refine RS.q rfl (QO.nilchk (by rfl)) ?_
  refine RS.q rfl (QO.fieldAddr fo109_0 (by rfl)) ?_
  refine RS.store1 ty106 rfl (by rfl) (by rfl) (by rfl) (by repeat (first | exact Upd.head | apply Upd.tail)) (by first | (simp; done) | (simp; omega) | omega) ?_
  refine RS.nil ?_
  refine retQ.mk (H' := ⟨g, 109, [.pointer (some ⟨g, 0, none⟩), u]⟩ :: HR) (.inl rfl) RVs.nil (by repeat (first | exact List.Sublist.refl _ | exact List.nil_sublist _ | refine List.Sublist.cons_cons _ ?_ | refine List.Sublist.cons _ ?_ | exact Sbp.refl | exact Sbp.nil | refine Sbp.cons (by repeat (first | exact Rem.head | apply Rem.tail)) ?_ | exact Sbp.app | refine Sbp.skip ?_)) ?_
  rfl

set_option maxRecDepth 100000 in
theorem copyS (g : Nat) (u : Value) (HR : HL) (W : World) : FnH Tryd.prog 126 #[.pointer (some ⟨g, 0, none⟩)] W (⟨g, 109, [.pointer (some ⟨g, 0, none⟩), u]⟩ :: HR) (fun v H => H = ⟨g, 109, [.pointer (some ⟨g, 0, none⟩), u]⟩ :: HR) := by
  refine FnH.intro Tryd.func126 rfl rfl (by rfl) ?_
  refine CS.seq ?_
  refine CS.region ?_
  refine RS.q rfl (QO.move) ?_
  refine RS.q rfl (QO.nilchk (by rfl)) ?_
  refine RS.q rfl (QO.fieldAddr fo109_0 (by rfl)) ?_
  first | (refine RS.q rfl (QO.load ty106 (by rfl) (by repeat (first | exact List.Mem.head _ | refine List.Mem.tail _ ?_)) (by rfl)) ?_) | (refine RS.q rfl (QO.loadO ty106 (by rfl) (by assumption)) ?_) | (refine RS.q rfl (QO.load ty106 (by rfl) (by repeat (first | exact List.Mem.head _ | refine List.Mem.tail _ ?_)) (by assumption)) ?_)
  refine RS.q rfl (QO.ptrNilF (a := ⟨g, 0, none⟩) Tryd.underlying106 (by rfl) (by rfl)) ?_
  refine RS.nil ?_
  refine thenC_n ?_
  refine CS.condF (by rfl) rfl ?_
  refine CS.seq ?_
  refine CS.region ?_
  refine RS.q rfl (QO.move) ?_
  refine RS.q rfl (QO.nilchk (by rfl)) ?_
  refine RS.q rfl (QO.fieldAddr fo109_0 (by rfl)) ?_
  first | (refine RS.q rfl (QO.load ty106 (by rfl) (by repeat (first | exact List.Mem.head _ | refine List.Mem.tail _ ?_)) (by rfl)) ?_) | (refine RS.q rfl (QO.loadO ty106 (by rfl) (by assumption)) ?_) | (refine RS.q rfl (QO.load ty106 (by rfl) (by repeat (first | exact List.Mem.head _ | refine List.Mem.tail _ ?_)) (by assumption)) ?_)
  refine RS.q rfl (QO.move) ?_
  refine RS.q rfl (QO.ptrNe (a := ⟨g, 0, none⟩) Tryd.underlying106 ty109 (by rfl) (by rfl)) ?_
  refine RS.nil ?_
  refine thenC_n ?_
  refine CS.condF (by rfl) rfl ?_
  refine CS.skip ?_
  refine retQ.mk (H' := ⟨g, 109, [.pointer (some ⟨g, 0, none⟩), u]⟩ :: HR) (.inl rfl) RVs.nil (by repeat (first | exact List.Sublist.refl _ | exact List.nil_sublist _ | refine List.Sublist.cons_cons _ ?_ | refine List.Sublist.cons _ ?_ | exact Sbp.refl | exact Sbp.nil | refine Sbp.cons (by repeat (first | exact Rem.head | apply Rem.tail)) ?_ | exact Sbp.app | refine Sbp.skip ?_)) ?_
  rfl

theorem copyC (g : Nat) (p u : Value) (HR : HL) (W : World) (hp : p = .pointer none ∨ p = .pointer (some ⟨g, 0, none⟩)) : FnH Tryd.prog 126 #[.pointer (some ⟨g, 0, none⟩)] W (⟨g, 109, [p, u]⟩ :: HR) (fun v H => H = ⟨g, 109, [.pointer (some ⟨g, 0, none⟩), u]⟩ :: HR) := by
  rcases hp with rfl | rfl
  · exact copyN g u HR W
  · exact copyS g u HR W

theorem sbp_one (c : B) (K T : HL) : Sbp (c :: (K ++ T)) (K ++ (c :: T)) := by
  refine Sbp.cons (H' := K ++ T) ?_ Sbp.refl
  induction K with
  | nil => exact .head
  | cons d K ih => exact .tail ih
theorem RS.sbpy {P W n ops Q rest e H H2} (hs : Sbp H2 H) (h : RS P W n ops Q rest e H2) : RS P W n ops Q rest e H := fun a w hr ho => h a w hr (ho.sbp hs)
theorem sbp_rot (c : B) (K : HL) : Sbp (K ++ [c]) (c :: K) := by
  induction K with
  | nil => exact Sbp.refl
  | cons d K ih => exact Sbp.cons (.tail .head) ih
theorem sbp_rot2 (c : B) (K : HL) : Sbp (c :: K) (K ++ [c]) := by
  have := sbp_one c K []
  rwa [List.append_nil] at this
theorem tk_at {l : List UInt8} {k : Nat} (h : k ≤ l.length) (h0 : 0 < k) : (l.take k)[((k - 1 : Nat) : Int).toNat]? = some (l.getD (k - 1) 0) := by
  rw [Int.toNat_natCast, List.getElem?_take, if_pos (by omega), List.getD_eq_getElem?_getD, List.getElem?_eq_getElem (by omega)]; rfl
theorem u8_32 {b : UInt8} : (b.toNat : Int) = 32 ↔ b = 32 := by
  constructor
  · intro h
    have h2 : b.toNat = (32 : UInt8).toNat := by show b.toNat = 32; omega
    exact UInt8.toNat_inj.1 h2
  · intro h; subst h; rfl
theorem trim_end {l : List UInt8} {k : Nat} (hk : k ≤ l.length) (h : trimN l l.length = trimN l k) (hx : k = 0 ∨ ¬ l.getD (k - 1) 0 = 32) : l.take k = trimR l := by
  unfold trimR
  rw [h]
  cases k with
  | zero => rfl
  | succ k =>
    rcases hx with hx | hx
    · cases hx
    · exact (trimN_F hx).symm
theorem trim_go {l : List UInt8} {k : Nat} (h : trimN l l.length = trimN l k) (h0 : 0 < k) (hx : l.getD (k - 1) 0 = 32) : trimN l l.length = trimN l (k - 1) := by
  cases k with
  | zero => omega
  | succ k => rw [h]; exact trimN_T hx

set_option maxRecDepth 100000 in
theorem writeS (g : Nat) (p u : Value) (l s : List UInt8) (Hr HR : HL) (W : World) (hp : p = .pointer none ∨ p = .pointer (some ⟨g, 0, none⟩)) (hrow : Row 5 1 u l.length (bc l) Hr) (h63 : l.length + s.length ≤ 140737488355328) : FnH Tryd.prog 62 #[.pointer (some ⟨g, 0, none⟩), sv s] W (⟨g, 109, [p, u]⟩ :: (Hr ++ HR)) (fun v H => ∃ u2 Hr2, v = .tuple #[iv (s.length : Nat), .nilIface] ∧ H = ⟨g, 109, [.pointer (some ⟨g, 0, none⟩), u2]⟩ :: (Hr2 ++ HR) ∧ Row 5 1 u2 (l ++ s).length (bc (l ++ s)) Hr2) := by
  refine FnH.intro Tryd.func62 rfl rfl (by rfl) ?_
  refine CS.seq ?_
  refine CS.region ?_
  refine RS.q rfl (QO.assign) ?_
  refine RS.q rfl (QO.assign) ?_
  refine RS.nil ?_
  refine thenC_n ?_
  refine CS.seq ?_
  refine CS.region ?_
  refine RS.q rfl (QO.move) ?_
  refine RS.callH (⟨g, 109, [p, u]⟩ :: (Hr ++ HR)) rfl (by rfl) ok126 (by rfl) (by repeat (first | exact List.Sublist.refl _ | exact List.nil_sublist _ | refine List.Sublist.cons_cons _ ?_ | refine List.Sublist.cons _ ?_ | exact Sbp.refl | exact Sbp.nil | refine Sbp.cons (by repeat (first | exact Rem.head | apply Rem.tail)) ?_ | exact Sbp.app | refine Sbp.skip ?_)) (fun w ho => copyC g p u (Hr ++ HR) _ hp) ?_
  rintro _ _ rfl
  refine RS.nil ?_
  refine thenC_n ?_
  refine CS.seq ?_
  refine CS.region ?_
  refine RS.q rfl (QO.move) ?_
  refine RS.q rfl (QO.move) ?_
  refine RS.q rfl (QO.nilchk (by rfl)) ?_
  refine RS.q rfl (QO.fieldAddr fo109_1 (by rfl)) ?_
  first | (refine RS.q rfl (QO.load ty107 (by rfl) (by repeat (first | exact List.Mem.head _ | refine List.Mem.tail _ ?_)) (by rfl)) ?_) | (refine RS.q rfl (QO.loadO ty107 (by rfl) (by assumption)) ?_) | (refine RS.q rfl (QO.load ty107 (by rfl) (by repeat (first | exact List.Mem.head _ | refine List.Mem.tail _ ?_)) (by assumption)) ?_)
  refine RS.q rfl (QO.move) ?_
  refine RS.appendStr (Hr := Hr) (H' := ⟨g, 109, [.pointer (some ⟨g, 0, none⟩), u]⟩ :: HR) (by rfl) Tryd.underlying107 Tryd.underlying9 u8_5 (by rfl) hrow List.perm_middle.symm (by rfl) h63 (fun u2 Hr2 hrow2 => ?_)
  have hx := hrow2.slice
  obtain ⟨A2, c2, hu2, _, _⟩ := hx
  subst hu2
  refine RS.sbpy (H2 := ⟨g, 109, [.pointer (some ⟨g, 0, none⟩), u]⟩ :: (Hr2 ++ HR)) (sbp_one _ _ _) ?_
  refine RS.q rfl (QO.nilchk (by rfl)) ?_
  refine RS.q rfl (QO.fieldAddr fo109_1 (by rfl)) ?_
  refine RS.store1 ty107 rfl (by rfl) (by rfl) (by rfl) (by repeat (first | exact Upd.head | apply Upd.tail)) (by first | (simp; done) | (simp; omega) | omega) ?_
  refine RS.nil ?_
  refine thenC_n ?_
  refine CS.seq ?_
  refine CS.region ?_
  refine RS.q rfl (QO.move) ?_
  refine RS.q rfl (QO.lenStr Tryd.underlying9 (by rfl)) ?_
  refine RS.q rfl (QO.assign) ?_
  refine RS.q rfl (QO.assign) ?_
  refine RS.nil ?_
  refine thenC_n ?_
  refine CS.ret ?_
  refine retQ.mk (H' := ⟨g, 109, [.pointer (some ⟨g, 0, none⟩), .slice A2 (l.length + s.length) c2]⟩ :: (Hr2 ++ HR)) (.inr rfl) (RVs.tmp (by rfl) (RVs.tmp (by rfl) RVs.nil)) (by repeat (first | exact List.Sublist.refl _ | exact List.nil_sublist _ | refine List.Sublist.cons_cons _ ?_ | refine List.Sublist.cons _ ?_ | exact Sbp.refl | exact Sbp.nil | refine Sbp.cons (by repeat (first | exact Rem.head | apply Rem.tail)) ?_ | exact Sbp.app | refine Sbp.skip ?_)) ?_
  exact ⟨_, Hr2, rfl, rfl, by rw [List.length_append, bc_app]; exact hrow2⟩

set_option maxRecDepth 100000 in
theorem stringB (g : Nat) (p u : Value) (l : List UInt8) (Hr : HL) (W : World) (hrow : Row 5 1 u l.length (bc l) Hr) (h0 : l ≠ []) (h63 : l.length ≤ 9223372036854775807) : FnH Tryd.prog 64 #[.pointer (some ⟨g, 0, none⟩)] W (⟨g, 109, [p, u]⟩ :: Hr) (fun v H => v = sv l ∧ H = []) := by
  have hlp : 0 < l.length := List.length_pos_iff.2 h0
  have hx := hrow.some hlp
  obtain ⟨gb, cap, junk, hu, hH, hcap, hcm, hxl⟩ := hx
  subst hu
  subst hH
  refine FnH.intro Tryd.func64 rfl rfl (by rfl) ?_
  refine CS.seq ?_
  refine CS.region ?_
  refine RS.q rfl (QO.assign) ?_
  refine RS.nil ?_
  refine thenC_n ?_
  refine CS.seq ?_
  refine CS.drawS (HS := [⟨g, 109, [p, .slice (some ⟨gb, 0, none⟩) l.length cap]⟩]) 12 (by repeat (first | exact List.Sublist.refl _ | exact List.nil_sublist _ | refine List.Sublist.cons_cons _ ?_ | refine List.Sublist.cons _ ?_ | exact Sbp.refl | exact Sbp.nil | refine Sbp.cons (by repeat (first | exact Rem.head | apply Rem.tail)) ?_ | exact Sbp.app | refine Sbp.skip ?_)) rfl (by kernel_rfl) (by kernel_rfl) ?_
  refine RT.take (i := 0) rfl (by kernel_rfl) rfl (QO.move) ?_
  refine RT.take (i := 1) rfl (by kernel_rfl) rfl (QO.nilchk (by rfl)) ?_
  refine RT.take (i := 2) rfl (by kernel_rfl) rfl (QO.fieldAddr fo109_1 (by rfl)) ?_
  first | (refine RT.take (i := 3) rfl (by kernel_rfl) rfl (QO.load ty107 (by rfl) (by repeat (first | exact List.Mem.head _ | refine List.Mem.tail _ ?_)) (by rfl)) ?_) | (refine RT.take (i := 3) rfl (by kernel_rfl) rfl (QO.loadO ty107 (by rfl) (by assumption)) ?_) | (refine RT.take (i := 3) rfl (by kernel_rfl) rfl (QO.load ty107 (by rfl) (by repeat (first | exact List.Mem.head _ | refine List.Mem.tail _ ?_)) (by assumption)) ?_)
  refine RT.take (i := 5) rfl (by kernel_rfl) rfl (QO.move) ?_
  refine RT.take (i := 6) rfl (by kernel_rfl) rfl (QO.nilchk (by rfl)) ?_
  refine RT.take (i := 7) rfl (by kernel_rfl) rfl (QO.fieldAddr fo109_1 (by rfl)) ?_
  first | (refine RT.take (i := 8) rfl (by kernel_rfl) rfl (QO.load ty107 (by rfl) (by repeat (first | exact List.Mem.head _ | refine List.Mem.tail _ ?_)) (by rfl)) ?_) | (refine RT.take (i := 8) rfl (by kernel_rfl) rfl (QO.loadO ty107 (by rfl) (by assumption)) ?_) | (refine RT.take (i := 8) rfl (by kernel_rfl) rfl (QO.load ty107 (by rfl) (by repeat (first | exact List.Mem.head _ | refine List.Mem.tail _ ?_)) (by assumption)) ?_)
  refine RT.take (i := 9) rfl (by kernel_rfl) rfl (QO.lenS Tryd.underlying107 (by rfl)) ?_
  refine RT.one (i := 4) (by kernel_rfl) rfl rfl ?_
  refine RS.q rfl (QO.sliceData (by rfl) (by omega)) ?_
  refine RS.nil ⟨(by repeat (first | exact List.Sublist.refl _ | exact List.nil_sublist _ | refine List.Sublist.cons_cons _ ?_ | refine List.Sublist.cons _ ?_ | exact Sbp.refl | exact Sbp.nil | refine Sbp.cons (by repeat (first | exact Rem.head | apply Rem.tail)) ?_ | exact Sbp.app | refine Sbp.skip ?_)), ?_⟩
  refine RT.one (i := 10) (by kernel_rfl) rfl rfl ?_
  refine RS.unsafeString (l := l) (junk := junk) rfl Tryd.underlying182 co5 (by rfl) (by rfl) h0 h63 (.tail .head) ?_
  refine RS.nil ⟨(by repeat (first | exact List.Sublist.refl _ | exact List.nil_sublist _ | refine List.Sublist.cons_cons _ ?_ | refine List.Sublist.cons _ ?_ | exact Sbp.refl | exact Sbp.nil | refine Sbp.cons (by repeat (first | exact Rem.head | apply Rem.tail)) ?_ | exact Sbp.app | refine Sbp.skip ?_)), ?_⟩
  refine RT.take (i := 11) rfl (by kernel_rfl) rfl (QO.assign) ?_
  refine RT.done (by kernel_rfl) ?_
  refine thenC_n ?_
  refine CS.ret ?_
  refine retQ.mk (H' := []) (.inr rfl) (RVs.tmp (by rfl) RVs.nil) (List.nil_sublist _) ?_
  exact ⟨rfl, rfl⟩

set_option maxRecDepth 100000 in
theorem trimB (l : List UInt8) (W : World) (hl : l.length ≤ 140737488355328) : Fn_ Tryd.prog 127 #[sv l, .int .u8 32] W (fun v H => v = sv (trimR l) ∧ H = []) := by
  refine Fn_.intro Tryd.func127 rfl rfl (by rfl) ?_
  refine CS.seq ?_
  refine CS.region ?_
  refine RS.q rfl (QO.assign) ?_
  refine RS.nil ?_
  refine thenC_n ?_
  refine CS.seq ?_
  refine CS.block ?_
  refine CS.loop (X := Nat) (0 :: 5 :: 6 :: 7 :: 8 :: 9 :: 10 :: 11 :: 12 :: 13 :: 14 :: 15 :: 16 :: 17 :: 18 :: 19 :: 20 :: 21 :: []) (fun k => [(0, sv (l.take k))]) (fun k => []) (fun k => k ≤ l.length ∧ trimN l l.length = trimN l k) (fun k => k) l.length ⟨Nat.le_refl _, rfl⟩ ?_ ?_ ?_
  · exact kn_cons (congrArg sv List.take_length.symm) kn_nil
  · exact (by repeat (first | exact List.Sublist.refl _ | exact List.nil_sublist _ | refine List.Sublist.cons_cons _ ?_ | refine List.Sublist.cons _ ?_ | exact Sbp.refl | exact Sbp.nil | refine Sbp.cons (by repeat (first | exact Rem.head | apply Rem.tail)) ?_ | exact Sbp.app | refine Sbp.skip ?_))
  · intro k gj1 hz
    obtain ⟨hk, htr⟩ := hz
    refine CS.seq ?_
    refine CS.seq ?_
    refine CS.region ?_
    refine RS.q rfl (QO.move) ?_
    refine RS.qv rfl (QO.lenStr Tryd.underlying9 (by rfl)) (congrArg iv (show (((l.take k).length : Nat) : Int) = (k : Int) by rw [List.length_take]; omega)) ?_
    refine RS.q rfl (QO.gtr (by rfl) (by rfl)) ?_
    refine RS.q rfl (QO.move) ?_
    refine RS.split (dj := 8) (by rfl) (fun hb0 => ?_) (fun hb0 => ?_)
    · have hb0p := of_decide_eq_true hb0
      refine RS.on (dj := 8) rfl (congrArg Value.bool hb0) ?_
      refine RS.q rfl (QO.move) ?_
      refine RS.on (dj := 8) rfl (congrArg Value.bool hb0) ?_
      refine RS.q rfl (QO.move) ?_
      refine RS.on (dj := 8) rfl (congrArg Value.bool hb0) ?_
      refine RS.qv rfl (QO.lenStr Tryd.underlying9 (by rfl)) (congrArg iv (show (((l.take k).length : Nat) : Int) = (k : Int) by rw [List.length_take]; omega)) ?_
      refine RS.on (dj := 8) rfl (congrArg Value.bool hb0) ?_
      first | (refine RS.qv rfl (QO.sub (by rfl) (by rfl) (by omega) (by omega)) (congrArg iv (show (k : Int) - 1 = ((k - 1 : Nat) : Int) by omega)) ?_) | (refine RS.qv rfl (QO.ibin (by rfl) (by rfl) trivial) (congrArg iv (show (k : Int) - 1 = ((k - 1 : Nat) : Int) by omega)) ?_)
      refine RS.on (dj := 8) rfl (congrArg Value.bool hb0) ?_
      refine RS.q rfl (QO.idxStr Tryd.underlying9 (by rfl) (by rfl) (by omega) (tk_at hk (by omega))) ?_
      refine RS.on (dj := 8) rfl (congrArg Value.bool hb0) ?_
      refine RS.q rfl (QO.move) ?_
      refine RS.on (dj := 8) rfl (congrArg Value.bool hb0) ?_
      refine RS.q rfl (QO.eql (by rfl) (by rfl)) ?_
      refine RS.q rfl (QO.pickT (by rfl) hb0 (by rfl)) ?_
      refine RS.nil ?_
      refine thenC_n ?_
      refine CS.cond (by rfl) (fun hb1 => ?_) (fun hb1 => ?_)
      · have hb1p := eq_of_beq hb1
        refine CS.skip ?_
        refine thenC_n ?_
        refine CS.block ?_
        refine CS.region ?_
        refine RS.q rfl (QO.move) ?_
        refine RS.q rfl (QO.move) ?_
        refine RS.qv rfl (QO.lenStr Tryd.underlying9 (by rfl)) (congrArg iv (show (((l.take k).length : Nat) : Int) = (k : Int) by rw [List.length_take]; omega)) ?_
        first | (refine RS.qv rfl (QO.sub (by rfl) (by rfl) (by omega) (by omega)) (congrArg iv (show (k : Int) - 1 = ((k - 1 : Nat) : Int) by omega)) ?_) | (refine RS.qv rfl (QO.ibin (by rfl) (by rfl) trivial) (congrArg iv (show (k : Int) - 1 = ((k - 1 : Nat) : Int) by omega)) ?_)
        refine RS.qv rfl (QO.cutStrHi Tryd.underlying9 (by rfl) (by rfl) (by omega) (by rw [List.length_take]; omega)) (congrArg sv (show (l.take k).take ((k - 1 : Nat) : Int).toNat = l.take (k - 1) by rw [Int.toNat_natCast, List.take_take]; congr 1; omega)) ?_
        refine RS.q rfl (QO.assign) ?_
        refine RS.nil ?_
        refine blockC_n ?_
        refine loopQ_n (by intro t ht; repeat (first | with_reducible exact rfl | exact frame_puts ht (frame_mix ht) _ rfl | (refine frame_put rfl ht ?_) | (refine frame_puts ht ?_ _ rfl) | exact frame_mix ht | (refine frame_mix2 rfl ht ?_) | exact rfl)) ?_
        exact ⟨k - 1, ⟨by omega, trim_go htr (by omega) (u8_32.1 (by assumption))⟩, by omega, (by repeat (first | exact kn_nil | refine kn_cons (by rfl) ?_)), (by repeat (first | exact List.Sublist.refl _ | exact List.nil_sublist _ | refine List.Sublist.cons_cons _ ?_ | refine List.Sublist.cons _ ?_ | exact Sbp.refl | exact Sbp.nil | refine Sbp.cons (by repeat (first | exact Rem.head | apply Rem.tail)) ?_ | exact Sbp.app | refine Sbp.skip ?_))⟩
      · have hb1p := ne_of_beq_false hb1
        refine CS.exit ?_
        refine thenC_x ?_
        refine loopQ_x ?_
        refine blockC_x ?_
        refine thenC_n ?_
        refine CS.seq ?_
        refine CS.region ?_
        refine RS.q rfl (QO.move) ?_
        refine RS.q rfl (QO.assign) ?_
        refine RS.nil ?_
        refine thenC_n ?_
        refine CS.ret ?_
        refine retQ.mk (H' := []) (.inr rfl) (RVs.tmp (by rfl) RVs.nil) (List.nil_sublist _) ?_
        first | exact ⟨congrArg sv (trim_end hk htr (.inl (by omega))), rfl⟩ | exact ⟨congrArg sv (trim_end hk htr (.inr (fun hh => by have := u8_32.2 hh; omega))), rfl⟩
    · have hb0p := of_decide_eq_false hb0
      refine RS.off (dj := 8) rfl (.inl (congrArg Value.bool hb0)) (fun _ => rfl) rfl ?_
      refine RS.off (dj := 8) rfl (.inl (congrArg Value.bool hb0)) (fun _ => rfl) rfl ?_
      refine RS.off (dj := 8) rfl (.inl (congrArg Value.bool hb0)) (fun _ => rfl) rfl ?_
      refine RS.off (dj := 8) rfl (.inl (congrArg Value.bool hb0)) (fun _ => rfl) rfl ?_
      refine RS.off (dj := 8) rfl (.inl (congrArg Value.bool hb0)) (fun _ => rfl) rfl ?_
      refine RS.off (dj := 8) rfl (.inl (congrArg Value.bool hb0)) (fun _ => rfl) rfl ?_
      refine RS.off (dj := 8) rfl (.inl (congrArg Value.bool hb0)) (fun _ => rfl) rfl ?_
      refine RS.q rfl (QO.pickF (by rfl) hb0 (by rfl)) ?_
      refine RS.nil ?_
      refine thenC_n ?_
      refine CS.condF (by rfl) rfl ?_
      refine CS.exit ?_
      refine thenC_x ?_
      refine loopQ_x ?_
      refine blockC_x ?_
      refine thenC_n ?_
      refine CS.seq ?_
      refine CS.region ?_
      refine RS.q rfl (QO.move) ?_
      refine RS.q rfl (QO.assign) ?_
      refine RS.nil ?_
      refine thenC_n ?_
      refine CS.ret ?_
      refine retQ.mk (H' := []) (.inr rfl) (RVs.tmp (by rfl) RVs.nil) (List.nil_sublist _) ?_
      first | exact ⟨congrArg sv (trim_end hk htr (.inl (by omega))), rfl⟩ | exact ⟨congrArg sv (trim_end hk htr (.inr (fun hh => by have := u8_32.2 hh; omega))), rfl⟩

set_option maxRecDepth 100000 in
theorem trimRight (l : List UInt8) (W : World) (hl : l.length ≤ 140737488355328) : Fn_ Tryd.prog 63 #[sv l, sv [32]] W (fun v H => v = sv (trimR l) ∧ H = []) := by
  refine Fn_.intro Tryd.func63 rfl rfl (by rfl) ?_
  refine CS.seq ?_
  refine CS.region ?_
  refine RS.q rfl (QO.assign) ?_
  refine RS.nil ?_
  refine thenC_n ?_
  refine CS.seq ?_
  refine CS.seq ?_
  refine CS.region ?_
  refine RS.q rfl (QO.move) ?_
  refine RS.q rfl (QO.streq (by rfl) (by rfl)) ?_
  refine RS.q rfl (QO.move) ?_
  refine RS.split (dj := 9) (by rfl) (fun hb0 => ?_) (fun hb0 => ?_)
  · refine RS.off (dj := 9) rfl (.inl (congrArg Value.bool hb0)) (fun _ => rfl) rfl ?_
    refine RS.off (dj := 9) rfl (.inl (congrArg Value.bool hb0)) (fun _ => rfl) rfl ?_
    refine RS.q rfl (QO.pickT (by rfl) hb0 (by rfl)) ?_
    refine RS.nil ?_
    refine thenC_n ?_
    refine CS.condT (by rfl) rfl ?_
    refine CS.seq ?_
    refine CS.region ?_
    refine RS.q rfl (QO.move) ?_
    refine RS.q rfl (QO.assign) ?_
    refine RS.nil ?_
    refine thenC_n ?_
    refine CS.ret ?_
    refine thenC_r ?_
    refine retQ.mk (H' := []) (.inr rfl) (RVs.tmp (by rfl) RVs.nil) (List.nil_sublist _) ?_
    have e0 := eq_of_beq hb0
    subst e0
    exact ⟨rfl, rfl⟩
  · refine RS.on (dj := 9) rfl (congrArg Value.bool hb0) ?_
    refine RS.q rfl (QO.move) ?_
    refine RS.on (dj := 9) rfl (congrArg Value.bool hb0) ?_
    refine RS.q rfl (QO.streq (by rfl) (by rfl)) ?_
    refine RS.q rfl (QO.pickF (by rfl) hb0 (by rfl)) ?_
    refine RS.nil ?_
    refine thenC_n ?_
    refine CS.condF (by rfl) rfl ?_
    refine CS.skip ?_
    refine thenC_n ?_
    refine CS.seq ?_
    refine CS.seq ?_
    refine CS.region ?_
    refine RS.q rfl (QO.move) ?_
    refine RS.q rfl (QO.lenStr Tryd.underlying9 (by rfl)) ?_
    refine RS.q rfl (QO.eql (by rfl) (by rfl)) ?_
    refine RS.q rfl (QO.move) ?_
    refine RS.on (dj := 17) rfl (congrArg Value.bool rfl) ?_
    refine RS.q rfl (QO.move) ?_
    refine RS.on (dj := 17) rfl (congrArg Value.bool rfl) ?_
    refine RS.q rfl (QO.idxStr (b := 32) Tryd.underlying9 (by rfl) (by rfl) (by decide) (by rfl)) ?_
    refine RS.on (dj := 17) rfl (congrArg Value.bool rfl) ?_
    refine RS.q rfl (QO.lss (by rfl) (by rfl)) ?_
    refine RS.q rfl (QO.pickT (by rfl) rfl (by rfl)) ?_
    refine RS.nil ?_
    refine thenC_n ?_
    refine CS.condT (by rfl) rfl ?_
    refine CS.seq ?_
    refine CS.region ?_
    refine RS.q rfl (QO.move) ?_
    refine RS.q rfl (QO.move) ?_
    refine RS.q rfl (QO.idxStr (b := 32) Tryd.underlying9 (by rfl) (by rfl) (by decide) (by rfl)) ?_
    refine RS.call rfl (by rfl) ok127 (by rfl) (fun w ho => trimB l _ hl) ?_
    rintro _ _ ⟨rfl, rfl⟩
    refine RS.q rfl (QO.assign) ?_
    refine RS.nil ?_
    refine thenC_n ?_
    refine CS.ret ?_
    refine thenC_r ?_
    refine retQ.mk (H' := []) (.inr rfl) (RVs.tmp (by rfl) RVs.nil) (List.nil_sublist _) ?_
    exact ⟨rfl, rfl⟩

set_option maxRecDepth 100000 in
theorem maxI (A : Option Addr) (n c : Nat) (l : List Int) (W : World) (hl : l.length = n) (hA : IS W A l) (hn : 0 < n) (hm : n ≤ maxLen) : Fn_ Tryd.prog 61 #[.slice A n c] W (fun v H => v = iv (mxK l n) ∧ H = []) := by
  unfold maxLen at hm
  have hx := hA.at0 (by omega)
  obtain ⟨bA, oA, hAA, hcell⟩ := hx
  subst hAA
  refine Fn_.intro Tryd.func61 rfl rfl (by rfl) ?_
  refine CS.seq ?_
  refine CS.region ?_
  refine RS.q rfl (QO.assign) ?_
  refine RS.nil ?_
  refine thenC_n ?_
  refine CS.seq ?_
  refine CS.seq ?_
  refine CS.region ?_
  refine RS.q rfl (QO.move) ?_
  refine RS.q rfl (QO.lenS Tryd.underlying22 (by rfl)) ?_
  refine RS.q rfl (QO.lss (by rfl) (by rfl)) ?_
  refine RS.nil ?_
  refine thenC_n ?_
  refine CS.condF (by rfl) (decide_eq_false (by omega)) ?_
  refine CS.skip ?_
  refine thenC_n ?_
  refine CS.seq ?_
  refine CS.region ?_
  refine RS.q rfl (QO.move) ?_
  first | (refine RS.q rfl (QO.idx0 Tryd.underlying22 ty3 (by rfl) (by rfl) (by rfl) (by omega)) ?_) | (refine RS.q rfl (QO.idxn Tryd.underlying22 ty3 (by rfl) (by rfl) (by rfl) (by omega)) ?_) | (refine RS.q rfl (QO.idx1 Tryd.underlying22 ty3 (by rfl) (by rfl) (by omega) (by omega)) ?_)
  refine RS.q rfl (QO.loadO ty3 (by rfl) (hcell 0 (by omega))) ?_
  refine RS.q rfl (QO.assign) ?_
  refine RS.nil ?_
  refine thenC_n ?_
  refine CS.seq ?_
  refine CS.seq ?_
  refine CS.region ?_
  refine RS.q rfl (QO.assign) ?_
  refine RS.nil ?_
  refine thenC_n ?_
  refine CS.block ?_
  refine CS.loop (X := Nat) (3 :: 4 :: 12 :: 13 :: 14 :: 15 :: 16 :: 17 :: 18 :: 19 :: 20 :: 21 :: 22 :: 23 :: []) (fun k => [(3, iv (mxK l k)), (4, iv (k : Int))]) (fun k => []) (fun k => 1 ≤ k ∧ k ≤ n) (fun k => n - k) 1 ⟨Nat.le_refl _, hn⟩ ?_ ?_ ?_
  · exact kn_cons (congrArg iv (mxK_1 l).symm) (kn_cons rfl kn_nil)
  · exact (by repeat (first | exact List.Sublist.refl _ | exact List.nil_sublist _ | refine List.Sublist.cons_cons _ ?_ | refine List.Sublist.cons _ ?_ | exact Sbp.refl | exact Sbp.nil | refine Sbp.cons (by repeat (first | exact Rem.head | apply Rem.tail)) ?_ | exact Sbp.app | refine Sbp.skip ?_))
  · intro k gj5 hz
    obtain ⟨hk1, hk2⟩ := hz
    refine CS.seq ?_
    refine CS.seq ?_
    refine CS.region ?_
    refine RS.q rfl (QO.move) ?_
    refine RS.q rfl (QO.move) ?_
    refine RS.q rfl (QO.lenS Tryd.underlying22 (by rfl)) ?_
    refine RS.q rfl (QO.lss (by rfl) (by rfl)) ?_
    refine RS.nil ?_
    refine thenC_n ?_
    refine CS.cond (by rfl) (fun hb0 => ?_) (fun hb0 => ?_)
    · have hb0p := of_decide_eq_true hb0
      refine CS.skip ?_
      refine thenC_n ?_
      refine CS.seq ?_
      refine CS.block ?_
      refine CS.region ?_
      refine RS.q rfl (QO.move) ?_
      refine RS.q rfl (QO.move) ?_
      refine RS.q rfl (QO.move) ?_
      first | (refine RS.q rfl (QO.idx0 Tryd.underlying22 ty3 (by rfl) (by rfl) (by rfl) (by omega)) ?_) | (refine RS.q rfl (QO.idxn Tryd.underlying22 ty3 (by rfl) (by rfl) (by rfl) (by omega)) ?_) | (refine RS.q rfl (QO.idx1 Tryd.underlying22 ty3 (by rfl) (by rfl) (by omega) (by omega)) ?_)
      refine RS.q rfl (QO.loadO ty3 (by rfl) (hcell k (by omega))) ?_
      refine RS.q rfl (QO.max2 (by rfl) (by rfl)) ?_
      refine RS.q rfl (QO.assign) ?_
      refine RS.nil ?_
      refine blockC_n ?_
      refine thenC_n ?_
      refine CS.region ?_
      refine RS.q rfl (QO.move) ?_
      first | (refine RS.q rfl (QO.add (by rfl) (by rfl) (by omega) (by omega)) ?_) | (refine RS.q rfl (QO.ibin (by rfl) (by rfl) trivial) ?_)
      refine RS.q rfl (QO.assign) ?_
      refine RS.nil ?_
      refine loopQ_n (by intro t ht; repeat (first | with_reducible exact rfl | exact frame_puts ht (frame_mix ht) _ rfl | (refine frame_put rfl ht ?_) | (refine frame_puts ht ?_ _ rfl) | exact frame_mix ht | (refine frame_mix2 rfl ht ?_) | exact rfl)) ?_
      exact ⟨k + 1, ⟨by omega, by omega⟩, by omega, (by repeat (first | exact kn_nil | refine kn_cons (by rfl) ?_)), (by repeat (first | exact List.Sublist.refl _ | exact List.nil_sublist _ | refine List.Sublist.cons_cons _ ?_ | refine List.Sublist.cons _ ?_ | exact Sbp.refl | exact Sbp.nil | refine Sbp.cons (by repeat (first | exact Rem.head | apply Rem.tail)) ?_ | exact Sbp.app | refine Sbp.skip ?_))⟩
    · have hb0p := of_decide_eq_false hb0
      refine CS.exit ?_
      refine thenC_x ?_
      refine loopQ_x ?_
      refine blockC_x ?_
      refine thenC_n ?_
      refine CS.seq ?_
      refine CS.region ?_
      refine RS.q rfl (QO.move) ?_
      refine RS.q rfl (QO.assign) ?_
      refine RS.nil ?_
      refine thenC_n ?_
      refine CS.ret ?_
      refine retQ.mk (H' := []) (.inr rfl) (RVs.tmp (by rfl) RVs.nil) (List.nil_sublist _) ?_
      exact ⟨congrArg iv (by rw [show k = n by omega]), rfl⟩

set_option maxRecDepth 100000 in
theorem minI (A : Option Addr) (n c : Nat) (l : List Int) (W : World) (hl : l.length = n) (hA : IS W A l) (hn : 0 < n) (hm : n ≤ maxLen) : Fn_ Tryd.prog 65 #[.slice A n c] W (fun v H => v = iv (mnK l n) ∧ H = []) := by
  unfold maxLen at hm
  have hx := hA.at0 (by omega)
  obtain ⟨bA, oA, hAA, hcell⟩ := hx
  subst hAA
  refine Fn_.intro Tryd.func65 rfl rfl (by rfl) ?_
  refine CS.seq ?_
  refine CS.region ?_
  refine RS.q rfl (QO.assign) ?_
  refine RS.nil ?_
  refine thenC_n ?_
  refine CS.seq ?_
  refine CS.seq ?_
  refine CS.region ?_
  refine RS.q rfl (QO.move) ?_
  refine RS.q rfl (QO.lenS Tryd.underlying22 (by rfl)) ?_
  refine RS.q rfl (QO.lss (by rfl) (by rfl)) ?_
  refine RS.nil ?_
  refine thenC_n ?_
  refine CS.condF (by rfl) (decide_eq_false (by omega)) ?_
  refine CS.skip ?_
  refine thenC_n ?_
  refine CS.seq ?_
  refine CS.region ?_
  refine RS.q rfl (QO.move) ?_
  first | (refine RS.q rfl (QO.idx0 Tryd.underlying22 ty3 (by rfl) (by rfl) (by rfl) (by omega)) ?_) | (refine RS.q rfl (QO.idxn Tryd.underlying22 ty3 (by rfl) (by rfl) (by rfl) (by omega)) ?_) | (refine RS.q rfl (QO.idx1 Tryd.underlying22 ty3 (by rfl) (by rfl) (by omega) (by omega)) ?_)
  refine RS.q rfl (QO.loadO ty3 (by rfl) (hcell 0 (by omega))) ?_
  refine RS.q rfl (QO.assign) ?_
  refine RS.nil ?_
  refine thenC_n ?_
  refine CS.seq ?_
  refine CS.seq ?_
  refine CS.region ?_
  refine RS.q rfl (QO.assign) ?_
  refine RS.nil ?_
  refine thenC_n ?_
  refine CS.block ?_
  refine CS.loop (X := Nat) (3 :: 4 :: 12 :: 13 :: 14 :: 15 :: 16 :: 17 :: 18 :: 19 :: 20 :: 21 :: 22 :: 23 :: []) (fun k => [(3, iv (mnK l k)), (4, iv (k : Int))]) (fun k => []) (fun k => 1 ≤ k ∧ k ≤ n) (fun k => n - k) 1 ⟨Nat.le_refl _, hn⟩ ?_ ?_ ?_
  · exact kn_cons (congrArg iv (mnK_1 l).symm) (kn_cons rfl kn_nil)
  · exact (by repeat (first | exact List.Sublist.refl _ | exact List.nil_sublist _ | refine List.Sublist.cons_cons _ ?_ | refine List.Sublist.cons _ ?_ | exact Sbp.refl | exact Sbp.nil | refine Sbp.cons (by repeat (first | exact Rem.head | apply Rem.tail)) ?_ | exact Sbp.app | refine Sbp.skip ?_))
  · intro k gj5 hz
    obtain ⟨hk1, hk2⟩ := hz
    refine CS.seq ?_
    refine CS.seq ?_
    refine CS.region ?_
    refine RS.q rfl (QO.move) ?_
    refine RS.q rfl (QO.move) ?_
    refine RS.q rfl (QO.lenS Tryd.underlying22 (by rfl)) ?_
    refine RS.q rfl (QO.lss (by rfl) (by rfl)) ?_
    refine RS.nil ?_
    refine thenC_n ?_
    refine CS.cond (by rfl) (fun hb0 => ?_) (fun hb0 => ?_)
    · have hb0p := of_decide_eq_true hb0
      refine CS.skip ?_
      refine thenC_n ?_
      refine CS.seq ?_
      refine CS.block ?_
      refine CS.region ?_
      refine RS.q rfl (QO.move) ?_
      refine RS.q rfl (QO.move) ?_
      refine RS.q rfl (QO.move) ?_
      first | (refine RS.q rfl (QO.idx0 Tryd.underlying22 ty3 (by rfl) (by rfl) (by rfl) (by omega)) ?_) | (refine RS.q rfl (QO.idxn Tryd.underlying22 ty3 (by rfl) (by rfl) (by rfl) (by omega)) ?_) | (refine RS.q rfl (QO.idx1 Tryd.underlying22 ty3 (by rfl) (by rfl) (by omega) (by omega)) ?_)
      refine RS.q rfl (QO.loadO ty3 (by rfl) (hcell k (by omega))) ?_
      refine RS.q rfl (QO.min2 (by rfl) (by rfl)) ?_
      refine RS.q rfl (QO.assign) ?_
      refine RS.nil ?_
      refine blockC_n ?_
      refine thenC_n ?_
      refine CS.region ?_
      refine RS.q rfl (QO.move) ?_
      first | (refine RS.q rfl (QO.add (by rfl) (by rfl) (by omega) (by omega)) ?_) | (refine RS.q rfl (QO.ibin (by rfl) (by rfl) trivial) ?_)
      refine RS.q rfl (QO.assign) ?_
      refine RS.nil ?_
      refine loopQ_n (by intro t ht; repeat (first | with_reducible exact rfl | exact frame_puts ht (frame_mix ht) _ rfl | (refine frame_put rfl ht ?_) | (refine frame_puts ht ?_ _ rfl) | exact frame_mix ht | (refine frame_mix2 rfl ht ?_) | exact rfl)) ?_
      exact ⟨k + 1, ⟨by omega, by omega⟩, by omega, (by repeat (first | exact kn_nil | refine kn_cons (by rfl) ?_)), (by repeat (first | exact List.Sublist.refl _ | exact List.nil_sublist _ | refine List.Sublist.cons_cons _ ?_ | refine List.Sublist.cons _ ?_ | exact Sbp.refl | exact Sbp.nil | refine Sbp.cons (by repeat (first | exact Rem.head | apply Rem.tail)) ?_ | exact Sbp.app | refine Sbp.skip ?_))⟩
    · have hb0p := of_decide_eq_false hb0
      refine CS.exit ?_
      refine thenC_x ?_
      refine loopQ_x ?_
      refine blockC_x ?_
      refine thenC_n ?_
      refine CS.seq ?_
      refine CS.region ?_
      refine RS.q rfl (QO.move) ?_
      refine RS.q rfl (QO.assign) ?_
      refine RS.nil ?_
      refine thenC_n ?_
      refine CS.ret ?_
      refine retQ.mk (H' := []) (.inr rfl) (RVs.tmp (by rfl) RVs.nil) (List.nil_sublist _) ?_
      exact ⟨congrArg iv (by rw [show k = n by omega]), rfl⟩

set_option maxRecDepth 100000 in
theorem sketch1 (x : Int) (W : World) : Fn_ Tryd.prog 60 #[iv x] W (fun v H => v = .bool (outI x) ∧ H = []) := by
  refine Fn_.intro Tryd.func60 rfl rfl (by rfl) ?_
  refine CS.seq ?_
  refine CS.region ?_
  refine RS.q rfl (QO.assign) ?_
  refine RS.nil ?_
  refine thenC_n ?_
  refine CS.seq ?_
  refine CS.region ?_
  refine RS.q rfl (QO.move) ?_
  refine RS.q rfl (QO.lss (by rfl) (by rfl)) ?_
  refine RS.q rfl (QO.move) ?_
  refine RS.split (dj := 5) (by rfl) (fun hb0 => ?_) (fun hb0 => ?_)
  · have hb0p := of_decide_eq_true hb0
    refine RS.off (dj := 5) rfl (.inl (congrArg Value.bool hb0)) (fun _ => rfl) rfl ?_
    refine RS.off (dj := 5) rfl (.inl (congrArg Value.bool hb0)) (fun _ => rfl) rfl ?_
    refine RS.q rfl (QO.pickT (by rfl) hb0 (by rfl)) ?_
    refine RS.q rfl (QO.assign) ?_
    refine RS.nil ?_
    refine thenC_n ?_
    refine CS.ret ?_
    refine retQ.mk (H' := []) (.inr rfl) (RVs.tmp (by rfl) RVs.nil) (List.nil_sublist _) ?_
    refine ⟨congrArg Value.bool ?_, rfl⟩
    unfold outI
    first | (simp_all; done) | (simp_all; omega)
  · have hb0p := of_decide_eq_false hb0
    refine RS.on (dj := 5) rfl (congrArg Value.bool hb0) ?_
    refine RS.q rfl (QO.move) ?_
    refine RS.on (dj := 5) rfl (congrArg Value.bool hb0) ?_
    refine RS.q rfl (QO.gtr (by rfl) (by rfl)) ?_
    refine RS.q rfl (QO.pickF (by rfl) hb0 (by rfl)) ?_
    refine RS.q rfl (QO.assign) ?_
    refine RS.nil ?_
    refine thenC_n ?_
    refine CS.ret ?_
    refine retQ.mk (H' := []) (.inr rfl) (RVs.tmp (by rfl) RVs.nil) (List.nil_sublist _) ?_
    refine ⟨congrArg Value.bool ?_, rfl⟩
    unfold outI
    first | (simp_all; done) | (simp_all; omega)

set_option maxRecDepth 100000 in
theorem indexO (A : Option Addr) (n c : Nat) (l : List Int) (W : World) (hl : l.length = n) (hA : IS W A l) (hn : 0 < n) (hm : n ≤ maxLen) : Fn_ Tryd.prog 125 #[.slice A n c, .func (.func 60) #[] #[]] W (fun v H => ∃ r : Int, v = iv r ∧ decide (0 ≤ r) = anyO l n ∧ H = []) := by
  unfold maxLen at hm
  have hx := hA.at0 (by omega)
  obtain ⟨bA, oA, hAA, hcell⟩ := hx
  subst hAA
  refine Fn_.intro Tryd.func125 rfl rfl (by rfl) ?_
  refine CS.seq ?_
  refine CS.region ?_
  refine RS.q rfl (QO.assign) ?_
  refine RS.nil ?_
  refine thenC_n ?_
  refine CS.seq ?_
  refine CS.seq ?_
  refine CS.region ?_
  refine RS.q rfl (QO.move) ?_
  refine RS.q rfl (QO.lenS Tryd.underlying22 (by rfl)) ?_
  refine RS.q rfl (QO.move) ?_
  refine RS.nil ?_
  refine thenC_n ?_
  refine CS.block ?_
  refine CS.loop (X := Nat) (4 :: 5 :: 8 :: 9 :: 10 :: 11 :: 12 :: 13 :: 14 :: 15 :: 16 :: 17 :: 18 :: []) (fun k => [(8, iv (k : Int))]) (fun k => []) (fun k => k ≤ n ∧ ∀ i, i < k → outI (l.getD i 0) = false) (fun k => n - k) 0 ⟨Nat.zero_le _, fun i h => absurd h (Nat.not_lt_zero _)⟩ ?_ ?_ ?_
  · exact (by repeat (first | exact kn_nil | refine kn_cons (by rfl) ?_))
  · exact (by repeat (first | exact List.Sublist.refl _ | exact List.nil_sublist _ | refine List.Sublist.cons_cons _ ?_ | refine List.Sublist.cons _ ?_ | exact Sbp.refl | exact Sbp.nil | refine Sbp.cons (by repeat (first | exact Rem.head | apply Rem.tail)) ?_ | exact Sbp.app | refine Sbp.skip ?_))
  · intro k gj2 hz
    obtain ⟨hk, hno⟩ := hz
    refine CS.seq ?_
    refine CS.region ?_
    refine RS.q rfl (QO.lss (by rfl) (by rfl)) ?_
    refine RS.nil ?_
    refine thenC_n ?_
    refine CS.seq ?_
    refine CS.cond (by rfl) (fun hb0 => ?_) (fun hb0 => ?_)
    · have hb0p := of_decide_eq_true hb0
      refine CS.skip ?_
      refine thenC_n ?_
      refine CS.seq ?_
      refine CS.block ?_
      refine CS.seq ?_
      refine CS.region ?_
      refine RS.q rfl (QO.move) ?_
      refine RS.q rfl (QO.assign) ?_
      refine RS.nil ?_
      refine thenC_n ?_
      refine CS.seq ?_
      refine CS.region ?_
      refine RS.q rfl (QO.move) ?_
      refine RS.q rfl (QO.move) ?_
      refine RS.q rfl (QO.move) ?_
      first | (refine RS.q rfl (QO.idx0 Tryd.underlying22 ty3 (by rfl) (by rfl) (by rfl) (by omega)) ?_) | (refine RS.q rfl (QO.idxn Tryd.underlying22 ty3 (by rfl) (by rfl) (by rfl) (by omega)) ?_) | (refine RS.q rfl (QO.idx1 Tryd.underlying22 ty3 (by rfl) (by rfl) (by omega) (by omega)) ?_)
      refine RS.q rfl (QO.loadO ty3 (by rfl) (hcell k (by omega))) ?_
      refine RS.call rfl (by rfl) ok60 (by rfl) (fun w ho => sketch1 (l.getD k 0) _) ?_
      rintro _ _ ⟨rfl, rfl⟩
      refine RS.nil ?_
      refine thenC_n ?_
      refine CS.cond (by rfl) (fun hb1 => ?_) (fun hb1 => ?_)
      · refine CS.seq ?_
        refine CS.region ?_
        refine RS.q rfl (QO.move) ?_
        refine RS.q rfl (QO.assign) ?_
        refine RS.nil ?_
        refine thenC_n ?_
        refine CS.ret ?_
        refine blockC_r ?_
        refine thenC_r ?_
        refine loopQ_r ?_
        refine blockC_r ?_
        refine thenC_r ?_
        refine retQ.mk (H' := []) (.inr rfl) (RVs.tmp (by rfl) RVs.nil) (List.nil_sublist _) ?_
        first | exact ⟨_, rfl, (decide_eq_true (by omega)).trans (anyO_T (i := k) (by omega) (by assumption)).symm, rfl⟩ | exact ⟨_, rfl, (decide_eq_false (by omega)).trans (anyO_F hn (fun i hi => hno i (by omega))).symm, rfl⟩
      · refine CS.skip ?_
        refine blockC_n ?_
        refine thenC_n ?_
        refine CS.region ?_
        first | (refine RS.q rfl (QO.add (by rfl) (by rfl) (by omega) (by omega)) ?_) | (refine RS.q rfl (QO.ibin (by rfl) (by rfl) trivial) ?_)
        refine RS.q rfl (QO.move) ?_
        refine RS.nil ?_
        refine loopQ_n (by intro t ht; repeat (first | with_reducible exact rfl | exact frame_puts ht (frame_mix ht) _ rfl | (refine frame_put rfl ht ?_) | (refine frame_puts ht ?_ _ rfl) | exact frame_mix ht | (refine frame_mix2 rfl ht ?_) | exact rfl)) ?_
        exact ⟨k + 1, ⟨by omega, fun i hi => by
            by_cases e : i = k
            · subst e; assumption
            · exact hno i (by omega)⟩, by omega, (by repeat (first | exact kn_nil | refine kn_cons (by rfl) ?_)), (by repeat (first | exact List.Sublist.refl _ | exact List.nil_sublist _ | refine List.Sublist.cons_cons _ ?_ | refine List.Sublist.cons _ ?_ | exact Sbp.refl | exact Sbp.nil | refine Sbp.cons (by repeat (first | exact Rem.head | apply Rem.tail)) ?_ | exact Sbp.app | refine Sbp.skip ?_))⟩
    · have hb0p := of_decide_eq_false hb0
      refine CS.exit ?_
      refine thenC_x ?_
      refine loopQ_x ?_
      refine blockC_x ?_
      refine thenC_n ?_
      refine CS.seq ?_
      refine CS.region ?_
      refine RS.q rfl (QO.assign) ?_
      refine RS.nil ?_
      refine thenC_n ?_
      refine CS.ret ?_
      refine retQ.mk (H' := []) (.inr rfl) (RVs.tmp (by rfl) RVs.nil) (List.nil_sublist _) ?_
      first | exact ⟨_, rfl, (decide_eq_true (by omega)).trans (anyO_T (i := k) (by omega) (by assumption)).symm, rfl⟩ | exact ⟨_, rfl, (decide_eq_false (by omega)).trans (anyO_F hn (fun i hi => hno i (by omega))).symm, rfl⟩

set_option maxRecDepth 100000 in
theorem containsO (A : Option Addr) (n c : Nat) (l : List Int) (W : World) (hl : l.length = n) (hA : IS W A l) (hn : 0 < n) (hm : n ≤ maxLen) : Fn_ Tryd.prog 59 #[.slice A n c, .func (.func 60) #[] #[]] W (fun v H => v = .bool (anyO l n) ∧ H = []) := by
  refine Fn_.intro Tryd.func59 rfl rfl (by rfl) ?_
  refine CS.seq ?_
  refine CS.region ?_
  refine RS.q rfl (QO.assign) ?_
  refine RS.nil ?_
  refine thenC_n ?_
  refine CS.seq ?_
  refine CS.region ?_
  refine RS.q rfl (QO.move) ?_
  refine RS.q rfl (QO.move) ?_
  refine RS.call rfl (by rfl) ok125 (by rfl) (fun w ho => indexO A n c l _ hl (hA.own ho) hn hm) ?_
  rintro _ _ ⟨r, rfl, hr, rfl⟩
  refine RS.q rfl (QO.geq (by rfl) (by rfl)) ?_
  refine RS.q rfl (QO.assign) ?_
  refine RS.nil ?_
  refine thenC_n ?_
  refine CS.ret ?_
  refine retQ.mk (H' := []) (.inr rfl) (RVs.tmp (by rfl) RVs.nil) (List.nil_sublist _) ?_
  exact ⟨congrArg Value.bool hr, rfl⟩

end Go.Proofs.YtapcgokcfmklbaaDoor
