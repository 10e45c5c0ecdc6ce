/-
  Contracts: frames written. Conditions: as each theorem says.
-/
import Derived.Test.YtapcgokcfmklbaaDoorQ1
import Derived.Test.YtapcgokcfmklbaaDoorLin4
import Derived.Test.YtapcgokcfmklbaaDoorAny2
namespace Go.Proofs.YtapcgokcfmklbaaDoor
open Go Go.Proofs Go.RowKit

theorem ok62 : callOK Tryd.prog 62 = true := by kernel_rfl
theorem ok64 : callOK Tryd.prog 64 = true := by kernel_rfl
theorem ok77 : callOK Tryd.prog 77 = true := by kernel_rfl
theorem ok123 : callOK Tryd.prog 123 = true := by kernel_rfl
theorem ok124 : callOK Tryd.prog 124 = true := by kernel_rfl

theorem xs_at {xs : List Nat} {i : Nat} (h : i < xs.length) : xs[i]? = some (xs.getD i 0) := by
  rw [List.getD_eq_getElem?_getD, List.getElem?_eq_getElem h]; rfl
theorem tmodQ (a b : Nat) : ((a : Int)).tmod (b : Int) = ((a % b : Nat) : Int) := by simp [Int.tmod]
/-- the text when i numbers are written -/
def txT (x y : Int) (w h : Nat) (ys : Nat → Nat) (i : Nat) : List UInt8 := headT x y w h ++ 10 :: bodyT w ys i
theorem tx_0 (x y : Int) (w h : Nat) (ys : Nat → Nat) : [] ++ (headT x y w h ++ [10]) = txT x y w h ys 0 := rfl
theorem tx_succ (x y : Int) (w h : Nat) (ys : Nat → Nat) (i : Nat) {s : List UInt8} (hs : sepT w (i + 1) = s) : txT x y w h ys i ++ hexW (ys i) ++ s = txT x y w h ys (i + 1) := by
  subst hs
  unfold txT
  show _ = headT x y w h ++ 10 :: (bodyT w ys i ++ (hexW (ys i) ++ sepT w (i + 1)))
  simp
theorem tx_len {x y : Int} {w h : Nat} {ys : Nat → Nat} {i : Nat} (hx : -1000000 ≤ x ∧ x ≤ 1000000) (hy : -1000000 ≤ y ∧ y ≤ 1000000) (hw : w ≤ 1000) (hh : h ≤ 1000) : (txT x y w h ys i).length ≤ 94 + 11 * i := by
  have h1 := body_len w ys i
  have h2 := head_len (w := w) (h := h) hx hy (by omega) (by omega)
  unfold txT
  rw [List.length_append, List.length_cons]
  omega
theorem tx_ne (x y : Int) (w h : Nat) (ys : Nat → Nat) (i : Nat) : txT x y w h ys i ≠ [] := by unfold txT; simp
theorem sep_nl {w k : Nat} (h : k % (4 * w) = 0) : sepT w k = [10] := if_pos h
theorem sep_bar {w k : Nat} (h : ¬ k % (4 * w) = 0) (h2 : k % 4 = 0) : sepT w k = bar := by unfold sepT; rw [if_neg h, if_pos h2]
theorem sep_sp {w k : Nat} (h : ¬ k % (4 * w) = 0) (h2 : ¬ k % 4 = 0) : sepT w k = [32] := by unfold sepT; rw [if_neg h, if_neg h2]
theorem rem_last {i m : Nat} (hm : 0 < m) : i % m = m - 1 ↔ (i + 1) % m = 0 := by
  have h1 := Nat.mod_add_div i m
  have h2 := Nat.mod_lt i hm
  constructor
  · intro h
    have h3 : i + 1 = m * (i / m + 1) := by rw [Nat.mul_add, Nat.mul_one]; omega
    rw [h3, Nat.mul_mod_right]
  · intro h
    rcases Nat.lt_or_ge (i % m + 1) m with h3 | h3
    · have h4 : (i + 1) % m = i % m + 1 := by
        rw [Nat.add_mod, ← Nat.mod_add_mod] 
        rw [show i % m % m + 1 % m = i % m + 1 by
          rw [Nat.mod_mod]
          rcases Nat.lt_or_ge 1 m with h5 | h5
          · rw [Nat.mod_eq_of_lt h5]
          · omega, Nat.mod_eq_of_lt h3]
      omega
    · omega
theorem prt_v {x y : Int} {w h i : Nat} {ys : Nat → Nat} (hi : i = 4 * (w * h)) : txT x y w h ys i = prtT x y w h ys := by subst hi; rfl
theorem row_txt {v : Value} {l l' : List UInt8} {H : HL} (h : Row 5 1 v l.length (bc l) H) (e : l = l') : Row 5 1 v l'.length (bc l') H := e ▸ h
theorem head_ap (x y w h : Int) : ((((((((102 :: 114 :: 97 :: 109 :: 101 :: 32 :: []) ++ Lib.itoa x) ++ [32]) ++ Lib.itoa y) ++ [32]) ++ Lib.itoa w) ++ [32]) ++ Lib.itoa h) ++ [10] = headT x y w h ++ [10] := by
  unfold headT frameB; simp

set_option maxHeartbeats 4000000 in
set_option maxRecDepth 100000 in
theorem print_ (x y : Int) (aw ah : Nat) (A : Option Addr) (n c : Nat) (xs : List Nat) (W : World) (hn : xs.length = n) (hA : FS W A xs) (hfr : frErr x y aw ah n = 0) (hn4 : n = 4 * (aw * ah)) (hx : -1000000 ≤ x ∧ x ≤ 1000000) (hy : -1000000 ≤ y ∧ y ≤ 1000000) (hw : 1 ≤ aw ∧ aw ≤ 8) (hh : 1 ≤ ah ∧ ah ≤ 8) (hwh : 1 ≤ aw * ah ∧ aw * ah ≤ 64) (h32 : ∀ i, xs.getD i 0 < 4294967296) (ht : Lib.TabIs Tryd.prog W "internal/strconv.uint64pow10" .u64 Lib.pow10Tab) : Fn_ Tryd.prog 20 #[.agg #[iv x, iv y, iv (aw : Int), iv (ah : Int), .slice A n c]] W (fun v H => v = .tuple #[sv (prtT x y aw ah (fun i => xs.getD i 0)), iv 0] ∧ H = []) := by
  have hx0 := hA (by omega)
  obtain ⟨bS, oS, hAA, hcS⟩ := hx0
  subst hAA
  have hlx := Lib.itoa_length_le x (by omega) (by omega)
  have hly := Lib.itoa_length_le y (by omega) (by omega)
  have hlw := Lib.itoa_length_le (aw : Int) (by omega) (by omega)
  have hlh := Lib.itoa_length_le (ah : Int) (by omega) (by omega)
  refine Fn_.intro Tryd.func20 rfl rfl (by rfl) ?_
  refine CS.seq ?_
  refine CS.region ?_
  refine RS.box rfl (by rfl) (by rfl) ?_
  intro g1
  refine RS.q rfl (QO.assign) ?_
  refine RS.q rfl (QO.assign) ?_
  refine RS.nil ?_
  refine thenC_n ?_
  refine CS.seq ?_
  refine CS.seq ?_
  refine CS.region ?_
  first | (refine RS.q rfl (QO.loadB ty34 (by rfl) (by repeat (first | exact List.Mem.head _ | refine List.Mem.tail _ ?_)) (by rfl)) ?_) | (refine RS.q rfl (QO.loadA ty34 (by rfl) (by repeat (first | exact List.Mem.head _ | refine List.Mem.tail _ ?_)) (by rfl) (by rfl)) ?_) | (refine RS.q rfl (QO.loadOA ty34 (by rfl) (by assumption) (by rfl)) ?_)
  refine RS.call rfl (by rfl) ok15 (by rfl) (fun w ho => check _ _ _ _ _ _ _ _) ?_
  rintro _ _ ⟨rfl, rfl⟩
  refine RS.q rfl (QO.assign) ?_
  refine RS.nil ?_
  refine thenC_n ?_
  refine CS.seq ?_
  refine CS.region ?_
  refine RS.q rfl (QO.move) ?_
  refine RS.qv rfl (QO.neq (by rfl) (by rfl)) (congrArg Value.bool (show (frErr x y aw ah n != 0) = false from by rw [hfr]; rfl)) ?_
  refine RS.nil ?_
  refine thenC_n ?_
  refine CS.condF (by rfl) rfl ?_
  refine CS.skip ?_
  refine thenC_n ?_
  refine CS.seq ?_
  refine CS.region ?_
  refine RS.alloc rfl ty109 ?_
  intro g5
  refine RS.nil ?_
  refine thenC_n ?_
  refine CS.seq ?_
  refine CS.draw2 [24] (HT := [⟨g1, 34, [iv x, iv y, iv (aw : Int), iv (ah : Int), .slice (some ⟨bS, oS, none⟩) n c]⟩]) (by repeat (first | exact List.Sublist.refl _ | exact List.nil_sublist _ | refine List.Sublist.cons_cons _ ?_ | refine List.Sublist.cons _ ?_ | exact Sbp.refl | exact Sbp.nil | refine Sbp.cons (by repeat (first | exact Rem.head | apply Rem.tail)) ?_ | exact Sbp.app | refine Sbp.skip ?_ | exact List.sublist_append_left _ _ | exact List.sublist_append_right _ _)) rfl (by kernel_rfl) ?_
  refine RT2.take2 (i := 0) rfl (by kernel_rfl) rfl (QO.fieldAddr fo34_0 (by rfl)) ?_
  refine RT2.take2 (i := 1) rfl (by kernel_rfl) rfl (QO.fieldAddr fo31_0 (by rfl)) ?_
  first | (refine RT2.take2 (i := 2) rfl (by kernel_rfl) rfl (QO.load ty3 (by rfl) (by repeat (first | exact List.Mem.head _ | refine List.Mem.tail _ ?_)) (by rfl)) ?_) | (refine RT2.take2 (i := 2) rfl (by kernel_rfl) rfl (QO.loadO ty3 (by rfl) (by assumption)) ?_) | (refine RT2.take2 (i := 2) rfl (by kernel_rfl) rfl (QO.load ty3 (by rfl) (by repeat (first | exact List.Mem.head _ | refine List.Mem.tail _ ?_)) (by assumption)) ?_)
  refine RT2.take2 (i := 6) rfl (by kernel_rfl) rfl (QO.fieldAddr fo34_0 (by rfl)) ?_
  refine RT2.take2 (i := 7) rfl (by kernel_rfl) rfl (QO.fieldAddr fo31_1 (by rfl)) ?_
  first | (refine RT2.take2 (i := 8) rfl (by kernel_rfl) rfl (QO.load ty3 (by rfl) (by repeat (first | exact List.Mem.head _ | refine List.Mem.tail _ ?_)) (by rfl)) ?_) | (refine RT2.take2 (i := 8) rfl (by kernel_rfl) rfl (QO.loadO ty3 (by rfl) (by assumption)) ?_) | (refine RT2.take2 (i := 8) rfl (by kernel_rfl) rfl (QO.load ty3 (by rfl) (by repeat (first | exact List.Mem.head _ | refine List.Mem.tail _ ?_)) (by assumption)) ?_)
  refine RT2.take2 (i := 12) rfl (by kernel_rfl) rfl (QO.fieldAddr fo34_0 (by rfl)) ?_
  refine RT2.take2 (i := 13) rfl (by kernel_rfl) rfl (QO.fieldAddr fo31_2 (by rfl)) ?_
  first | (refine RT2.take2 (i := 14) rfl (by kernel_rfl) rfl (QO.load ty3 (by rfl) (by repeat (first | exact List.Mem.head _ | refine List.Mem.tail _ ?_)) (by rfl)) ?_) | (refine RT2.take2 (i := 14) rfl (by kernel_rfl) rfl (QO.loadO ty3 (by rfl) (by assumption)) ?_) | (refine RT2.take2 (i := 14) rfl (by kernel_rfl) rfl (QO.load ty3 (by rfl) (by repeat (first | exact List.Mem.head _ | refine List.Mem.tail _ ?_)) (by assumption)) ?_)
  refine RT2.take2 (i := 18) rfl (by kernel_rfl) rfl (QO.fieldAddr fo34_0 (by rfl)) ?_
  refine RT2.take2 (i := 19) rfl (by kernel_rfl) rfl (QO.fieldAddr fo31_3 (by rfl)) ?_
  first | (refine RT2.take2 (i := 20) rfl (by kernel_rfl) rfl (QO.load ty3 (by rfl) (by repeat (first | exact List.Mem.head _ | refine List.Mem.tail _ ?_)) (by rfl)) ?_) | (refine RT2.take2 (i := 20) rfl (by kernel_rfl) rfl (QO.loadO ty3 (by rfl) (by assumption)) ?_) | (refine RT2.take2 (i := 20) rfl (by kernel_rfl) rfl (QO.load ty3 (by rfl) (by repeat (first | exact List.Mem.head _ | refine List.Mem.tail _ ?_)) (by assumption)) ?_)
  refine RT2.one (i := 3) (by kernel_rfl) rfl ?_
  refine RS.call rfl (by rfl) ok76 (by rfl) (fun w ho => itoaC x _ (by omega) (ho.tab (g := 2) (by kernel_rfl) ht)) ?_
  rintro _ _ ⟨rfl, rfl⟩
  refine RS.nil ⟨(by repeat (first | exact List.Sublist.refl _ | exact List.nil_sublist _ | refine List.Sublist.cons_cons _ ?_ | refine List.Sublist.cons _ ?_ | exact Sbp.refl | exact Sbp.nil | refine Sbp.cons (by repeat (first | exact Rem.head | apply Rem.tail)) ?_ | exact Sbp.app | refine Sbp.skip ?_ | exact List.sublist_append_left _ _ | exact List.sublist_append_right _ _)), (by repeat (first | exact List.Sublist.refl _ | exact List.nil_sublist _ | refine List.Sublist.cons_cons _ ?_ | refine List.Sublist.cons _ ?_ | exact Sbp.refl | exact Sbp.nil | refine Sbp.cons (by repeat (first | exact Rem.head | apply Rem.tail)) ?_ | exact Sbp.app | refine Sbp.skip ?_ | exact List.sublist_append_left _ _ | exact List.sublist_append_right _ _)), ?_⟩
  refine RT2.take2 (i := 4) rfl (by kernel_rfl) rfl (QO.stradd (by rfl) (by rfl) (by simp only [List.length_append, List.length_cons, List.length_nil]; omega)) ?_
  refine RT2.take2 (i := 5) rfl (by kernel_rfl) rfl (QO.stradd (by rfl) (by rfl) (by simp only [List.length_append, List.length_cons, List.length_nil]; omega)) ?_
  refine RT2.one (i := 9) (by kernel_rfl) rfl ?_
  refine RS.call rfl (by rfl) ok76 (by rfl) (fun w ho => itoaC y _ (by omega) (ho.tab (g := 2) (by kernel_rfl) ht)) ?_
  rintro _ _ ⟨rfl, rfl⟩
  refine RS.nil ⟨(by repeat (first | exact List.Sublist.refl _ | exact List.nil_sublist _ | refine List.Sublist.cons_cons _ ?_ | refine List.Sublist.cons _ ?_ | exact Sbp.refl | exact Sbp.nil | refine Sbp.cons (by repeat (first | exact Rem.head | apply Rem.tail)) ?_ | exact Sbp.app | refine Sbp.skip ?_ | exact List.sublist_append_left _ _ | exact List.sublist_append_right _ _)), (by repeat (first | exact List.Sublist.refl _ | exact List.nil_sublist _ | refine List.Sublist.cons_cons _ ?_ | refine List.Sublist.cons _ ?_ | exact Sbp.refl | exact Sbp.nil | refine Sbp.cons (by repeat (first | exact Rem.head | apply Rem.tail)) ?_ | exact Sbp.app | refine Sbp.skip ?_ | exact List.sublist_append_left _ _ | exact List.sublist_append_right _ _)), ?_⟩
  refine RT2.take2 (i := 10) rfl (by kernel_rfl) rfl (QO.stradd (by rfl) (by rfl) (by simp only [List.length_append, List.length_cons, List.length_nil]; omega)) ?_
  refine RT2.take2 (i := 11) rfl (by kernel_rfl) rfl (QO.stradd (by rfl) (by rfl) (by simp only [List.length_append, List.length_cons, List.length_nil]; omega)) ?_
  refine RT2.one (i := 15) (by kernel_rfl) rfl ?_
  refine RS.call rfl (by rfl) ok76 (by rfl) (fun w ho => itoaC (aw : Int) _ (by omega) (ho.tab (g := 2) (by kernel_rfl) ht)) ?_
  rintro _ _ ⟨rfl, rfl⟩
  refine RS.nil ⟨(by repeat (first | exact List.Sublist.refl _ | exact List.nil_sublist _ | refine List.Sublist.cons_cons _ ?_ | refine List.Sublist.cons _ ?_ | exact Sbp.refl | exact Sbp.nil | refine Sbp.cons (by repeat (first | exact Rem.head | apply Rem.tail)) ?_ | exact Sbp.app | refine Sbp.skip ?_ | exact List.sublist_append_left _ _ | exact List.sublist_append_right _ _)), (by repeat (first | exact List.Sublist.refl _ | exact List.nil_sublist _ | refine List.Sublist.cons_cons _ ?_ | refine List.Sublist.cons _ ?_ | exact Sbp.refl | exact Sbp.nil | refine Sbp.cons (by repeat (first | exact Rem.head | apply Rem.tail)) ?_ | exact Sbp.app | refine Sbp.skip ?_ | exact List.sublist_append_left _ _ | exact List.sublist_append_right _ _)), ?_⟩
  refine RT2.take2 (i := 16) rfl (by kernel_rfl) rfl (QO.stradd (by rfl) (by rfl) (by simp only [List.length_append, List.length_cons, List.length_nil]; omega)) ?_
  refine RT2.take2 (i := 17) rfl (by kernel_rfl) rfl (QO.stradd (by rfl) (by rfl) (by simp only [List.length_append, List.length_cons, List.length_nil]; omega)) ?_
  refine RT2.one (i := 21) (by kernel_rfl) rfl ?_
  refine RS.call rfl (by rfl) ok76 (by rfl) (fun w ho => itoaC (ah : Int) _ (by omega) (ho.tab (g := 2) (by kernel_rfl) ht)) ?_
  rintro _ _ ⟨rfl, rfl⟩
  refine RS.nil ⟨(by repeat (first | exact List.Sublist.refl _ | exact List.nil_sublist _ | refine List.Sublist.cons_cons _ ?_ | refine List.Sublist.cons _ ?_ | exact Sbp.refl | exact Sbp.nil | refine Sbp.cons (by repeat (first | exact Rem.head | apply Rem.tail)) ?_ | exact Sbp.app | refine Sbp.skip ?_ | exact List.sublist_append_left _ _ | exact List.sublist_append_right _ _)), (by repeat (first | exact List.Sublist.refl _ | exact List.nil_sublist _ | refine List.Sublist.cons_cons _ ?_ | refine List.Sublist.cons _ ?_ | exact Sbp.refl | exact Sbp.nil | refine Sbp.cons (by repeat (first | exact Rem.head | apply Rem.tail)) ?_ | exact Sbp.app | refine Sbp.skip ?_ | exact List.sublist_append_left _ _ | exact List.sublist_append_right _ _)), ?_⟩
  refine RT2.take2 (i := 22) rfl (by kernel_rfl) rfl (QO.stradd (by rfl) (by rfl) (by simp only [List.length_append, List.length_cons, List.length_nil]; omega)) ?_
  refine RT2.take1v (i := 23) rfl (by kernel_rfl) rfl (QO.stradd (by rfl) (by rfl) (by simp only [List.length_append, List.length_cons, List.length_nil]; omega)) (congrArg sv (head_ap x y aw ah)) ?_
  refine RT2.oneX (i := 24) (by kernel_rfl) rfl (by kernel_rfl) ?_
  refine RS.callH (⟨g5, 109, [.pointer none, .slice none 0 0]⟩ :: ([] ++ [⟨g1, 34, [iv x, iv y, iv (aw : Int), iv (ah : Int), .slice (some ⟨bS, oS, none⟩) n c]⟩])) rfl (by rfl) ok62 (by rfl) (by repeat (first | exact List.Sublist.refl _ | exact List.nil_sublist _ | refine List.Sublist.cons_cons _ ?_ | refine List.Sublist.cons _ ?_ | exact Sbp.refl | exact Sbp.nil | refine Sbp.cons (by repeat (first | exact Rem.head | apply Rem.tail)) ?_ | exact Sbp.app | refine Sbp.skip ?_ | exact List.sublist_append_left _ _ | exact List.sublist_append_right _ _)) (fun w ho => writeS g5 (.pointer none) (.slice none 0 0) [] (headT x y aw ah ++ [10]) [] [⟨g1, 34, [iv x, iv y, iv (aw : Int), iv (ah : Int), .slice (some ⟨bS, oS, none⟩) n c]⟩] _ (.inl rfl) .nil (by have := head_len (w := aw) (h := ah) hx hy (by omega) (by omega); rw [List.length_append, List.length_nil, List.length_singleton]; omega)) ?_
  rintro _ _ ⟨u2, Hr2, rfl, rfl, hrow2⟩
  refine RS.sbpy (H2 := ⟨g5, 109, [.pointer (some ⟨g5, 0, none⟩), u2]⟩ :: ⟨g1, 34, [iv x, iv y, iv (aw : Int), iv (ah : Int), .slice (some ⟨bS, oS, none⟩) n c]⟩ :: Hr2) (Sbp.cons .head (sbp_rot2 _ _)) ?_
  refine RS.nil ⟨(by repeat (first | exact List.Sublist.refl _ | exact List.nil_sublist _ | refine List.Sublist.cons_cons _ ?_ | refine List.Sublist.cons _ ?_ | exact Sbp.refl | exact Sbp.nil | refine Sbp.cons (by repeat (first | exact Rem.head | apply Rem.tail)) ?_ | exact Sbp.app | refine Sbp.skip ?_ | exact List.sublist_append_left _ _ | exact List.sublist_append_right _ _)), ?_⟩
  refine RT2.done (by kernel_rfl) ?_
  refine thenC_n ?_
  refine CS.seq ?_
  refine CS.seq ?_
  refine CS.region ?_
  refine RS.q rfl (QO.fieldAddr fo34_1 (by rfl)) ?_
  first | (refine RS.q rfl (QO.load ty32 (by rfl) (by repeat (first | exact List.Mem.head _ | refine List.Mem.tail _ ?_)) (by rfl)) ?_) | (refine RS.q rfl (QO.loadO ty32 (by rfl) (by assumption)) ?_) | (refine RS.q rfl (QO.load ty32 (by rfl) (by repeat (first | exact List.Mem.head _ | refine List.Mem.tail _ ?_)) (by assumption)) ?_)
  refine RS.q rfl (QO.lenS Tryd.underlying32 (by rfl)) ?_
  refine RS.q rfl (QO.move) ?_
  refine RS.nil ?_
  refine thenC_n ?_
  refine CS.block ?_
  refine CS.loop (X := Nat × Value × HL) (6 :: 7 :: 8 :: 42 :: 43 :: 44 :: 45 :: 46 :: 47 :: 48 :: 49 :: 50 :: 51 :: 52 :: 53 :: 54 :: 55 :: 56 :: 57 :: 58 :: 59 :: 60 :: 61 :: 62 :: 63 :: 64 :: 65 :: 66 :: 67 :: []) (fun z => [(42, iv (z.1 : Int))]) (fun z => ⟨g5, 109, [.pointer (some ⟨g5, 0, none⟩), z.2.1]⟩ :: ⟨g1, 34, [iv x, iv y, iv (aw : Int), iv (ah : Int), .slice (some ⟨bS, oS, none⟩) n c]⟩ :: z.2.2) (fun z => z.1 ≤ n ∧ Row 5 1 z.2.1 (txT x y aw ah (fun i => xs.getD i 0) z.1).length (bc (txT x y aw ah (fun i => xs.getD i 0) z.1)) z.2.2) (fun z => n - z.1) (0, u2, Hr2) ⟨Nat.zero_le _, hrow2⟩ ?_ ?_ ?_
  · exact (by repeat (first | exact kn_nil | refine kn_cons (by rfl) ?_))
  · exact (by repeat (first | exact List.Sublist.refl _ | exact List.nil_sublist _ | refine List.Sublist.cons_cons _ ?_ | refine List.Sublist.cons _ ?_ | exact Sbp.refl | exact Sbp.nil | refine Sbp.cons (by repeat (first | exact Rem.head | apply Rem.tail)) ?_ | exact Sbp.app | refine Sbp.skip ?_ | exact List.sublist_append_left _ _ | exact List.sublist_append_right _ _))
  · intro z gj7 hz
    obtain ⟨i, u, Hr⟩ := z
    obtain ⟨hi, hrow⟩ := hz
    replace hi : i ≤ n := hi
    replace hrow : Row 5 1 u (txT x y aw ah (fun i => xs.getD i 0) i).length (bc (txT x y aw ah (fun i => xs.getD i 0) i)) Hr := hrow
    have htl := tx_len (ys := (fun i => xs.getD i 0)) (i := i) hx hy (show aw ≤ 1000 by omega) (show ah ≤ 1000 by omega)
    show CS _ _ _ _ _ (puts (mix _ _ _) [(42, iv (i : Int))]) (⟨g5, 109, [.pointer (some ⟨g5, 0, none⟩), u]⟩ :: ⟨g1, 34, [iv x, iv y, iv (aw : Int), iv (ah : Int), .slice (some ⟨bS, oS, none⟩) n c]⟩ :: Hr)
    refine CS.seq ?_
    refine CS.region ?_
    refine RS.q rfl (QO.lss (by rfl) (by rfl)) ?_
    refine RS.nil ?_
    refine thenC_n ?_
    refine CS.seq ?_
    refine CS.cond (by rfl) (fun hb0 => ?_) (fun hb0 => ?_)
    · have hb0p := of_decide_eq_true hb0
      refine CS.skip ?_
      refine thenC_n ?_
      refine CS.seq ?_
      refine CS.block ?_
      refine CS.seq ?_
      refine CS.region ?_
      refine RS.q rfl (QO.move) ?_
      first | (refine RS.q rfl (QO.idx0 Tryd.underlying32 ty36 (by rfl) (by rfl) (by rfl) (by omega)) ?_) | (refine RS.q rfl (QO.idxn Tryd.underlying32 ty36 (by rfl) (by rfl) (by rfl) (by omega)) ?_) | (refine RS.q rfl (QO.idx1 Tryd.underlying32 ty36 (by rfl) (by rfl) (by omega) (by omega)) ?_)
      refine RS.q rfl (QO.loadO ty36 (by rfl) (hcS i _ (xs_at (show i < xs.length by omega)))) ?_
      refine RS.q rfl (QO.assign) ?_
      refine RS.q rfl (QO.assign) ?_
      refine RS.nil ?_
      refine thenC_n ?_
      refine CS.seq ?_
      refine CS.region ?_
      refine RS.q rfl (QO.move) ?_
      refine RS.call rfl (by rfl) ok77 (by rfl) (fun w ho => hexP (xs.getD i 0) _ (h32 i)) ?_
      rintro _ _ ⟨rfl, rfl⟩
      refine RS.sbpy (H2 := ⟨g5, 109, [.pointer (some ⟨g5, 0, none⟩), u]⟩ :: (Hr ++ [⟨g1, 34, [iv x, iv y, iv (aw : Int), iv (ah : Int), .slice (some ⟨bS, oS, none⟩) n c]⟩])) (Sbp.cons .head (sbp_rot _ _)) ?_
      refine RS.callH (⟨g5, 109, [.pointer (some ⟨g5, 0, none⟩), u]⟩ :: (Hr ++ [⟨g1, 34, [iv x, iv y, iv (aw : Int), iv (ah : Int), .slice (some ⟨bS, oS, none⟩) n c]⟩])) rfl (by rfl) ok62 (by rfl) (by repeat (first | exact List.Sublist.refl _ | exact List.nil_sublist _ | refine List.Sublist.cons_cons _ ?_ | refine List.Sublist.cons _ ?_ | exact Sbp.refl | exact Sbp.nil | refine Sbp.cons (by repeat (first | exact Rem.head | apply Rem.tail)) ?_ | exact Sbp.app | refine Sbp.skip ?_ | exact List.sublist_append_left _ _ | exact List.sublist_append_right _ _)) (fun w ho => writeS g5 (.pointer (some ⟨g5, 0, none⟩)) u (txT x y aw ah (fun i => xs.getD i 0) i) (hexW (xs.getD i 0)) Hr [⟨g1, 34, [iv x, iv y, iv (aw : Int), iv (ah : Int), .slice (some ⟨bS, oS, none⟩) n c]⟩] _ (.inr rfl) hrow (by rw [hexW_len]; omega)) ?_
      rintro _ _ ⟨u3, Hr3, rfl, rfl, hrow3⟩
      refine RS.sbpy (H2 := ⟨g5, 109, [.pointer (some ⟨g5, 0, none⟩), u3]⟩ :: ⟨g1, 34, [iv x, iv y, iv (aw : Int), iv (ah : Int), .slice (some ⟨bS, oS, none⟩) n c]⟩ :: Hr3) (Sbp.cons .head (sbp_rot2 _ _)) ?_
      refine RS.nil ?_
      refine thenC_n ?_
      refine CS.seq ?_
      refine CS.region ?_
      refine RS.q rfl (QO.move) ?_
      first | (refine RS.qv rfl (QO.add (by rfl) (by rfl) (by omega) (by omega)) (congrArg iv (show (i : Int) + 1 = ((i + 1 : Nat) : Int) by omega)) ?_) | (refine RS.qv rfl (QO.ibin (by rfl) (by rfl) trivial) (congrArg iv (show (i : Int) + 1 = ((i + 1 : Nat) : Int) by omega)) ?_)
      refine RS.q rfl (QO.assign) ?_
      refine RS.nil ?_
      refine thenC_n ?_
      refine CS.block ?_
      refine CS.seq ?_
      refine CS.region ?_
      refine RS.q rfl (QO.move) ?_
      refine RS.q rfl (QO.fieldAddr fo34_0 (by rfl)) ?_
      refine RS.q rfl (QO.fieldAddr fo31_2 (by rfl)) ?_
      first | (refine RS.q rfl (QO.load ty3 (by rfl) (by repeat (first | exact List.Mem.head _ | refine List.Mem.tail _ ?_)) (by rfl)) ?_) | (refine RS.q rfl (QO.loadO ty3 (by rfl) (by assumption)) ?_) | (refine RS.q rfl (QO.load ty3 (by rfl) (by repeat (first | exact List.Mem.head _ | refine List.Mem.tail _ ?_)) (by assumption)) ?_)
      first | (refine RS.qv rfl (QO.mul (by rfl) (by rfl) (by omega) (by omega)) (congrArg iv (show (4 : Int) * (aw : Int) = ((4 * aw : Nat) : Int) by omega)) ?_) | (refine RS.qv rfl (QO.ibin (by rfl) (by rfl) trivial) (congrArg iv (show (4 : Int) * (aw : Int) = ((4 * aw : Nat) : Int) by omega)) ?_)
      refine RS.qv rfl (QO.rem (by rfl) (by rfl) (by omega)) (congrArg iv (tmodQ (i + 1) (4 * aw))) ?_
      refine RS.q rfl (QO.eql (by rfl) (by rfl)) ?_
      refine RS.q rfl (QO.assign) ?_
      refine RS.nil ?_
      refine thenC_n ?_
      refine CS.cond (by rfl) (fun hb1 => ?_) (fun hb1 => ?_)
      · have hb1p := eq_of_beq hb1
        refine CS.region ?_
        refine RS.sbpy (H2 := ⟨g5, 109, [.pointer (some ⟨g5, 0, none⟩), u3]⟩ :: (Hr3 ++ [⟨g1, 34, [iv x, iv y, iv (aw : Int), iv (ah : Int), .slice (some ⟨bS, oS, none⟩) n c]⟩])) (Sbp.cons .head (sbp_rot _ _)) ?_
        refine RS.callH (⟨g5, 109, [.pointer (some ⟨g5, 0, none⟩), u3]⟩ :: (Hr3 ++ [⟨g1, 34, [iv x, iv y, iv (aw : Int), iv (ah : Int), .slice (some ⟨bS, oS, none⟩) n c]⟩])) rfl (by rfl) ok62 (by rfl) (by repeat (first | exact List.Sublist.refl _ | exact List.nil_sublist _ | refine List.Sublist.cons_cons _ ?_ | refine List.Sublist.cons _ ?_ | exact Sbp.refl | exact Sbp.nil | refine Sbp.cons (by repeat (first | exact Rem.head | apply Rem.tail)) ?_ | exact Sbp.app | refine Sbp.skip ?_ | exact List.sublist_append_left _ _ | exact List.sublist_append_right _ _)) (fun w ho => writeS g5 (.pointer (some ⟨g5, 0, none⟩)) u3 (txT x y aw ah (fun i => xs.getD i 0) i ++ hexW (xs.getD i 0)) ([10]) Hr3 [⟨g1, 34, [iv x, iv y, iv (aw : Int), iv (ah : Int), .slice (some ⟨bS, oS, none⟩) n c]⟩] _ (.inr rfl) hrow3 (by rw [List.length_append, hexW_len]; (try simp only [List.length_cons, List.length_nil]); omega)) ?_
        rintro _ _ ⟨u4, Hr4, rfl, rfl, hrow4⟩
        refine RS.sbpy (H2 := ⟨g5, 109, [.pointer (some ⟨g5, 0, none⟩), u4]⟩ :: ⟨g1, 34, [iv x, iv y, iv (aw : Int), iv (ah : Int), .slice (some ⟨bS, oS, none⟩) n c]⟩ :: Hr4) (Sbp.cons .head (sbp_rot2 _ _)) ?_
        refine RS.nil ?_
        refine blockC_n ?_
        refine blockC_n ?_
        refine thenC_n ?_
        refine CS.region ?_
        first | (refine RS.q rfl (QO.add (by rfl) (by rfl) (by omega) (by omega)) ?_) | (refine RS.q rfl (QO.ibin (by rfl) (by rfl) trivial) ?_)
        refine RS.q rfl (QO.move) ?_
        refine RS.nil ?_
        refine loopQ_n (by intro t ht; repeat (first | with_reducible exact rfl | exact frame_puts ht (frame_mix ht) _ rfl | (refine frame_put rfl ht ?_) | (refine frame_puts ht ?_ _ rfl) | exact frame_mix ht | (refine frame_mix2 rfl ht ?_) | exact rfl)) ?_
        have hsep := sep_nl (w := aw) (k := i + 1) (by omega)
        exact ⟨(i + 1, u4, Hr4), ⟨by show i + 1 ≤ n; omega, row_txt hrow4 (tx_succ x y aw ah (fun i => xs.getD i 0) i hsep)⟩, by show n - (i + 1) < n - i; omega, kn_cons (congrArg iv (by show (i : Int) + 1 = ((i + 1 : Nat) : Int); omega)) kn_nil, (by repeat (first | exact List.Sublist.refl _ | exact List.nil_sublist _ | refine List.Sublist.cons_cons _ ?_ | refine List.Sublist.cons _ ?_ | exact Sbp.refl | exact Sbp.nil | refine Sbp.cons (by repeat (first | exact Rem.head | apply Rem.tail)) ?_ | exact Sbp.app | refine Sbp.skip ?_ | exact List.sublist_append_left _ _ | exact List.sublist_append_right _ _))⟩
      · have hb1p := ne_of_beq_false hb1
        refine CS.seq ?_
        refine CS.region ?_
        refine RS.q rfl (QO.move) ?_
        refine RS.qv rfl (QO.rem (by rfl) (by rfl) (by omega)) (congrArg iv (tmodQ (i + 1) 4)) ?_
        refine RS.q rfl (QO.eql (by rfl) (by rfl)) ?_
        refine RS.q rfl (QO.assign) ?_
        refine RS.nil ?_
        refine thenC_n ?_
        refine CS.cond (by rfl) (fun hb2 => ?_) (fun hb2 => ?_)
        · have hb2p := eq_of_beq hb2
          refine CS.region ?_
          refine RS.sbpy (H2 := ⟨g5, 109, [.pointer (some ⟨g5, 0, none⟩), u3]⟩ :: (Hr3 ++ [⟨g1, 34, [iv x, iv y, iv (aw : Int), iv (ah : Int), .slice (some ⟨bS, oS, none⟩) n c]⟩])) (Sbp.cons .head (sbp_rot _ _)) ?_
          refine RS.callH (⟨g5, 109, [.pointer (some ⟨g5, 0, none⟩), u3]⟩ :: (Hr3 ++ [⟨g1, 34, [iv x, iv y, iv (aw : Int), iv (ah : Int), .slice (some ⟨bS, oS, none⟩) n c]⟩])) rfl (by rfl) ok62 (by rfl) (by repeat (first | exact List.Sublist.refl _ | exact List.nil_sublist _ | refine List.Sublist.cons_cons _ ?_ | refine List.Sublist.cons _ ?_ | exact Sbp.refl | exact Sbp.nil | refine Sbp.cons (by repeat (first | exact Rem.head | apply Rem.tail)) ?_ | exact Sbp.app | refine Sbp.skip ?_ | exact List.sublist_append_left _ _ | exact List.sublist_append_right _ _)) (fun w ho => writeS g5 (.pointer (some ⟨g5, 0, none⟩)) u3 (txT x y aw ah (fun i => xs.getD i 0) i ++ hexW (xs.getD i 0)) (bar) Hr3 [⟨g1, 34, [iv x, iv y, iv (aw : Int), iv (ah : Int), .slice (some ⟨bS, oS, none⟩) n c]⟩] _ (.inr rfl) hrow3 (by unfold bar; rw [List.length_append, hexW_len]; (try simp only [List.length_cons, List.length_nil]); omega)) ?_
          rintro _ _ ⟨u4, Hr4, rfl, rfl, hrow4⟩
          refine RS.sbpy (H2 := ⟨g5, 109, [.pointer (some ⟨g5, 0, none⟩), u4]⟩ :: ⟨g1, 34, [iv x, iv y, iv (aw : Int), iv (ah : Int), .slice (some ⟨bS, oS, none⟩) n c]⟩ :: Hr4) (Sbp.cons .head (sbp_rot2 _ _)) ?_
          refine RS.nil ?_
          refine blockC_n ?_
          refine blockC_n ?_
          refine thenC_n ?_
          refine CS.region ?_
          first | (refine RS.q rfl (QO.add (by rfl) (by rfl) (by omega) (by omega)) ?_) | (refine RS.q rfl (QO.ibin (by rfl) (by rfl) trivial) ?_)
          refine RS.q rfl (QO.move) ?_
          refine RS.nil ?_
          refine loopQ_n (by intro t ht; repeat (first | with_reducible exact rfl | exact frame_puts ht (frame_mix ht) _ rfl | (refine frame_put rfl ht ?_) | (refine frame_puts ht ?_ _ rfl) | exact frame_mix ht | (refine frame_mix2 rfl ht ?_) | exact rfl)) ?_
          have hsep := sep_bar (w := aw) (k := i + 1) (by omega) (by omega)
          exact ⟨(i + 1, u4, Hr4), ⟨by show i + 1 ≤ n; omega, row_txt hrow4 (tx_succ x y aw ah (fun i => xs.getD i 0) i hsep)⟩, by show n - (i + 1) < n - i; omega, kn_cons (congrArg iv (by show (i : Int) + 1 = ((i + 1 : Nat) : Int); omega)) kn_nil, (by repeat (first | exact List.Sublist.refl _ | exact List.nil_sublist _ | refine List.Sublist.cons_cons _ ?_ | refine List.Sublist.cons _ ?_ | exact Sbp.refl | exact Sbp.nil | refine Sbp.cons (by repeat (first | exact Rem.head | apply Rem.tail)) ?_ | exact Sbp.app | refine Sbp.skip ?_ | exact List.sublist_append_left _ _ | exact List.sublist_append_right _ _))⟩
        · have hb2p := ne_of_beq_false hb2
          refine CS.region ?_
          refine RS.sbpy (H2 := ⟨g5, 109, [.pointer (some ⟨g5, 0, none⟩), u3]⟩ :: (Hr3 ++ [⟨g1, 34, [iv x, iv y, iv (aw : Int), iv (ah : Int), .slice (some ⟨bS, oS, none⟩) n c]⟩])) (Sbp.cons .head (sbp_rot _ _)) ?_
          refine RS.callH (⟨g5, 109, [.pointer (some ⟨g5, 0, none⟩), u3]⟩ :: (Hr3 ++ [⟨g1, 34, [iv x, iv y, iv (aw : Int), iv (ah : Int), .slice (some ⟨bS, oS, none⟩) n c]⟩])) rfl (by rfl) ok62 (by rfl) (by repeat (first | exact List.Sublist.refl _ | exact List.nil_sublist _ | refine List.Sublist.cons_cons _ ?_ | refine List.Sublist.cons _ ?_ | exact Sbp.refl | exact Sbp.nil | refine Sbp.cons (by repeat (first | exact Rem.head | apply Rem.tail)) ?_ | exact Sbp.app | refine Sbp.skip ?_ | exact List.sublist_append_left _ _ | exact List.sublist_append_right _ _)) (fun w ho => writeS g5 (.pointer (some ⟨g5, 0, none⟩)) u3 (txT x y aw ah (fun i => xs.getD i 0) i ++ hexW (xs.getD i 0)) ([32]) Hr3 [⟨g1, 34, [iv x, iv y, iv (aw : Int), iv (ah : Int), .slice (some ⟨bS, oS, none⟩) n c]⟩] _ (.inr rfl) hrow3 (by rw [List.length_append, hexW_len]; (try simp only [List.length_cons, List.length_nil]); omega)) ?_
          rintro _ _ ⟨u4, Hr4, rfl, rfl, hrow4⟩
          refine RS.sbpy (H2 := ⟨g5, 109, [.pointer (some ⟨g5, 0, none⟩), u4]⟩ :: ⟨g1, 34, [iv x, iv y, iv (aw : Int), iv (ah : Int), .slice (some ⟨bS, oS, none⟩) n c]⟩ :: Hr4) (Sbp.cons .head (sbp_rot2 _ _)) ?_
          refine RS.nil ?_
          refine blockC_n ?_
          refine blockC_n ?_
          refine thenC_n ?_
          refine CS.region ?_
          first | (refine RS.q rfl (QO.add (by rfl) (by rfl) (by omega) (by omega)) ?_) | (refine RS.q rfl (QO.ibin (by rfl) (by rfl) trivial) ?_)
          refine RS.q rfl (QO.move) ?_
          refine RS.nil ?_
          refine loopQ_n (by intro t ht; repeat (first | with_reducible exact rfl | exact frame_puts ht (frame_mix ht) _ rfl | (refine frame_put rfl ht ?_) | (refine frame_puts ht ?_ _ rfl) | exact frame_mix ht | (refine frame_mix2 rfl ht ?_) | exact rfl)) ?_
          have hsep := sep_sp (w := aw) (k := i + 1) (by omega) (by omega)
          exact ⟨(i + 1, u4, Hr4), ⟨by show i + 1 ≤ n; omega, row_txt hrow4 (tx_succ x y aw ah (fun i => xs.getD i 0) i hsep)⟩, by show n - (i + 1) < n - i; omega, kn_cons (congrArg iv (by show (i : Int) + 1 = ((i + 1 : Nat) : Int); omega)) kn_nil, (by repeat (first | exact List.Sublist.refl _ | exact List.nil_sublist _ | refine List.Sublist.cons_cons _ ?_ | refine List.Sublist.cons _ ?_ | exact Sbp.refl | exact Sbp.nil | refine Sbp.cons (by repeat (first | exact Rem.head | apply Rem.tail)) ?_ | exact Sbp.app | refine Sbp.skip ?_ | exact List.sublist_append_left _ _ | exact List.sublist_append_right _ _))⟩
    · have hb0p := of_decide_eq_false hb0
      refine CS.exit ?_
      refine thenC_x ?_
      refine loopQ_x ?_
      refine blockC_x ?_
      refine thenC_n ?_
      refine CS.seq ?_
      refine CS.region ?_
      refine RS.callH (⟨g5, 109, [.pointer (some ⟨g5, 0, none⟩), u]⟩ :: Hr) rfl (by rfl) ok64 (by rfl) (by repeat (first | exact List.Sublist.refl _ | exact List.nil_sublist _ | refine List.Sublist.cons_cons _ ?_ | refine List.Sublist.cons _ ?_ | exact Sbp.refl | exact Sbp.nil | refine Sbp.cons (by repeat (first | exact Rem.head | apply Rem.tail)) ?_ | exact Sbp.app | refine Sbp.skip ?_ | exact List.sublist_append_left _ _ | exact List.sublist_append_right _ _)) (fun w ho => stringB g5 (.pointer (some ⟨g5, 0, none⟩)) u (txT x y aw ah (fun i => xs.getD i 0) i) Hr _ hrow (tx_ne _ _ _ _ _ _) (by omega)) ?_
      rintro _ _ ⟨rfl, rfl⟩
      refine RS.q rfl (QO.assign) ?_
      refine RS.q rfl (QO.assign) ?_
      refine RS.nil ?_
      refine thenC_n ?_
      refine CS.ret ?_
      refine retQ.mk (H' := []) (.inr rfl) (RVs.tmp (by rfl) (RVs.tmp (by rfl) RVs.nil)) (List.nil_sublist _) ?_
      exact ⟨congrArg (fun q => Value.tuple #[sv q, iv 0]) (prt_v (by omega)), rfl⟩

set_option maxHeartbeats 4000000 in
set_option maxRecDepth 100000 in
theorem rprint_ (x y : Int) (aw ah : Nat) (A : Option Addr) (n c : Nat) (xs : List Nat) (W : World) (hn : xs.length = n) (hA : FS W A xs) (hfr : frErr x y aw ah n = 0) (hn4 : n = 4 * (aw * ah)) (hx : -1000000 ≤ x ∧ x ≤ 1000000) (hy : -1000000 ≤ y ∧ y ≤ 1000000) (hw : 1 ≤ aw ∧ aw ≤ 8) (hh : 1 ≤ ah ∧ ah ≤ 8) (hwh : 1 ≤ aw * ah ∧ aw * ah ≤ 64) (h32 : ∀ i, xs.getD i 0 < 4294967296) (ht : Lib.TabIs Tryd.prog W "internal/strconv.uint64pow10" .u64 Lib.pow10Tab) (hdb : W.cell? ⟨8, 15, none⟩ = some (.int .u8 4)) : Fn_ Tryd.prog 57 #[.agg #[iv x, iv y, iv (aw : Int), iv (ah : Int), .slice A n c]] W (fun v H => v = sv (prtT x y aw ah (fun i => xs.getD i 0)) ∧ H = []) := by
  have hx0 := hA (by omega)
  obtain ⟨bS, oS, hAA, hcS⟩ := hx0
  subst hAA
  have hlx := Lib.itoa_length_le x (by omega) (by omega)
  have hly := Lib.itoa_length_le y (by omega) (by omega)
  have hlw := Lib.itoa_length_le (aw : Int) (by omega) (by omega)
  have hlh := Lib.itoa_length_le (ah : Int) (by omega) (by omega)
  refine Fn_.intro Tryd.func57 rfl rfl (by rfl) ?_
  refine CS.seq ?_
  refine CS.region ?_
  refine RS.box rfl (by rfl) (by rfl) ?_
  intro g1
  refine RS.q rfl (QO.assign) ?_
  refine RS.nil ?_
  refine thenC_n ?_
  refine CS.seq ?_
  refine CS.region ?_
  refine RS.alloc rfl ty109 ?_
  intro g3
  refine RS.nil ?_
  refine thenC_n ?_
  refine CS.seq ?_
  refine CS.draw2 [24] (HT := [⟨g1, 34, [iv x, iv y, iv (aw : Int), iv (ah : Int), .slice (some ⟨bS, oS, none⟩) n c]⟩]) (by repeat (first | exact List.Sublist.refl _ | exact List.nil_sublist _ | refine List.Sublist.cons_cons _ ?_ | refine List.Sublist.cons _ ?_ | exact Sbp.refl | exact Sbp.nil | refine Sbp.cons (by repeat (first | exact Rem.head | apply Rem.tail)) ?_ | exact Sbp.app | refine Sbp.skip ?_ | exact List.sublist_append_left _ _ | exact List.sublist_append_right _ _)) rfl (by kernel_rfl) ?_
  refine RT2.take2 (i := 0) rfl (by kernel_rfl) rfl (QO.fieldAddr fo34_0 (by rfl)) ?_
  refine RT2.take2 (i := 1) rfl (by kernel_rfl) rfl (QO.fieldAddr fo31_0 (by rfl)) ?_
  first | (refine RT2.take2 (i := 2) rfl (by kernel_rfl) rfl (QO.load ty3 (by rfl) (by repeat (first | exact List.Mem.head _ | refine List.Mem.tail _ ?_)) (by rfl)) ?_) | (refine RT2.take2 (i := 2) rfl (by kernel_rfl) rfl (QO.loadO ty3 (by rfl) (by assumption)) ?_) | (refine RT2.take2 (i := 2) rfl (by kernel_rfl) rfl (QO.load ty3 (by rfl) (by repeat (first | exact List.Mem.head _ | refine List.Mem.tail _ ?_)) (by assumption)) ?_)
  refine RT2.take2 (i := 6) rfl (by kernel_rfl) rfl (QO.fieldAddr fo34_0 (by rfl)) ?_
  refine RT2.take2 (i := 7) rfl (by kernel_rfl) rfl (QO.fieldAddr fo31_1 (by rfl)) ?_
  first | (refine RT2.take2 (i := 8) rfl (by kernel_rfl) rfl (QO.load ty3 (by rfl) (by repeat (first | exact List.Mem.head _ | refine List.Mem.tail _ ?_)) (by rfl)) ?_) | (refine RT2.take2 (i := 8) rfl (by kernel_rfl) rfl (QO.loadO ty3 (by rfl) (by assumption)) ?_) | (refine RT2.take2 (i := 8) rfl (by kernel_rfl) rfl (QO.load ty3 (by rfl) (by repeat (first | exact List.Mem.head _ | refine List.Mem.tail _ ?_)) (by assumption)) ?_)
  refine RT2.take2 (i := 12) rfl (by kernel_rfl) rfl (QO.fieldAddr fo34_0 (by rfl)) ?_
  refine RT2.take2 (i := 13) rfl (by kernel_rfl) rfl (QO.fieldAddr fo31_2 (by rfl)) ?_
  first | (refine RT2.take2 (i := 14) rfl (by kernel_rfl) rfl (QO.load ty3 (by rfl) (by repeat (first | exact List.Mem.head _ | refine List.Mem.tail _ ?_)) (by rfl)) ?_) | (refine RT2.take2 (i := 14) rfl (by kernel_rfl) rfl (QO.loadO ty3 (by rfl) (by assumption)) ?_) | (refine RT2.take2 (i := 14) rfl (by kernel_rfl) rfl (QO.load ty3 (by rfl) (by repeat (first | exact List.Mem.head _ | refine List.Mem.tail _ ?_)) (by assumption)) ?_)
  refine RT2.take2 (i := 18) rfl (by kernel_rfl) rfl (QO.fieldAddr fo34_0 (by rfl)) ?_
  refine RT2.take2 (i := 19) rfl (by kernel_rfl) rfl (QO.fieldAddr fo31_3 (by rfl)) ?_
  first | (refine RT2.take2 (i := 20) rfl (by kernel_rfl) rfl (QO.load ty3 (by rfl) (by repeat (first | exact List.Mem.head _ | refine List.Mem.tail _ ?_)) (by rfl)) ?_) | (refine RT2.take2 (i := 20) rfl (by kernel_rfl) rfl (QO.loadO ty3 (by rfl) (by assumption)) ?_) | (refine RT2.take2 (i := 20) rfl (by kernel_rfl) rfl (QO.load ty3 (by rfl) (by repeat (first | exact List.Mem.head _ | refine List.Mem.tail _ ?_)) (by assumption)) ?_)
  refine RT2.one (i := 3) (by kernel_rfl) rfl ?_
  refine RS.call rfl (by rfl) ok76 (by rfl) (fun w ho => itoaC x _ (by omega) (ho.tab (g := 2) (by kernel_rfl) ht)) ?_
  rintro _ _ ⟨rfl, rfl⟩
  refine RS.nil ⟨(by repeat (first | exact List.Sublist.refl _ | exact List.nil_sublist _ | refine List.Sublist.cons_cons _ ?_ | refine List.Sublist.cons _ ?_ | exact Sbp.refl | exact Sbp.nil | refine Sbp.cons (by repeat (first | exact Rem.head | apply Rem.tail)) ?_ | exact Sbp.app | refine Sbp.skip ?_ | exact List.sublist_append_left _ _ | exact List.sublist_append_right _ _)), (by repeat (first | exact List.Sublist.refl _ | exact List.nil_sublist _ | refine List.Sublist.cons_cons _ ?_ | refine List.Sublist.cons _ ?_ | exact Sbp.refl | exact Sbp.nil | refine Sbp.cons (by repeat (first | exact Rem.head | apply Rem.tail)) ?_ | exact Sbp.app | refine Sbp.skip ?_ | exact List.sublist_append_left _ _ | exact List.sublist_append_right _ _)), ?_⟩
  refine RT2.take2 (i := 4) rfl (by kernel_rfl) rfl (QO.stradd (by rfl) (by rfl) (by simp only [List.length_append, List.length_cons, List.length_nil]; omega)) ?_
  refine RT2.take2 (i := 5) rfl (by kernel_rfl) rfl (QO.stradd (by rfl) (by rfl) (by simp only [List.length_append, List.length_cons, List.length_nil]; omega)) ?_
  refine RT2.one (i := 9) (by kernel_rfl) rfl ?_
  refine RS.call rfl (by rfl) ok76 (by rfl) (fun w ho => itoaC y _ (by omega) (ho.tab (g := 2) (by kernel_rfl) ht)) ?_
  rintro _ _ ⟨rfl, rfl⟩
  refine RS.nil ⟨(by repeat (first | exact List.Sublist.refl _ | exact List.nil_sublist _ | refine List.Sublist.cons_cons _ ?_ | refine List.Sublist.cons _ ?_ | exact Sbp.refl | exact Sbp.nil | refine Sbp.cons (by repeat (first | exact Rem.head | apply Rem.tail)) ?_ | exact Sbp.app | refine Sbp.skip ?_ | exact List.sublist_append_left _ _ | exact List.sublist_append_right _ _)), (by repeat (first | exact List.Sublist.refl _ | exact List.nil_sublist _ | refine List.Sublist.cons_cons _ ?_ | refine List.Sublist.cons _ ?_ | exact Sbp.refl | exact Sbp.nil | refine Sbp.cons (by repeat (first | exact Rem.head | apply Rem.tail)) ?_ | exact Sbp.app | refine Sbp.skip ?_ | exact List.sublist_append_left _ _ | exact List.sublist_append_right _ _)), ?_⟩
  refine RT2.take2 (i := 10) rfl (by kernel_rfl) rfl (QO.stradd (by rfl) (by rfl) (by simp only [List.length_append, List.length_cons, List.length_nil]; omega)) ?_
  refine RT2.take2 (i := 11) rfl (by kernel_rfl) rfl (QO.stradd (by rfl) (by rfl) (by simp only [List.length_append, List.length_cons, List.length_nil]; omega)) ?_
  refine RT2.one (i := 15) (by kernel_rfl) rfl ?_
  refine RS.call rfl (by rfl) ok76 (by rfl) (fun w ho => itoaC (aw : Int) _ (by omega) (ho.tab (g := 2) (by kernel_rfl) ht)) ?_
  rintro _ _ ⟨rfl, rfl⟩
  refine RS.nil ⟨(by repeat (first | exact List.Sublist.refl _ | exact List.nil_sublist _ | refine List.Sublist.cons_cons _ ?_ | refine List.Sublist.cons _ ?_ | exact Sbp.refl | exact Sbp.nil | refine Sbp.cons (by repeat (first | exact Rem.head | apply Rem.tail)) ?_ | exact Sbp.app | refine Sbp.skip ?_ | exact List.sublist_append_left _ _ | exact List.sublist_append_right _ _)), (by repeat (first | exact List.Sublist.refl _ | exact List.nil_sublist _ | refine List.Sublist.cons_cons _ ?_ | refine List.Sublist.cons _ ?_ | exact Sbp.refl | exact Sbp.nil | refine Sbp.cons (by repeat (first | exact Rem.head | apply Rem.tail)) ?_ | exact Sbp.app | refine Sbp.skip ?_ | exact List.sublist_append_left _ _ | exact List.sublist_append_right _ _)), ?_⟩
  refine RT2.take2 (i := 16) rfl (by kernel_rfl) rfl (QO.stradd (by rfl) (by rfl) (by simp only [List.length_append, List.length_cons, List.length_nil]; omega)) ?_
  refine RT2.take2 (i := 17) rfl (by kernel_rfl) rfl (QO.stradd (by rfl) (by rfl) (by simp only [List.length_append, List.length_cons, List.length_nil]; omega)) ?_
  refine RT2.one (i := 21) (by kernel_rfl) rfl ?_
  refine RS.call rfl (by rfl) ok76 (by rfl) (fun w ho => itoaC (ah : Int) _ (by omega) (ho.tab (g := 2) (by kernel_rfl) ht)) ?_
  rintro _ _ ⟨rfl, rfl⟩
  refine RS.nil ⟨(by repeat (first | exact List.Sublist.refl _ | exact List.nil_sublist _ | refine List.Sublist.cons_cons _ ?_ | refine List.Sublist.cons _ ?_ | exact Sbp.refl | exact Sbp.nil | refine Sbp.cons (by repeat (first | exact Rem.head | apply Rem.tail)) ?_ | exact Sbp.app | refine Sbp.skip ?_ | exact List.sublist_append_left _ _ | exact List.sublist_append_right _ _)), (by repeat (first | exact List.Sublist.refl _ | exact List.nil_sublist _ | refine List.Sublist.cons_cons _ ?_ | refine List.Sublist.cons _ ?_ | exact Sbp.refl | exact Sbp.nil | refine Sbp.cons (by repeat (first | exact Rem.head | apply Rem.tail)) ?_ | exact Sbp.app | refine Sbp.skip ?_ | exact List.sublist_append_left _ _ | exact List.sublist_append_right _ _)), ?_⟩
  refine RT2.take2 (i := 22) rfl (by kernel_rfl) rfl (QO.stradd (by rfl) (by rfl) (by simp only [List.length_append, List.length_cons, List.length_nil]; omega)) ?_
  refine RT2.take1v (i := 23) rfl (by kernel_rfl) rfl (QO.stradd (by rfl) (by rfl) (by simp only [List.length_append, List.length_cons, List.length_nil]; omega)) (congrArg sv (head_ap x y aw ah)) ?_
  refine RT2.oneX (i := 24) (by kernel_rfl) rfl (by kernel_rfl) ?_
  refine RS.callH (⟨g3, 109, [.pointer none, .slice none 0 0]⟩ :: ([] ++ [⟨g1, 34, [iv x, iv y, iv (aw : Int), iv (ah : Int), .slice (some ⟨bS, oS, none⟩) n c]⟩])) rfl (by rfl) ok62 (by rfl) (by repeat (first | exact List.Sublist.refl _ | exact List.nil_sublist _ | refine List.Sublist.cons_cons _ ?_ | refine List.Sublist.cons _ ?_ | exact Sbp.refl | exact Sbp.nil | refine Sbp.cons (by repeat (first | exact Rem.head | apply Rem.tail)) ?_ | exact Sbp.app | refine Sbp.skip ?_ | exact List.sublist_append_left _ _ | exact List.sublist_append_right _ _)) (fun w ho => writeS g3 (.pointer none) (.slice none 0 0) [] (headT x y aw ah ++ [10]) [] [⟨g1, 34, [iv x, iv y, iv (aw : Int), iv (ah : Int), .slice (some ⟨bS, oS, none⟩) n c]⟩] _ (.inl rfl) .nil (by have := head_len (w := aw) (h := ah) hx hy (by omega) (by omega); rw [List.length_append, List.length_nil, List.length_singleton]; omega)) ?_
  rintro _ _ ⟨u2, Hr2, rfl, rfl, hrow2⟩
  refine RS.sbpy (H2 := ⟨g3, 109, [.pointer (some ⟨g3, 0, none⟩), u2]⟩ :: ⟨g1, 34, [iv x, iv y, iv (aw : Int), iv (ah : Int), .slice (some ⟨bS, oS, none⟩) n c]⟩ :: Hr2) (Sbp.cons .head (sbp_rot2 _ _)) ?_
  refine RS.nil ⟨(by repeat (first | exact List.Sublist.refl _ | exact List.nil_sublist _ | refine List.Sublist.cons_cons _ ?_ | refine List.Sublist.cons _ ?_ | exact Sbp.refl | exact Sbp.nil | refine Sbp.cons (by repeat (first | exact Rem.head | apply Rem.tail)) ?_ | exact Sbp.app | refine Sbp.skip ?_ | exact List.sublist_append_left _ _ | exact List.sublist_append_right _ _)), ?_⟩
  refine RT2.done (by kernel_rfl) ?_
  refine thenC_n ?_
  refine CS.seq ?_
  refine CS.seq ?_
  refine CS.region ?_
  refine RS.q rfl (QO.fieldAddr fo34_1 (by rfl)) ?_
  first | (refine RS.q rfl (QO.load ty32 (by rfl) (by repeat (first | exact List.Mem.head _ | refine List.Mem.tail _ ?_)) (by rfl)) ?_) | (refine RS.q rfl (QO.loadO ty32 (by rfl) (by assumption)) ?_) | (refine RS.q rfl (QO.load ty32 (by rfl) (by repeat (first | exact List.Mem.head _ | refine List.Mem.tail _ ?_)) (by assumption)) ?_)
  refine RS.q rfl (QO.lenS Tryd.underlying32 (by rfl)) ?_
  refine RS.q rfl (QO.move) ?_
  refine RS.nil ?_
  refine thenC_n ?_
  refine CS.block ?_
  refine CS.loop (X := Nat × Value × HL) (4 :: 5 :: 34 :: 35 :: 36 :: 37 :: 38 :: 39 :: 40 :: 41 :: 42 :: 43 :: 44 :: 45 :: 46 :: 47 :: 48 :: 49 :: 50 :: 51 :: 52 :: 53 :: 54 :: 55 :: 56 :: 57 :: 58 :: 59 :: 60 :: 61 :: 62 :: []) (fun z => [(34, iv (z.1 : Int))]) (fun z => ⟨g3, 109, [.pointer (some ⟨g3, 0, none⟩), z.2.1]⟩ :: ⟨g1, 34, [iv x, iv y, iv (aw : Int), iv (ah : Int), .slice (some ⟨bS, oS, none⟩) n c]⟩ :: z.2.2) (fun z => z.1 ≤ n ∧ Row 5 1 z.2.1 (txT x y aw ah (fun i => xs.getD i 0) z.1).length (bc (txT x y aw ah (fun i => xs.getD i 0) z.1)) z.2.2) (fun z => n - z.1) (0, u2, Hr2) ⟨Nat.zero_le _, hrow2⟩ ?_ ?_ ?_
  · exact (by repeat (first | exact kn_nil | refine kn_cons (by rfl) ?_))
  · exact (by repeat (first | exact List.Sublist.refl _ | exact List.nil_sublist _ | refine List.Sublist.cons_cons _ ?_ | refine List.Sublist.cons _ ?_ | exact Sbp.refl | exact Sbp.nil | refine Sbp.cons (by repeat (first | exact Rem.head | apply Rem.tail)) ?_ | exact Sbp.app | refine Sbp.skip ?_ | exact List.sublist_append_left _ _ | exact List.sublist_append_right _ _))
  · intro z gj4 hz
    obtain ⟨i, u, Hr⟩ := z
    obtain ⟨hi, hrow⟩ := hz
    replace hi : i ≤ n := hi
    replace hrow : Row 5 1 u (txT x y aw ah (fun i => xs.getD i 0) i).length (bc (txT x y aw ah (fun i => xs.getD i 0) i)) Hr := hrow
    have htl := tx_len (ys := (fun i => xs.getD i 0)) (i := i) hx hy (show aw ≤ 1000 by omega) (show ah ≤ 1000 by omega)
    show CS _ _ _ _ _ (puts (mix _ _ _) [(34, iv (i : Int))]) (⟨g3, 109, [.pointer (some ⟨g3, 0, none⟩), u]⟩ :: ⟨g1, 34, [iv x, iv y, iv (aw : Int), iv (ah : Int), .slice (some ⟨bS, oS, none⟩) n c]⟩ :: Hr)
    refine CS.seq ?_
    refine CS.region ?_
    refine RS.q rfl (QO.lss (by rfl) (by rfl)) ?_
    refine RS.nil ?_
    refine thenC_n ?_
    refine CS.seq ?_
    refine CS.cond (by rfl) (fun hb0 => ?_) (fun hb0 => ?_)
    · have hb0p := of_decide_eq_true hb0
      refine CS.skip ?_
      refine thenC_n ?_
      refine CS.seq ?_
      refine CS.block ?_
      refine CS.seq ?_
      refine CS.region ?_
      refine RS.q rfl (QO.move) ?_
      first | (refine RS.q rfl (QO.idx0 Tryd.underlying32 ty36 (by rfl) (by rfl) (by rfl) (by omega)) ?_) | (refine RS.q rfl (QO.idxn Tryd.underlying32 ty36 (by rfl) (by rfl) (by rfl) (by omega)) ?_) | (refine RS.q rfl (QO.idx1 Tryd.underlying32 ty36 (by rfl) (by rfl) (by omega) (by omega)) ?_)
      refine RS.q rfl (QO.loadO ty36 (by rfl) (hcS i _ (xs_at (show i < xs.length by omega)))) ?_
      refine RS.q rfl (QO.assign) ?_
      refine RS.q rfl (QO.assign) ?_
      refine RS.nil ?_
      refine thenC_n ?_
      refine CS.seq ?_
      refine CS.region ?_
      refine RS.q rfl (QO.move) ?_
      refine RS.call rfl (by rfl) ok123 (by rfl) (fun w ho => rhex (xs.getD i 0) _ (h32 i) (ho.old hdb)) ?_
      rintro _ _ ⟨rfl, rfl⟩
      refine RS.sbpy (H2 := ⟨g3, 109, [.pointer (some ⟨g3, 0, none⟩), u]⟩ :: (Hr ++ [⟨g1, 34, [iv x, iv y, iv (aw : Int), iv (ah : Int), .slice (some ⟨bS, oS, none⟩) n c]⟩])) (Sbp.cons .head (sbp_rot _ _)) ?_
      refine RS.callH (⟨g3, 109, [.pointer (some ⟨g3, 0, none⟩), u]⟩ :: (Hr ++ [⟨g1, 34, [iv x, iv y, iv (aw : Int), iv (ah : Int), .slice (some ⟨bS, oS, none⟩) n c]⟩])) rfl (by rfl) ok62 (by rfl) (by repeat (first | exact List.Sublist.refl _ | exact List.nil_sublist _ | refine List.Sublist.cons_cons _ ?_ | refine List.Sublist.cons _ ?_ | exact Sbp.refl | exact Sbp.nil | refine Sbp.cons (by repeat (first | exact Rem.head | apply Rem.tail)) ?_ | exact Sbp.app | refine Sbp.skip ?_ | exact List.sublist_append_left _ _ | exact List.sublist_append_right _ _)) (fun w ho => writeS g3 (.pointer (some ⟨g3, 0, none⟩)) u (txT x y aw ah (fun i => xs.getD i 0) i) (hexW (xs.getD i 0)) Hr [⟨g1, 34, [iv x, iv y, iv (aw : Int), iv (ah : Int), .slice (some ⟨bS, oS, none⟩) n c]⟩] _ (.inr rfl) hrow (by rw [hexW_len]; omega)) ?_
      rintro _ _ ⟨u3, Hr3, rfl, rfl, hrow3⟩
      refine RS.sbpy (H2 := ⟨g3, 109, [.pointer (some ⟨g3, 0, none⟩), u3]⟩ :: ⟨g1, 34, [iv x, iv y, iv (aw : Int), iv (ah : Int), .slice (some ⟨bS, oS, none⟩) n c]⟩ :: Hr3) (Sbp.cons .head (sbp_rot2 _ _)) ?_
      refine RS.nil ?_
      refine thenC_n ?_
      refine CS.block ?_
      refine CS.seq ?_
      refine CS.draw 13 rfl (by kernel_rfl) (by kernel_rfl) ?_
      refine RT.take (i := 0) rfl (by kernel_rfl) rfl (QO.move) ?_
      refine RT.take (i := 1) rfl (by kernel_rfl) rfl (QO.fieldAddr fo34_0 (by rfl)) ?_
      refine RT.take (i := 2) rfl (by kernel_rfl) rfl (QO.fieldAddr fo31_2 (by rfl)) ?_
      first | (refine RT.take (i := 3) rfl (by kernel_rfl) rfl (QO.load ty3 (by rfl) (by repeat (first | exact List.Mem.head _ | refine List.Mem.tail _ ?_)) (by rfl)) ?_) | (refine RT.take (i := 3) rfl (by kernel_rfl) rfl (QO.loadO ty3 (by rfl) (by assumption)) ?_) | (refine RT.take (i := 3) rfl (by kernel_rfl) rfl (QO.load ty3 (by rfl) (by repeat (first | exact List.Mem.head _ | refine List.Mem.tail _ ?_)) (by assumption)) ?_)
      first | (refine RT.takev (i := 4) rfl (by kernel_rfl) rfl (QO.mul (by rfl) (by rfl) (by omega) (by omega)) (congrArg iv (show (4 : Int) * (aw : Int) = ((4 * aw : Nat) : Int) by omega)) ?_) | (refine RT.takev (i := 4) rfl (by kernel_rfl) rfl (QO.ibin (by rfl) (by rfl) trivial) (congrArg iv (show (4 : Int) * (aw : Int) = ((4 * aw : Nat) : Int) by omega)) ?_)
      refine RT.takev (i := 5) rfl (by kernel_rfl) rfl (QO.rem (by rfl) (by rfl) (by omega)) (congrArg iv (tmodQ i (4 * aw))) ?_
      refine RT.take (i := 6) rfl (by kernel_rfl) rfl (QO.fieldAddr fo34_0 (by rfl)) ?_
      refine RT.take (i := 7) rfl (by kernel_rfl) rfl (QO.fieldAddr fo31_2 (by rfl)) ?_
      first | (refine RT.take (i := 8) rfl (by kernel_rfl) rfl (QO.load ty3 (by rfl) (by repeat (first | exact List.Mem.head _ | refine List.Mem.tail _ ?_)) (by rfl)) ?_) | (refine RT.take (i := 8) rfl (by kernel_rfl) rfl (QO.loadO ty3 (by rfl) (by assumption)) ?_) | (refine RT.take (i := 8) rfl (by kernel_rfl) rfl (QO.load ty3 (by rfl) (by repeat (first | exact List.Mem.head _ | refine List.Mem.tail _ ?_)) (by assumption)) ?_)
      first | (refine RT.takev (i := 9) rfl (by kernel_rfl) rfl (QO.mul (by rfl) (by rfl) (by omega) (by omega)) (congrArg iv (show (4 : Int) * (aw : Int) = ((4 * aw : Nat) : Int) by omega)) ?_) | (refine RT.takev (i := 9) rfl (by kernel_rfl) rfl (QO.ibin (by rfl) (by rfl) trivial) (congrArg iv (show (4 : Int) * (aw : Int) = ((4 * aw : Nat) : Int) by omega)) ?_)
      first | (refine RT.takev (i := 10) rfl (by kernel_rfl) rfl (QO.sub (by rfl) (by rfl) (by omega) (by omega)) (congrArg iv (show ((4 * aw : Nat) : Int) - 1 = ((4 * aw - 1 : Nat) : Int) by omega)) ?_) | (refine RT.takev (i := 10) rfl (by kernel_rfl) rfl (QO.ibin (by rfl) (by rfl) trivial) (congrArg iv (show ((4 * aw : Nat) : Int) - 1 = ((4 * aw - 1 : Nat) : Int) by omega)) ?_)
      refine RT.take (i := 11) rfl (by kernel_rfl) rfl (QO.eql (by rfl) (by rfl)) ?_
      refine RT.take (i := 12) rfl (by kernel_rfl) rfl (QO.assign) ?_
      refine RT.done (by kernel_rfl) ?_
      refine thenC_n ?_
      refine CS.cond (by rfl) (fun hb1 => ?_) (fun hb1 => ?_)
      · have hb1p := eq_of_beq hb1
        refine CS.region ?_
        refine RS.sbpy (H2 := ⟨g3, 109, [.pointer (some ⟨g3, 0, none⟩), u3]⟩ :: (Hr3 ++ [⟨g1, 34, [iv x, iv y, iv (aw : Int), iv (ah : Int), .slice (some ⟨bS, oS, none⟩) n c]⟩])) (Sbp.cons .head (sbp_rot _ _)) ?_
        refine RS.callH (⟨g3, 109, [.pointer (some ⟨g3, 0, none⟩), u3]⟩ :: (Hr3 ++ [⟨g1, 34, [iv x, iv y, iv (aw : Int), iv (ah : Int), .slice (some ⟨bS, oS, none⟩) n c]⟩])) rfl (by rfl) ok124 (by rfl) (by repeat (first | exact List.Sublist.refl _ | exact List.nil_sublist _ | refine List.Sublist.cons_cons _ ?_ | refine List.Sublist.cons _ ?_ | exact Sbp.refl | exact Sbp.nil | refine Sbp.cons (by repeat (first | exact Rem.head | apply Rem.tail)) ?_ | exact Sbp.app | refine Sbp.skip ?_ | exact List.sublist_append_left _ _ | exact List.sublist_append_right _ _)) (fun w ho => writeB g3 (.pointer (some ⟨g3, 0, none⟩)) u3 (txT x y aw ah (fun i => xs.getD i 0) i ++ hexW (xs.getD i 0)) (10) Hr3 [⟨g1, 34, [iv x, iv y, iv (aw : Int), iv (ah : Int), .slice (some ⟨bS, oS, none⟩) n c]⟩] _ (.inr rfl) hrow3 (by rw [List.length_append, hexW_len]; omega)) ?_
        rintro _ _ ⟨u4, Hr4, rfl, rfl, hrow4⟩
        refine RS.sbpy (H2 := ⟨g3, 109, [.pointer (some ⟨g3, 0, none⟩), u4]⟩ :: ⟨g1, 34, [iv x, iv y, iv (aw : Int), iv (ah : Int), .slice (some ⟨bS, oS, none⟩) n c]⟩ :: Hr4) (Sbp.cons .head (sbp_rot2 _ _)) ?_
        refine RS.nil ?_
        refine blockC_n ?_
        refine blockC_n ?_
        refine thenC_n ?_
        refine CS.region ?_
        first | (refine RS.q rfl (QO.add (by rfl) (by rfl) (by omega) (by omega)) ?_) | (refine RS.q rfl (QO.ibin (by rfl) (by rfl) trivial) ?_)
        refine RS.q rfl (QO.move) ?_
        refine RS.nil ?_
        refine loopQ_n (by intro t ht; repeat (first | with_reducible exact rfl | exact frame_puts ht (frame_mix ht) _ rfl | (refine frame_put rfl ht ?_) | (refine frame_puts ht ?_ _ rfl) | exact frame_mix ht | (refine frame_mix2 rfl ht ?_) | exact rfl)) ?_
        have hsep := sep_nl (w := aw) (k := i + 1) ((rem_last (i := i) (m := 4 * aw) (by omega)).1 (by omega))
        exact ⟨(i + 1, u4, Hr4), ⟨by show i + 1 ≤ n; omega, row_txt hrow4 (tx_succ x y aw ah (fun i => xs.getD i 0) i hsep)⟩, by show n - (i + 1) < n - i; omega, kn_cons (congrArg iv (by show (i : Int) + 1 = ((i + 1 : Nat) : Int); omega)) kn_nil, (by repeat (first | exact List.Sublist.refl _ | exact List.nil_sublist _ | refine List.Sublist.cons_cons _ ?_ | refine List.Sublist.cons _ ?_ | exact Sbp.refl | exact Sbp.nil | refine Sbp.cons (by repeat (first | exact Rem.head | apply Rem.tail)) ?_ | exact Sbp.app | refine Sbp.skip ?_ | exact List.sublist_append_left _ _ | exact List.sublist_append_right _ _))⟩
      · have hb1p := ne_of_beq_false hb1
        refine CS.seq ?_
        refine CS.region ?_
        refine RS.q rfl (QO.move) ?_
        refine RS.qv rfl (QO.rem (by rfl) (by rfl) (by omega)) (congrArg iv (tmodQ i 4)) ?_
        refine RS.q rfl (QO.eql (by rfl) (by rfl)) ?_
        refine RS.q rfl (QO.assign) ?_
        refine RS.nil ?_
        refine thenC_n ?_
        refine CS.cond (by rfl) (fun hb2 => ?_) (fun hb2 => ?_)
        · have hb2p := eq_of_beq hb2
          refine CS.region ?_
          refine RS.sbpy (H2 := ⟨g3, 109, [.pointer (some ⟨g3, 0, none⟩), u3]⟩ :: (Hr3 ++ [⟨g1, 34, [iv x, iv y, iv (aw : Int), iv (ah : Int), .slice (some ⟨bS, oS, none⟩) n c]⟩])) (Sbp.cons .head (sbp_rot _ _)) ?_
          refine RS.callH (⟨g3, 109, [.pointer (some ⟨g3, 0, none⟩), u3]⟩ :: (Hr3 ++ [⟨g1, 34, [iv x, iv y, iv (aw : Int), iv (ah : Int), .slice (some ⟨bS, oS, none⟩) n c]⟩])) rfl (by rfl) ok62 (by rfl) (by repeat (first | exact List.Sublist.refl _ | exact List.nil_sublist _ | refine List.Sublist.cons_cons _ ?_ | refine List.Sublist.cons _ ?_ | exact Sbp.refl | exact Sbp.nil | refine Sbp.cons (by repeat (first | exact Rem.head | apply Rem.tail)) ?_ | exact Sbp.app | refine Sbp.skip ?_ | exact List.sublist_append_left _ _ | exact List.sublist_append_right _ _)) (fun w ho => writeS g3 (.pointer (some ⟨g3, 0, none⟩)) u3 (txT x y aw ah (fun i => xs.getD i 0) i ++ hexW (xs.getD i 0)) (bar) Hr3 [⟨g1, 34, [iv x, iv y, iv (aw : Int), iv (ah : Int), .slice (some ⟨bS, oS, none⟩) n c]⟩] _ (.inr rfl) hrow3 (by unfold bar; rw [List.length_append, hexW_len]; (try simp only [List.length_cons, List.length_nil]); omega)) ?_
          rintro _ _ ⟨u4, Hr4, rfl, rfl, hrow4⟩
          refine RS.sbpy (H2 := ⟨g3, 109, [.pointer (some ⟨g3, 0, none⟩), u4]⟩ :: ⟨g1, 34, [iv x, iv y, iv (aw : Int), iv (ah : Int), .slice (some ⟨bS, oS, none⟩) n c]⟩ :: Hr4) (Sbp.cons .head (sbp_rot2 _ _)) ?_
          refine RS.nil ?_
          refine blockC_n ?_
          refine blockC_n ?_
          refine thenC_n ?_
          refine CS.region ?_
          first | (refine RS.q rfl (QO.add (by rfl) (by rfl) (by omega) (by omega)) ?_) | (refine RS.q rfl (QO.ibin (by rfl) (by rfl) trivial) ?_)
          refine RS.q rfl (QO.move) ?_
          refine RS.nil ?_
          refine loopQ_n (by intro t ht; repeat (first | with_reducible exact rfl | exact frame_puts ht (frame_mix ht) _ rfl | (refine frame_put rfl ht ?_) | (refine frame_puts ht ?_ _ rfl) | exact frame_mix ht | (refine frame_mix2 rfl ht ?_) | exact rfl)) ?_
          have hl4 : ¬ i % (4 * aw) = 4 * aw - 1 := by omega
          have hsep := sep_bar (w := aw) (k := i + 1) (fun e => hl4 ((rem_last (i := i) (m := 4 * aw) (by omega)).2 e)) (by omega)
          exact ⟨(i + 1, u4, Hr4), ⟨by show i + 1 ≤ n; omega, row_txt hrow4 (tx_succ x y aw ah (fun i => xs.getD i 0) i hsep)⟩, by show n - (i + 1) < n - i; omega, kn_cons (congrArg iv (by show (i : Int) + 1 = ((i + 1 : Nat) : Int); omega)) kn_nil, (by repeat (first | exact List.Sublist.refl _ | exact List.nil_sublist _ | refine List.Sublist.cons_cons _ ?_ | refine List.Sublist.cons _ ?_ | exact Sbp.refl | exact Sbp.nil | refine Sbp.cons (by repeat (first | exact Rem.head | apply Rem.tail)) ?_ | exact Sbp.app | refine Sbp.skip ?_ | exact List.sublist_append_left _ _ | exact List.sublist_append_right _ _))⟩
        · have hb2p := ne_of_beq_false hb2
          refine CS.region ?_
          refine RS.sbpy (H2 := ⟨g3, 109, [.pointer (some ⟨g3, 0, none⟩), u3]⟩ :: (Hr3 ++ [⟨g1, 34, [iv x, iv y, iv (aw : Int), iv (ah : Int), .slice (some ⟨bS, oS, none⟩) n c]⟩])) (Sbp.cons .head (sbp_rot _ _)) ?_
          refine RS.callH (⟨g3, 109, [.pointer (some ⟨g3, 0, none⟩), u3]⟩ :: (Hr3 ++ [⟨g1, 34, [iv x, iv y, iv (aw : Int), iv (ah : Int), .slice (some ⟨bS, oS, none⟩) n c]⟩])) rfl (by rfl) ok124 (by rfl) (by repeat (first | exact List.Sublist.refl _ | exact List.nil_sublist _ | refine List.Sublist.cons_cons _ ?_ | refine List.Sublist.cons _ ?_ | exact Sbp.refl | exact Sbp.nil | refine Sbp.cons (by repeat (first | exact Rem.head | apply Rem.tail)) ?_ | exact Sbp.app | refine Sbp.skip ?_ | exact List.sublist_append_left _ _ | exact List.sublist_append_right _ _)) (fun w ho => writeB g3 (.pointer (some ⟨g3, 0, none⟩)) u3 (txT x y aw ah (fun i => xs.getD i 0) i ++ hexW (xs.getD i 0)) (32) Hr3 [⟨g1, 34, [iv x, iv y, iv (aw : Int), iv (ah : Int), .slice (some ⟨bS, oS, none⟩) n c]⟩] _ (.inr rfl) hrow3 (by rw [List.length_append, hexW_len]; omega)) ?_
          rintro _ _ ⟨u4, Hr4, rfl, rfl, hrow4⟩
          refine RS.sbpy (H2 := ⟨g3, 109, [.pointer (some ⟨g3, 0, none⟩), u4]⟩ :: ⟨g1, 34, [iv x, iv y, iv (aw : Int), iv (ah : Int), .slice (some ⟨bS, oS, none⟩) n c]⟩ :: Hr4) (Sbp.cons .head (sbp_rot2 _ _)) ?_
          refine RS.nil ?_
          refine blockC_n ?_
          refine blockC_n ?_
          refine thenC_n ?_
          refine CS.region ?_
          first | (refine RS.q rfl (QO.add (by rfl) (by rfl) (by omega) (by omega)) ?_) | (refine RS.q rfl (QO.ibin (by rfl) (by rfl) trivial) ?_)
          refine RS.q rfl (QO.move) ?_
          refine RS.nil ?_
          refine loopQ_n (by intro t ht; repeat (first | with_reducible exact rfl | exact frame_puts ht (frame_mix ht) _ rfl | (refine frame_put rfl ht ?_) | (refine frame_puts ht ?_ _ rfl) | exact frame_mix ht | (refine frame_mix2 rfl ht ?_) | exact rfl)) ?_
          have hl4 : ¬ i % (4 * aw) = 4 * aw - 1 := by omega
          have hsep := sep_sp (w := aw) (k := i + 1) (fun e => hl4 ((rem_last (i := i) (m := 4 * aw) (by omega)).2 e)) (by omega)
          exact ⟨(i + 1, u4, Hr4), ⟨by show i + 1 ≤ n; omega, row_txt hrow4 (tx_succ x y aw ah (fun i => xs.getD i 0) i hsep)⟩, by show n - (i + 1) < n - i; omega, kn_cons (congrArg iv (by show (i : Int) + 1 = ((i + 1 : Nat) : Int); omega)) kn_nil, (by repeat (first | exact List.Sublist.refl _ | exact List.nil_sublist _ | refine List.Sublist.cons_cons _ ?_ | refine List.Sublist.cons _ ?_ | exact Sbp.refl | exact Sbp.nil | refine Sbp.cons (by repeat (first | exact Rem.head | apply Rem.tail)) ?_ | exact Sbp.app | refine Sbp.skip ?_ | exact List.sublist_append_left _ _ | exact List.sublist_append_right _ _))⟩
    · have hb0p := of_decide_eq_false hb0
      refine CS.exit ?_
      refine thenC_x ?_
      refine loopQ_x ?_
      refine blockC_x ?_
      refine thenC_n ?_
      refine CS.seq ?_
      refine CS.region ?_
      refine RS.callH (⟨g3, 109, [.pointer (some ⟨g3, 0, none⟩), u]⟩ :: Hr) rfl (by rfl) ok64 (by rfl) (by repeat (first | exact List.Sublist.refl _ | exact List.nil_sublist _ | refine List.Sublist.cons_cons _ ?_ | refine List.Sublist.cons _ ?_ | exact Sbp.refl | exact Sbp.nil | refine Sbp.cons (by repeat (first | exact Rem.head | apply Rem.tail)) ?_ | exact Sbp.app | refine Sbp.skip ?_ | exact List.sublist_append_left _ _ | exact List.sublist_append_right _ _)) (fun w ho => stringB g3 (.pointer (some ⟨g3, 0, none⟩)) u (txT x y aw ah (fun i => xs.getD i 0) i) Hr _ hrow (tx_ne _ _ _ _ _ _) (by omega)) ?_
      rintro _ _ ⟨rfl, rfl⟩
      refine RS.q rfl (QO.assign) ?_
      refine RS.nil ?_
      refine thenC_n ?_
      refine CS.ret ?_
      refine retQ.mk (H' := []) (.inr rfl) (RVs.tmp (by rfl) RVs.nil) (List.nil_sublist _) ?_
      exact ⟨congrArg sv (prt_v (by omega)), rfl⟩

end Go.Proofs.YtapcgokcfmklbaaDoor
