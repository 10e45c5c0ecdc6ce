/-
  Contracts: MattesOpen, the law. Conditions: as each theorem says.
-/
import Derived.Test.YtplfeaikjgfhcaaC19
import Derived.Test.YtplfeaikjgfhcaaInts
namespace Go.Proofs.Ytplfeaikjgfhcaa
open Go Go.Proofs Go.RowKit

theorem ok57 : callOK Try.prog 57 = true := by kernel_rfl
theorem ok58 : callOK Try.prog 58 = true := by kernel_rfl
theorem ok59 : callOK Try.prog 59 = true := by kernel_rfl
theorem ok60 : callOK Try.prog 60 = true := by kernel_rfl

/-- the level of the i-th value -/
def lvN (ls : List Int) (i : Nat) : Nat := if 0 < ls.length then (and64 (ls.getD (i % ls.length) 0) 1023).toNat else 0
theorem lvN_bd (ls : List Int) (i : Nat) : lvN ls i ≤ 1023 := by
  unfold lvN
  split
  · have := and64_bd (i := ls.getD (i % ls.length) 0) (j := 1023) (by decide) (by decide)
    omega
  · omega
theorem lvN_at {ls : List Int} {i : Nat} (h : i % ls.length < ls.length) : and64 ls[i % ls.length] 1023 = ((lvN ls i : Nat) : Int) := by
  unfold lvN
  rw [if_pos (by omega), List.getD_eq_getElem?_getD, List.getElem?_eq_getElem h, Option.getD_some]
  have := and64_bd (i := ls[i % ls.length]) (j := 1023) (by decide) (by decide)
  omega
theorem lvN_no {ls : List Int} {i : Nat} (h : ¬ 0 < ls.length) : qk (lvN ls i) = 0 := by
  unfold lvN; rw [if_neg h]; exact qk_zero
theorem lv_mat (ls : List Int) {W N : Nat} (_ : 0 < W) : (List.range N).map (fun i => qk (lvN ls i)) = matV (fun x y => lvN ls (y * W + x)) W N := by
  show _ = List.map _ _
  apply List.map_congr_left
  intro i _
  have := Nat.div_add_mod i W
  rw [Nat.mul_comm] at this
  show qk (lvN ls i) = qk (lvN ls (i / W * W + i % W))
  rw [this]
theorem IS.at_ {W : World} {A : Option Addr} {ls : List Int} (h : IS W A ls) (i : Nat) (hi : i < ls.length) : ∃ b o, A = some ⟨b, o, none⟩ ∧ W.cell? ⟨b, o + i, none⟩ = some (iv ls[i]) := by
  obtain ⟨b, o, h1, h2⟩ := h (by omega)
  exact ⟨b, o, h1, h2 i _ (List.getElem?_eq_getElem hi)⟩
structure MSt where
  X : Int
  Y : Int
  W : Nat
  Hh : Nat
  r : Nat
  N : Nat
  g : Nat
structure MOk (z : MSt) : Prop where
  X : -1000 ≤ z.X ∧ z.X ≤ 1000
  Y : -1000 ≤ z.Y ∧ z.Y ≤ 1000
  r : 1 ≤ z.r ∧ z.r ≤ 2
  W : 4 * z.r + 1 ≤ z.W ∧ z.W ≤ 24
  Hh : 4 * z.r + 1 ≤ z.Hh ∧ z.Hh ≤ 24
  N : z.N = z.W * z.Hh
theorem turn_eq {s : Nat} (hs : 1 ≤ s) {f : Nat → Nat → Nat} (hf : ∀ x y, f x y ≤ 1024) {x y r : Nat} (h : FR (fop .sub 1065353216 (qk (mxS s (fun x y => 1024 - f x y) x y))) r) : fcmpB .neq (qk (mnS s f x y)) r = false := by
  have h1 : mxS s (fun x y => 1024 - f x y) x y ≤ 1024 := mxS_bd (fun x y => by omega) x y
  rw [qk_turn _ (by omega)] at h
  have h2 : r = qk (1024 - mxS s (fun x y => 1024 - f x y) x y) := h
  rw [h2, turn_min hs hf]
  exact qk_neq _ (mnS_bd hf _ _)
theorem open_gtr {r : Nat} {f : Nat → Nat → Nat} (hf : ∀ x y, f x y ≤ 1024) (x y : Nat) : fcmpB .gtr (qk (mxS (2 * r + 1) (mnS (2 * r + 1) f) x y)) (qk (f (2 * r + x) (2 * r + y))) = false := by
  have h := open_le (r := r) f x y
  rw [qk_gtr (mxS_bd (mnS_bd hf) x y) (hf _ _), Nat.add_comm (2 * r) x, Nat.add_comm (2 * r) y]
  exact decide_eq_false (by omega)
theorem open_neq {r : Nat} {f : Nat → Nat → Nat} (hf : ∀ x y, f x y ≤ 1024) (x y : Nat) : fcmpB .neq (qk (mxS (2 * r + 1) (mnS (2 * r + 1) (mxS (2 * r + 1) (mnS (2 * r + 1) f))) x y)) (qk (mxS (2 * r + 1) (mnS (2 * r + 1) f) (2 * r + x) (2 * r + y))) = false := by
  rw [open_open, Nat.add_comm (2 * r) x, Nat.add_comm (2 * r) y]
  exact qk_neq _ (mxS_bd (mnS_bd hf) _ _)

set_option maxHeartbeats 4000000 in
set_option maxRecDepth 100000 in
theorem mattesOpen (x3 y3 w3 h3 : Int) (C : Option Addr) (n3 c3 : Nat) (ms : List Nat) (A2 : Option Addr) (n2 c2 : Nat) (ls : List Int) (rad : Int) (W : World) (hn3 : ms.length = n3) (hC : FS W C ms) (hlx : n3 ≤ maxLen) (hn2 : ls.length = n2) (hA2 : IS W A2 ls) (hl2 : n2 ≤ maxLen) : Fn_ Try.prog 9 #[.agg #[iv x3, iv y3, iv w3, iv h3, .slice C n3 c3], .slice A2 n2 c2, iv rad] W (fun v H => v = .bool true ∧ H = []) := by
  subst hn2
  unfold maxLen at hl2
  refine Fn_.intro Try.func9 rfl rfl (by rfl) ?_
  refine CS.seq ?_
  refine CS.region ?_
  refine RS.box rfl (by rfl) (by rfl) ?_
  intro g3
  refine RS.q rfl (QO.assign) ?_
  refine RS.nil ?_
  refine thenC_n ?_
  refine CS.seq ?_
  refine CS.seq ?_
  refine CS.region ?_
  refine RS.call rfl (by rfl) ok19 (by rfl) (fun w ho => landed _) ?_
  rintro _ _ ⟨rfl, rfl⟩
  refine RS.q rfl (QO.not (by rfl)) ?_
  refine RS.nil ?_
  refine thenC_n ?_
  refine CS.condF (by rfl) rfl ?_
  refine CS.skip ?_
  refine thenC_n ?_
  refine CS.seq ?_
  refine CS.region ?_
  first | (refine RS.q rfl (QO.loadB ty64 (by rfl) (by repeat (first | exact List.Mem.head _ | refine List.Mem.tail _ ?_)) (by rfl)) ?_) | (refine RS.q rfl (QO.loadA ty64 (by rfl) (by repeat (first | exact List.Mem.head _ | refine List.Mem.tail _ ?_)) (by rfl) (by rfl)) ?_) | (refine RS.q rfl (QO.loadOA ty64 (by rfl) (by assumption) (by rfl)) ?_)
  refine RS.call rfl (by rfl) ok57 (by rfl) (fun w ho => fitMatte x3 y3 w3 h3 C n3 c3 ms _ hn3 (hC.own ho) hlx) ?_
  intro v26 H26 h26
  obtain ⟨gf, X, Y, a, b, ys, rfl, rfl, ⟨ha1, ha2⟩, ⟨hb1, hb2⟩, hX, hY⟩ := h26
  first | refine RS.storeB ty64 (by rfl) (by rfl) (by rfl) (by rfl) (by rfl) (by repeat (first | exact Upd.head | apply Upd.tail)) (by rfl) ?_ | refine RS.storeP ty64 (by rfl) (by rfl) (by rfl) (by rfl) (by rfl) (by repeat (first | exact Upd.head | apply Upd.tail)) (by rfl) ?_
  refine RS.nil ?_
  refine thenC_n ?_
  refine CS.seq ?_
  refine CS.region ?_
  obtain ⟨r, hr, hr1, hr2⟩ := and1 rad
  have hr9 := and64_bd (i := rad) (j := 1) (by decide) (by decide)
  refine RS.q rfl (QO.move) ?_
  refine RS.q rfl (QO.and64 (by rfl) (by rfl)) ?_
  refine RS.qv rfl (QO.add (by rfl) (by rfl) (by omega) (by omega)) (congrArg iv hr) ?_
  refine RS.q rfl (QO.assign) ?_
  refine RS.nil ?_
  refine thenC_n ?_
  refine CS.seq ?_
  refine CS.region ?_
  have hx5 : ∃ w : Nat, a + 4 * r = w := ⟨_, rfl⟩
  have hx6 : ∃ w : Nat, b + 4 * r = w := ⟨_, rfl⟩
  obtain ⟨Wd, hWd⟩ := hx5
  obtain ⟨Hh, hHh⟩ := hx6
  refine RS.q rfl (QO.fieldAddr fo64_0 (by rfl)) ?_
  refine RS.q rfl (QO.fieldAddr fo23_2 (by rfl)) ?_
  first | (refine RS.q rfl (QO.load ty3 (by rfl) (by repeat (first | exact List.Mem.head _ | refine List.Mem.tail _ ?_)) (by rfl)) ?_) | (refine RS.q rfl (QO.loadO ty3 (by rfl) (by assumption)) ?_) | (refine RS.q rfl (QO.load ty3 (by rfl) (by repeat (first | exact List.Mem.head _ | refine List.Mem.tail _ ?_)) (by assumption)) ?_)
  refine RS.q rfl (QO.move) ?_
  first | (refine RS.q rfl (QO.mul (by rfl) (by rfl) (by omega) (by omega)) ?_) | (refine RS.q rfl (QO.ibin (by rfl) (by rfl) trivial) ?_)
  first | (refine RS.qv rfl (QO.add (by rfl) (by rfl) (by omega) (by omega)) (congrArg iv (show (a : Int) + 4 * (r : Int) = (Wd : Int) by omega)) ?_) | (refine RS.qv rfl (QO.ibin (by rfl) (by rfl) trivial) (congrArg iv (show (a : Int) + 4 * (r : Int) = (Wd : Int) by omega)) ?_)
  refine RS.q rfl (QO.fieldAddr fo64_0 (by rfl)) ?_
  refine RS.q rfl (QO.fieldAddr fo23_3 (by rfl)) ?_
  first | (refine RS.q rfl (QO.load ty3 (by rfl) (by repeat (first | exact List.Mem.head _ | refine List.Mem.tail _ ?_)) (by rfl)) ?_) | (refine RS.q rfl (QO.loadO ty3 (by rfl) (by assumption)) ?_) | (refine RS.q rfl (QO.load ty3 (by rfl) (by repeat (first | exact List.Mem.head _ | refine List.Mem.tail _ ?_)) (by assumption)) ?_)
  refine RS.q rfl (QO.move) ?_
  first | (refine RS.q rfl (QO.mul (by rfl) (by rfl) (by omega) (by omega)) ?_) | (refine RS.q rfl (QO.ibin (by rfl) (by rfl) trivial) ?_)
  first | (refine RS.qv rfl (QO.add (by rfl) (by rfl) (by omega) (by omega)) (congrArg iv (show (b : Int) + 4 * (r : Int) = (Hh : Int) by omega)) ?_) | (refine RS.qv rfl (QO.ibin (by rfl) (by rfl) trivial) (congrArg iv (show (b : Int) + 4 * (r : Int) = (Hh : Int) by omega)) ?_)
  refine RS.q rfl (QO.fieldAddr fo64_0 (by rfl)) ?_
  refine RS.q rfl (QO.fieldAddr fo23_2 (by rfl)) ?_
  refine RS.store1 ty3 rfl (by rfl) (by rfl) (by rfl) (by repeat (first | exact Upd.head | apply Upd.tail)) (by first | (simp; done) | (simp; omega) | omega) ?_
  refine RS.q rfl (QO.fieldAddr fo64_0 (by rfl)) ?_
  refine RS.q rfl (QO.fieldAddr fo23_3 (by rfl)) ?_
  refine RS.store1 ty3 rfl (by rfl) (by rfl) (by rfl) (by repeat (first | exact Upd.head | apply Upd.tail)) (by first | (simp; done) | (simp; omega) | omega) ?_
  refine RS.nil ?_
  refine thenC_n ?_
  refine CS.cut (X := MSt) [46, 47, 48, 49, 50, 51, 52, 53, 54] (fun z => [(2, iv (z.r : Int))]) (fun z => [⟨g3, 64, [iv z.X, iv z.Y, iv (z.W : Int), iv (z.Hh : Int), .slice (some ⟨z.g, 0, none⟩) z.N z.N]⟩, ⟨z.g, 33, List.replicate z.N (flt 0)⟩]) (fun z => MOk z) ?_ ?_
  · refine CS.region ?_
    have hx7 : ∃ w : Nat, Wd * Hh = w := ⟨_, rfl⟩
    obtain ⟨N, hN⟩ := hx7
    have hNi : (Wd : Int) * (Hh : Int) = (N : Int) := by rw [← hN]; exact (Int.natCast_mul ..).symm
    have hNb := Nat.mul_le_mul (show Wd ≤ 24 by omega) (show Hh ≤ 24 by omega)
    have hNp := Nat.mul_le_mul (show 1 ≤ Wd by omega) (show 1 ≤ Hh by omega)
    refine RS.q rfl (QO.fieldAddr fo64_0 (by rfl)) ?_
    refine RS.q rfl (QO.fieldAddr fo23_2 (by rfl)) ?_
    first | (refine RS.q rfl (QO.load ty3 (by rfl) (by repeat (first | exact List.Mem.head _ | refine List.Mem.tail _ ?_)) (by rfl)) ?_) | (refine RS.q rfl (QO.loadO ty3 (by rfl) (by assumption)) ?_) | (refine RS.q rfl (QO.load ty3 (by rfl) (by repeat (first | exact List.Mem.head _ | refine List.Mem.tail _ ?_)) (by assumption)) ?_)
    refine RS.q rfl (QO.fieldAddr fo64_0 (by rfl)) ?_
    refine RS.q rfl (QO.fieldAddr fo23_3 (by rfl)) ?_
    first | (refine RS.q rfl (QO.load ty3 (by rfl) (by repeat (first | exact List.Mem.head _ | refine List.Mem.tail _ ?_)) (by rfl)) ?_) | (refine RS.q rfl (QO.loadO ty3 (by rfl) (by assumption)) ?_) | (refine RS.q rfl (QO.load ty3 (by rfl) (by repeat (first | exact List.Mem.head _ | refine List.Mem.tail _ ?_)) (by assumption)) ?_)
    refine RS.qv rfl (QO.mul (by rfl) (by rfl) (by rw [hNi]; omega) (by rw [hNi]; omega)) (congrArg iv (show (Wd : Int) * (Hh : Int) = (N : Int) from hNi)) ?_
    refine RS.make rfl Try.underlying24 ty33 (by rfl) (by rfl) (by omega) (by omega) (by omega) (by omega) ?_
    intro g53
    refine RS.q rfl (QO.fieldAddr fo64_1 (by rfl)) ?_
    refine RS.store1 ty24 rfl (by rfl) (by rfl) (by rfl) (by repeat (first | exact Upd.head | apply Upd.tail)) (by first | (simp; done) | (simp; omega) | omega) ?_
    refine RS.nil ?_
    refine cutQ_n (by intro t ht; repeat (first | with_reducible exact rfl | exact frame_puts ht (frame_mix ht) _ rfl | (refine frame_put rfl ht ?_) | (refine frame_puts ht ?_ _ rfl) | exact frame_mix ht | (refine frame_mix2 rfl ht ?_) | exact rfl)) ?_
    exact ⟨⟨X, Y, Wd, Hh, r, N, g53⟩, ⟨hX, hY, ⟨hr1, hr2⟩, by show 4 * r + 1 ≤ Wd ∧ Wd ≤ 24; omega, by show 4 * r + 1 ≤ Hh ∧ Hh ≤ 24; omega, hN.symm⟩, (by repeat (first | exact kn_nil | refine kn_cons (by rfl) ?_)), (by repeat (first | exact List.Sublist.refl _ | exact List.nil_sublist _ | refine List.Sublist.cons_cons _ ?_ | refine List.Sublist.cons _ ?_ | exact Sbp.refl | exact Sbp.nil | refine Sbp.cons (by repeat (first | exact Rem.head | apply Rem.tail)) ?_ | exact Sbp.app | refine Sbp.skip ?_))⟩
  · intro z gj hz
    obtain ⟨X, Y, Wd, Hh, r, N, gm⟩ := z
    obtain ⟨hX, hY, hr, hWd, hHh, hN⟩ := hz
    simp only at hX hY hr hWd hHh hN
    have hNb := Nat.mul_le_mul hWd.2 hHh.2
    show CS _ _ _ _ _ (puts (mix _ _ _) [(2, iv (r : Int))]) ([⟨g3, 64, [iv X, iv Y, iv (Wd : Int), iv (Hh : Int), .slice (some ⟨gm, 0, none⟩) N N]⟩, ⟨gm, 33, List.replicate N (flt 0)⟩])
    refine CS.cut (X := {f : Nat → Nat → Nat // ∀ x y, f x y ≤ 1024}) (7 :: 55 :: 56 :: 57 :: 58 :: 59 :: 60 :: 61 :: 62 :: 63 :: 64 :: 65 :: 66 :: 67 :: 68 :: 69 :: 70 :: 71 :: 72 :: 73 :: 74 :: 75 :: 76 :: 77 :: 78 :: []) (fun z => []) (fun z => [⟨g3, 64, [iv X, iv Y, iv (Wd : Int), iv (Hh : Int), .slice (some ⟨gm, 0, none⟩) N N]⟩, ⟨gm, 33, (matV z.val Wd N).map flt⟩]) (fun z => True) ?_ ?_
    · refine CS.seq ?_
      refine CS.region ?_
      refine RS.q rfl (QO.fieldAddr fo64_1 (by rfl)) ?_
      first | (refine RS.q rfl (QO.load ty24 (by rfl) (by repeat (first | exact List.Mem.head _ | refine List.Mem.tail _ ?_)) (by rfl)) ?_) | (refine RS.q rfl (QO.loadO ty24 (by rfl) (by assumption)) ?_) | (refine RS.q rfl (QO.load ty24 (by rfl) (by repeat (first | exact List.Mem.head _ | refine List.Mem.tail _ ?_)) (by assumption)) ?_)
      refine RS.q rfl (QO.lenS Try.underlying24 (by rfl)) ?_
      refine RS.q rfl (QO.move) ?_
      refine RS.nil ?_
      refine thenC_n ?_
      refine CS.block ?_
      refine CS.loop (X := Nat) (7 :: 58 :: 59 :: 60 :: 61 :: 62 :: 63 :: 64 :: 65 :: 66 :: 67 :: 68 :: 69 :: 70 :: 71 :: 72 :: 73 :: 74 :: 75 :: 76 :: 77 :: 78 :: []) (fun k => [(58, iv (k : Int))]) (fun k => [⟨g3, 64, [iv X, iv Y, iv (Wd : Int), iv (Hh : Int), .slice (some ⟨gm, 0, none⟩) N N]⟩, ⟨gm, 33, partL (fun i => qk (lvN ls i)) N k⟩]) (fun k => k ≤ N) (fun k => N - k) 0 (Nat.zero_le _) ?_ ?_ ?_
      · exact (by repeat (first | exact kn_nil | refine kn_cons (by rfl) ?_))
      · exact (by rw [partL_zero]; exact (by repeat (first | exact List.Sublist.refl _ | exact List.nil_sublist _ | refine List.Sublist.cons_cons _ ?_ | refine List.Sublist.cons _ ?_ | exact Sbp.refl | exact Sbp.nil | refine Sbp.cons (by repeat (first | exact Rem.head | apply Rem.tail)) ?_ | exact Sbp.app | refine Sbp.skip ?_)))
      · intro k gj8 hz
        refine CS.seq ?_
        refine CS.region ?_
        refine RS.q rfl (QO.lss (by rfl) (by rfl)) ?_
        refine RS.nil ?_
        refine thenC_n ?_
        refine CS.seq ?_
        refine CS.cond (by rfl) (fun hb0 => ?_) (fun hb0 => ?_)
        · have hb0p := of_decide_eq_true hb0
          refine CS.skip ?_
          refine thenC_n ?_
          refine CS.seq ?_
          refine CS.block ?_
          refine CS.seq ?_
          refine CS.region ?_
          refine RS.q rfl (QO.move) ?_
          refine RS.q rfl (QO.assign) ?_
          refine RS.nil ?_
          refine thenC_n ?_
          refine CS.seq ?_
          refine CS.region ?_
          refine RS.q rfl (QO.move) ?_
          refine RS.q rfl (QO.lenS Try.underlying74 (by rfl)) ?_
          refine RS.q rfl (QO.gtr (by rfl) (by rfl)) ?_
          refine RS.nil ?_
          refine thenC_n ?_
          refine CS.cond (by rfl) (fun hb1 => ?_) (fun hb1 => ?_)
          · have hb1p := of_decide_eq_true hb1
            refine CS.draw 14 rfl (by kernel_rfl) (by kernel_rfl) ?_
            have hlt : k % ls.length < ls.length := Nat.mod_lt _ (by omega)
            have hx8 := hA2.at_ (k % ls.length) hlt
            obtain ⟨bC, oC, hAC, hcC⟩ := hx8
            subst hAC
            refine RT.take (i := 0) rfl (by kernel_rfl) rfl (QO.fieldAddr fo64_1 (by rfl)) ?_
            first | (refine RT.take (i := 1) rfl (by kernel_rfl) rfl (QO.load ty24 (by rfl) (by repeat (first | exact List.Mem.head _ | refine List.Mem.tail _ ?_)) (by rfl)) ?_) | (refine RT.take (i := 1) rfl (by kernel_rfl) rfl (QO.loadO ty24 (by rfl) (by assumption)) ?_) | (refine RT.take (i := 1) rfl (by kernel_rfl) rfl (QO.load ty24 (by rfl) (by repeat (first | exact List.Mem.head _ | refine List.Mem.tail _ ?_)) (by assumption)) ?_)
            refine RT.take (i := 2) rfl (by kernel_rfl) rfl (QO.move) ?_
            refine RT.take (i := 3) rfl (by kernel_rfl) rfl (QO.move) ?_
            refine RT.take (i := 4) rfl (by kernel_rfl) rfl (QO.move) ?_
            refine RT.take (i := 5) rfl (by kernel_rfl) rfl (QO.move) ?_
            refine RT.take (i := 6) rfl (by kernel_rfl) rfl (QO.lenS Try.underlying74 (by rfl)) ?_
            refine RT.takev (i := 7) rfl (by kernel_rfl) rfl (QO.rem (by rfl) (by rfl) (by omega)) (congrArg iv (tmod_cast k ls.length)) ?_
            first | (refine RT.take (i := 8) rfl (by kernel_rfl) rfl (QO.idx0 Try.underlying74 ty3 (by rfl) (by rfl) (by rfl) (by omega)) ?_) | (refine RT.take (i := 8) rfl (by kernel_rfl) rfl (QO.idxn Try.underlying74 ty3 (by rfl) (by rfl) (by rfl) (by omega)) ?_) | (refine RT.take (i := 8) rfl (by kernel_rfl) rfl (QO.idx1 Try.underlying74 ty3 (by rfl) (by rfl) (by omega) (by omega)) ?_)
            refine RT.take (i := 9) rfl (by kernel_rfl) rfl (QO.loadO ty3 (by rfl) hcC) ?_
            refine RT.takev (i := 10) rfl (by kernel_rfl) rfl (QO.and64 (by rfl) (by rfl)) (congrArg iv (lvN_at hlt)) ?_
            refine RT.take (i := 11) rfl (by kernel_rfl) rfl (QO.conv_i64_f32 Try.underlying3 Try.underlying33 (by rfl)) ?_
            refine RT.one (i := 12) (by kernel_rfl) rfl rfl ?_
            refine RS.farith rfl (by rfl) (by rfl) (by simp) ?_
            intro r76 hr76
            refine RS.nil ⟨(by repeat (first | exact List.Sublist.refl _ | exact List.nil_sublist _ | refine List.Sublist.cons_cons _ ?_ | refine List.Sublist.cons _ ?_ | exact Sbp.refl | exact Sbp.nil | refine Sbp.cons (by repeat (first | exact Rem.head | apply Rem.tail)) ?_ | exact Sbp.app | refine Sbp.skip ?_)), ?_⟩
            first | (refine RT.take (i := 13) rfl (by kernel_rfl) rfl (QO.idx0 Try.underlying24 ty33 (by rfl) (by rfl) (by rfl) (by omega)) ?_) | (refine RT.take (i := 13) rfl (by kernel_rfl) rfl (QO.idxn Try.underlying24 ty33 (by rfl) (by rfl) (by rfl) (by omega)) ?_) | (refine RT.take (i := 13) rfl (by kernel_rfl) rfl (QO.idx1 Try.underlying24 ty33 (by rfl) (by rfl) (by omega) (by omega)) ?_)
            refine RT.tail (i := 14) (by kernel_rfl) rfl rfl ?_
            refine RS.store1e ty33 rfl (by rfl) (by rfl) (by rfl) (partL_set (fun i => qk (lvN ls i)) N k _ (by rw [qk_div _ (by have := lvN_bd ls k; omega)] at hr76; exact hr76) (by omega)) (by repeat (first | exact Upd.head | apply Upd.tail)) (by rw [partL_len]; omega) ?_
            refine RS.nil ?_
            refine RT.done (by kernel_rfl) ?_
            refine blockC_n ?_
            refine thenC_n ?_
            refine CS.region ?_
            first | (refine RS.q rfl (QO.add (by rfl) (by rfl) (by omega) (by omega)) ?_) | (refine RS.q rfl (QO.ibin (by rfl) (by rfl) trivial) ?_)
            refine RS.q rfl (QO.move) ?_
            refine RS.nil ?_
            refine loopQ_n (by intro t ht; repeat (first | with_reducible exact rfl | exact frame_puts ht (frame_mix ht) _ rfl | (refine frame_put rfl ht ?_) | (refine frame_puts ht ?_ _ rfl) | exact frame_mix ht | (refine frame_mix2 rfl ht ?_) | exact rfl)) ?_
            exact ⟨k + 1, by omega, by omega, (by repeat (first | exact kn_nil | refine kn_cons (by rfl) ?_)), (by repeat (first | exact List.Sublist.refl _ | exact List.nil_sublist _ | refine List.Sublist.cons_cons _ ?_ | refine List.Sublist.cons _ ?_ | exact Sbp.refl | exact Sbp.nil | refine Sbp.cons (by repeat (first | exact Rem.head | apply Rem.tail)) ?_ | exact Sbp.app | refine Sbp.skip ?_))⟩
          · have hb1p := of_decide_eq_false hb1
            refine CS.skip ?_
            refine blockC_n ?_
            refine thenC_n ?_
            refine CS.region ?_
            first | (refine RS.q rfl (QO.add (by rfl) (by rfl) (by omega) (by omega)) ?_) | (refine RS.q rfl (QO.ibin (by rfl) (by rfl) trivial) ?_)
            refine RS.q rfl (QO.move) ?_
            refine RS.nil ?_
            refine loopQ_n (by intro t ht; repeat (first | with_reducible exact rfl | exact frame_puts ht (frame_mix ht) _ rfl | (refine frame_put rfl ht ?_) | (refine frame_puts ht ?_ _ rfl) | exact frame_mix ht | (refine frame_mix2 rfl ht ?_) | exact rfl)) ?_
            exact ⟨k + 1, by omega, by omega, (by repeat (first | exact kn_nil | refine kn_cons (by rfl) ?_)), (by rw [← partL_skip (fun i => qk (lvN ls i)) N k (lvN_no (by omega))]; exact (by repeat (first | exact List.Sublist.refl _ | exact List.nil_sublist _ | refine List.Sublist.cons_cons _ ?_ | refine List.Sublist.cons _ ?_ | exact Sbp.refl | exact Sbp.nil | refine Sbp.cons (by repeat (first | exact Rem.head | apply Rem.tail)) ?_ | exact Sbp.app | refine Sbp.skip ?_)))⟩
        · have hb0p := of_decide_eq_false hb0
          refine CS.exit ?_
          refine thenC_x ?_
          refine loopQ_x ?_
          refine blockC_x ?_
          refine cutQ_n (by intro t ht; repeat (first | with_reducible exact rfl | exact frame_puts ht (frame_mix ht) _ rfl | (refine frame_put rfl ht ?_) | (refine frame_puts ht ?_ _ rfl) | exact frame_mix ht | (refine frame_mix2 rfl ht ?_) | exact rfl)) ?_
          exact ⟨⟨fun x y => lvN ls (y * Wd + x), fun x y => Nat.le_trans (lvN_bd ls _) (by omega)⟩, trivial, (by repeat (first | exact kn_nil | refine kn_cons (by rfl) ?_)), (by obtain rfl : k = N := (by omega); rw [partL_full, lv_mat ls (by omega : 0 < Wd)]; exact (by repeat (first | exact List.Sublist.refl _ | exact List.nil_sublist _ | refine List.Sublist.cons_cons _ ?_ | refine List.Sublist.cons _ ?_ | exact Sbp.refl | exact Sbp.nil | refine Sbp.cons (by repeat (first | exact Rem.head | apply Rem.tail)) ?_ | exact Sbp.app | refine Sbp.skip ?_)))⟩
    · intro z gj hz
      obtain ⟨f, hf⟩ := z
      have hx2 : ∃ w, w + 2 * r = Wd := ⟨Wd - 2 * r, by omega⟩
      obtain ⟨W2, hW2⟩ := hx2
      have hx2 : ∃ w, w + 2 * r = Hh := ⟨Hh - 2 * r, by omega⟩
      obtain ⟨H2, hH2⟩ := hx2
      have hx2 : ∃ w, w + 4 * r = Wd := ⟨Wd - 4 * r, by omega⟩
      obtain ⟨W4, hW4⟩ := hx2
      have hx2 : ∃ w, w + 4 * r = Hh := ⟨Hh - 4 * r, by omega⟩
      obtain ⟨H4, hH4⟩ := hx2
      have hb22 := Nat.mul_le_mul (show W2 ≤ 24 by omega) (show H2 ≤ 24 by omega)
      have hb44 := Nat.mul_le_mul (show W4 ≤ 24 by omega) (show H4 ≤ 24 by omega)
      show CS _ _ _ _ _ (puts (mix _ _ _) []) ([⟨g3, 64, [iv X, iv Y, iv (Wd : Int), iv (Hh : Int), .slice (some ⟨gm, 0, none⟩) N N]⟩, ⟨gm, 33, (matV f Wd N).map flt⟩])
      refine CS.seq ?_
      refine CS.region ?_
      first | (refine RS.q rfl (QO.loadB ty64 (by rfl) (by repeat (first | exact List.Mem.head _ | refine List.Mem.tail _ ?_)) (by rfl)) ?_) | (refine RS.q rfl (QO.loadA ty64 (by rfl) (by repeat (first | exact List.Mem.head _ | refine List.Mem.tail _ ?_)) (by rfl) (by rfl)) ?_) | (refine RS.q rfl (QO.loadOA ty64 (by rfl) (by assumption) (by rfl)) ?_)
      refine RS.call rfl (by rfl) ok58 (by rfl) (fun w ho => invertM X Y Wd Hh gm N f _ hf (FS.blk' ho (by repeat (first | exact List.Mem.head _ | refine List.Mem.tail _ ?_))) hN (by omega) (by omega) (by omega) (by omega)) ?_
      rintro _ _ ⟨gi, rfl, rfl⟩
      refine RS.q rfl (QO.move) ?_
      refine RS.q rfl (QO.extract (by rfl) (by rfl)) ?_
      refine RS.q rfl (QO.extract (by rfl) (by rfl)) ?_
      refine RS.alloc rfl ty64 ?_
      intro g8
      first | refine RS.storeB ty64 (by rfl) (by rfl) (by rfl) (by rfl) (by rfl) (by repeat (first | exact Upd.head | apply Upd.tail)) (by rfl) ?_ | refine RS.storeP ty64 (by rfl) (by rfl) (by rfl) (by rfl) (by rfl) (by repeat (first | exact Upd.head | apply Upd.tail)) (by rfl) ?_
      refine RS.q rfl (QO.assign) ?_
      refine RS.nil ?_
      refine thenC_n ?_
      refine CS.seq ?_
      refine CS.region ?_
      first | (refine RS.q rfl (QO.loadB ty64 (by rfl) (by repeat (first | exact List.Mem.head _ | refine List.Mem.tail _ ?_)) (by rfl)) ?_) | (refine RS.q rfl (QO.loadA ty64 (by rfl) (by repeat (first | exact List.Mem.head _ | refine List.Mem.tail _ ?_)) (by rfl) (by rfl)) ?_) | (refine RS.q rfl (QO.loadOA ty64 (by rfl) (by assumption) (by rfl)) ?_)
      refine RS.q rfl (QO.move) ?_
      refine RS.call rfl (by rfl) ok59 (by rfl) (fun w ho => shrinkM X Y Wd Hh W2 H2 gm N (W2 * H2) f r _ hf (FS.blk' ho (by repeat (first | exact List.Mem.head _ | refine List.Mem.tail _ ?_))) hN (by omega) (by omega) (by omega) (by omega) (by omega) (by omega) (by omega) rfl (by omega) (by omega)) ?_
      rintro _ _ ⟨ga, rfl, rfl⟩
      refine RS.q rfl (QO.move) ?_
      refine RS.q rfl (QO.extract (by rfl) (by rfl)) ?_
      refine RS.q rfl (QO.extract (by rfl) (by rfl)) ?_
      refine RS.alloc rfl ty64 ?_
      intro g10
      first | refine RS.storeB ty64 (by rfl) (by rfl) (by rfl) (by rfl) (by rfl) (by repeat (first | exact Upd.head | apply Upd.tail)) (by rfl) ?_ | refine RS.storeP ty64 (by rfl) (by rfl) (by rfl) (by rfl) (by rfl) (by repeat (first | exact Upd.head | apply Upd.tail)) (by rfl) ?_
      refine RS.q rfl (QO.assign) ?_
      refine RS.nil ?_
      refine thenC_n ?_
      refine CS.seq ?_
      refine CS.region ?_
      first | (refine RS.q rfl (QO.loadB ty64 (by rfl) (by repeat (first | exact List.Mem.head _ | refine List.Mem.tail _ ?_)) (by rfl)) ?_) | (refine RS.q rfl (QO.loadA ty64 (by rfl) (by repeat (first | exact List.Mem.head _ | refine List.Mem.tail _ ?_)) (by rfl) (by rfl)) ?_) | (refine RS.q rfl (QO.loadOA ty64 (by rfl) (by assumption) (by rfl)) ?_)
      refine RS.q rfl (QO.move) ?_
      refine RS.call rfl (by rfl) ok60 (by rfl) (fun w ho => spreadM X Y Wd Hh W2 H2 gi N (W2 * H2) (fun x y => 1024 - f x y) r _ (fun x y => by omega) (FS.blk' ho (by repeat (first | exact List.Mem.head _ | refine List.Mem.tail _ ?_))) hN (by omega) (by omega) (by omega) (by omega) (by omega) (by omega) (by omega) rfl (by omega) (by omega)) ?_
      rintro _ _ ⟨gb, rfl, rfl⟩
      refine RS.q rfl (QO.move) ?_
      refine RS.q rfl (QO.extract (by rfl) (by rfl)) ?_
      refine RS.q rfl (QO.extract (by rfl) (by rfl)) ?_
      refine RS.alloc rfl ty64 ?_
      intro g12
      first | refine RS.storeB ty64 (by rfl) (by rfl) (by rfl) (by rfl) (by rfl) (by repeat (first | exact Upd.head | apply Upd.tail)) (by rfl) ?_ | refine RS.storeP ty64 (by rfl) (by rfl) (by rfl) (by rfl) (by rfl) (by repeat (first | exact Upd.head | apply Upd.tail)) (by rfl) ?_
      refine RS.q rfl (QO.assign) ?_
      refine RS.nil ?_
      refine thenC_n ?_
      refine CS.cut (X := Unit) [6, 96, 97, 98, 99, 100, 101] (fun z => []) (fun z => [⟨g10, 64, [iv (X + (r : Int)), iv (Y + (r : Int)), iv ((W2 : Nat) : Int), iv ((H2 : Nat) : Int), .slice (some ⟨ga, 0, none⟩) (W2 * H2) (W2 * H2)]⟩, ⟨ga, 33, (matV (mnS (2 * r + 1) f) (W2) (W2 * H2)).map flt⟩, ⟨g12, 64, [iv (X + (r : Int)), iv (Y + (r : Int)), iv ((W2 : Nat) : Int), iv ((H2 : Nat) : Int), .slice (some ⟨gb, 0, none⟩) (W2 * H2) (W2 * H2)]⟩, ⟨gb, 33, (matV (mxS (2 * r + 1) (fun x y => 1024 - f x y)) (W2) (W2 * H2)).map flt⟩, ⟨g8, 64, [iv X, iv Y, iv (Wd : Int), iv (Hh : Int), .slice (some ⟨gi, 0, none⟩) N N]⟩, ⟨gi, 33, (matV (fun x y => 1024 - f x y) (Wd) (N)).map flt⟩, ⟨g3, 64, [iv X, iv Y, iv (Wd : Int), iv (Hh : Int), .slice (some ⟨gm, 0, none⟩) N N]⟩, ⟨gm, 33, (matV f Wd N).map flt⟩]) (fun z => True) ?_ ?_
      · refine CS.seq ?_
        refine CS.region ?_
        refine RS.q rfl (QO.move) ?_
        refine RS.q rfl (QO.neq (by rfl) (by rfl)) ?_
        refine RS.q rfl (QO.move) ?_
        refine RS.on (dj := 98) rfl (congrArg Value.bool rfl) ?_
        refine RS.q rfl (QO.move) ?_
        refine RS.on (dj := 98) rfl (congrArg Value.bool rfl) ?_
        refine RS.q rfl (QO.neq (by rfl) (by rfl)) ?_
        refine RS.q rfl (QO.pickF (by rfl) rfl (by rfl)) ?_
        refine RS.nil ?_
        refine thenC_n ?_
        refine CS.condF (by rfl) rfl ?_
        refine CS.skip ?_
        refine cutQ_n (by intro t ht; repeat (first | with_reducible exact rfl | exact frame_puts ht (frame_mix ht) _ rfl | (refine frame_put rfl ht ?_) | (refine frame_puts ht ?_ _ rfl) | exact frame_mix ht | (refine frame_mix2 rfl ht ?_) | exact rfl)) ?_
        exact ⟨(), trivial, (by repeat (first | exact kn_nil | refine kn_cons (by rfl) ?_)), (by repeat (first | exact List.Sublist.refl _ | exact List.nil_sublist _ | refine List.Sublist.cons_cons _ ?_ | refine List.Sublist.cons _ ?_ | exact Sbp.refl | exact Sbp.nil | refine Sbp.cons (by repeat (first | exact Rem.head | apply Rem.tail)) ?_ | exact Sbp.app | refine Sbp.skip ?_))⟩
      · intro z gj hz
        refine CS.seq ?_
        refine CS.seq ?_
        refine CS.region ?_
        refine RS.q rfl (QO.fieldAddr fo64_1 (by rfl)) ?_
        first | (refine RS.q rfl (QO.load ty24 (by rfl) (by repeat (first | exact List.Mem.head _ | refine List.Mem.tail _ ?_)) (by rfl)) ?_) | (refine RS.q rfl (QO.loadO ty24 (by rfl) (by assumption)) ?_) | (refine RS.q rfl (QO.load ty24 (by rfl) (by repeat (first | exact List.Mem.head _ | refine List.Mem.tail _ ?_)) (by assumption)) ?_)
        refine RS.q rfl (QO.lenS Try.underlying24 (by rfl)) ?_
        refine RS.q rfl (QO.move) ?_
        refine RS.nil ?_
        refine thenC_n ?_
        refine CS.block ?_
        refine CS.loop (X := Nat) (6 :: 14 :: 15 :: 105 :: 106 :: 107 :: 108 :: 109 :: 110 :: 111 :: 112 :: 113 :: 114 :: 115 :: 116 :: 117 :: 118 :: []) (fun k => [(105, iv (k : Int))]) (fun k => [⟨g10, 64, [iv (X + (r : Int)), iv (Y + (r : Int)), iv ((W2 : Nat) : Int), iv ((H2 : Nat) : Int), .slice (some ⟨ga, 0, none⟩) (W2 * H2) (W2 * H2)]⟩, ⟨ga, 33, (matV (mnS (2 * r + 1) f) (W2) (W2 * H2)).map flt⟩, ⟨g12, 64, [iv (X + (r : Int)), iv (Y + (r : Int)), iv ((W2 : Nat) : Int), iv ((H2 : Nat) : Int), .slice (some ⟨gb, 0, none⟩) (W2 * H2) (W2 * H2)]⟩, ⟨gb, 33, (matV (mxS (2 * r + 1) (fun x y => 1024 - f x y)) (W2) (W2 * H2)).map flt⟩, ⟨g8, 64, [iv X, iv Y, iv (Wd : Int), iv (Hh : Int), .slice (some ⟨gi, 0, none⟩) N N]⟩, ⟨gi, 33, (matV (fun x y => 1024 - f x y) (Wd) (N)).map flt⟩, ⟨g3, 64, [iv X, iv Y, iv (Wd : Int), iv (Hh : Int), .slice (some ⟨gm, 0, none⟩) N N]⟩, ⟨gm, 33, (matV f Wd N).map flt⟩]) (fun k => k ≤ W2 * H2) (fun k => W2 * H2 - k) 0 (Nat.zero_le _) ?_ ?_ ?_
        · exact (by repeat (first | exact kn_nil | refine kn_cons (by rfl) ?_))
        · exact (by repeat (first | exact List.Sublist.refl _ | exact List.nil_sublist _ | refine List.Sublist.cons_cons _ ?_ | refine List.Sublist.cons _ ?_ | exact Sbp.refl | exact Sbp.nil | refine Sbp.cons (by repeat (first | exact Rem.head | apply Rem.tail)) ?_ | exact Sbp.app | refine Sbp.skip ?_))
        · intro k gj19 hz
          refine CS.seq ?_
          refine CS.region ?_
          refine RS.q rfl (QO.lss (by rfl) (by rfl)) ?_
          refine RS.nil ?_
          refine thenC_n ?_
          refine CS.seq ?_
          refine CS.cond (by rfl) (fun hb2 => ?_) (fun hb2 => ?_)
          · have hb2p := of_decide_eq_true hb2
            refine CS.skip ?_
            refine thenC_n ?_
            refine CS.seq ?_
            refine CS.block ?_
            refine CS.seq ?_
            refine CS.region ?_
            refine RS.q rfl (QO.move) ?_
            first | (refine RS.q rfl (QO.idx0 Try.underlying24 ty33 (by rfl) (by rfl) (by rfl) (by omega)) ?_) | (refine RS.q rfl (QO.idxn Try.underlying24 ty33 (by rfl) (by rfl) (by rfl) (by omega)) ?_) | (refine RS.q rfl (QO.idx1 Try.underlying24 ty33 (by rfl) (by rfl) (by omega) (by omega)) ?_)
            refine RS.q rfl (QO.load ty33 (by rfl) (by repeat (first | exact List.Mem.head _ | refine List.Mem.tail _ ?_)) (matV_cell (by omega))) ?_
            refine RS.q rfl (QO.assign) ?_
            refine RS.q rfl (QO.assign) ?_
            refine RS.nil ?_
            refine thenC_n ?_
            refine CS.seq ?_
            refine CS.region ?_
            refine RS.q rfl (QO.move) ?_
            refine RS.q rfl (QO.fieldAddr fo64_1 (by rfl)) ?_
            first | (refine RS.q rfl (QO.load ty24 (by rfl) (by repeat (first | exact List.Mem.head _ | refine List.Mem.tail _ ?_)) (by rfl)) ?_) | (refine RS.q rfl (QO.loadO ty24 (by rfl) (by assumption)) ?_) | (refine RS.q rfl (QO.load ty24 (by rfl) (by repeat (first | exact List.Mem.head _ | refine List.Mem.tail _ ?_)) (by assumption)) ?_)
            refine RS.q rfl (QO.move) ?_
            first | (refine RS.q rfl (QO.idx0 Try.underlying24 ty33 (by rfl) (by rfl) (by rfl) (by omega)) ?_) | (refine RS.q rfl (QO.idxn Try.underlying24 ty33 (by rfl) (by rfl) (by rfl) (by omega)) ?_) | (refine RS.q rfl (QO.idx1 Try.underlying24 ty33 (by rfl) (by rfl) (by omega) (by omega)) ?_)
            refine RS.q rfl (QO.load ty33 (by rfl) (by repeat (first | exact List.Mem.head _ | refine List.Mem.tail _ ?_)) (matV_cell (by omega))) ?_
            refine RS.farith rfl (by rfl) (by rfl) (by simp) ?_
            intro r116 hr116
            have h117 := turn_eq (s := (2 * r + 1)) (by omega) hf hr116
            refine RS.q rfl (QO.fcmp32 (by rfl) (by rfl) (by simp)) ?_
            refine RS.nil ?_
            refine thenC_n ?_
            refine CS.condF (by rfl) h117 ?_
            refine CS.skip ?_
            refine blockC_n ?_
            refine thenC_n ?_
            refine CS.region ?_
            first | (refine RS.q rfl (QO.add (by rfl) (by rfl) (by omega) (by omega)) ?_) | (refine RS.q rfl (QO.ibin (by rfl) (by rfl) trivial) ?_)
            refine RS.q rfl (QO.move) ?_
            refine RS.nil ?_
            refine loopQ_n (by intro t ht; repeat (first | with_reducible exact rfl | exact frame_puts ht (frame_mix ht) _ rfl | (refine frame_put rfl ht ?_) | (refine frame_puts ht ?_ _ rfl) | exact frame_mix ht | (refine frame_mix2 rfl ht ?_) | exact rfl)) ?_
            exact ⟨k + 1, by omega, by omega, (by repeat (first | exact kn_nil | refine kn_cons (by rfl) ?_)), (by repeat (first | exact List.Sublist.refl _ | exact List.nil_sublist _ | refine List.Sublist.cons_cons _ ?_ | refine List.Sublist.cons _ ?_ | exact Sbp.refl | exact Sbp.nil | refine Sbp.cons (by repeat (first | exact Rem.head | apply Rem.tail)) ?_ | exact Sbp.app | refine Sbp.skip ?_))⟩
          · have hb2p := of_decide_eq_false hb2
            refine CS.exit ?_
            refine thenC_x ?_
            refine loopQ_x ?_
            refine blockC_x ?_
            refine thenC_n ?_
            refine CS.seq ?_
            refine CS.region ?_
            first | (refine RS.q rfl (QO.loadB ty64 (by rfl) (by repeat (first | exact List.Mem.head _ | refine List.Mem.tail _ ?_)) (by rfl)) ?_) | (refine RS.q rfl (QO.loadA ty64 (by rfl) (by repeat (first | exact List.Mem.head _ | refine List.Mem.tail _ ?_)) (by rfl) (by rfl)) ?_) | (refine RS.q rfl (QO.loadOA ty64 (by rfl) (by assumption) (by rfl)) ?_)
            refine RS.q rfl (QO.move) ?_
            refine RS.call rfl (by rfl) ok60 (by rfl) (fun w ho => spreadM (X + (r : Int)) (Y + (r : Int)) W2 H2 W4 H4 ga (W2 * H2) (W4 * H4) (mnS (2 * r + 1) f) r _ (mnS_bd hf) (FS.blk' ho (by repeat (first | exact List.Mem.head _ | refine List.Mem.tail _ ?_))) rfl (by omega) (by omega) (by omega) (by omega) (by omega) (by omega) (by omega) rfl (by omega) (by omega)) ?_
            rintro _ _ ⟨go, rfl, rfl⟩
            refine RS.q rfl (QO.move) ?_
            refine RS.q rfl (QO.extract (by rfl) (by rfl)) ?_
            refine RS.q rfl (QO.extract (by rfl) (by rfl)) ?_
            refine RS.alloc rfl ty64 ?_
            intro g16
            first | refine RS.storeB ty64 (by rfl) (by rfl) (by rfl) (by rfl) (by rfl) (by repeat (first | exact Upd.head | apply Upd.tail)) (by rfl) ?_ | refine RS.storeP ty64 (by rfl) (by rfl) (by rfl) (by rfl) (by rfl) (by repeat (first | exact Upd.head | apply Upd.tail)) (by rfl) ?_
            refine RS.q rfl (QO.assign) ?_
            refine RS.nil ?_
            refine thenC_n ?_
            refine CS.cut (X := Unit) [6, 125, 126] (fun z => []) (fun z => [⟨g16, 64, [iv (X + (r : Int) + (r : Int)), iv (Y + (r : Int) + (r : Int)), iv ((W4 : Nat) : Int), iv ((H4 : Nat) : Int), .slice (some ⟨go, 0, none⟩) (W4 * H4) (W4 * H4)]⟩, ⟨go, 33, (matV (mxS (2 * r + 1) (mnS (2 * r + 1) f)) (W4) (W4 * H4)).map flt⟩, ⟨g10, 64, [iv (X + (r : Int)), iv (Y + (r : Int)), iv ((W2 : Nat) : Int), iv ((H2 : Nat) : Int), .slice (some ⟨ga, 0, none⟩) (W2 * H2) (W2 * H2)]⟩, ⟨ga, 33, (matV (mnS (2 * r + 1) f) (W2) (W2 * H2)).map flt⟩, ⟨g12, 64, [iv (X + (r : Int)), iv (Y + (r : Int)), iv ((W2 : Nat) : Int), iv ((H2 : Nat) : Int), .slice (some ⟨gb, 0, none⟩) (W2 * H2) (W2 * H2)]⟩, ⟨gb, 33, (matV (mxS (2 * r + 1) (fun x y => 1024 - f x y)) (W2) (W2 * H2)).map flt⟩, ⟨g8, 64, [iv X, iv Y, iv (Wd : Int), iv (Hh : Int), .slice (some ⟨gi, 0, none⟩) N N]⟩, ⟨gi, 33, (matV (fun x y => 1024 - f x y) (Wd) (N)).map flt⟩, ⟨g3, 64, [iv X, iv Y, iv (Wd : Int), iv (Hh : Int), .slice (some ⟨gm, 0, none⟩) N N]⟩, ⟨gm, 33, (matV f Wd N).map flt⟩]) (fun z => True) ?_ ?_
            · refine CS.seq ?_
              refine CS.region ?_
              refine RS.q rfl (QO.move) ?_
              refine RS.q rfl (QO.neq (by rfl) (by rfl)) ?_
              refine RS.nil ?_
              refine thenC_n ?_
              refine CS.condF (by rfl) rfl ?_
              refine CS.skip ?_
              refine cutQ_n (by intro t ht; repeat (first | with_reducible exact rfl | exact frame_puts ht (frame_mix ht) _ rfl | (refine frame_put rfl ht ?_) | (refine frame_puts ht ?_ _ rfl) | exact frame_mix ht | (refine frame_mix2 rfl ht ?_) | exact rfl)) ?_
              exact ⟨(), trivial, (by repeat (first | exact kn_nil | refine kn_cons (by rfl) ?_)), (by repeat (first | exact List.Sublist.refl _ | exact List.nil_sublist _ | refine List.Sublist.cons_cons _ ?_ | refine List.Sublist.cons _ ?_ | exact Sbp.refl | exact Sbp.nil | refine Sbp.cons (by repeat (first | exact Rem.head | apply Rem.tail)) ?_ | exact Sbp.app | refine Sbp.skip ?_))⟩
            · intro z gj hz
              refine CS.seq ?_
              refine CS.seq ?_
              refine CS.region ?_
              refine RS.q rfl (QO.fieldAddr fo64_0 (by rfl)) ?_
              refine RS.q rfl (QO.fieldAddr fo23_1 (by rfl)) ?_
              first | (refine RS.q rfl (QO.load ty3 (by rfl) (by repeat (first | exact List.Mem.head _ | refine List.Mem.tail _ ?_)) (by rfl)) ?_) | (refine RS.q rfl (QO.loadO ty3 (by rfl) (by assumption)) ?_) | (refine RS.q rfl (QO.load ty3 (by rfl) (by repeat (first | exact List.Mem.head _ | refine List.Mem.tail _ ?_)) (by assumption)) ?_)
              refine RS.q rfl (QO.assign) ?_
              refine RS.nil ?_
              refine thenC_n ?_
              refine CS.block ?_
              refine CS.loop (X := Nat) (6 :: 17 :: 18 :: 130 :: 131 :: 132 :: 133 :: 134 :: 135 :: 136 :: 137 :: 138 :: 139 :: 140 :: 141 :: 142 :: 143 :: 144 :: 145 :: 146 :: 147 :: 148 :: 149 :: 150 :: 151 :: 152 :: 153 :: 154 :: 155 :: 156 :: 157 :: 158 :: 159 :: 160 :: 161 :: 162 :: 163 :: 164 :: 165 :: 166 :: 167 :: 168 :: 169 :: 170 :: 171 :: 172 :: 173 :: 174 :: 175 :: 176 :: 177 :: 178 :: 179 :: 180 :: 181 :: 182 :: 183 :: 184 :: 185 :: 186 :: 187 :: 188 :: 189 :: 190 :: 191 :: 192 :: 193 :: []) (fun j => [(17, iv ((Y + (r : Int) + (r : Int)) + (j : Int)))]) (fun j => [⟨g16, 64, [iv (X + (r : Int) + (r : Int)), iv (Y + (r : Int) + (r : Int)), iv ((W4 : Nat) : Int), iv ((H4 : Nat) : Int), .slice (some ⟨go, 0, none⟩) (W4 * H4) (W4 * H4)]⟩, ⟨go, 33, (matV (mxS (2 * r + 1) (mnS (2 * r + 1) f)) (W4) (W4 * H4)).map flt⟩, ⟨g10, 64, [iv (X + (r : Int)), iv (Y + (r : Int)), iv ((W2 : Nat) : Int), iv ((H2 : Nat) : Int), .slice (some ⟨ga, 0, none⟩) (W2 * H2) (W2 * H2)]⟩, ⟨ga, 33, (matV (mnS (2 * r + 1) f) (W2) (W2 * H2)).map flt⟩, ⟨g12, 64, [iv (X + (r : Int)), iv (Y + (r : Int)), iv ((W2 : Nat) : Int), iv ((H2 : Nat) : Int), .slice (some ⟨gb, 0, none⟩) (W2 * H2) (W2 * H2)]⟩, ⟨gb, 33, (matV (mxS (2 * r + 1) (fun x y => 1024 - f x y)) (W2) (W2 * H2)).map flt⟩, ⟨g8, 64, [iv X, iv Y, iv (Wd : Int), iv (Hh : Int), .slice (some ⟨gi, 0, none⟩) N N]⟩, ⟨gi, 33, (matV (fun x y => 1024 - f x y) (Wd) (N)).map flt⟩, ⟨g3, 64, [iv X, iv Y, iv (Wd : Int), iv (Hh : Int), .slice (some ⟨gm, 0, none⟩) N N]⟩, ⟨gm, 33, (matV f Wd N).map flt⟩]) (fun j => j ≤ H4) (fun j => H4 - j) 0 (Nat.zero_le _) ?_ ?_ ?_
              · exact kn_cons (congrArg iv (show (Y + (r : Int) + (r : Int)) = (Y + (r : Int) + (r : Int)) + ((0 : Nat) : Int) by omega)) kn_nil
              · exact (by repeat (first | exact List.Sublist.refl _ | exact List.nil_sublist _ | refine List.Sublist.cons_cons _ ?_ | refine List.Sublist.cons _ ?_ | exact Sbp.refl | exact Sbp.nil | refine Sbp.cons (by repeat (first | exact Rem.head | apply Rem.tail)) ?_ | exact Sbp.app | refine Sbp.skip ?_))
              · intro j gj28 hz
                refine CS.seq ?_
                refine CS.seq ?_
                refine CS.region ?_
                refine RS.q rfl (QO.move) ?_
                refine RS.q rfl (QO.fieldAddr fo64_0 (by rfl)) ?_
                refine RS.q rfl (QO.fieldAddr fo23_1 (by rfl)) ?_
                first | (refine RS.q rfl (QO.load ty3 (by rfl) (by repeat (first | exact List.Mem.head _ | refine List.Mem.tail _ ?_)) (by rfl)) ?_) | (refine RS.q rfl (QO.loadO ty3 (by rfl) (by assumption)) ?_) | (refine RS.q rfl (QO.load ty3 (by rfl) (by repeat (first | exact List.Mem.head _ | refine List.Mem.tail _ ?_)) (by assumption)) ?_)
                refine RS.q rfl (QO.fieldAddr fo64_0 (by rfl)) ?_
                refine RS.q rfl (QO.fieldAddr fo23_3 (by rfl)) ?_
                first | (refine RS.q rfl (QO.load ty3 (by rfl) (by repeat (first | exact List.Mem.head _ | refine List.Mem.tail _ ?_)) (by rfl)) ?_) | (refine RS.q rfl (QO.loadO ty3 (by rfl) (by assumption)) ?_) | (refine RS.q rfl (QO.load ty3 (by rfl) (by repeat (first | exact List.Mem.head _ | refine List.Mem.tail _ ?_)) (by assumption)) ?_)
                first | (refine RS.q rfl (QO.add (by rfl) (by rfl) (by omega) (by omega)) ?_) | (refine RS.q rfl (QO.ibin (by rfl) (by rfl) trivial) ?_)
                refine RS.q rfl (QO.lss (by rfl) (by rfl)) ?_
                refine RS.nil ?_
                refine thenC_n ?_
                refine CS.cond (by rfl) (fun hb3 => ?_) (fun hb3 => ?_)
                · have hb3p := of_decide_eq_true hb3
                  refine CS.skip ?_
                  refine thenC_n ?_
                  refine CS.seq ?_
                  refine CS.block ?_
                  refine CS.seq ?_
                  refine CS.region ?_
                  refine RS.q rfl (QO.fieldAddr fo64_0 (by rfl)) ?_
                  refine RS.q rfl (QO.fieldAddr fo23_0 (by rfl)) ?_
                  first | (refine RS.q rfl (QO.load ty3 (by rfl) (by repeat (first | exact List.Mem.head _ | refine List.Mem.tail _ ?_)) (by rfl)) ?_) | (refine RS.q rfl (QO.loadO ty3 (by rfl) (by assumption)) ?_) | (refine RS.q rfl (QO.load ty3 (by rfl) (by repeat (first | exact List.Mem.head _ | refine List.Mem.tail _ ?_)) (by assumption)) ?_)
                  refine RS.q rfl (QO.assign) ?_
                  refine RS.nil ?_
                  refine thenC_n ?_
                  refine CS.block ?_
                  refine CS.loop (X := Nat) (6 :: 18 :: 144 :: 145 :: 146 :: 147 :: 148 :: 149 :: 150 :: 151 :: 152 :: 153 :: 154 :: 155 :: 156 :: 157 :: 158 :: 159 :: 160 :: 161 :: 162 :: 163 :: 164 :: 165 :: 166 :: 167 :: 168 :: 169 :: 170 :: 171 :: 172 :: 173 :: 174 :: 175 :: 176 :: 177 :: 178 :: 179 :: 180 :: 181 :: 182 :: 183 :: 184 :: 185 :: 186 :: 187 :: 188 :: 189 :: 190 :: 191 :: 192 :: 193 :: []) (fun i => [(18, iv ((X + (r : Int) + (r : Int)) + (i : Int)))]) (fun i => [⟨g16, 64, [iv (X + (r : Int) + (r : Int)), iv (Y + (r : Int) + (r : Int)), iv ((W4 : Nat) : Int), iv ((H4 : Nat) : Int), .slice (some ⟨go, 0, none⟩) (W4 * H4) (W4 * H4)]⟩, ⟨go, 33, (matV (mxS (2 * r + 1) (mnS (2 * r + 1) f)) (W4) (W4 * H4)).map flt⟩, ⟨g10, 64, [iv (X + (r : Int)), iv (Y + (r : Int)), iv ((W2 : Nat) : Int), iv ((H2 : Nat) : Int), .slice (some ⟨ga, 0, none⟩) (W2 * H2) (W2 * H2)]⟩, ⟨ga, 33, (matV (mnS (2 * r + 1) f) (W2) (W2 * H2)).map flt⟩, ⟨g12, 64, [iv (X + (r : Int)), iv (Y + (r : Int)), iv ((W2 : Nat) : Int), iv ((H2 : Nat) : Int), .slice (some ⟨gb, 0, none⟩) (W2 * H2) (W2 * H2)]⟩, ⟨gb, 33, (matV (mxS (2 * r + 1) (fun x y => 1024 - f x y)) (W2) (W2 * H2)).map flt⟩, ⟨g8, 64, [iv X, iv Y, iv (Wd : Int), iv (Hh : Int), .slice (some ⟨gi, 0, none⟩) N N]⟩, ⟨gi, 33, (matV (fun x y => 1024 - f x y) (Wd) (N)).map flt⟩, ⟨g3, 64, [iv X, iv Y, iv (Wd : Int), iv (Hh : Int), .slice (some ⟨gm, 0, none⟩) N N]⟩, ⟨gm, 33, (matV f Wd N).map flt⟩]) (fun i => i ≤ W4) (fun i => W4 - i) 0 (Nat.zero_le _) ?_ ?_ ?_
                  · exact kn_cons (congrArg iv (show (X + (r : Int) + (r : Int)) = (X + (r : Int) + (r : Int)) + ((0 : Nat) : Int) by omega)) kn_nil
                  · exact (by repeat (first | exact List.Sublist.refl _ | exact List.nil_sublist _ | refine List.Sublist.cons_cons _ ?_ | refine List.Sublist.cons _ ?_ | exact Sbp.refl | exact Sbp.nil | refine Sbp.cons (by repeat (first | exact Rem.head | apply Rem.tail)) ?_ | exact Sbp.app | refine Sbp.skip ?_))
                  · intro i gj31 hz
                    refine CS.seq ?_
                    refine CS.seq ?_
                    refine CS.region ?_
                    refine RS.q rfl (QO.move) ?_
                    refine RS.q rfl (QO.fieldAddr fo64_0 (by rfl)) ?_
                    refine RS.q rfl (QO.fieldAddr fo23_0 (by rfl)) ?_
                    first | (refine RS.q rfl (QO.load ty3 (by rfl) (by repeat (first | exact List.Mem.head _ | refine List.Mem.tail _ ?_)) (by rfl)) ?_) | (refine RS.q rfl (QO.loadO ty3 (by rfl) (by assumption)) ?_) | (refine RS.q rfl (QO.load ty3 (by rfl) (by repeat (first | exact List.Mem.head _ | refine List.Mem.tail _ ?_)) (by assumption)) ?_)
                    refine RS.q rfl (QO.fieldAddr fo64_0 (by rfl)) ?_
                    refine RS.q rfl (QO.fieldAddr fo23_2 (by rfl)) ?_
                    first | (refine RS.q rfl (QO.load ty3 (by rfl) (by repeat (first | exact List.Mem.head _ | refine List.Mem.tail _ ?_)) (by rfl)) ?_) | (refine RS.q rfl (QO.loadO ty3 (by rfl) (by assumption)) ?_) | (refine RS.q rfl (QO.load ty3 (by rfl) (by repeat (first | exact List.Mem.head _ | refine List.Mem.tail _ ?_)) (by assumption)) ?_)
                    first | (refine RS.q rfl (QO.add (by rfl) (by rfl) (by omega) (by omega)) ?_) | (refine RS.q rfl (QO.ibin (by rfl) (by rfl) trivial) ?_)
                    refine RS.q rfl (QO.lss (by rfl) (by rfl)) ?_
                    refine RS.nil ?_
                    refine thenC_n ?_
                    refine CS.cond (by rfl) (fun hb4 => ?_) (fun hb4 => ?_)
                    · have hb4p := of_decide_eq_true hb4
                      refine CS.skip ?_
                      refine thenC_n ?_
                      refine CS.seq ?_
                      refine CS.block ?_
                      refine CS.seq ?_
                      refine CS.draw 39 rfl (by kernel_rfl) (by kernel_rfl) ?_
                      have hx3 : ∃ p, j * W4 = p := ⟨_, rfl⟩
                      have hx4 : ∃ p, (2 * r + j) * Wd = p := ⟨_, rfl⟩
                      obtain ⟨p, hp⟩ := hx3
                      obtain ⟨p2, hp2⟩ := hx4
                      have hmul : (j : Int) * (W4 : Int) = (p : Int) := by rw [← hp]; exact (Int.natCast_mul ..).symm
                      have hmul2 : ((2 * r + j : Nat) : Int) * (Wd : Int) = (p2 : Int) := by rw [← hp2]; exact (Int.natCast_mul ..).symm
                      have hp9 := Nat.mul_le_mul (show j ≤ 40 by omega) (show W4 ≤ 40 by omega)
                      have hp8 := Nat.mul_le_mul (show 2 * r + j ≤ 40 by omega) (show Wd ≤ 40 by omega)
                      have hp7 := Nat.mul_le_mul_right W4 (show j + 1 ≤ H4 by omega)
                      have hp6 := Nat.mul_le_mul_right Wd (show 2 * r + j + 1 ≤ Hh by omega)
                      rw [Nat.add_mul, Nat.one_mul, hp, Nat.mul_comm H4 W4] at hp7
                      rw [Nat.add_mul, Nat.one_mul, hp2, Nat.mul_comm Hh Wd] at hp6
                      have hx9 : ∃ q, 2 * r + i = q := ⟨_, rfl⟩
                      obtain ⟨q, hq⟩ := hx9
                      refine RT.take (i := 0) rfl (by kernel_rfl) rfl (QO.fieldAddr fo64_1 (by rfl)) ?_
                      first | (refine RT.take (i := 1) rfl (by kernel_rfl) rfl (QO.load ty24 (by rfl) (by repeat (first | exact List.Mem.head _ | refine List.Mem.tail _ ?_)) (by rfl)) ?_) | (refine RT.take (i := 1) rfl (by kernel_rfl) rfl (QO.loadO ty24 (by rfl) (by assumption)) ?_) | (refine RT.take (i := 1) rfl (by kernel_rfl) rfl (QO.load ty24 (by rfl) (by repeat (first | exact List.Mem.head _ | refine List.Mem.tail _ ?_)) (by assumption)) ?_)
                      refine RT.take (i := 2) rfl (by kernel_rfl) rfl (QO.move) ?_
                      refine RT.take (i := 3) rfl (by kernel_rfl) rfl (QO.fieldAddr fo64_0 (by rfl)) ?_
                      refine RT.take (i := 4) rfl (by kernel_rfl) rfl (QO.fieldAddr fo23_1 (by rfl)) ?_
                      first | (refine RT.take (i := 5) rfl (by kernel_rfl) rfl (QO.load ty3 (by rfl) (by repeat (first | exact List.Mem.head _ | refine List.Mem.tail _ ?_)) (by rfl)) ?_) | (refine RT.take (i := 5) rfl (by kernel_rfl) rfl (QO.loadO ty3 (by rfl) (by assumption)) ?_) | (refine RT.take (i := 5) rfl (by kernel_rfl) rfl (QO.load ty3 (by rfl) (by repeat (first | exact List.Mem.head _ | refine List.Mem.tail _ ?_)) (by assumption)) ?_)
                      first | (refine RT.takev (i := 6) rfl (by kernel_rfl) rfl (QO.sub (by rfl) (by rfl) (by omega) (by omega)) (congrArg iv (show Y + (r : Int) + (r : Int) + (j : Int) - (Y + (r : Int) + (r : Int)) = (j : Int) by omega)) ?_) | (refine RT.takev (i := 6) rfl (by kernel_rfl) rfl (QO.ibin (by rfl) (by rfl) trivial) (congrArg iv (show Y + (r : Int) + (r : Int) + (j : Int) - (Y + (r : Int) + (r : Int)) = (j : Int) by omega)) ?_)
                      refine RT.take (i := 7) rfl (by kernel_rfl) rfl (QO.fieldAddr fo64_0 (by rfl)) ?_
                      refine RT.take (i := 8) rfl (by kernel_rfl) rfl (QO.fieldAddr fo23_2 (by rfl)) ?_
                      first | (refine RT.take (i := 9) rfl (by kernel_rfl) rfl (QO.load ty3 (by rfl) (by repeat (first | exact List.Mem.head _ | refine List.Mem.tail _ ?_)) (by rfl)) ?_) | (refine RT.take (i := 9) rfl (by kernel_rfl) rfl (QO.loadO ty3 (by rfl) (by assumption)) ?_) | (refine RT.take (i := 9) rfl (by kernel_rfl) rfl (QO.load ty3 (by rfl) (by repeat (first | exact List.Mem.head _ | refine List.Mem.tail _ ?_)) (by assumption)) ?_)
                      refine RT.takev (i := 10) rfl (by kernel_rfl) rfl (QO.mul (by rfl) (by rfl) (by rw [hmul]; omega) (by rw [hmul]; omega)) (congrArg iv (show (j : Int) * (W4 : Int) = (p : Int) from hmul)) ?_
                      refine RT.take (i := 11) rfl (by kernel_rfl) rfl (QO.move) ?_
                      first | (refine RT.take (i := 12) rfl (by kernel_rfl) rfl (QO.add (by rfl) (by rfl) (by omega) (by omega)) ?_) | (refine RT.take (i := 12) rfl (by kernel_rfl) rfl (QO.ibin (by rfl) (by rfl) trivial) ?_)
                      refine RT.take (i := 13) rfl (by kernel_rfl) rfl (QO.fieldAddr fo64_0 (by rfl)) ?_
                      refine RT.take (i := 14) rfl (by kernel_rfl) rfl (QO.fieldAddr fo23_0 (by rfl)) ?_
                      first | (refine RT.take (i := 15) rfl (by kernel_rfl) rfl (QO.load ty3 (by rfl) (by repeat (first | exact List.Mem.head _ | refine List.Mem.tail _ ?_)) (by rfl)) ?_) | (refine RT.take (i := 15) rfl (by kernel_rfl) rfl (QO.loadO ty3 (by rfl) (by assumption)) ?_) | (refine RT.take (i := 15) rfl (by kernel_rfl) rfl (QO.load ty3 (by rfl) (by repeat (first | exact List.Mem.head _ | refine List.Mem.tail _ ?_)) (by assumption)) ?_)
                      first | (refine RT.takev (i := 16) rfl (by kernel_rfl) rfl (QO.sub (by rfl) (by rfl) (by omega) (by omega)) (congrArg iv (show (p : Int) + (X + (r : Int) + (r : Int) + (i : Int)) - (X + (r : Int) + (r : Int)) = ((p + i : Nat) : Int) by omega)) ?_) | (refine RT.takev (i := 16) rfl (by kernel_rfl) rfl (QO.ibin (by rfl) (by rfl) trivial) (congrArg iv (show (p : Int) + (X + (r : Int) + (r : Int) + (i : Int)) - (X + (r : Int) + (r : Int)) = ((p + i : Nat) : Int) by omega)) ?_)
                      first | (refine RT.take (i := 17) rfl (by kernel_rfl) rfl (QO.idx0 Try.underlying24 ty33 (by rfl) (by rfl) (by rfl) (by omega)) ?_) | (refine RT.take (i := 17) rfl (by kernel_rfl) rfl (QO.idxn Try.underlying24 ty33 (by rfl) (by rfl) (by rfl) (by omega)) ?_) | (refine RT.take (i := 17) rfl (by kernel_rfl) rfl (QO.idx1 Try.underlying24 ty33 (by rfl) (by rfl) (by omega) (by omega)) ?_)
                      refine RT.take (i := 18) rfl (by kernel_rfl) rfl (QO.load ty33 (by rfl) (by repeat (first | exact List.Mem.head _ | refine List.Mem.tail _ ?_)) (matV_cell2 (i := i) (j := j) rfl hp (by omega) (by omega))) ?_
                      refine RT.take (i := 19) rfl (by kernel_rfl) rfl (QO.fieldAddr fo64_1 (by rfl)) ?_
                      first | (refine RT.take (i := 20) rfl (by kernel_rfl) rfl (QO.load ty24 (by rfl) (by repeat (first | exact List.Mem.head _ | refine List.Mem.tail _ ?_)) (by rfl)) ?_) | (refine RT.take (i := 20) rfl (by kernel_rfl) rfl (QO.loadO ty24 (by rfl) (by assumption)) ?_) | (refine RT.take (i := 20) rfl (by kernel_rfl) rfl (QO.load ty24 (by rfl) (by repeat (first | exact List.Mem.head _ | refine List.Mem.tail _ ?_)) (by assumption)) ?_)
                      refine RT.take (i := 21) rfl (by kernel_rfl) rfl (QO.move) ?_
                      refine RT.take (i := 22) rfl (by kernel_rfl) rfl (QO.fieldAddr fo64_0 (by rfl)) ?_
                      refine RT.take (i := 23) rfl (by kernel_rfl) rfl (QO.fieldAddr fo23_1 (by rfl)) ?_
                      first | (refine RT.take (i := 24) rfl (by kernel_rfl) rfl (QO.load ty3 (by rfl) (by repeat (first | exact List.Mem.head _ | refine List.Mem.tail _ ?_)) (by rfl)) ?_) | (refine RT.take (i := 24) rfl (by kernel_rfl) rfl (QO.loadO ty3 (by rfl) (by assumption)) ?_) | (refine RT.take (i := 24) rfl (by kernel_rfl) rfl (QO.load ty3 (by rfl) (by repeat (first | exact List.Mem.head _ | refine List.Mem.tail _ ?_)) (by assumption)) ?_)
                      first | (refine RT.takev (i := 25) rfl (by kernel_rfl) rfl (QO.sub (by rfl) (by rfl) (by omega) (by omega)) (congrArg iv (show Y + (r : Int) + (r : Int) + (j : Int) - (Y) = ((2 * r + j : Nat) : Int) by omega)) ?_) | (refine RT.takev (i := 25) rfl (by kernel_rfl) rfl (QO.ibin (by rfl) (by rfl) trivial) (congrArg iv (show Y + (r : Int) + (r : Int) + (j : Int) - (Y) = ((2 * r + j : Nat) : Int) by omega)) ?_)
                      refine RT.take (i := 26) rfl (by kernel_rfl) rfl (QO.fieldAddr fo64_0 (by rfl)) ?_
                      refine RT.take (i := 27) rfl (by kernel_rfl) rfl (QO.fieldAddr fo23_2 (by rfl)) ?_
                      first | (refine RT.take (i := 28) rfl (by kernel_rfl) rfl (QO.load ty3 (by rfl) (by repeat (first | exact List.Mem.head _ | refine List.Mem.tail _ ?_)) (by rfl)) ?_) | (refine RT.take (i := 28) rfl (by kernel_rfl) rfl (QO.loadO ty3 (by rfl) (by assumption)) ?_) | (refine RT.take (i := 28) rfl (by kernel_rfl) rfl (QO.load ty3 (by rfl) (by repeat (first | exact List.Mem.head _ | refine List.Mem.tail _ ?_)) (by assumption)) ?_)
                      refine RT.takev (i := 29) rfl (by kernel_rfl) rfl (QO.mul (by rfl) (by rfl) (by rw [hmul2]; omega) (by rw [hmul2]; omega)) (congrArg iv (show ((2 * r + j : Nat) : Int) * (Wd : Int) = (p2 : Int) from hmul2)) ?_
                      refine RT.take (i := 30) rfl (by kernel_rfl) rfl (QO.move) ?_
                      first | (refine RT.take (i := 31) rfl (by kernel_rfl) rfl (QO.add (by rfl) (by rfl) (by omega) (by omega)) ?_) | (refine RT.take (i := 31) rfl (by kernel_rfl) rfl (QO.ibin (by rfl) (by rfl) trivial) ?_)
                      refine RT.take (i := 32) rfl (by kernel_rfl) rfl (QO.fieldAddr fo64_0 (by rfl)) ?_
                      refine RT.take (i := 33) rfl (by kernel_rfl) rfl (QO.fieldAddr fo23_0 (by rfl)) ?_
                      first | (refine RT.take (i := 34) rfl (by kernel_rfl) rfl (QO.load ty3 (by rfl) (by repeat (first | exact List.Mem.head _ | refine List.Mem.tail _ ?_)) (by rfl)) ?_) | (refine RT.take (i := 34) rfl (by kernel_rfl) rfl (QO.loadO ty3 (by rfl) (by assumption)) ?_) | (refine RT.take (i := 34) rfl (by kernel_rfl) rfl (QO.load ty3 (by rfl) (by repeat (first | exact List.Mem.head _ | refine List.Mem.tail _ ?_)) (by assumption)) ?_)
                      first | (refine RT.takev (i := 35) rfl (by kernel_rfl) rfl (QO.sub (by rfl) (by rfl) (by omega) (by omega)) (congrArg iv (show (p2 : Int) + (X + (r : Int) + (r : Int) + (i : Int)) - (X) = ((p2 + q : Nat) : Int) by omega)) ?_) | (refine RT.takev (i := 35) rfl (by kernel_rfl) rfl (QO.ibin (by rfl) (by rfl) trivial) (congrArg iv (show (p2 : Int) + (X + (r : Int) + (r : Int) + (i : Int)) - (X) = ((p2 + q : Nat) : Int) by omega)) ?_)
                      first | (refine RT.take (i := 36) rfl (by kernel_rfl) rfl (QO.idx0 Try.underlying24 ty33 (by rfl) (by rfl) (by rfl) (by omega)) ?_) | (refine RT.take (i := 36) rfl (by kernel_rfl) rfl (QO.idxn Try.underlying24 ty33 (by rfl) (by rfl) (by rfl) (by omega)) ?_) | (refine RT.take (i := 36) rfl (by kernel_rfl) rfl (QO.idx1 Try.underlying24 ty33 (by rfl) (by rfl) (by omega) (by omega)) ?_)
                      refine RT.take (i := 37) rfl (by kernel_rfl) rfl (QO.load ty33 (by rfl) (by repeat (first | exact List.Mem.head _ | refine List.Mem.tail _ ?_)) (matV_cell2 (i := q) (j := 2 * r + j) hN hp2 (by omega) (by omega))) ?_
                      have h193 := open_gtr (r := r) hf i j
                      rw [hq] at h193
                      refine RT.take (i := 38) rfl (by kernel_rfl) rfl (QO.fcmp32 (by rfl) (by rfl) (by simp)) ?_
                      refine RT.done (by kernel_rfl) ?_
                      refine thenC_n ?_
                      refine CS.condF (by rfl) h193 ?_
                      refine CS.skip ?_
                      refine blockC_n ?_
                      refine thenC_n ?_
                      refine CS.region ?_
                      refine RS.q rfl (QO.move) ?_
                      first | (refine RS.q rfl (QO.add (by rfl) (by rfl) (by omega) (by omega)) ?_) | (refine RS.q rfl (QO.ibin (by rfl) (by rfl) trivial) ?_)
                      refine RS.q rfl (QO.assign) ?_
                      refine RS.nil ?_
                      refine loopQ_n (by intro t ht; repeat (first | with_reducible exact rfl | exact frame_puts ht (frame_mix ht) _ rfl | (refine frame_put rfl ht ?_) | (refine frame_puts ht ?_ _ rfl) | exact frame_mix ht | (refine frame_mix2 rfl ht ?_) | exact rfl)) ?_
                      exact ⟨i + 1, by omega, by omega, kn_cons (congrArg iv (show (X + (r : Int) + (r : Int)) + (i : Int) + 1 = (X + (r : Int) + (r : Int)) + ((i + 1 : Nat) : Int) by omega)) kn_nil, (by repeat (first | exact List.Sublist.refl _ | exact List.nil_sublist _ | refine List.Sublist.cons_cons _ ?_ | refine List.Sublist.cons _ ?_ | exact Sbp.refl | exact Sbp.nil | refine Sbp.cons (by repeat (first | exact Rem.head | apply Rem.tail)) ?_ | exact Sbp.app | refine Sbp.skip ?_))⟩
                    · have hb4p := of_decide_eq_false hb4
                      refine CS.exit ?_
                      refine thenC_x ?_
                      refine loopQ_x ?_
                      refine blockC_x ?_
                      refine blockC_n ?_
                      refine thenC_n ?_
                      refine CS.region ?_
                      refine RS.q rfl (QO.move) ?_
                      first | (refine RS.q rfl (QO.add (by rfl) (by rfl) (by omega) (by omega)) ?_) | (refine RS.q rfl (QO.ibin (by rfl) (by rfl) trivial) ?_)
                      refine RS.q rfl (QO.assign) ?_
                      refine RS.nil ?_
                      refine loopQ_n (by intro t ht; repeat (first | with_reducible exact rfl | exact frame_puts ht (frame_mix ht) _ rfl | (refine frame_put rfl ht ?_) | (refine frame_puts ht ?_ _ rfl) | exact frame_mix ht | (refine frame_mix2 rfl ht ?_) | exact rfl)) ?_
                      exact ⟨j + 1, by omega, by omega, kn_cons (congrArg iv (show (Y + (r : Int) + (r : Int)) + (j : Int) + 1 = (Y + (r : Int) + (r : Int)) + ((j + 1 : Nat) : Int) by omega)) kn_nil, (by repeat (first | exact List.Sublist.refl _ | exact List.nil_sublist _ | refine List.Sublist.cons_cons _ ?_ | refine List.Sublist.cons _ ?_ | exact Sbp.refl | exact Sbp.nil | refine Sbp.cons (by repeat (first | exact Rem.head | apply Rem.tail)) ?_ | exact Sbp.app | refine Sbp.skip ?_))⟩
                · have hb3p := of_decide_eq_false hb3
                  refine CS.exit ?_
                  refine thenC_x ?_
                  refine loopQ_x ?_
                  refine blockC_x ?_
                  refine thenC_n ?_
                  refine CS.seq ?_
                  by_cases hsp35 : W4 ≤ 2 * r ∨ H4 ≤ 2 * r
                  · refine CS.region ?_
                    first | (refine RS.q rfl (QO.loadB ty64 (by rfl) (by repeat (first | exact List.Mem.head _ | refine List.Mem.tail _ ?_)) (by rfl)) ?_) | (refine RS.q rfl (QO.loadA ty64 (by rfl) (by repeat (first | exact List.Mem.head _ | refine List.Mem.tail _ ?_)) (by rfl) (by rfl)) ?_) | (refine RS.q rfl (QO.loadOA ty64 (by rfl) (by assumption) (by rfl)) ?_)
                    refine RS.q rfl (QO.move) ?_
                    refine RS.call rfl (by rfl) ok59 (by rfl) (fun w ho => shrinkE (X + (r : Int) + (r : Int)) (Y + (r : Int) + (r : Int)) W4 H4 go (W4 * H4) (mxS (2 * r + 1) (mnS (2 * r + 1) f)) r _ (FS.blk' ho (by repeat (first | exact List.Mem.head _ | refine List.Mem.tail _ ?_))) rfl (by omega) hsp35 (by omega) (by omega) (by omega) (by omega)) ?_
                    rintro _ _ ⟨rfl, rfl⟩
                    refine RS.q rfl (QO.move) ?_
                    refine RS.q rfl (QO.extract (by rfl) (by rfl)) ?_
                    refine RS.q rfl (QO.extract (by rfl) (by rfl)) ?_
                    refine RS.alloc rfl ty64 ?_
                    intro g19
                    first | refine RS.storeB ty64 (by rfl) (by rfl) (by rfl) (by rfl) (by rfl) (by repeat (first | exact Upd.head | apply Upd.tail)) (by rfl) ?_ | refine RS.storeP ty64 (by rfl) (by rfl) (by rfl) (by rfl) (by rfl) (by repeat (first | exact Upd.head | apply Upd.tail)) (by rfl) ?_
                    refine RS.q rfl (QO.assign) ?_
                    refine RS.nil ?_
                    refine thenC_n ?_
                    refine CS.seq ?_
                    refine CS.seq ?_
                    refine CS.region ?_
                    refine RS.q rfl (QO.move) ?_
                    refine RS.q rfl (QO.eql (by rfl) (by rfl)) ?_
                    refine RS.nil ?_
                    refine thenC_n ?_
                    refine CS.condT (by rfl) rfl ?_
                    refine CS.seq ?_
                    refine CS.region ?_
                    refine RS.q rfl (QO.assign) ?_
                    refine RS.nil ?_
                    refine thenC_n ?_
                    refine CS.ret ?_
                    refine thenC_r ?_
                    refine retQ.mk (H' := []) (.inr rfl) (RVs.tmp (by rfl) RVs.nil) (List.nil_sublist _) ?_
                    exact ⟨rfl, rfl⟩
                  · refine CS.region ?_
                    have hx2 : ∃ w, w + 2 * r = W4 := ⟨W4 - 2 * r, by omega⟩
                    obtain ⟨W6, hW6⟩ := hx2
                    have hx2 : ∃ w, w + 2 * r = H4 := ⟨H4 - 2 * r, by omega⟩
                    obtain ⟨H6, hH6⟩ := hx2
                    have hb66 := Nat.mul_le_mul (show W6 ≤ 24 by omega) (show H6 ≤ 24 by omega)
                    first | (refine RS.q rfl (QO.loadB ty64 (by rfl) (by repeat (first | exact List.Mem.head _ | refine List.Mem.tail _ ?_)) (by rfl)) ?_) | (refine RS.q rfl (QO.loadA ty64 (by rfl) (by repeat (first | exact List.Mem.head _ | refine List.Mem.tail _ ?_)) (by rfl) (by rfl)) ?_) | (refine RS.q rfl (QO.loadOA ty64 (by rfl) (by assumption) (by rfl)) ?_)
                    refine RS.q rfl (QO.move) ?_
                    refine RS.call rfl (by rfl) ok59 (by rfl) (fun w ho => shrinkM (X + (r : Int) + (r : Int)) (Y + (r : Int) + (r : Int)) W4 H4 W6 H6 go (W4 * H4) (W6 * H6) (mxS (2 * r + 1) (mnS (2 * r + 1) f)) r _ (mxS_bd (mnS_bd hf)) (FS.blk' ho (by repeat (first | exact List.Mem.head _ | refine List.Mem.tail _ ?_))) rfl (by omega) (by omega) (by omega) (by omega) (by omega) (by omega) (by omega) rfl (by omega) (by omega)) ?_
                    rintro _ _ ⟨gc, rfl, rfl⟩
                    refine RS.q rfl (QO.move) ?_
                    refine RS.q rfl (QO.extract (by rfl) (by rfl)) ?_
                    refine RS.q rfl (QO.extract (by rfl) (by rfl)) ?_
                    refine RS.alloc rfl ty64 ?_
                    intro g19
                    first | refine RS.storeB ty64 (by rfl) (by rfl) (by rfl) (by rfl) (by rfl) (by repeat (first | exact Upd.head | apply Upd.tail)) (by rfl) ?_ | refine RS.storeP ty64 (by rfl) (by rfl) (by rfl) (by rfl) (by rfl) (by repeat (first | exact Upd.head | apply Upd.tail)) (by rfl) ?_
                    refine RS.q rfl (QO.assign) ?_
                    refine RS.nil ?_
                    refine thenC_n ?_
                    refine CS.seq ?_
                    refine CS.seq ?_
                    refine CS.region ?_
                    refine RS.q rfl (QO.move) ?_
                    refine RS.q rfl (QO.eql (by rfl) (by rfl)) ?_
                    refine RS.nil ?_
                    refine thenC_n ?_
                    refine CS.condF (by rfl) rfl ?_
                    refine CS.skip ?_
                    refine thenC_n ?_
                    refine CS.seq ?_
                    by_cases hsp38 : W6 ≤ 2 * r ∨ H6 ≤ 2 * r
                    · refine CS.region ?_
                      first | (refine RS.q rfl (QO.loadB ty64 (by rfl) (by repeat (first | exact List.Mem.head _ | refine List.Mem.tail _ ?_)) (by rfl)) ?_) | (refine RS.q rfl (QO.loadA ty64 (by rfl) (by repeat (first | exact List.Mem.head _ | refine List.Mem.tail _ ?_)) (by rfl) (by rfl)) ?_) | (refine RS.q rfl (QO.loadOA ty64 (by rfl) (by assumption) (by rfl)) ?_)
                      refine RS.q rfl (QO.move) ?_
                      refine RS.call rfl (by rfl) ok60 (by rfl) (fun w ho => spreadE (X + (r : Int) + (r : Int) + (r : Int)) (Y + (r : Int) + (r : Int) + (r : Int)) W6 H6 gc (W6 * H6) (mnS (2 * r + 1) (mxS (2 * r + 1) (mnS (2 * r + 1) f))) r _ (FS.blk' ho (by repeat (first | exact List.Mem.head _ | refine List.Mem.tail _ ?_))) rfl (by omega) hsp38 (by omega) (by omega) (by omega) (by omega)) ?_
                      rintro _ _ ⟨rfl, rfl⟩
                      refine RS.q rfl (QO.move) ?_
                      refine RS.q rfl (QO.extract (by rfl) (by rfl)) ?_
                      refine RS.q rfl (QO.extract (by rfl) (by rfl)) ?_
                      refine RS.alloc rfl ty64 ?_
                      intro g20
                      first | refine RS.storeB ty64 (by rfl) (by rfl) (by rfl) (by rfl) (by rfl) (by repeat (first | exact Upd.head | apply Upd.tail)) (by rfl) ?_ | refine RS.storeP ty64 (by rfl) (by rfl) (by rfl) (by rfl) (by rfl) (by repeat (first | exact Upd.head | apply Upd.tail)) (by rfl) ?_
                      refine RS.q rfl (QO.assign) ?_
                      refine RS.nil ?_
                      refine thenC_n ?_
                      refine CS.seq ?_
                      refine CS.seq ?_
                      refine CS.region ?_
                      refine RS.q rfl (QO.move) ?_
                      refine RS.q rfl (QO.neq (by rfl) (by rfl)) ?_
                      refine RS.q rfl (QO.move) ?_
                      refine RS.on (dj := 210) rfl (congrArg Value.bool rfl) ?_
                      refine RS.q rfl (QO.move) ?_
                      refine RS.on (dj := 210) rfl (congrArg Value.bool rfl) ?_
                      refine RS.q rfl (QO.eql (by rfl) (by rfl)) ?_
                      refine RS.q rfl (QO.pickF (by rfl) rfl (by rfl)) ?_
                      refine RS.nil ?_
                      refine thenC_n ?_
                      refine CS.condT (by rfl) rfl ?_
                      refine CS.seq ?_
                      refine CS.region ?_
                      refine RS.q rfl (QO.move) ?_
                      refine RS.q rfl (QO.eql (by rfl) (by rfl)) ?_
                      refine RS.q rfl (QO.assign) ?_
                      refine RS.nil ?_
                      refine thenC_n ?_
                      refine CS.ret ?_
                      refine thenC_r ?_
                      refine retQ.mk (H' := []) (.inr rfl) (RVs.tmp (by rfl) RVs.nil) (List.nil_sublist _) ?_
                      exact ⟨rfl, rfl⟩
                    · refine CS.region ?_
                      have hx2 : ∃ w, w + 2 * r = W6 := ⟨W6 - 2 * r, by omega⟩
                      obtain ⟨W8, hW8⟩ := hx2
                      have hx2 : ∃ w, w + 2 * r = H6 := ⟨H6 - 2 * r, by omega⟩
                      obtain ⟨H8, hH8⟩ := hx2
                      have hb88 := Nat.mul_le_mul (show W8 ≤ 24 by omega) (show H8 ≤ 24 by omega)
                      first | (refine RS.q rfl (QO.loadB ty64 (by rfl) (by repeat (first | exact List.Mem.head _ | refine List.Mem.tail _ ?_)) (by rfl)) ?_) | (refine RS.q rfl (QO.loadA ty64 (by rfl) (by repeat (first | exact List.Mem.head _ | refine List.Mem.tail _ ?_)) (by rfl) (by rfl)) ?_) | (refine RS.q rfl (QO.loadOA ty64 (by rfl) (by assumption) (by rfl)) ?_)
                      refine RS.q rfl (QO.move) ?_
                      refine RS.call rfl (by rfl) ok60 (by rfl) (fun w ho => spreadM (X + (r : Int) + (r : Int) + (r : Int)) (Y + (r : Int) + (r : Int) + (r : Int)) W6 H6 W8 H8 gc (W6 * H6) (W8 * H8) (mnS (2 * r + 1) (mxS (2 * r + 1) (mnS (2 * r + 1) f))) r _ (mnS_bd (mxS_bd (mnS_bd hf))) (FS.blk' ho (by repeat (first | exact List.Mem.head _ | refine List.Mem.tail _ ?_))) rfl (by omega) (by omega) (by omega) (by omega) (by omega) (by omega) (by omega) rfl (by omega) (by omega)) ?_
                      rintro _ _ ⟨gd, rfl, rfl⟩
                      refine RS.q rfl (QO.move) ?_
                      refine RS.q rfl (QO.extract (by rfl) (by rfl)) ?_
                      refine RS.q rfl (QO.extract (by rfl) (by rfl)) ?_
                      refine RS.alloc rfl ty64 ?_
                      intro g20
                      first | refine RS.storeB ty64 (by rfl) (by rfl) (by rfl) (by rfl) (by rfl) (by repeat (first | exact Upd.head | apply Upd.tail)) (by rfl) ?_ | refine RS.storeP ty64 (by rfl) (by rfl) (by rfl) (by rfl) (by rfl) (by repeat (first | exact Upd.head | apply Upd.tail)) (by rfl) ?_
                      refine RS.q rfl (QO.assign) ?_
                      refine RS.nil ?_
                      refine thenC_n ?_
                      refine CS.seq ?_
                      refine CS.seq ?_
                      refine CS.region ?_
                      refine RS.q rfl (QO.move) ?_
                      refine RS.q rfl (QO.neq (by rfl) (by rfl)) ?_
                      refine RS.q rfl (QO.move) ?_
                      refine RS.on (dj := 210) rfl (congrArg Value.bool rfl) ?_
                      refine RS.q rfl (QO.move) ?_
                      refine RS.on (dj := 210) rfl (congrArg Value.bool rfl) ?_
                      refine RS.q rfl (QO.eql (by rfl) (by rfl)) ?_
                      refine RS.q rfl (QO.pickF (by rfl) rfl (by rfl)) ?_
                      refine RS.nil ?_
                      refine thenC_n ?_
                      refine CS.condF (by rfl) rfl ?_
                      refine CS.skip ?_
                      refine thenC_n ?_
                      refine CS.seq ?_
                      refine CS.seq ?_
                      refine CS.region ?_
                      refine RS.q rfl (QO.fieldAddr fo64_0 (by rfl)) ?_
                      refine RS.q rfl (QO.fieldAddr fo23_1 (by rfl)) ?_
                      first | (refine RS.q rfl (QO.load ty3 (by rfl) (by repeat (first | exact List.Mem.head _ | refine List.Mem.tail _ ?_)) (by rfl)) ?_) | (refine RS.q rfl (QO.loadO ty3 (by rfl) (by assumption)) ?_) | (refine RS.q rfl (QO.load ty3 (by rfl) (by repeat (first | exact List.Mem.head _ | refine List.Mem.tail _ ?_)) (by assumption)) ?_)
                      refine RS.q rfl (QO.assign) ?_
                      refine RS.nil ?_
                      refine thenC_n ?_
                      refine CS.block ?_
                      refine CS.loop (X := Nat) (6 :: 21 :: 22 :: 219 :: 220 :: 221 :: 222 :: 223 :: 224 :: 225 :: 226 :: 227 :: 228 :: 229 :: 230 :: 231 :: 232 :: 233 :: 234 :: 235 :: 236 :: 237 :: 238 :: 239 :: 240 :: 241 :: 242 :: 243 :: 244 :: 245 :: 246 :: 247 :: 248 :: 249 :: 250 :: 251 :: 252 :: 253 :: 254 :: 255 :: 256 :: 257 :: 258 :: 259 :: 260 :: 261 :: 262 :: 263 :: 264 :: 265 :: 266 :: 267 :: 268 :: 269 :: 270 :: 271 :: 272 :: 273 :: 274 :: 275 :: 276 :: 277 :: 278 :: 279 :: 280 :: 281 :: 282 :: []) (fun j => [(21, iv ((Y + (r : Int) + (r : Int) + (r : Int) + (r : Int)) + (j : Int)))]) (fun j => [⟨g20, 64, [iv (X + (r : Int) + (r : Int) + (r : Int) + (r : Int)), iv (Y + (r : Int) + (r : Int) + (r : Int) + (r : Int)), iv ((W8 : Nat) : Int), iv ((H8 : Nat) : Int), .slice (some ⟨gd, 0, none⟩) (W8 * H8) (W8 * H8)]⟩, ⟨gd, 33, (matV (mxS (2 * r + 1) (mnS (2 * r + 1) (mxS (2 * r + 1) (mnS (2 * r + 1) f)))) (W8) (W8 * H8)).map flt⟩, ⟨g19, 64, [iv (X + (r : Int) + (r : Int) + (r : Int)), iv (Y + (r : Int) + (r : Int) + (r : Int)), iv ((W6 : Nat) : Int), iv ((H6 : Nat) : Int), .slice (some ⟨gc, 0, none⟩) (W6 * H6) (W6 * H6)]⟩, ⟨gc, 33, (matV (mnS (2 * r + 1) (mxS (2 * r + 1) (mnS (2 * r + 1) f))) (W6) (W6 * H6)).map flt⟩, ⟨g16, 64, [iv (X + (r : Int) + (r : Int)), iv (Y + (r : Int) + (r : Int)), iv ((W4 : Nat) : Int), iv ((H4 : Nat) : Int), .slice (some ⟨go, 0, none⟩) (W4 * H4) (W4 * H4)]⟩, ⟨go, 33, (matV (mxS (2 * r + 1) (mnS (2 * r + 1) f)) (W4) (W4 * H4)).map flt⟩, ⟨g10, 64, [iv (X + (r : Int)), iv (Y + (r : Int)), iv ((W2 : Nat) : Int), iv ((H2 : Nat) : Int), .slice (some ⟨ga, 0, none⟩) (W2 * H2) (W2 * H2)]⟩, ⟨ga, 33, (matV (mnS (2 * r + 1) f) (W2) (W2 * H2)).map flt⟩, ⟨g12, 64, [iv (X + (r : Int)), iv (Y + (r : Int)), iv ((W2 : Nat) : Int), iv ((H2 : Nat) : Int), .slice (some ⟨gb, 0, none⟩) (W2 * H2) (W2 * H2)]⟩, ⟨gb, 33, (matV (mxS (2 * r + 1) (fun x y => 1024 - f x y)) (W2) (W2 * H2)).map flt⟩, ⟨g8, 64, [iv X, iv Y, iv (Wd : Int), iv (Hh : Int), .slice (some ⟨gi, 0, none⟩) N N]⟩, ⟨gi, 33, (matV (fun x y => 1024 - f x y) (Wd) (N)).map flt⟩, ⟨g3, 64, [iv X, iv Y, iv (Wd : Int), iv (Hh : Int), .slice (some ⟨gm, 0, none⟩) N N]⟩, ⟨gm, 33, (matV f Wd N).map flt⟩]) (fun j => j ≤ H8) (fun j => H8 - j) 0 (Nat.zero_le _) ?_ ?_ ?_
                      · exact kn_cons (congrArg iv (show (Y + (r : Int) + (r : Int) + (r : Int) + (r : Int)) = (Y + (r : Int) + (r : Int) + (r : Int) + (r : Int)) + ((0 : Nat) : Int) by omega)) kn_nil
                      · exact (by repeat (first | exact List.Sublist.refl _ | exact List.nil_sublist _ | refine List.Sublist.cons_cons _ ?_ | refine List.Sublist.cons _ ?_ | exact Sbp.refl | exact Sbp.nil | refine Sbp.cons (by repeat (first | exact Rem.head | apply Rem.tail)) ?_ | exact Sbp.app | refine Sbp.skip ?_))
                      · intro j gj42 hz
                        refine CS.seq ?_
                        refine CS.seq ?_
                        refine CS.region ?_
                        refine RS.q rfl (QO.move) ?_
                        refine RS.q rfl (QO.fieldAddr fo64_0 (by rfl)) ?_
                        refine RS.q rfl (QO.fieldAddr fo23_1 (by rfl)) ?_
                        first | (refine RS.q rfl (QO.load ty3 (by rfl) (by repeat (first | exact List.Mem.head _ | refine List.Mem.tail _ ?_)) (by rfl)) ?_) | (refine RS.q rfl (QO.loadO ty3 (by rfl) (by assumption)) ?_) | (refine RS.q rfl (QO.load ty3 (by rfl) (by repeat (first | exact List.Mem.head _ | refine List.Mem.tail _ ?_)) (by assumption)) ?_)
                        refine RS.q rfl (QO.fieldAddr fo64_0 (by rfl)) ?_
                        refine RS.q rfl (QO.fieldAddr fo23_3 (by rfl)) ?_
                        first | (refine RS.q rfl (QO.load ty3 (by rfl) (by repeat (first | exact List.Mem.head _ | refine List.Mem.tail _ ?_)) (by rfl)) ?_) | (refine RS.q rfl (QO.loadO ty3 (by rfl) (by assumption)) ?_) | (refine RS.q rfl (QO.load ty3 (by rfl) (by repeat (first | exact List.Mem.head _ | refine List.Mem.tail _ ?_)) (by assumption)) ?_)
                        first | (refine RS.q rfl (QO.add (by rfl) (by rfl) (by omega) (by omega)) ?_) | (refine RS.q rfl (QO.ibin (by rfl) (by rfl) trivial) ?_)
                        refine RS.q rfl (QO.lss (by rfl) (by rfl)) ?_
                        refine RS.nil ?_
                        refine thenC_n ?_
                        refine CS.cond (by rfl) (fun hb5 => ?_) (fun hb5 => ?_)
                        · have hb5p := of_decide_eq_true hb5
                          refine CS.skip ?_
                          refine thenC_n ?_
                          refine CS.seq ?_
                          refine CS.block ?_
                          refine CS.seq ?_
                          refine CS.region ?_
                          refine RS.q rfl (QO.fieldAddr fo64_0 (by rfl)) ?_
                          refine RS.q rfl (QO.fieldAddr fo23_0 (by rfl)) ?_
                          first | (refine RS.q rfl (QO.load ty3 (by rfl) (by repeat (first | exact List.Mem.head _ | refine List.Mem.tail _ ?_)) (by rfl)) ?_) | (refine RS.q rfl (QO.loadO ty3 (by rfl) (by assumption)) ?_) | (refine RS.q rfl (QO.load ty3 (by rfl) (by repeat (first | exact List.Mem.head _ | refine List.Mem.tail _ ?_)) (by assumption)) ?_)
                          refine RS.q rfl (QO.assign) ?_
                          refine RS.nil ?_
                          refine thenC_n ?_
                          refine CS.block ?_
                          refine CS.loop (X := Nat) (6 :: 22 :: 233 :: 234 :: 235 :: 236 :: 237 :: 238 :: 239 :: 240 :: 241 :: 242 :: 243 :: 244 :: 245 :: 246 :: 247 :: 248 :: 249 :: 250 :: 251 :: 252 :: 253 :: 254 :: 255 :: 256 :: 257 :: 258 :: 259 :: 260 :: 261 :: 262 :: 263 :: 264 :: 265 :: 266 :: 267 :: 268 :: 269 :: 270 :: 271 :: 272 :: 273 :: 274 :: 275 :: 276 :: 277 :: 278 :: 279 :: 280 :: 281 :: 282 :: []) (fun i => [(22, iv ((X + (r : Int) + (r : Int) + (r : Int) + (r : Int)) + (i : Int)))]) (fun i => [⟨g20, 64, [iv (X + (r : Int) + (r : Int) + (r : Int) + (r : Int)), iv (Y + (r : Int) + (r : Int) + (r : Int) + (r : Int)), iv ((W8 : Nat) : Int), iv ((H8 : Nat) : Int), .slice (some ⟨gd, 0, none⟩) (W8 * H8) (W8 * H8)]⟩, ⟨gd, 33, (matV (mxS (2 * r + 1) (mnS (2 * r + 1) (mxS (2 * r + 1) (mnS (2 * r + 1) f)))) (W8) (W8 * H8)).map flt⟩, ⟨g19, 64, [iv (X + (r : Int) + (r : Int) + (r : Int)), iv (Y + (r : Int) + (r : Int) + (r : Int)), iv ((W6 : Nat) : Int), iv ((H6 : Nat) : Int), .slice (some ⟨gc, 0, none⟩) (W6 * H6) (W6 * H6)]⟩, ⟨gc, 33, (matV (mnS (2 * r + 1) (mxS (2 * r + 1) (mnS (2 * r + 1) f))) (W6) (W6 * H6)).map flt⟩, ⟨g16, 64, [iv (X + (r : Int) + (r : Int)), iv (Y + (r : Int) + (r : Int)), iv ((W4 : Nat) : Int), iv ((H4 : Nat) : Int), .slice (some ⟨go, 0, none⟩) (W4 * H4) (W4 * H4)]⟩, ⟨go, 33, (matV (mxS (2 * r + 1) (mnS (2 * r + 1) f)) (W4) (W4 * H4)).map flt⟩, ⟨g10, 64, [iv (X + (r : Int)), iv (Y + (r : Int)), iv ((W2 : Nat) : Int), iv ((H2 : Nat) : Int), .slice (some ⟨ga, 0, none⟩) (W2 * H2) (W2 * H2)]⟩, ⟨ga, 33, (matV (mnS (2 * r + 1) f) (W2) (W2 * H2)).map flt⟩, ⟨g12, 64, [iv (X + (r : Int)), iv (Y + (r : Int)), iv ((W2 : Nat) : Int), iv ((H2 : Nat) : Int), .slice (some ⟨gb, 0, none⟩) (W2 * H2) (W2 * H2)]⟩, ⟨gb, 33, (matV (mxS (2 * r + 1) (fun x y => 1024 - f x y)) (W2) (W2 * H2)).map flt⟩, ⟨g8, 64, [iv X, iv Y, iv (Wd : Int), iv (Hh : Int), .slice (some ⟨gi, 0, none⟩) N N]⟩, ⟨gi, 33, (matV (fun x y => 1024 - f x y) (Wd) (N)).map flt⟩, ⟨g3, 64, [iv X, iv Y, iv (Wd : Int), iv (Hh : Int), .slice (some ⟨gm, 0, none⟩) N N]⟩, ⟨gm, 33, (matV f Wd N).map flt⟩]) (fun i => i ≤ W8) (fun i => W8 - i) 0 (Nat.zero_le _) ?_ ?_ ?_
                          · exact kn_cons (congrArg iv (show (X + (r : Int) + (r : Int) + (r : Int) + (r : Int)) = (X + (r : Int) + (r : Int) + (r : Int) + (r : Int)) + ((0 : Nat) : Int) by omega)) kn_nil
                          · exact (by repeat (first | exact List.Sublist.refl _ | exact List.nil_sublist _ | refine List.Sublist.cons_cons _ ?_ | refine List.Sublist.cons _ ?_ | exact Sbp.refl | exact Sbp.nil | refine Sbp.cons (by repeat (first | exact Rem.head | apply Rem.tail)) ?_ | exact Sbp.app | refine Sbp.skip ?_))
                          · intro i gj45 hz
                            refine CS.seq ?_
                            refine CS.seq ?_
                            refine CS.region ?_
                            refine RS.q rfl (QO.move) ?_
                            refine RS.q rfl (QO.fieldAddr fo64_0 (by rfl)) ?_
                            refine RS.q rfl (QO.fieldAddr fo23_0 (by rfl)) ?_
                            first | (refine RS.q rfl (QO.load ty3 (by rfl) (by repeat (first | exact List.Mem.head _ | refine List.Mem.tail _ ?_)) (by rfl)) ?_) | (refine RS.q rfl (QO.loadO ty3 (by rfl) (by assumption)) ?_) | (refine RS.q rfl (QO.load ty3 (by rfl) (by repeat (first | exact List.Mem.head _ | refine List.Mem.tail _ ?_)) (by assumption)) ?_)
                            refine RS.q rfl (QO.fieldAddr fo64_0 (by rfl)) ?_
                            refine RS.q rfl (QO.fieldAddr fo23_2 (by rfl)) ?_
                            first | (refine RS.q rfl (QO.load ty3 (by rfl) (by repeat (first | exact List.Mem.head _ | refine List.Mem.tail _ ?_)) (by rfl)) ?_) | (refine RS.q rfl (QO.loadO ty3 (by rfl) (by assumption)) ?_) | (refine RS.q rfl (QO.load ty3 (by rfl) (by repeat (first | exact List.Mem.head _ | refine List.Mem.tail _ ?_)) (by assumption)) ?_)
                            first | (refine RS.q rfl (QO.add (by rfl) (by rfl) (by omega) (by omega)) ?_) | (refine RS.q rfl (QO.ibin (by rfl) (by rfl) trivial) ?_)
                            refine RS.q rfl (QO.lss (by rfl) (by rfl)) ?_
                            refine RS.nil ?_
                            refine thenC_n ?_
                            refine CS.cond (by rfl) (fun hb6 => ?_) (fun hb6 => ?_)
                            · have hb6p := of_decide_eq_true hb6
                              refine CS.skip ?_
                              refine thenC_n ?_
                              refine CS.seq ?_
                              refine CS.block ?_
                              refine CS.seq ?_
                              refine CS.draw 39 rfl (by kernel_rfl) (by kernel_rfl) ?_
                              have hx3 : ∃ p, j * W8 = p := ⟨_, rfl⟩
                              have hx4 : ∃ p, (2 * r + j) * W4 = p := ⟨_, rfl⟩
                              obtain ⟨p, hp⟩ := hx3
                              obtain ⟨p2, hp2⟩ := hx4
                              have hmul : (j : Int) * (W8 : Int) = (p : Int) := by rw [← hp]; exact (Int.natCast_mul ..).symm
                              have hmul2 : ((2 * r + j : Nat) : Int) * (W4 : Int) = (p2 : Int) := by rw [← hp2]; exact (Int.natCast_mul ..).symm
                              have hp9 := Nat.mul_le_mul (show j ≤ 40 by omega) (show W8 ≤ 40 by omega)
                              have hp8 := Nat.mul_le_mul (show 2 * r + j ≤ 40 by omega) (show W4 ≤ 40 by omega)
                              have hp7 := Nat.mul_le_mul_right W8 (show j + 1 ≤ H8 by omega)
                              have hp6 := Nat.mul_le_mul_right W4 (show 2 * r + j + 1 ≤ H4 by omega)
                              rw [Nat.add_mul, Nat.one_mul, hp, Nat.mul_comm H8 W8] at hp7
                              rw [Nat.add_mul, Nat.one_mul, hp2, Nat.mul_comm H4 W4] at hp6
                              have hx9 : ∃ q, 2 * r + i = q := ⟨_, rfl⟩
                              obtain ⟨q, hq⟩ := hx9
                              refine RT.take (i := 0) rfl (by kernel_rfl) rfl (QO.fieldAddr fo64_1 (by rfl)) ?_
                              first | (refine RT.take (i := 1) rfl (by kernel_rfl) rfl (QO.load ty24 (by rfl) (by repeat (first | exact List.Mem.head _ | refine List.Mem.tail _ ?_)) (by rfl)) ?_) | (refine RT.take (i := 1) rfl (by kernel_rfl) rfl (QO.loadO ty24 (by rfl) (by assumption)) ?_) | (refine RT.take (i := 1) rfl (by kernel_rfl) rfl (QO.load ty24 (by rfl) (by repeat (first | exact List.Mem.head _ | refine List.Mem.tail _ ?_)) (by assumption)) ?_)
                              refine RT.take (i := 2) rfl (by kernel_rfl) rfl (QO.move) ?_
                              refine RT.take (i := 3) rfl (by kernel_rfl) rfl (QO.fieldAddr fo64_0 (by rfl)) ?_
                              refine RT.take (i := 4) rfl (by kernel_rfl) rfl (QO.fieldAddr fo23_1 (by rfl)) ?_
                              first | (refine RT.take (i := 5) rfl (by kernel_rfl) rfl (QO.load ty3 (by rfl) (by repeat (first | exact List.Mem.head _ | refine List.Mem.tail _ ?_)) (by rfl)) ?_) | (refine RT.take (i := 5) rfl (by kernel_rfl) rfl (QO.loadO ty3 (by rfl) (by assumption)) ?_) | (refine RT.take (i := 5) rfl (by kernel_rfl) rfl (QO.load ty3 (by rfl) (by repeat (first | exact List.Mem.head _ | refine List.Mem.tail _ ?_)) (by assumption)) ?_)
                              first | (refine RT.takev (i := 6) rfl (by kernel_rfl) rfl (QO.sub (by rfl) (by rfl) (by omega) (by omega)) (congrArg iv (show Y + (r : Int) + (r : Int) + (r : Int) + (r : Int) + (j : Int) - (Y + (r : Int) + (r : Int) + (r : Int) + (r : Int)) = (j : Int) by omega)) ?_) | (refine RT.takev (i := 6) rfl (by kernel_rfl) rfl (QO.ibin (by rfl) (by rfl) trivial) (congrArg iv (show Y + (r : Int) + (r : Int) + (r : Int) + (r : Int) + (j : Int) - (Y + (r : Int) + (r : Int) + (r : Int) + (r : Int)) = (j : Int) by omega)) ?_)
                              refine RT.take (i := 7) rfl (by kernel_rfl) rfl (QO.fieldAddr fo64_0 (by rfl)) ?_
                              refine RT.take (i := 8) rfl (by kernel_rfl) rfl (QO.fieldAddr fo23_2 (by rfl)) ?_
                              first | (refine RT.take (i := 9) rfl (by kernel_rfl) rfl (QO.load ty3 (by rfl) (by repeat (first | exact List.Mem.head _ | refine List.Mem.tail _ ?_)) (by rfl)) ?_) | (refine RT.take (i := 9) rfl (by kernel_rfl) rfl (QO.loadO ty3 (by rfl) (by assumption)) ?_) | (refine RT.take (i := 9) rfl (by kernel_rfl) rfl (QO.load ty3 (by rfl) (by repeat (first | exact List.Mem.head _ | refine List.Mem.tail _ ?_)) (by assumption)) ?_)
                              refine RT.takev (i := 10) rfl (by kernel_rfl) rfl (QO.mul (by rfl) (by rfl) (by rw [hmul]; omega) (by rw [hmul]; omega)) (congrArg iv (show (j : Int) * (W8 : Int) = (p : Int) from hmul)) ?_
                              refine RT.take (i := 11) rfl (by kernel_rfl) rfl (QO.move) ?_
                              first | (refine RT.take (i := 12) rfl (by kernel_rfl) rfl (QO.add (by rfl) (by rfl) (by omega) (by omega)) ?_) | (refine RT.take (i := 12) rfl (by kernel_rfl) rfl (QO.ibin (by rfl) (by rfl) trivial) ?_)
                              refine RT.take (i := 13) rfl (by kernel_rfl) rfl (QO.fieldAddr fo64_0 (by rfl)) ?_
                              refine RT.take (i := 14) rfl (by kernel_rfl) rfl (QO.fieldAddr fo23_0 (by rfl)) ?_
                              first | (refine RT.take (i := 15) rfl (by kernel_rfl) rfl (QO.load ty3 (by rfl) (by repeat (first | exact List.Mem.head _ | refine List.Mem.tail _ ?_)) (by rfl)) ?_) | (refine RT.take (i := 15) rfl (by kernel_rfl) rfl (QO.loadO ty3 (by rfl) (by assumption)) ?_) | (refine RT.take (i := 15) rfl (by kernel_rfl) rfl (QO.load ty3 (by rfl) (by repeat (first | exact List.Mem.head _ | refine List.Mem.tail _ ?_)) (by assumption)) ?_)
                              first | (refine RT.takev (i := 16) rfl (by kernel_rfl) rfl (QO.sub (by rfl) (by rfl) (by omega) (by omega)) (congrArg iv (show (p : Int) + (X + (r : Int) + (r : Int) + (r : Int) + (r : Int) + (i : Int)) - (X + (r : Int) + (r : Int) + (r : Int) + (r : Int)) = ((p + i : Nat) : Int) by omega)) ?_) | (refine RT.takev (i := 16) rfl (by kernel_rfl) rfl (QO.ibin (by rfl) (by rfl) trivial) (congrArg iv (show (p : Int) + (X + (r : Int) + (r : Int) + (r : Int) + (r : Int) + (i : Int)) - (X + (r : Int) + (r : Int) + (r : Int) + (r : Int)) = ((p + i : Nat) : Int) by omega)) ?_)
                              first | (refine RT.take (i := 17) rfl (by kernel_rfl) rfl (QO.idx0 Try.underlying24 ty33 (by rfl) (by rfl) (by rfl) (by omega)) ?_) | (refine RT.take (i := 17) rfl (by kernel_rfl) rfl (QO.idxn Try.underlying24 ty33 (by rfl) (by rfl) (by rfl) (by omega)) ?_) | (refine RT.take (i := 17) rfl (by kernel_rfl) rfl (QO.idx1 Try.underlying24 ty33 (by rfl) (by rfl) (by omega) (by omega)) ?_)
                              refine RT.take (i := 18) rfl (by kernel_rfl) rfl (QO.load ty33 (by rfl) (by repeat (first | exact List.Mem.head _ | refine List.Mem.tail _ ?_)) (matV_cell2 (i := i) (j := j) rfl hp (by omega) (by omega))) ?_
                              refine RT.take (i := 19) rfl (by kernel_rfl) rfl (QO.fieldAddr fo64_1 (by rfl)) ?_
                              first | (refine RT.take (i := 20) rfl (by kernel_rfl) rfl (QO.load ty24 (by rfl) (by repeat (first | exact List.Mem.head _ | refine List.Mem.tail _ ?_)) (by rfl)) ?_) | (refine RT.take (i := 20) rfl (by kernel_rfl) rfl (QO.loadO ty24 (by rfl) (by assumption)) ?_) | (refine RT.take (i := 20) rfl (by kernel_rfl) rfl (QO.load ty24 (by rfl) (by repeat (first | exact List.Mem.head _ | refine List.Mem.tail _ ?_)) (by assumption)) ?_)
                              refine RT.take (i := 21) rfl (by kernel_rfl) rfl (QO.move) ?_
                              refine RT.take (i := 22) rfl (by kernel_rfl) rfl (QO.fieldAddr fo64_0 (by rfl)) ?_
                              refine RT.take (i := 23) rfl (by kernel_rfl) rfl (QO.fieldAddr fo23_1 (by rfl)) ?_
                              first | (refine RT.take (i := 24) rfl (by kernel_rfl) rfl (QO.load ty3 (by rfl) (by repeat (first | exact List.Mem.head _ | refine List.Mem.tail _ ?_)) (by rfl)) ?_) | (refine RT.take (i := 24) rfl (by kernel_rfl) rfl (QO.loadO ty3 (by rfl) (by assumption)) ?_) | (refine RT.take (i := 24) rfl (by kernel_rfl) rfl (QO.load ty3 (by rfl) (by repeat (first | exact List.Mem.head _ | refine List.Mem.tail _ ?_)) (by assumption)) ?_)
                              first | (refine RT.takev (i := 25) rfl (by kernel_rfl) rfl (QO.sub (by rfl) (by rfl) (by omega) (by omega)) (congrArg iv (show Y + (r : Int) + (r : Int) + (r : Int) + (r : Int) + (j : Int) - (Y + (r : Int) + (r : Int)) = ((2 * r + j : Nat) : Int) by omega)) ?_) | (refine RT.takev (i := 25) rfl (by kernel_rfl) rfl (QO.ibin (by rfl) (by rfl) trivial) (congrArg iv (show Y + (r : Int) + (r : Int) + (r : Int) + (r : Int) + (j : Int) - (Y + (r : Int) + (r : Int)) = ((2 * r + j : Nat) : Int) by omega)) ?_)
                              refine RT.take (i := 26) rfl (by kernel_rfl) rfl (QO.fieldAddr fo64_0 (by rfl)) ?_
                              refine RT.take (i := 27) rfl (by kernel_rfl) rfl (QO.fieldAddr fo23_2 (by rfl)) ?_
                              first | (refine RT.take (i := 28) rfl (by kernel_rfl) rfl (QO.load ty3 (by rfl) (by repeat (first | exact List.Mem.head _ | refine List.Mem.tail _ ?_)) (by rfl)) ?_) | (refine RT.take (i := 28) rfl (by kernel_rfl) rfl (QO.loadO ty3 (by rfl) (by assumption)) ?_) | (refine RT.take (i := 28) rfl (by kernel_rfl) rfl (QO.load ty3 (by rfl) (by repeat (first | exact List.Mem.head _ | refine List.Mem.tail _ ?_)) (by assumption)) ?_)
                              refine RT.takev (i := 29) rfl (by kernel_rfl) rfl (QO.mul (by rfl) (by rfl) (by rw [hmul2]; omega) (by rw [hmul2]; omega)) (congrArg iv (show ((2 * r + j : Nat) : Int) * (W4 : Int) = (p2 : Int) from hmul2)) ?_
                              refine RT.take (i := 30) rfl (by kernel_rfl) rfl (QO.move) ?_
                              first | (refine RT.take (i := 31) rfl (by kernel_rfl) rfl (QO.add (by rfl) (by rfl) (by omega) (by omega)) ?_) | (refine RT.take (i := 31) rfl (by kernel_rfl) rfl (QO.ibin (by rfl) (by rfl) trivial) ?_)
                              refine RT.take (i := 32) rfl (by kernel_rfl) rfl (QO.fieldAddr fo64_0 (by rfl)) ?_
                              refine RT.take (i := 33) rfl (by kernel_rfl) rfl (QO.fieldAddr fo23_0 (by rfl)) ?_
                              first | (refine RT.take (i := 34) rfl (by kernel_rfl) rfl (QO.load ty3 (by rfl) (by repeat (first | exact List.Mem.head _ | refine List.Mem.tail _ ?_)) (by rfl)) ?_) | (refine RT.take (i := 34) rfl (by kernel_rfl) rfl (QO.loadO ty3 (by rfl) (by assumption)) ?_) | (refine RT.take (i := 34) rfl (by kernel_rfl) rfl (QO.load ty3 (by rfl) (by repeat (first | exact List.Mem.head _ | refine List.Mem.tail _ ?_)) (by assumption)) ?_)
                              first | (refine RT.takev (i := 35) rfl (by kernel_rfl) rfl (QO.sub (by rfl) (by rfl) (by omega) (by omega)) (congrArg iv (show (p2 : Int) + (X + (r : Int) + (r : Int) + (r : Int) + (r : Int) + (i : Int)) - (X + (r : Int) + (r : Int)) = ((p2 + q : Nat) : Int) by omega)) ?_) | (refine RT.takev (i := 35) rfl (by kernel_rfl) rfl (QO.ibin (by rfl) (by rfl) trivial) (congrArg iv (show (p2 : Int) + (X + (r : Int) + (r : Int) + (r : Int) + (r : Int) + (i : Int)) - (X + (r : Int) + (r : Int)) = ((p2 + q : Nat) : Int) by omega)) ?_)
                              first | (refine RT.take (i := 36) rfl (by kernel_rfl) rfl (QO.idx0 Try.underlying24 ty33 (by rfl) (by rfl) (by rfl) (by omega)) ?_) | (refine RT.take (i := 36) rfl (by kernel_rfl) rfl (QO.idxn Try.underlying24 ty33 (by rfl) (by rfl) (by rfl) (by omega)) ?_) | (refine RT.take (i := 36) rfl (by kernel_rfl) rfl (QO.idx1 Try.underlying24 ty33 (by rfl) (by rfl) (by omega) (by omega)) ?_)
                              refine RT.take (i := 37) rfl (by kernel_rfl) rfl (QO.load ty33 (by rfl) (by repeat (first | exact List.Mem.head _ | refine List.Mem.tail _ ?_)) (matV_cell2 (i := q) (j := 2 * r + j) rfl hp2 (by omega) (by omega))) ?_
                              have h282 := open_neq (r := r) hf i j
                              rw [hq] at h282
                              refine RT.take (i := 38) rfl (by kernel_rfl) rfl (QO.fcmp32 (by rfl) (by rfl) (by simp)) ?_
                              refine RT.done (by kernel_rfl) ?_
                              refine thenC_n ?_
                              refine CS.condF (by rfl) h282 ?_
                              refine CS.skip ?_
                              refine blockC_n ?_
                              refine thenC_n ?_
                              refine CS.region ?_
                              refine RS.q rfl (QO.move) ?_
                              first | (refine RS.q rfl (QO.add (by rfl) (by rfl) (by omega) (by omega)) ?_) | (refine RS.q rfl (QO.ibin (by rfl) (by rfl) trivial) ?_)
                              refine RS.q rfl (QO.assign) ?_
                              refine RS.nil ?_
                              refine loopQ_n (by intro t ht; repeat (first | with_reducible exact rfl | exact frame_puts ht (frame_mix ht) _ rfl | (refine frame_put rfl ht ?_) | (refine frame_puts ht ?_ _ rfl) | exact frame_mix ht | (refine frame_mix2 rfl ht ?_) | exact rfl)) ?_
                              exact ⟨i + 1, by omega, by omega, kn_cons (congrArg iv (show (X + (r : Int) + (r : Int) + (r : Int) + (r : Int)) + (i : Int) + 1 = (X + (r : Int) + (r : Int) + (r : Int) + (r : Int)) + ((i + 1 : Nat) : Int) by omega)) kn_nil, (by repeat (first | exact List.Sublist.refl _ | exact List.nil_sublist _ | refine List.Sublist.cons_cons _ ?_ | refine List.Sublist.cons _ ?_ | exact Sbp.refl | exact Sbp.nil | refine Sbp.cons (by repeat (first | exact Rem.head | apply Rem.tail)) ?_ | exact Sbp.app | refine Sbp.skip ?_))⟩
                            · have hb6p := of_decide_eq_false hb6
                              refine CS.exit ?_
                              refine thenC_x ?_
                              refine loopQ_x ?_
                              refine blockC_x ?_
                              refine blockC_n ?_
                              refine thenC_n ?_
                              refine CS.region ?_
                              refine RS.q rfl (QO.move) ?_
                              first | (refine RS.q rfl (QO.add (by rfl) (by rfl) (by omega) (by omega)) ?_) | (refine RS.q rfl (QO.ibin (by rfl) (by rfl) trivial) ?_)
                              refine RS.q rfl (QO.assign) ?_
                              refine RS.nil ?_
                              refine loopQ_n (by intro t ht; repeat (first | with_reducible exact rfl | exact frame_puts ht (frame_mix ht) _ rfl | (refine frame_put rfl ht ?_) | (refine frame_puts ht ?_ _ rfl) | exact frame_mix ht | (refine frame_mix2 rfl ht ?_) | exact rfl)) ?_
                              exact ⟨j + 1, by omega, by omega, kn_cons (congrArg iv (show (Y + (r : Int) + (r : Int) + (r : Int) + (r : Int)) + (j : Int) + 1 = (Y + (r : Int) + (r : Int) + (r : Int) + (r : Int)) + ((j + 1 : Nat) : Int) by omega)) kn_nil, (by repeat (first | exact List.Sublist.refl _ | exact List.nil_sublist _ | refine List.Sublist.cons_cons _ ?_ | refine List.Sublist.cons _ ?_ | exact Sbp.refl | exact Sbp.nil | refine Sbp.cons (by repeat (first | exact Rem.head | apply Rem.tail)) ?_ | exact Sbp.app | refine Sbp.skip ?_))⟩
                        · have hb5p := of_decide_eq_false hb5
                          refine CS.exit ?_
                          refine thenC_x ?_
                          refine loopQ_x ?_
                          refine blockC_x ?_
                          refine thenC_n ?_
                          refine CS.seq ?_
                          refine CS.region ?_
                          refine RS.q rfl (QO.assign) ?_
                          refine RS.nil ?_
                          refine thenC_n ?_
                          refine CS.ret ?_
                          refine retQ.mk (H' := []) (.inr rfl) (RVs.tmp (by rfl) RVs.nil) (List.nil_sublist _) ?_
                          exact ⟨rfl, rfl⟩

end Go.Proofs.Ytplfeaikjgfhcaa
