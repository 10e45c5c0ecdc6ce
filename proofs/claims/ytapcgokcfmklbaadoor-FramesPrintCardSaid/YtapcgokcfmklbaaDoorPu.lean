/-
  The library's reading of eight sixteens: internal/strconv.ParseUint at base 16. Conditions: as each theorem says.
-/
import Derived.Test.YtapcgokcfmklbaaDoorLin
import Derived.Test.YtapcgokcfmklbaaDoorProg
import Derived.Lib.Strings
import Derived.Lib.Walk
import Derived.Lib.ConvBytes
import Derived.Lib.AtoiAllMem
import Derived.Lib.Hide
import Derived.Lib.SmallJoins
import Derived.Laws.Strings3
import Derived.Laws.Closers25
import Derived.Laws.Closers25b
import Derived.WalkKit
import Derived.BigCall
import Derived.BigGuard
namespace Go.Proofs.YtapcgokcfmklbaaDoor
open Go Go.Proofs Go.RowKit

theorem lower16 (c : Int) (w : World) : Calls Tryd.prog 235 #[.int .u8 c] w fun e w' => e = .returned (.int .u8 (bits .or .u8 c 32)) ∧ w' = w := by
  go_enter Tryd.func235, Tryd.ntmps235
  go_wp2
  go_ret
  exact ⟨rfl, rfl⟩
theorem low_all : ∀ n : Nat, n < 256 → 97 ≤ n → n ≤ 102 → bits .or .u8 (n : Int) 32 = (n : Int) := by decide +kernel
set_option maxHeartbeats 32000000 in
set_option maxRecDepth 100000 in
theorem parseUint16 (l : List UInt8) (hl : l.length = 8) (hb : hexB l = true) (w : World) :
    Calls Tryd.prog 200 #[.string ⟨l.toArray⟩, .int .i64 16, .int .i64 32] w fun e w' => e = .returned (.tuple #[.int .u64 (hexN l), .nilIface]) ∧ w' = Lib.bytesWorld w 5 ⟨l.toArray⟩ := by
  obtain ⟨t, ht⟩ : ∃ t : ByteArray, t = ⟨l.toArray⟩ := ⟨_, rfl⟩
  have hbs : t.data.toList = l := by rw [ht]
  have hsz : t.size = 8 := by rw [ht]; exact hl
  rw [← ht]
  have hne : t.size ≠ 0 := by omega
  have hmax : t.size ≤ 9223372036854775806 := by omega
  have hemp : t.toList.isEmpty = false := by
    rw [← decide_eq_emptyBytes]
    exact decide_eq_false (fun h => hne (by rw [h]; rfl))
  have hcv := Lib.run_convert_string_bytes (P := Tryd.prog) w 9 107 5 t (u := .string) Tryd.underlying9 Tryd.underlying107 Tryd.underlying5
  have hB : ∀ j, j < 8 → (Lib.bytesWorld w 5 t).cell? ⟨w.heap.size, j, none⟩ = some (.int .u8 (t.data.toList.getD j 0).toNat) := fun j hj => Lib.bytesWorld_cell w 5 t j (by omega)
  rw [hbs] at hB
  obtain ⟨W1, hW1⟩ : ∃ W1, W1 = Lib.bytesWorld w 5 t := ⟨_, rfl⟩
  rw [← hW1] at hcv hB ⊢
  clear hW1 hbs ht
  have hmv : IntKind.u64.wrap (IntKind.u64.wrap 4294967296 - 1) = 4294967295 := by
    rw [IntKind.wrap_u64, IntKind.wrap_u64]
    decide
  go_enter Tryd.func200, Tryd.ntmps200
  go_wp2
  go_loop [12, 13, 101] (fun vu vn vi => ∃ (k : Nat) (a : Int), vu = .bool false ∧ vn = .int .u64 a ∧ vi = .int .i64 k ∧ k ≤ 8 ∧ Hid (a = (hexN (l.take k) : Int)))
    (fun _ _ vi => 8 - (intOf vi).toNat)
  case atStart => exact ⟨0, 0, rfl, rfl, rfl, by omega, rfl⟩
  case round =>
    obtain ⟨k, a, rfl, rfl, rfl, hk, hh⟩ := hrel
    have ha := hh.out
    clear hh
    by_cases hkn : k < 8
    · have hc := hB k hkn
      have hx0 := hexB_at hb (i := k) (by omega)
      have hs : hexN (l.take (k + 1)) = hexN (l.take k) * 16 + hxN (l.getD k 0) := by rw [take_snoc (by omega), hexN_snoc]
      have hlt := hexN_lt (l.take k)
      have hlt2 : 16 ^ (l.take k).length ≤ 16 ^ 7 := Nat.pow_le_pow_right (by omega) (by rw [List.length_take]; omega)
      have a0 : 0 ≤ a := by omega
      have a1 : a < 268435456 := by omega
      unfold hxN at hs
      generalize l.getD k 0 = c at hc hx0 hs
      have hc256 : c.toNat < 256 := c.toNat_lt
      clear hB hlt hlt2 hb
      rcases hx_of hx0 with ⟨hd0, hd1, hd2⟩ | ⟨hd0, hd1, hd2⟩
      · have HN : Hid (a * 16 + ((c.toNat : Int) - 48) = (hexN (l.take (k + 1)) : Int)) := Lib.hid (by omega)
        have icut : a < 1152921504606846976 := by omega
        have iov : a * 16 + ((c.toNat : Int) - 48) < 4294967296 := by omega
        clear hs ha hd2 hx0 hl
        go_wp2
        refine ⟨⟨k + 1, a * 16 + ((c.toNat : Int) - 48), rfl, (by first | rfl | (congr 1; omega)), (by first | rfl | (congr 1; omega)), by omega, HN⟩, by simp [intOf]; omega⟩
      · have HN : Hid (a * 16 + ((c.toNat : Int) - 97 + 10) = (hexN (l.take (k + 1)) : Int)) := Lib.hid (by omega)
        have icut : a < 1152921504606846976 := by omega
        have iov : a * 16 + ((c.toNat : Int) - 97 + 10) < 4294967296 := by omega
        have hlow := low_all c.toNat hc256 hd0 hd1
        have hnd : ¬ ((c.toNat : Int) ≤ 57) := by omega
        clear hs ha hd2 hx0 hl
        go_wp2_with (go_at_call 235; refine (lower16 _ _).mono ?_; rintro e w' ⟨rfl, rfl⟩; rw [hlow])
        refine ⟨⟨k + 1, a * 16 + ((c.toNat : Int) - 97 + 10), rfl, (by first | rfl | (congr 1; omega)), (by first | rfl | (congr 1; omega)), by omega, HN⟩, by simp [intOf]; omega⟩
    · have hkk : k = 8 := by omega
      subst hkk
      have e8 : l.take 8 = l := List.take_of_length_le (by omega)
      rw [e8] at ha
      subst ha
      clear hB hb
      go_wp2
      go_ret2
      exact ⟨rfl, rfl⟩
end Go.Proofs.YtapcgokcfmklbaaDoor
