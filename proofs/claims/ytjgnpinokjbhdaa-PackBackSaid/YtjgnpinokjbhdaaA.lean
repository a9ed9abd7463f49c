/- The contracts of the small functions of package pack and of its reference over this translation: a number's bytes, a number of bytes. No condition but that numbers fit their kinds. -/
import Derived.Test.YtjgnpinokjbhdaaRows
import Derived.WalkKit
import Derived.WalkSpells
import Derived.WalkLawsBesides
import Derived.BigQuiet
import Derived.OpenShut
import Derived.Handy
import Derived.Maps.AppendAt
namespace Go.Proofs.Ytjgnpinokjbhdaa
open Go.RowKit
set_option linter.unusedVariables false
set_option linter.unusedSimpArgs false

theorem b0 (w : World) : Below w.heap.size w w := Below.refl _ _
theorem ba {w w1 : World} (h : Below w.heap.size w w1) (o : Obj) : Below w.heap.size w (w1.alloc o) := h.alloc h.size o
theorem bs {w w1 : World} (h : Below w.heap.size w w1) {p : Addr} (hp : w.heap.size ≤ p.block) (u : Value) : Below w.heap.size w (w1.setCell p u) := h.setCell hp u
theorem bt {w w1 w2 : World} (h : Below w.heap.size w w1) (k : Below w1.heap.size w1 w2) : Below w.heap.size w w2 := h.trans (k.mono h.size)
theorem bdr (w : World) (n : Nat) : Below w.heap.size w (w.drewN n) := ⟨rfl, rfl, rfl, Nat.le_refl _, fun _ _ => rfl⟩
def U32 (x : Int) : Prop := 0 ≤ x ∧ x ≤ 4294967295
def U16 (x : Int) : Prop := 0 ≤ x ∧ x ≤ 65535
def U8 (x : Int) : Prop := 0 ≤ x ∧ x ≤ 255
theorem Try.info5 : (Try.prog.info? 5).map (fun i => (i.zero, i.size, i.bytes)) = some (some (.int .u8 0), 1, 1) := by kernel_rfl

/-! Numbers of bytes -/
def le4 (x0 x1 x2 x3 : Int) : Int := x0 + x1 * 256 + x2 * 65536 + x3 * 16777216
def le2 (x0 x1 : Int) : Int := x0 + x1 * 256
theorem or_lo (a y : Int) (k : Nat) (ha : 0 ≤ a) (hk : a < 2 ^ k) (hy : 0 ≤ y) (h : y * 2 ^ k + a < 4294967296) : bits .or .u32 a (y * 2 ^ k) = a + y * 2 ^ k := by
  obtain ⟨m, rfl⟩ := Int.eq_ofNat_of_zero_le ha
  obtain ⟨n, rfl⟩ := Int.eq_ofNat_of_zero_le hy
  have hm : m < 2 ^ k := by exact_mod_cast hk
  have e : ((n : Int) * 2 ^ k) = ((2 ^ k * n : Nat) : Int) := by rw [Nat.mul_comm]; push_cast; rfl
  rw [e] at h ⊢
  rw [u32_or _ _ (by omega) (by omega) (by omega) (by omega), Int.toNat_natCast, Int.toNat_natCast, Nat.or_comm, ← Nat.two_pow_add_eq_or_of_lt hm]
  omega
theorem or_hi (a y : Int) (k : Nat) (ha : 0 ≤ a) (hk : a < 2 ^ k) (hy : 0 ≤ y) (h : y * 2 ^ k + a < 4294967296) : bits .or .u32 (y * 2 ^ k) a = a + y * 2 ^ k := by
  obtain ⟨m, rfl⟩ := Int.eq_ofNat_of_zero_le ha
  obtain ⟨n, rfl⟩ := Int.eq_ofNat_of_zero_le hy
  have hm : m < 2 ^ k := by exact_mod_cast hk
  have e : ((n : Int) * 2 ^ k) = ((2 ^ k * n : Nat) : Int) := by rw [Nat.mul_comm]; push_cast; rfl
  rw [e] at h ⊢
  rw [u32_or _ _ (by omega) (by omega) (by omega) (by omega), Int.toNat_natCast, Int.toNat_natCast, ← Nat.two_pow_add_eq_or_of_lt hm]
  omega
theorem or_zero (x : Int) (h : U8 x) : bits .or .u32 0 x = x := by
  have := or_hi x 0 8 h.1 (by have := h.2; omega) (by omega) (by have := h.2; omega)
  simpa using this

set_option maxHeartbeats 400000 in
theorem word_c (v : Int) (w : World) (hv : U32 v) :
    Calls Try.prog 13 #[.int .u32 v] w fun e w' => e = .returned (.slice (some ⟨w.heap.size, 0, none⟩) 4 4) ∧
      w' = w.alloc (.cells #[.int .u8 (v % 256), .int .u8 (v / 256 % 256), .int .u8 (v / 65536 % 256), .int .u8 (v / 16777216)] 5) := by
  obtain ⟨v0, v1⟩ := hv
  go_enter Try.func13, Try.ntmps13
  go_wp2
  go_ret
  exact ⟨rfl, rfl⟩

theorem rW4 (x0 x1 x2 x3 : Int) (y0 : U8 x0) (y1 : U8 x1) (y2 : U8 x2) (y3 : U8 x3) : bits .or .u32 ((bits .or .u32 ((bits .or .u32 ((bits .or .u32 0 x3) * 256 % 4294967296) x2) * 256 % 4294967296) x1) * 256 % 4294967296) x0 = le4 x0 x1 x2 x3 := by
  unfold le4
  obtain ⟨z0, Z0⟩ := y0
  obtain ⟨z1, Z1⟩ := y1
  obtain ⟨z2, Z2⟩ := y2
  obtain ⟨z3, Z3⟩ := y3
  rw [or_zero x3 ⟨z3, Z3⟩]
  rw [show (x3) * 256 % 4294967296 = (x3) * 2 ^ 8 from by omega, or_hi x2 (x3) 8 z2 (by omega) (by omega) (by omega), show x2 + (x3) * 2 ^ 8 = x2 + (x3) * 256 from by omega]
  rw [show (x2 + (x3) * 256) * 256 % 4294967296 = (x2 + (x3) * 256) * 2 ^ 8 from by omega, or_hi x1 (x2 + (x3) * 256) 8 z1 (by omega) (by omega) (by omega), show x1 + (x2 + (x3) * 256) * 2 ^ 8 = x1 + (x2 + (x3) * 256) * 256 from by omega]
  rw [show (x1 + (x2 + (x3) * 256) * 256) * 256 % 4294967296 = (x1 + (x2 + (x3) * 256) * 256) * 2 ^ 8 from by omega, or_hi x0 (x1 + (x2 + (x3) * 256) * 256) 8 z0 (by omega) (by omega) (by omega), show x0 + (x1 + (x2 + (x3) * 256) * 256) * 2 ^ 8 = x0 + (x1 + (x2 + (x3) * 256) * 256) * 256 from by omega]
  first | done | omega
theorem pG4 (x0 x1 x2 x3 : Int) (y0 : U8 x0) (y1 : U8 x1) (y2 : U8 x2) (y3 : U8 x3) : bits .or .u32 (bits .or .u32 (bits .or .u32 (bits .or .u32 0 x0) (x1 * 256)) (x2 * 65536)) (x3 * 16777216) = le4 x0 x1 x2 x3 := by
  unfold le4
  obtain ⟨z0, Z0⟩ := y0
  obtain ⟨z1, Z1⟩ := y1
  obtain ⟨z2, Z2⟩ := y2
  obtain ⟨z3, Z3⟩ := y3
  rw [or_zero x0 ⟨z0, Z0⟩]
  rw [show x1 * 256 = x1 * 2 ^ 8 from by omega, or_lo (x0) x1 8 (by omega) (by omega) z1 (by omega), show x0 + x1 * 2 ^ 8 = x0 + x1 * 256 from by omega]
  rw [show x2 * 65536 = x2 * 2 ^ 16 from by omega, or_lo (x0 + x1 * 256) x2 16 (by omega) (by omega) z2 (by omega), show x0 + x1 * 256 + x2 * 2 ^ 16 = x0 + x1 * 256 + x2 * 65536 from by omega]
  rw [show x3 * 16777216 = x3 * 2 ^ 24 from by omega, or_lo (x0 + x1 * 256 + x2 * 65536) x3 24 (by omega) (by omega) z3 (by omega), show x0 + x1 * 256 + x2 * 65536 + x3 * 2 ^ 24 = x0 + x1 * 256 + x2 * 65536 + x3 * 16777216 from by omega]

set_option maxHeartbeats 400000 in
theorem rWord4_c (g off cap : Nat) (x0 x1 x2 x3 : Int) (w : World) (h0 : w.cell? ⟨g, off, none⟩ = some (.int .u8 x0)) (h1 : w.cell? ⟨g, off + 1, none⟩ = some (.int .u8 x1)) (h2 : w.cell? ⟨g, off + 2, none⟩ = some (.int .u8 x2)) (h3 : w.cell? ⟨g, off + 3, none⟩ = some (.int .u8 x3)) (y0 : U8 x0) (y1 : U8 x1) (y2 : U8 x2) (y3 : U8 x3) :
    Calls Try.prog 15 #[.slice (some ⟨g, off, none⟩) 4 cap] w fun e w' => e = .returned (.int .u32 (le4 x0 x1 x2 x3)) ∧ w = w' := by
  have eq := rW4 x0 x1 x2 x3 y0 y1 y2 y3
  have EQ : Hid _ := eq
  clear eq
  obtain ⟨z0, Z0⟩ := y0
  obtain ⟨z1, Z1⟩ := y1
  obtain ⟨z2, Z2⟩ := y2
  obtain ⟨z3, Z3⟩ := y3
  go_enter Try.func15, Try.ntmps15
  go_wp2
  go_rounds 5
  go_ret
  refine ⟨?_, rfl⟩
  have h := EQ.out
  rw [← h]
  rfl

set_option maxHeartbeats 400000 in
theorem get4_c (g off len cap : Nat) (x0 x1 x2 x3 : Int) (w : World) (h0 : w.cell? ⟨g, off, none⟩ = some (.int .u8 x0)) (h1 : w.cell? ⟨g, off + 1, none⟩ = some (.int .u8 x1)) (h2 : w.cell? ⟨g, off + 2, none⟩ = some (.int .u8 x2)) (h3 : w.cell? ⟨g, off + 3, none⟩ = some (.int .u8 x3)) (y0 : U8 x0) (y1 : U8 x1) (y2 : U8 x2) (y3 : U8 x3) (hl : 4 < len) (hc : len ≤ cap) (hm : cap ≤ 16) :
    Calls Try.prog 14 #[.slice (some ⟨g, off, none⟩) len cap, .int .i64 4] w fun e w' => e = .returned (.tuple #[.int .u32 (le4 x0 x1 x2 x3), .slice (some ⟨g, off + 4, none⟩) (len - 4) (cap - 4)]) ∧ Below w.heap.size w w' := by
  have eq := pG4 x0 x1 x2 x3 y0 y1 y2 y3
  have EQ : Hid _ := eq
  clear eq
  obtain ⟨z0, Z0⟩ := y0
  obtain ⟨z1, Z1⟩ := y1
  obtain ⟨z2, Z2⟩ := y2
  obtain ⟨z3, Z3⟩ := y3
  have q1 : 4 ≤ len := by omega
  have q2 : 4 ≤ cap := by omega
  have q3 : ¬ 4 = cap := by omega
  have q4 : ¬ cap = 4 := by omega
  have q5 : (4 : Int) ≤ (len : Int) := by omega
  have q6 : (4 : Int) ≤ (cap : Int) := by omega
  go_enter Try.func14, Try.ntmps14
  go_wp2
  go_rounds 5
  go_quiet (fail)
  go_wp2
  go_ret2
  refine ⟨?_, bdr _ _⟩
  have h := EQ.out
  rw [← h]
  rfl

theorem rW2 (x0 x1 : Int) (y0 : U8 x0) (y1 : U8 x1) : bits .or .u32 ((bits .or .u32 0 x1) * 256 % 4294967296) x0 = le2 x0 x1 := by
  unfold le2
  obtain ⟨z0, Z0⟩ := y0
  obtain ⟨z1, Z1⟩ := y1
  rw [or_zero x1 ⟨z1, Z1⟩]
  rw [show (x1) * 256 % 4294967296 = (x1) * 2 ^ 8 from by omega, or_hi x0 (x1) 8 z0 (by omega) (by omega) (by omega), show x0 + (x1) * 2 ^ 8 = x0 + (x1) * 256 from by omega]
  first | done | omega
theorem pG2 (x0 x1 : Int) (y0 : U8 x0) (y1 : U8 x1) : bits .or .u32 (bits .or .u32 0 x0) (x1 * 256) = le2 x0 x1 := by
  unfold le2
  obtain ⟨z0, Z0⟩ := y0
  obtain ⟨z1, Z1⟩ := y1
  rw [or_zero x0 ⟨z0, Z0⟩]
  rw [show x1 * 256 = x1 * 2 ^ 8 from by omega, or_lo (x0) x1 8 (by omega) (by omega) z1 (by omega), show x0 + x1 * 2 ^ 8 = x0 + x1 * 256 from by omega]

set_option maxHeartbeats 400000 in
theorem rWord2_c (g off cap : Nat) (x0 x1 : Int) (w : World) (h0 : w.cell? ⟨g, off, none⟩ = some (.int .u8 x0)) (h1 : w.cell? ⟨g, off + 1, none⟩ = some (.int .u8 x1)) (y0 : U8 x0) (y1 : U8 x1) :
    Calls Try.prog 15 #[.slice (some ⟨g, off, none⟩) 2 cap] w fun e w' => e = .returned (.int .u32 (le2 x0 x1)) ∧ w = w' := by
  have eq := rW2 x0 x1 y0 y1
  have EQ : Hid _ := eq
  clear eq
  obtain ⟨z0, Z0⟩ := y0
  obtain ⟨z1, Z1⟩ := y1
  go_enter Try.func15, Try.ntmps15
  go_wp2
  go_rounds 3
  go_ret
  refine ⟨?_, rfl⟩
  have h := EQ.out
  rw [← h]
  rfl

set_option maxHeartbeats 400000 in
theorem get2_c (g off len cap : Nat) (x0 x1 : Int) (w : World) (h0 : w.cell? ⟨g, off, none⟩ = some (.int .u8 x0)) (h1 : w.cell? ⟨g, off + 1, none⟩ = some (.int .u8 x1)) (y0 : U8 x0) (y1 : U8 x1) (hl : 2 < len) (hc : len ≤ cap) (hm : cap ≤ 16) :
    Calls Try.prog 14 #[.slice (some ⟨g, off, none⟩) len cap, .int .i64 2] w fun e w' => e = .returned (.tuple #[.int .u32 (le2 x0 x1), .slice (some ⟨g, off + 2, none⟩) (len - 2) (cap - 2)]) ∧ Below w.heap.size w w' := by
  have eq := pG2 x0 x1 y0 y1
  have EQ : Hid _ := eq
  clear eq
  obtain ⟨z0, Z0⟩ := y0
  obtain ⟨z1, Z1⟩ := y1
  have q1 : 2 ≤ len := by omega
  have q2 : 2 ≤ cap := by omega
  have q3 : ¬ 2 = cap := by omega
  have q4 : ¬ cap = 2 := by omega
  have q5 : (2 : Int) ≤ (len : Int) := by omega
  have q6 : (2 : Int) ≤ (cap : Int) := by omega
  go_enter Try.func14, Try.ntmps14
  go_wp2
  go_rounds 3
  go_quiet (fail)
  go_wp2
  go_ret2
  refine ⟨?_, bdr _ _⟩
  have h := EQ.out
  rw [← h]
  rfl


set_option maxHeartbeats 400000 in
theorem get2_last (g off : Nat) (x0 x1 : Int) (w : World) (h0 : w.cell? ⟨g, off, none⟩ = some (.int .u8 x0)) (h1 : w.cell? ⟨g, off + 1, none⟩ = some (.int .u8 x1)) (y0 : U8 x0) (y1 : U8 x1) :
    Calls Try.prog 14 #[.slice (some ⟨g, off, none⟩) 2 2, .int .i64 2] w fun e w' => e = .returned (.tuple #[.int .u32 (le2 x0 x1), .slice (some ⟨g, off, none⟩) 0 0]) ∧ Below w.heap.size w w' := by
  have eq := pG2 x0 x1 y0 y1
  have EQ : Hid _ := eq
  clear eq
  obtain ⟨z0, Z0⟩ := y0
  obtain ⟨z1, Z1⟩ := y1
  go_enter Try.func14, Try.ntmps14
  go_wp2
  go_rounds 3
  go_quiet (fail)
  go_wp2
  go_ret2
  refine ⟨?_, bdr _ _⟩
  have h := EQ.out
  rw [← h]
  rfl

end Go.Proofs.Ytjgnpinokjbhdaa
