/- The contract of word.Text over this translation: the text of a number, eight hexadecimal digits behind 0x; nothing that was there is changed. No condition but that the number fits 32 bits. -/
import Derived.Test.YtfhmkmbdfeoegaaDoorA
import Derived.Lib.SlBytesConst
import Derived.OpenShut
namespace Go.Proofs.YtfhmkmbdfeoegaaDoor
open Go.RowKit
set_option linter.unusedVariables false
set_option linter.unusedSimpArgs false

theorem Tryd.info5 : (Tryd.prog.info? 5).map (fun i => (i.zero, i.size, i.bytes)) = some (some (.int .u8 0), 1, 1) := by kernel_rfl
theorem and15 (x : Int) (h0 : 0 ≤ x) (h1 : x ≤ 4294967295) : bits .and .u32 x 15 = x % 16 := by
  rw [u32_and x 15 h0 (by omega) (by omega) (by omega)]
  have : x.toNat &&& (15 : Int).toNat = x.toNat % 16 := nat_mask4 _
  rw [this]
  omega
theorem one_new (w : World) (x : Value) (t : TypeId) (n : Nat) (hn : w.heap.size = n) : ∀ j u, [x][j]? = some u → (w.alloc (.cells #[x] t)).cell? ((⟨n, 0, none⟩ : Addr).add j) = some u := by
  subst hn
  exact cell_one_new w x t
theorem oc (k : IntKind) (n : Int) : ∀ u ∈ [Value.int k n], u.oneCell' = true := by
  intro u hu
  rw [List.mem_singleton.1 hu]
  rfl

def bv (b : UInt8) : Value := .int .u8 (b.toNat : Int)
/-- A hexadecimal digit. -/
def hexC (d : Int) : UInt8 := ([48, 49, 50, 51, 52, 53, 54, 55, 56, 57, 97, 98, 99, 100, 101, 102] : List UInt8).getD d.toNat 0
theorem hex_at (d : Int) (h : d.toNat < (ByteArray.mk #[48, 49, 50, 51, 52, 53, 54, 55, 56, 57, 97, 98, 99, 100, 101, 102]).size) : (ByteArray.mk #[48, 49, 50, 51, 52, 53, 54, 55, 56, 57, 97, 98, 99, 100, 101, 102])[d.toNat] = hexC d := by
  have h' : d.toNat < 16 := h
  unfold hexC
  generalize d.toNat = n at h h'
  have hall : ∀ n : Fin 16, (ByteArray.mk #[48, 49, 50, 51, 52, 53, 54, 55, 56, 57, 97, 98, 99, 100, 101, 102])[n.val]'(n.isLt) = ([48, 49, 50, 51, 52, 53, 54, 55, 56, 57, 97, 98, 99, 100, 101, 102] : List UInt8).getD n.val 0 := by decide
  exact hall ⟨n, h'⟩
/-- The first k of the eight digits of v, the highest ahead. -/
def hexL (v : Int) : Nat → List UInt8
  | 0 => []
  | k + 1 => hexL v k ++ [hexC (v / (16 : Int) ^ (7 - k) % 16)]
def txt (v : Int) (k : Nat) : List UInt8 := [48, 120] ++ hexL v k

theorem two_old (w : World) (f : Nat × Nat) (o : Obj) : ∀ b, some (⟨w.heap.size, 0, none⟩ : Addr) = some b → ∀ j u, [Value.int .u8 48, Value.int .u8 120][j]? = some u → ((w.alloc (.cells #[.int .u8 48, .int .u8 120] 5 f)).alloc o).cell? (b.add j) = some u := by
  intro b hb j u hu
  obtain rfl := Option.some.inj hb
  match j, hu with
  | 0, hu =>
    simp at hu
    subst hu
    rw [show (⟨w.heap.size, 0, none⟩ : Addr).add 0 = ⟨w.heap.size, 0, none⟩ from rfl, World.cell?_alloc_past _ _ _ (by simp)]
    exact World.cell?_alloc_mark _ _ _ _ _
  | 1, hu =>
    simp at hu
    subst hu
    rw [show (⟨w.heap.size, 0, none⟩ : Addr).add 1 = ⟨w.heap.size, 1, none⟩ from rfl, World.cell?_alloc_past _ _ _ (by simp)]
    exact World.cell?_alloc_mark _ _ _ _ _
  | j + 2, hu => simp at hu

theorem own_of {w1 : World} {B B' n m : Nat} {v : Value} {xs ys : List Value} (h : w1.ownsRow B' 5 1 v n xs) (hB : B ≤ B') (hx : xs = ys) (hn : n = m) : w1.ownsRow B 5 1 v m ys := by
  subst hx hn
  rcases h with ⟨h1, h2 | ⟨g, cap, cur, e1, e2, e3⟩⟩
  · exact ⟨h1, .inl h2⟩
  · exact ⟨h1, .inr ⟨g, cap, cur, e1, Nat.le_trans hB e2, e3⟩⟩
theorem conv_own {wr : World} {B n : Nat} {v : Value} {l : List UInt8} (h : wr.ownsRow B 5 1 v n (l.map bv)) (h0 : 0 < n) : (convert 59 9 v).run Tryd.prog wr = .ok (.string ⟨l.toArray⟩) wr := by
  have hl : l.length = n := by have := h.1; simpa using this
  have hcs := fun g hg => h.cells (g := g) hg
  rcases h.2 with ⟨_, h2⟩ | ⟨g, cap, cur, rfl, _⟩
  · omega
  · subst hl
    exact run_convert_bytes_back wr 59 9 5 ⟨g, 0, none⟩ cap l Tryd.underlying59 Tryd.underlying5 Tryd.underlying9 (fun j hj => hcs g rfl j _ (by simp [List.getElem?_eq_getElem hj, bv]))

set_option maxHeartbeats 400000 in
theorem wtext_c (v : Int) (w : World) (hv : U32 v) :
    Calls Tryd.prog 44 #[.int .u32 v] w fun e w' => e = .returned (.string ⟨(txt v 8).toArray⟩) ∧ Below w.heap.size w w' := by
  have kc := fun (w : World) (C : Array Value) (n c : Nat) => Lib.run_convert_bytes_const (P := Tryd.prog) w 59 5 C n c Tryd.underlying59 Tryd.underlying5
  obtain ⟨v0, v1⟩ := hv
  obtain ⟨i0, hi, hz0, hz1, hz2⟩ := info_parts Tryd.info5
  go_enter Tryd.func44, Tryd.ntmps44
  go_wp2
  go_loopw [3, 4] (fun out at' wr => ∃ (k : Nat) (m : Int), k ≤ 8 ∧ at' = .int .i64 m ∧ m = 28 - 4 * (k : Int) ∧ Below w.heap.size w wr ∧
      ((k = 0 ∧ out = .slice (some ⟨w.heap.size, 0, none⟩) 2 2 ∧ wr = w.alloc (.cells #[.int .u8 48, .int .u8 120] 5 (2, 3))) ∨
       (1 ≤ k ∧ wr.ownsRow w.heap.size 5 1 out (2 + k) ((txt v k).map bv)))) (fun _ i _ => (intOf i + 4).toNat)
  case atStart => exact ⟨0, 28, by omega, rfl, by omega, ba (b0 _) _, .inl ⟨rfl, rfl, rfl⟩⟩
  case round =>
    obtain ⟨k, m, hk, rfl, hm, hbel, hst⟩ := hrel
    by_cases h8 : k = 8
    · subst h8
      obtain rfl : m = -4 := by omega
      rcases hst with ⟨hn, _⟩ | ⟨_, hown⟩
      · omega
      · have hcv := conv_own hown (by omega)
        go_wp2
        go_ret
        exact ⟨rfl, hbel⟩
    · have hc : k = 0 ∨ k = 1 ∨ k = 2 ∨ k = 3 ∨ k = 4 ∨ k = 5 ∨ k = 6 ∨ k = 7 := by omega
      rcases hc with rfl | rfl | rfl | rfl | rfl | rfl | rfl | rfl
      · obtain rfl : m = 28 := by omega
        clear hm hk h8
        have a0 : bits .and .u32 (v / 268435456) 15 = v / 268435456 % 16 := and15 _ (by omega) (by omega)
        have p0 : 0 ≤ v / 268435456 % 16 := by omega
        have q0 : v / 268435456 % 16 < 16 := by omega
        rcases hst with ⟨_, rfl, rfl⟩ | ⟨hn, _⟩
        · go_wp2_with (at_builtin; refine wpList_append_grows _ rfl _ _ 59 rfl 5 i0 (.int .u8 0) 1 1 Tryd.underlying59 hi hz0 hz1 hz2 rfl (by decide) _ 2 2 [.int .u8 48, .int .u8 120] rfl (by intro h; cases h) rfl (two_old _ _ _) ⟨w.heap.size + 1, 0, none⟩ 1 1 _ rfl rfl (one_new _ _ _ _ (by simp)) (oc _ _) (by decide) (by decide) (by decide) ?_; intro v1 w1 hown hgrow)
          exact ⟨⟨1, 24, by omega, rfl, by omega, (ba (ba (b0 _) _) _).grown hgrow (by simp; omega) (by intro k h; cases h), .inr ⟨by omega, own_of hown (ba (ba (b0 _) _) _).size (by simp [txt, hexL, bv, hex_at]) rfl⟩⟩, by simp [intOf]⟩
        · omega
      · obtain rfl : m = 24 := by omega
        clear hm hk h8
        have a0 : bits .and .u32 (v / 16777216) 15 = v / 16777216 % 16 := and15 _ (by omega) (by omega)
        have p0 : 0 ≤ v / 16777216 % 16 := by omega
        have q0 : v / 16777216 % 16 < 16 := by omega
        rcases hst with ⟨hn, _⟩ | ⟨_, hown0⟩
        · omega
        · go_wp2_with (at_builtin; refine wpList_append_own _ rfl _ _ 59 rfl w.heap.size 5 i0 (.int .u8 0) 1 1 Tryd.underlying59 hi hz0 hz1 hz2 rfl (by decide) _ _ _ rfl (hown0.alloc _) ⟨_, 0, none⟩ 1 1 _ rfl rfl (one_new _ _ _ _ rfl) (oc _ _) (by decide) (by decide) (by have := hbel.size; simp; omega) ?_; intro v1 w1 hown hgrow _)
          exact ⟨⟨2, 20, by omega, rfl, by omega, (ba hbel _).grown hgrow ((ba hbel _).size) (fun g hg => (hown0.lt g hg).1), .inr ⟨by omega, own_of hown (Nat.le_refl _) (by simp [txt, hexL, bv, hex_at]) rfl⟩⟩, by simp [intOf]⟩
      · obtain rfl : m = 20 := by omega
        clear hm hk h8
        have a0 : bits .and .u32 (v / 1048576) 15 = v / 1048576 % 16 := and15 _ (by omega) (by omega)
        have p0 : 0 ≤ v / 1048576 % 16 := by omega
        have q0 : v / 1048576 % 16 < 16 := by omega
        rcases hst with ⟨hn, _⟩ | ⟨_, hown0⟩
        · omega
        · go_wp2_with (at_builtin; refine wpList_append_own _ rfl _ _ 59 rfl w.heap.size 5 i0 (.int .u8 0) 1 1 Tryd.underlying59 hi hz0 hz1 hz2 rfl (by decide) _ _ _ rfl (hown0.alloc _) ⟨_, 0, none⟩ 1 1 _ rfl rfl (one_new _ _ _ _ rfl) (oc _ _) (by decide) (by decide) (by have := hbel.size; simp; omega) ?_; intro v1 w1 hown hgrow _)
          exact ⟨⟨3, 16, by omega, rfl, by omega, (ba hbel _).grown hgrow ((ba hbel _).size) (fun g hg => (hown0.lt g hg).1), .inr ⟨by omega, own_of hown (Nat.le_refl _) (by simp [txt, hexL, bv, hex_at]) rfl⟩⟩, by simp [intOf]⟩
      · obtain rfl : m = 16 := by omega
        clear hm hk h8
        have a0 : bits .and .u32 (v / 65536) 15 = v / 65536 % 16 := and15 _ (by omega) (by omega)
        have p0 : 0 ≤ v / 65536 % 16 := by omega
        have q0 : v / 65536 % 16 < 16 := by omega
        rcases hst with ⟨hn, _⟩ | ⟨_, hown0⟩
        · omega
        · go_wp2_with (at_builtin; refine wpList_append_own _ rfl _ _ 59 rfl w.heap.size 5 i0 (.int .u8 0) 1 1 Tryd.underlying59 hi hz0 hz1 hz2 rfl (by decide) _ _ _ rfl (hown0.alloc _) ⟨_, 0, none⟩ 1 1 _ rfl rfl (one_new _ _ _ _ rfl) (oc _ _) (by decide) (by decide) (by have := hbel.size; simp; omega) ?_; intro v1 w1 hown hgrow _)
          exact ⟨⟨4, 12, by omega, rfl, by omega, (ba hbel _).grown hgrow ((ba hbel _).size) (fun g hg => (hown0.lt g hg).1), .inr ⟨by omega, own_of hown (Nat.le_refl _) (by simp [txt, hexL, bv, hex_at]) rfl⟩⟩, by simp [intOf]⟩
      · obtain rfl : m = 12 := by omega
        clear hm hk h8
        have a0 : bits .and .u32 (v / 4096) 15 = v / 4096 % 16 := and15 _ (by omega) (by omega)
        have p0 : 0 ≤ v / 4096 % 16 := by omega
        have q0 : v / 4096 % 16 < 16 := by omega
        rcases hst with ⟨hn, _⟩ | ⟨_, hown0⟩
        · omega
        · go_wp2_with (at_builtin; refine wpList_append_own _ rfl _ _ 59 rfl w.heap.size 5 i0 (.int .u8 0) 1 1 Tryd.underlying59 hi hz0 hz1 hz2 rfl (by decide) _ _ _ rfl (hown0.alloc _) ⟨_, 0, none⟩ 1 1 _ rfl rfl (one_new _ _ _ _ rfl) (oc _ _) (by decide) (by decide) (by have := hbel.size; simp; omega) ?_; intro v1 w1 hown hgrow _)
          exact ⟨⟨5, 8, by omega, rfl, by omega, (ba hbel _).grown hgrow ((ba hbel _).size) (fun g hg => (hown0.lt g hg).1), .inr ⟨by omega, own_of hown (Nat.le_refl _) (by simp [txt, hexL, bv, hex_at]) rfl⟩⟩, by simp [intOf]⟩
      · obtain rfl : m = 8 := by omega
        clear hm hk h8
        have a0 : bits .and .u32 (v / 256) 15 = v / 256 % 16 := and15 _ (by omega) (by omega)
        have p0 : 0 ≤ v / 256 % 16 := by omega
        have q0 : v / 256 % 16 < 16 := by omega
        rcases hst with ⟨hn, _⟩ | ⟨_, hown0⟩
        · omega
        · go_wp2_with (at_builtin; refine wpList_append_own _ rfl _ _ 59 rfl w.heap.size 5 i0 (.int .u8 0) 1 1 Tryd.underlying59 hi hz0 hz1 hz2 rfl (by decide) _ _ _ rfl (hown0.alloc _) ⟨_, 0, none⟩ 1 1 _ rfl rfl (one_new _ _ _ _ rfl) (oc _ _) (by decide) (by decide) (by have := hbel.size; simp; omega) ?_; intro v1 w1 hown hgrow _)
          exact ⟨⟨6, 4, by omega, rfl, by omega, (ba hbel _).grown hgrow ((ba hbel _).size) (fun g hg => (hown0.lt g hg).1), .inr ⟨by omega, own_of hown (Nat.le_refl _) (by simp [txt, hexL, bv, hex_at]) rfl⟩⟩, by simp [intOf]⟩
      · obtain rfl : m = 4 := by omega
        clear hm hk h8
        have a0 : bits .and .u32 (v / 16) 15 = v / 16 % 16 := and15 _ (by omega) (by omega)
        have p0 : 0 ≤ v / 16 % 16 := by omega
        have q0 : v / 16 % 16 < 16 := by omega
        rcases hst with ⟨hn, _⟩ | ⟨_, hown0⟩
        · omega
        · go_wp2_with (at_builtin; refine wpList_append_own _ rfl _ _ 59 rfl w.heap.size 5 i0 (.int .u8 0) 1 1 Tryd.underlying59 hi hz0 hz1 hz2 rfl (by decide) _ _ _ rfl (hown0.alloc _) ⟨_, 0, none⟩ 1 1 _ rfl rfl (one_new _ _ _ _ rfl) (oc _ _) (by decide) (by decide) (by have := hbel.size; simp; omega) ?_; intro v1 w1 hown hgrow _)
          exact ⟨⟨7, 0, by omega, rfl, by omega, (ba hbel _).grown hgrow ((ba hbel _).size) (fun g hg => (hown0.lt g hg).1), .inr ⟨by omega, own_of hown (Nat.le_refl _) (by simp [txt, hexL, bv, hex_at]) rfl⟩⟩, by simp [intOf]⟩
      · obtain rfl : m = 0 := by omega
        clear hm hk h8
        have a0 : bits .and .u32 (v) 15 = v % 16 := and15 _ (by omega) (by omega)
        have p0 : 0 ≤ v % 16 := by omega
        have q0 : v % 16 < 16 := by omega
        rcases hst with ⟨hn, _⟩ | ⟨_, hown0⟩
        · omega
        · go_wp2_with (at_builtin; refine wpList_append_own _ rfl _ _ 59 rfl w.heap.size 5 i0 (.int .u8 0) 1 1 Tryd.underlying59 hi hz0 hz1 hz2 rfl (by decide) _ _ _ rfl (hown0.alloc _) ⟨_, 0, none⟩ 1 1 _ rfl rfl (one_new _ _ _ _ rfl) (oc _ _) (by decide) (by decide) (by have := hbel.size; simp; omega) ?_; intro v1 w1 hown hgrow _)
          exact ⟨⟨8, -4, by omega, rfl, by omega, (ba hbel _).grown hgrow ((ba hbel _).size) (fun g hg => (hown0.lt g hg).1), .inr ⟨by omega, own_of hown (Nat.le_refl _) (by simp [txt, hexL, bv, hex_at]) rfl⟩⟩, by simp [intOf]⟩
end Go.Proofs.YtfhmkmbdfeoegaaDoor
