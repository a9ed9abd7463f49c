/- The contracts of the reference's texts of numbers and of strconv.Itoa over this translation. Itoa asks for the table of powers of ten; all else asks only that numbers fit their kinds. -/
import Derived.Test.YtfhmkmbdfeoegaaDoorC
import Derived.Test.YtfhmkmbdfeoegaaDoorItoa
import Derived.WalkSmall
namespace Go.Proofs.YtfhmkmbdfeoegaaDoor
open Go.RowKit
set_option linter.unusedVariables false
set_option linter.unusedSimpArgs false

theorem below_grow {w : World} {k : Nat} {os : Array Obj} : Below w.heap.size w (Go.Sort.grow (w.drewN k) os) :=
  ⟨rfl, rfl, rfl, by simp [World.drewN], fun i hi => Go.Sort.heap_grow_old (w.drewN k) os hi⟩
def Tab (w : World) : Prop := Lib.TabIs Tryd.prog w "internal/strconv.uint64pow10" .u64 Lib.pow10Tab
theorem gTab : Tryd.prog.globalNamed "internal/strconv.uint64pow10" = some 0 := by kernel_rfl
theorem Tab.pos {w : World} (h : Tab w) : 0 < w.heap.size := by
  have := Lib.TabIs.cell h gTab 0 (by decide)
  rcases Nat.eq_zero_or_pos w.heap.size with h0 | h0
  · simp [World.cell?, h0] at this
  · exact h0
theorem Tab.later {w w1 : World} (h : Tab w) (hb : Below w.heap.size w w1) : Tab w1 := var?_below hb gTab h.pos h
theorem itoa_c (n : Int) (w : World) (h0 : 0 ≤ n) (h1 : n ≤ 65535) (ht : Tab w) :
    Calls Tryd.prog 45 #[.int .i64 n] w fun e w' => e = .returned (.string ⟨(Lib.decDigits n.toNat).toArray⟩) ∧ Below w.heap.size w w' :=
  (Tryd.strconv_Itoa n (by omega) (by omega) w ht).mono fun e w' ⟨he, k, os, hw⟩ => by
    subst he hw
    refine ⟨?_, below_grow⟩
    unfold Lib.itoa
    rw [if_neg (by omega)]

/-- The digits of the lower k places, the highest ahead. -/
def lowL (v : Int) : Nat → List UInt8
  | 0 => []
  | k + 1 => hexC (v / (16 : Int) ^ k % 16) :: lowL v k
theorem lowL_len (v : Int) (k : Nat) : (lowL v k).length = k := by
  induction k with
  | zero => rfl
  | succ k ih => simp [lowL, ih]
theorem lowL_txt (v : Int) : [48, 120] ++ lowL v 8 = txt v 8 := by simp [txt, lowL, hexL]

theorem hex_sl (z : Int) (h : 0 ≤ z) : (ByteArray.mk #[48, 49, 50, 51, 52, 53, 54, 55, 56, 57, 97, 98, 99, 100, 101, 102]).extract (z % 16).toNat (z % 16 + 1).toNat = ByteArray.mk #[hexC (z % 16)] := by
  have h0 : 0 ≤ z % 16 := by omega
  have h1 : z % 16 < 16 := by omega
  have e : (z % 16 + 1).toNat = (z % 16).toNat + 1 := by omega
  have h' : (z % 16).toNat < 16 := by omega
  rw [e]
  unfold hexC
  generalize (z % 16).toNat = n at h'
  have hall : ∀ n : Fin 16, (ByteArray.mk #[48, 49, 50, 51, 52, 53, 54, 55, 56, 57, 97, 98, 99, 100, 101, 102]).extract n.val (n.val + 1) = ByteArray.mk #[([48, 49, 50, 51, 52, 53, 54, 55, 56, 57, 97, 98, 99, 100, 101, 102] : List UInt8).getD n.val 0] := by decide
  exact hall ⟨n, h'⟩

set_option maxHeartbeats 400000 in
theorem rtext_c (v : Int) (w : World) (hv : U32 v) :
    Calls Tryd.prog 46 #[.int .u32 v] w fun e w' => e = .returned (.string ⟨(txt v 8).toArray⟩) ∧ Below w.heap.size w w' := by
  obtain ⟨v0, v1⟩ := hv
  go_enter Tryd.func46, Tryd.ntmps46
  go_wp2
  go_loop [0, 3, 4] (fun x s i => ∃ (k : Nat) (z : Int), k ≤ 8 ∧ i = .int .i64 k ∧ 0 ≤ z ∧ z ≤ 4294967295 ∧ Hid (z = v / (16 : Int) ^ k) ∧ x = .int .u32 z ∧ s = .string ⟨(lowL v k).toArray⟩) (fun _ _ i => (8 - intOf i).toNat)
  case atStart => exact ⟨0, v, by omega, rfl, v0, v1, by show v = _; simp, rfl, rfl⟩
  case round =>
    obtain ⟨k, z, hk, rfl, z0, z1, hz, rfl, rfl⟩ := hrel
    have a0 : bits .and .u32 z 15 = z % 16 := and15 _ (by omega) (by omega)
    have p0 : 0 ≤ z % 16 := by omega
    have q0 : z % 16 < 16 := by omega
    have hle : (lowL v k).length ≤ 8 := by rw [lowL_len]; omega
    by_cases h8 : k < 8
    · go_wp2
      go_roundw
      case rel =>
        have hz' := hz.out
        refine ⟨k + 1, z / 16, by omega, by go_num, by omega, by omega, ?_, rfl, ?_⟩
        · show z / 16 = v / (16 : Int) ^ (k + 1)
          rw [hz', Int.pow_succ, Int.ediv_ediv_of_nonneg (Int.pow_nonneg (by decide))]
        · rw [hex_sl z (by omega)]
          simp only [lowL]
          rw [← hz']
          rfl
      case measure => simp [intOf]; omega
    · go_wp2
      go_ret
      refine ⟨?_, b0 _⟩
      obtain rfl : k = 8 := by omega
      show Ending.returned (.string (ByteArray.mk #[48, 120] ++ ByteArray.mk (lowL v 8).toArray)) = _
      rw [← lowL_txt]
      rfl

theorem conv_one (W : World) (c : Int) (h0 : 0 ≤ c) (h1 : c < 256) : (convert 59 9 (.slice (some ⟨W.heap.size, 0, none⟩) 1 1)).run Tryd.prog (W.alloc (.cells #[.int .u8 c] 5)) = .ok (.string ⟨#[UInt8.ofNat c.toNat]⟩) (W.alloc (.cells #[.int .u8 c] 5)) := by
  refine run_convert_bytes_back (P := Tryd.prog) (W.alloc (.cells #[.int .u8 c] 5)) 59 9 5 ⟨W.heap.size, 0, none⟩ 1 [UInt8.ofNat c.toNat] Tryd.underlying59 Tryd.underlying5 Tryd.underlying9 (fun j hj => ?_)
  obtain rfl : j = 0 := by simpa using hj
  show (W.alloc (.cells #[.int .u8 c] 5)).cell? ⟨W.heap.size, 0, none⟩ = _
  rw [World.cell?_alloc_mark]
  have e : c.toNat % 256 = c.toNat := Nat.mod_eq_of_lt (by omega)
  simp [UInt8.toNat_ofNat', e]
  omega

/-- The digits ahead of the last one. -/
def preD (u : Nat) : List UInt8 := if u < 10 then [] else Lib.decDigits (u / 10)
theorem preD_snoc (u : Nat) : Lib.decDigits u = preD u ++ [UInt8.ofNat (48 + u % 10)] := by
  unfold preD
  by_cases h : u < 10
  · rw [if_pos h, Lib.decDigits_one h, Nat.mod_eq_of_lt h]; rfl
  · rw [if_neg h, Lib.decDigits, dif_neg h]
def DecRel (n u : Nat) (l : List UInt8) : Prop := Lib.decDigits n = preD u ++ l

def DL (m : Int) (k : Nat) : Prop := (k = 1 ∧ m ≤ 65535) ∨ (k = 2 ∧ m ≤ 6553) ∨ (k = 3 ∧ m ≤ 655) ∨ (k = 4 ∧ m ≤ 65) ∨ (k = 5 ∧ m ≤ 6)
theorem DL.le {m : Int} {k : Nat} (h : DL m k) : k ≤ 5 := by unfold DL at h; omega
theorem DL.next {m : Int} {k : Nat} (h : DL m k) (h10 : 10 ≤ m) : DL (m / 10) (k + 1) := by unfold DL at h ⊢; omega

set_option maxHeartbeats 400000 in
theorem rdec_c (n : Int) (w : World) (n0 : 0 ≤ n) (n1 : n ≤ 65535) :
    Calls Tryd.prog 47 #[.int .i64 n] w fun e w' => e = .returned (.string ⟨(Lib.decDigits n.toNat).toArray⟩) ∧ Below w.heap.size w w' := by
  have p0 : 0 ≤ 48 + n % 10 := by omega
  have p1 : 48 + n % 10 < 256 := by omega
  have kb := conv_one w (48 + n % 10) p0 p1
  go_enter Tryd.func47, Tryd.ntmps47
  go_wp2
  go_loopw [0, 3] (fun x s wr => ∃ (m : Int) (l : List UInt8), x = .int .i64 m ∧ 0 ≤ m ∧ m ≤ 65535 ∧ s = .string ⟨l.toArray⟩ ∧ DL m l.length ∧ DecRel n.toNat m.toNat l ∧ Below w.heap.size w wr) (fun x _ _ => (intOf x).toNat)
  case atStart =>
    refine ⟨n, [UInt8.ofNat (48 + n % 10).toNat], rfl, n0, n1, rfl, .inl ⟨rfl, n1⟩, ?_, ba (b0 _) _⟩
    unfold DecRel
    rw [preD_snoc, show (48 + n % 10).toNat = 48 + n.toNat % 10 from by omega]
  case round =>
    obtain ⟨m, l, rfl, m0, m1, rfl, hl, hr, hbel⟩ := hrel
    have hl5 := hl.le
    by_cases h10 : 10 ≤ m
    · have p2 : 0 ≤ 48 + m / 10 % 10 := by omega
      have p3 : 48 + m / 10 % 10 < 256 := by omega
      have kc := conv_one wr (48 + m / 10 % 10) p2 p3
      clear kb
      go_wp2
      go_roundw
      case rel =>
        refine ⟨m / 10, UInt8.ofNat (48 + (m / 10).toNat % 10) :: l, rfl, by omega, by omega, ?_, hl.next h10, ?_, ba hbel _⟩
        · rw [show (48 + m / 10 % 10).toNat = 48 + (m / 10).toNat % 10 from by omega]
          show Value.string (ByteArray.mk #[_] ++ ByteArray.mk l.toArray) = _
          rfl
        · unfold DecRel at hr ⊢
          rw [hr, show preD m.toNat = Lib.decDigits (m / 10).toNat from by unfold preD; rw [if_neg (by omega), show m.toNat / 10 = (m / 10).toNat from by omega], preD_snoc (m / 10).toNat]
          simp
      case measure => simp [intOf]; omega
    · clear kb
      go_wp2
      go_ret
      refine ⟨?_, hbel⟩
      unfold DecRel at hr
      rw [hr, show preD m.toNat = [] from by unfold preD; rw [if_pos (by omega)]]
      rfl
end Go.Proofs.YtfhmkmbdfeoegaaDoor
