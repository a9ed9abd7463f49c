/- Plain laws on 'less': it is an order, and what is made of a capability is not more than it was; the contract of the law's own 'less'. No condition but that numbers fit their kinds. -/
import Derived.Test.YtfhmkmbdfeoegaaDoorM
namespace Go.Proofs.YtfhmkmbdfeoegaaDoor
open Go.RowKit
set_option linter.unusedVariables false
set_option linter.unusedSimpArgs false

theorem andNot16 {x y : Int} (hx : U16 x) (hy : U16 y) : bits .andNot .u16 x y = ((x.toNat &&& (65535 - y.toNat) : Nat) : Int) := u16_andNot x y hx.1 (by have := hx.2; omega) hy.1 (by have := hy.2; omega)
theorem sub_iff {x y : Nat} (hx : x ≤ 65535) (hy : y ≤ 65535) : (x &&& (65535 - y)) = 0 ↔ ∀ i, x.testBit i = true → y.testBit i = true := by
  have hb : ∀ i, (65535 - y).testBit i = (decide (i < 16) && !y.testBit i) := fun i => by
    have h := Nat.testBit_two_pow_sub_succ (x := y) (n := 16) (by omega) i
    rw [← h]
    congr 1
    omega
  constructor
  · intro h i hi
    have h1 : (x &&& (65535 - y)).testBit i = false := by rw [h]; exact Nat.zero_testBit i
    rw [Nat.testBit_and, hi, hb, Bool.true_and] at h1
    have h16 : i < 16 := by
      rcases Nat.lt_or_ge i 16 with h' | h'
      · exact h'
      · rw [Nat.testBit_lt_two_pow (Nat.lt_of_le_of_lt hx (Nat.lt_of_lt_of_le (by decide : 65535 < 2 ^ 16) (Nat.pow_le_pow_right (by decide) h')))] at hi
        cases hi
    rw [decide_eq_true h16, Bool.true_and] at h1
    simpa using h1
  · intro h
    apply Nat.eq_of_testBit_eq
    intro i
    rw [Nat.testBit_and, hb, Nat.zero_testBit]
    cases hx : x.testBit i
    · rfl
    · rw [h i hx]; simp
theorem andNot_iff {x y : Int} (hx : U16 x) (hy : U16 y) : (bits .andNot .u16 x y == 0) = true ↔ ∀ i, x.toNat.testBit i = true → y.toNat.testBit i = true := by
  rw [andNot16 hx hy, beq_iff_eq, ← sub_iff (by have := hx.2; omega) (by have := hy.2; omega)]
  omega
theorem subB_iff {b t p b' t' p' : Int} (hp : U16 p) (hp' : U16 p') : subB b t p b' t' p' = true ↔ b' ≤ b ∧ t ≤ t' ∧ ∀ i, p.toNat.testBit i = true → p'.toNat.testBit i = true := by
  unfold subB
  rw [Bool.and_eq_true, Bool.and_eq_true, decide_eq_true_eq, decide_eq_true_eq, andNot_iff hp hp', and_assoc]
theorem subB_refl {b t p : Int} (hp : U16 p) : subB b t p b t p = true := (subB_iff hp hp).2 ⟨Int.le_refl _, Int.le_refl _, fun _ h => h⟩
theorem subB_trans {b t p b' t' p' b'' t'' p'' : Int} (hp : U16 p) (hp' : U16 p') (hp'' : U16 p'') (h : subB b t p b' t' p' = true) (k : subB b' t' p' b'' t'' p'' = true) : subB b t p b'' t'' p'' = true := by
  rw [subB_iff hp hp'] at h
  rw [subB_iff hp' hp''] at k
  rw [subB_iff hp hp'']
  exact ⟨Int.le_trans k.1 h.1, Int.le_trans h.2.1 k.2.1, fun i hi => k.2.2 i (h.2.2 i hi)⟩
theorem subB_anti {b t p b' t' p' : Int} (hp : U16 p) (hp' : U16 p') (h : subB b t p b' t' p' = true) (k : subB b' t' p' b t p = true) : b = b' ∧ t = t' ∧ p = p' := by
  rw [subB_iff hp hp'] at h
  rw [subB_iff hp' hp] at k
  refine ⟨by omega, by omega, ?_⟩
  have e : p.toNat = p'.toNat := by
    apply Nat.eq_of_testBit_eq
    intro i
    rw [Bool.eq_iff_iff]
    exact ⟨h.2.2 i, k.2.2 i⟩
  have := hp.1
  have := hp'.1
  omega
theorem subB_perm {b t p m b' t' : Int} (hp : U16 p) (hm : U16 m) (hb : b' ≤ b) (ht : t ≤ t') : subB b t (bits .and .u16 p m) b' t' p = true := by
  rw [subB_iff (and16_u hp hm) hp]
  refine ⟨hb, ht, fun i hi => ?_⟩
  rw [and16 hp hm, Int.toNat_natCast, Nat.testBit_and, Bool.and_eq_true] at hi
  exact hi.1

/-- 'less', as it answers. -/
def lessB (dtg : Bool) (db dt dp : Int) (ctg : Bool) (cb ct cp : Int) : Bool := !dtg || (ctg && subB db dt dp cb ct cp)
theorem less_same {ctg z : Bool} {cb ct cp : Int} (hp : U16 cp) : lessB (ctg && z) cb ct cp ctg cb ct cp = true := by
  unfold lessB
  rw [subB_refl hp]
  cases ctg <;> simp
theorem less_perm {ctg z : Bool} {cb ct cp m : Int} (hp : U16 cp) (hm : U16 m) : lessB (ctg && z) cb ct (bits .and .u16 cp m) ctg cb ct cp = true := by
  unfold lessB
  rw [subB_perm hp hm (Int.le_refl _) (Int.le_refl _)]
  cases ctg <;> simp
theorem has_sub {b t a n : Int} (ht : U32 t) (ha : U32 a) (hn : U32 n) (h : hasB b t a n = true) : b ≤ a ∧ (a + n) % 4294967296 ≤ t := by
  simp only [hasB, Bool.and_eq_true, decide_eq_true_eq] at h
  have := ht.2
  have := ha.1
  have := hn.1
  omega
theorem less_bounds {ctg z : Bool} {cb ct cp a n : Int} (hp : U16 cp) (ht : U32 ct) (ha : U32 a) (hn : U32 n) : lessB (ctg && (z && hasB cb ct a n)) a ((a + n) % 4294967296) cp ctg cb ct cp = true := by
  unfold lessB
  rcases Bool.eq_false_or_eq_true (hasB cb ct a n) with h | h
  · obtain ⟨h1, h2⟩ := has_sub ht ha hn h
    rw [show subB a ((a + n) % 4294967296) cp cb ct cp = true from (subB_iff hp hp).2 ⟨h1, h2, fun _ h => h⟩]
    cases ctg <;> simp
  · rw [h]; simp
theorem less_last {ctg z z' : Bool} {cb ct cp m a n : Int} (hp : U16 cp) (hm : U16 m) (ht : U32 ct) (ha : U32 a) (hn : U32 n) :
    lessB (((ctg && z) && z) && (z && hasB cb ct a n)) a ((a + n) % 4294967296) (bits .and .u16 cp m) ctg cb ct cp = true := by
  unfold lessB
  rcases Bool.eq_false_or_eq_true (hasB cb ct a n) with h | h
  · obtain ⟨h1, h2⟩ := has_sub ht ha hn h
    rw [subB_perm hp hm h1 h2]
    cases ctg <;> simp
  · rw [h]; simp
end Go.Proofs.YtfhmkmbdfeoegaaDoor
