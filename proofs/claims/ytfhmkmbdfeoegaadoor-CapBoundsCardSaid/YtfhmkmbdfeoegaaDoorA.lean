/- The contracts of the small functions of package cap over this translation: what each returns, and that nothing that was there is changed. No condition but that numbers fit their kinds. -/
import Derived.Test.YtfhmkmbdfeoegaaDoorRows
import Derived.WalkKit
import Derived.WalkSpells
import Derived.WalkLawsBesides
import Derived.BigQuiet
import Derived.Deep.RegionHeld3
import Derived.Lib.Hide
namespace Go.Proofs.YtfhmkmbdfeoegaaDoor
open Go.RowKit
set_option linter.unusedVariables false
set_option linter.unusedSimpArgs false

theorem bc {W w1 : World} (hb : Below W.heap.size W w1) {n : Nat} (h : n < W.heap.size) : (∀ o, w1.cell? ⟨n, o, none⟩ = W.cell? ⟨n, o, none⟩) ∧ (∀ o, w1.frozen? ⟨n, o, none⟩ = W.frozen? ⟨n, o, none⟩) ∧ n < w1.heap.size :=
  ⟨fun o => hb.cell (p := ⟨n, o, none⟩) h, fun o => hb.frozen (p := ⟨n, o, none⟩) h, by have := hb.size; omega⟩
theorem b0 (w : World) : Below w.heap.size w w := Below.refl _ _
theorem ba {w w1 : World} (h : Below w.heap.size w w1) (o : Obj) : Below w.heap.size w (w1.alloc o) := h.alloc h.size o
theorem bs {w w1 : World} (h : Below w.heap.size w w1) {p : Addr} (hp : w.heap.size ≤ p.block) (u : Value) : Below w.heap.size w (w1.setCell p u) := h.setCell hp u
theorem bt {w w1 w2 : World} (h : Below w.heap.size w w1) (k : Below w1.heap.size w1 w2) : Below w.heap.size w w2 := h.trans (k.mono h.size)

def U32 (x : Int) : Prop := 0 ≤ x ∧ x ≤ 4294967295
def U16 (x : Int) : Prop := 0 ≤ x ∧ x ≤ 65535
def hasB (b t x n : Int) : Bool := decide (b ≤ x) && decide (x + n ≤ t)
def permB (p m : Int) : Bool := bits .and .u16 p m == m
def may2B (b t a p y m : Int) : Bool := hasB b t a 1 && permB p m && (y == 0)
def sealB (y : Int) (ktg : Bool) (kb kt ka kp ky : Int) : Bool := (y == 0) && ktg && may2B kb kt ka kp ky 32 && decide (2 ≤ ka) && decide (ka < 1024)
def unsealB (y : Int) (ktg : Bool) (kb kt ka kp ky : Int) : Bool := decide (2 ≤ y) && ktg && may2B kb kt ka kp ky 64 && (ka == y)
def subB (b t p b' t' p' : Int) : Bool := decide (b' ≤ b) && decide (t ≤ t') && (bits .andNot .u16 p p' == 0)

set_option maxHeartbeats 400000 in
theorem kept_c (tg m : Bool) (b t a p y : Int) (w : World) :
    Calls Tryd.prog 40 #[.agg #[.bool tg, .int .u32 b, .int .u32 t, .int .u32 a, .int .u16 p, .int .u16 y], .bool m] w fun e w' =>
      e = .returned (.agg #[.bool (tg && m), .int .u32 (b), .int .u32 (t), .int .u32 (a), .int .u16 (p), .int .u16 (y)]) ∧ Below w.heap.size w w' := by
  cases tg
  · go_enter Tryd.func40, Tryd.ntmps40
    go_wp2
    refine bodyPost_ret (v := .agg #[.bool false, .int .u32 b, .int .u32 t, .int .u32 a, .int .u16 p, .int .u16 y]) (by simp [results, Tryd.results40, go_sem]) rfl ⟨rfl, by repeat (first | (with_reducible exact b0 _) | (with_reducible refine bs ?_ (by simp) _) | (with_reducible refine ba ?_ _) | (with_reducible refine Below.drew ?_))⟩
  · go_enter Tryd.func40, Tryd.ntmps40
    go_wp2
    refine bodyPost_ret (v := .agg #[.bool m, .int .u32 b, .int .u32 t, .int .u32 a, .int .u16 p, .int .u16 y]) (by simp [results, Tryd.results40, go_sem]) rfl ⟨rfl, by repeat (first | (with_reducible exact b0 _) | (with_reducible refine bs ?_ (by simp) _) | (with_reducible refine ba ?_ _) | (with_reducible refine Below.drew ?_))⟩

set_option maxHeartbeats 400000 in
theorem has_c (tg : Bool) (b t a p y : Int) (x n : Int) (w : World) (ht : U32 t) (hx : U32 x) (hn : U32 n) :
    Calls Tryd.prog 22 #[.agg #[.bool tg, .int .u32 b, .int .u32 t, .int .u32 a, .int .u16 p, .int .u16 y], .int .u32 x, .int .u32 n] w fun e w' =>
      e = .returned (.bool (hasB b t x n)) ∧ Below w.heap.size w w' := by
  obtain ⟨t0, t1⟩ := ht
  obtain ⟨x0, x1⟩ := hx
  obtain ⟨n0, n1⟩ := hn
  by_cases h : b ≤ x
  · go_enter Tryd.func22, Tryd.ntmps22
    go_wp2
    go_ret
    exact ⟨by simp [h, hasB], ba (b0 _) _⟩
  · go_enter Tryd.func22, Tryd.ntmps22
    go_wp2
    go_ret
    exact ⟨by rw [show hasB b t x n = false from by simp [hasB]; omega]; rfl, ba (b0 _) _⟩

set_option maxHeartbeats 400000 in
theorem may0_c (tg : Bool) (b t a p y : Int) (w : World) :
    Calls Tryd.prog 41 #[.agg #[.bool tg, .int .u32 b, .int .u32 t, .int .u32 a, .int .u16 p, .int .u16 y], .int .i64 0, .int .u16 0] w fun e w' =>
      e = .returned (.bool (y == 0)) ∧ Below w.heap.size w w' := by
  go_enter Tryd.func41, Tryd.ntmps41
  go_wp2
  go_ret
  exact ⟨rfl, ba (b0 _) _⟩

set_option maxHeartbeats 400000 in
theorem may1_c (tg : Bool) (b t a p y : Int) (m : Int) (w : World) :
    Calls Tryd.prog 41 #[.agg #[.bool tg, .int .u32 b, .int .u32 t, .int .u32 a, .int .u16 p, .int .u16 y], .int .i64 1, .int .u16 m] w fun e w' =>
      e = .returned (.bool (permB p m && (y == 0))) ∧ Below w.heap.size w w' := by
  rcases Bool.eq_false_or_eq_true (bits .and .u16 p m == m) with h | h
  · go_enter Tryd.func41, Tryd.ntmps41
    go_wp2
    go_ret
    exact ⟨by simp only [permB, h, Bool.true_and]; rfl, ba (b0 _) _⟩
  · go_enter Tryd.func41, Tryd.ntmps41
    go_wp2
    go_ret
    exact ⟨by simp only [permB, h, Bool.false_and]; rfl, ba (b0 _) _⟩

set_option maxHeartbeats 400000 in
theorem may2_c (tg : Bool) (b t a p y : Int) (m : Int) (w : World) (ht : U32 t) (ha : U32 a) :
    Calls Tryd.prog 41 #[.agg #[.bool tg, .int .u32 b, .int .u32 t, .int .u32 a, .int .u16 p, .int .u16 y], .int .i64 2, .int .u16 m] w fun e w' =>
      e = .returned (.bool (may2B b t a p y m)) ∧ Below w.heap.size w w' := by
  rcases Bool.eq_false_or_eq_true (hasB b t a 1) with g | g
  · rcases Bool.eq_false_or_eq_true (bits .and .u16 p m == m) with h | h
    · go_enter Tryd.func41, Tryd.ntmps41
      go_wp2_with (go_at_call 22; refine (has_c _ _ _ _ _ _ _ _ _ ht ha ⟨by omega, by omega⟩).mono ?_; rintro e w1 ⟨rfl, hb1⟩; obtain ⟨c10, f10, z10⟩ := bc hb1 (n := w.heap.size) (by first | assumption | (simp; done) | (simp; omega)))
      go_ret
      exact ⟨by simp only [may2B, permB, g, h, Bool.true_and]; rfl, bt (ba (b0 _) _) hb1⟩
    · go_enter Tryd.func41, Tryd.ntmps41
      go_wp2_with (go_at_call 22; refine (has_c _ _ _ _ _ _ _ _ _ ht ha ⟨by omega, by omega⟩).mono ?_; rintro e w1 ⟨rfl, hb1⟩; obtain ⟨c10, f10, z10⟩ := bc hb1 (n := w.heap.size) (by first | assumption | (simp; done) | (simp; omega)))
      go_ret
      exact ⟨by simp only [may2B, permB, g, h, Bool.true_and, Bool.false_and]; rfl, bt (ba (b0 _) _) hb1⟩
  · go_enter Tryd.func41, Tryd.ntmps41
    go_wp2_with (go_at_call 22; refine (has_c _ _ _ _ _ _ _ _ _ ht ha ⟨by omega, by omega⟩).mono ?_; rintro e w1 ⟨rfl, hb1⟩; obtain ⟨c10, f10, z10⟩ := bc hb1 (n := w.heap.size) (by first | assumption | (simp; done) | (simp; omega)))
    go_ret
    exact ⟨by simp only [may2B, permB, g, Bool.false_and]; rfl, bt (ba (b0 _) _) hb1⟩

set_option maxHeartbeats 400000 in
theorem setAddr_c (tg : Bool) (b t a p y : Int) (x : Int) (w : World) :
    Calls Tryd.prog 15 #[.agg #[.bool tg, .int .u32 b, .int .u32 t, .int .u32 a, .int .u16 p, .int .u16 y], .int .u32 x] w fun e w' =>
      e = .returned (.agg #[.bool (tg && (y == 0)), .int .u32 (b), .int .u32 (t), .int .u32 (x), .int .u16 (p), .int .u16 (y)]) ∧ Below w.heap.size w w' := by
  go_enter Tryd.func15, Tryd.ntmps15
  go_wp2
  go_region_with (first | (go_at_call 41; refine (may0_c _ _ _ _ _ _ _).mono ?_; rintro e w1 ⟨rfl, hb1⟩; obtain ⟨c10, f10, z10⟩ := bc hb1 (n := w.heap.size) (by first | assumption | (simp; done) | (simp; omega)); obtain ⟨c11, f11, z11⟩ := bc hb1 (n := w.heap.size + 1) (by first | assumption | (simp; done) | (simp; omega))) | (go_at_call 40; refine (kept_c _ _ _ _ _ _ _ _).mono ?_; rintro e w2 ⟨rfl, hb2⟩; obtain ⟨c20, f20, z20⟩ := bc hb2 (n := w.heap.size) (by first | assumption | (simp; done) | (simp; omega)); obtain ⟨c21, f21, z21⟩ := bc hb2 (n := w.heap.size + 1) (by first | assumption | (simp; done) | (simp; omega))))
  all_goals go_wp2
  all_goals refine bodyPost_ret (v := .agg #[.bool (tg && (y == 0)), .int .u32 (b), .int .u32 (t), .int .u32 (x), .int .u16 (p), .int .u16 (y)]) (by simp [results, Tryd.results15, go_sem, c21, c11]) rfl ⟨rfl, by repeat (first | (with_reducible exact b0 _) | (with_reducible refine bs ?_ (by simp) _) | (with_reducible refine ba ?_ _) | (with_reducible refine Below.drew ?_) | (with_reducible refine bt ?_ hb2) | (with_reducible refine bt ?_ hb1))⟩

set_option maxHeartbeats 400000 in
theorem andPerm_c (tg : Bool) (b t a p y : Int) (m : Int) (w : World) :
    Calls Tryd.prog 17 #[.agg #[.bool tg, .int .u32 b, .int .u32 t, .int .u32 a, .int .u16 p, .int .u16 y], .int .u16 m] w fun e w' =>
      e = .returned (.agg #[.bool (tg && (y == 0)), .int .u32 (b), .int .u32 (t), .int .u32 (a), .int .u16 (bits .and .u16 p m), .int .u16 (y)]) ∧ Below w.heap.size w w' := by
  go_enter Tryd.func17, Tryd.ntmps17
  go_wp2
  go_region_with (first | (go_at_call 41; refine (may0_c _ _ _ _ _ _ _).mono ?_; rintro e w1 ⟨rfl, hb1⟩; obtain ⟨c10, f10, z10⟩ := bc hb1 (n := w.heap.size) (by first | assumption | (simp; done) | (simp; omega)); obtain ⟨c11, f11, z11⟩ := bc hb1 (n := w.heap.size + 1) (by first | assumption | (simp; done) | (simp; omega))) | (go_at_call 40; refine (kept_c _ _ _ _ _ _ _ _).mono ?_; rintro e w2 ⟨rfl, hb2⟩; obtain ⟨c20, f20, z20⟩ := bc hb2 (n := w.heap.size) (by first | assumption | (simp; done) | (simp; omega)); obtain ⟨c21, f21, z21⟩ := bc hb2 (n := w.heap.size + 1) (by first | assumption | (simp; done) | (simp; omega))))
  all_goals go_wp2
  all_goals refine bodyPost_ret (v := .agg #[.bool (tg && (y == 0)), .int .u32 (b), .int .u32 (t), .int .u32 (a), .int .u16 (bits .and .u16 p m), .int .u16 (y)]) (by simp [results, Tryd.results17, go_sem, c21, c11]) rfl ⟨rfl, by repeat (first | (with_reducible exact b0 _) | (with_reducible refine bs ?_ (by simp) _) | (with_reducible refine ba ?_ _) | (with_reducible refine Below.drew ?_) | (with_reducible refine bt ?_ hb2) | (with_reducible refine bt ?_ hb1))⟩

set_option maxHeartbeats 400000 in
theorem clear_c (tg : Bool) (b t a p y : Int) (w : World) :
    Calls Tryd.prog 14 #[.agg #[.bool tg, .int .u32 b, .int .u32 t, .int .u32 a, .int .u16 p, .int .u16 y]] w fun e w' =>
      e = .returned (.agg #[.bool (false), .int .u32 (b), .int .u32 (t), .int .u32 (a), .int .u16 (p), .int .u16 (y)]) ∧ Below w.heap.size w w' := by
  go_enter Tryd.func14, Tryd.ntmps14
  go_wp2_with (go_at_call 40; refine (kept_c _ _ _ _ _ _ _ _).mono ?_; rintro e w2 ⟨rfl, hb2⟩; obtain ⟨c20, f20, z20⟩ := bc hb2 (n := w.heap.size) (by first | assumption | (simp; done) | (simp; omega)); obtain ⟨c21, f21, z21⟩ := bc hb2 (n := w.heap.size + 1) (by first | assumption | (simp; done) | (simp; omega)))
  refine bodyPost_ret (v := .agg #[.bool (false), .int .u32 (b), .int .u32 (t), .int .u32 (a), .int .u16 (p), .int .u16 (y)]) (by simp [results, Tryd.results14, go_sem, c21]) rfl ⟨rfl, by repeat (first | (with_reducible exact b0 _) | (with_reducible refine bs ?_ (by simp) _) | (with_reducible refine ba ?_ _) | (with_reducible refine Below.drew ?_) | (with_reducible refine bt ?_ hb2))⟩

set_option maxHeartbeats 400000 in
theorem int_c (v : Int) (w : World) :
    Calls Tryd.prog 21 #[.int .u32 v] w fun e w' =>
      e = .returned (.agg #[.bool (false), .int .u32 (0), .int .u32 (0), .int .u32 (v), .int .u16 (0), .int .u16 (0)]) ∧ Below w.heap.size w w' := by
  go_enter Tryd.func21, Tryd.ntmps21
  go_wp2
  refine bodyPost_ret (v := .agg #[.bool (false), .int .u32 (0), .int .u32 (0), .int .u32 (v), .int .u16 (0), .int .u16 (0)]) (by simp [results, Tryd.results21, go_sem]) rfl ⟨rfl, by repeat (first | (with_reducible exact b0 _) | (with_reducible refine bs ?_ (by simp) _) | (with_reducible refine ba ?_ _) | (with_reducible refine Below.drew ?_))⟩

set_option maxHeartbeats 400000 in
theorem root_c (v : Int) (w : World) :
    Calls Tryd.prog 30 #[.int .u32 v] w fun e w' =>
      e = .returned (.agg #[.bool (true), .int .u32 (0), .int .u32 (v), .int .u32 (0), .int .u16 (127), .int .u16 (0)]) ∧ Below w.heap.size w w' := by
  go_enter Tryd.func30, Tryd.ntmps30
  go_wp2
  refine bodyPost_ret (v := .agg #[.bool (true), .int .u32 (0), .int .u32 (v), .int .u32 (0), .int .u16 (127), .int .u16 (0)]) (by simp [results, Tryd.results30, go_sem]) rfl ⟨rfl, by repeat (first | (with_reducible exact b0 _) | (with_reducible refine bs ?_ (by simp) _) | (with_reducible refine ba ?_ _) | (with_reducible refine Below.drew ?_))⟩

set_option maxHeartbeats 400000 in
theorem enter_c (tg : Bool) (b t a p y : Int) (w : World) :
    Calls Tryd.prog 18 #[.agg #[.bool tg, .int .u32 b, .int .u32 t, .int .u32 a, .int .u16 p, .int .u16 y]] w fun e w' =>
      e = .returned (.agg #[.bool (tg && (permB p 4 && (y == 0))), .int .u32 (b), .int .u32 (t), .int .u32 (a), .int .u16 (p), .int .u16 (1)]) ∧ Below w.heap.size w w' := by
  go_enter Tryd.func18, Tryd.ntmps18
  go_wp2_with (first | (go_at_call 41; refine (may1_c _ _ _ _ _ _ _ _).mono ?_; rintro e w1 ⟨rfl, hb1⟩; obtain ⟨c10, f10, z10⟩ := bc hb1 (n := w.heap.size) (by first | assumption | (simp; done) | (simp; omega)); obtain ⟨c11, f11, z11⟩ := bc hb1 (n := w.heap.size + 1) (by first | assumption | (simp; done) | (simp; omega))) | (go_at_call 40; refine (kept_c _ _ _ _ _ _ _ _).mono ?_; rintro e w2 ⟨rfl, hb2⟩; obtain ⟨c20, f20, z20⟩ := bc hb2 (n := w.heap.size) (by first | assumption | (simp; done) | (simp; omega)); obtain ⟨c21, f21, z21⟩ := bc hb2 (n := w.heap.size + 1) (by first | assumption | (simp; done) | (simp; omega))))
  refine bodyPost_ret (v := .agg #[.bool (tg && (permB p 4 && (y == 0))), .int .u32 (b), .int .u32 (t), .int .u32 (a), .int .u16 (p), .int .u16 (1)]) (by simp [results, Tryd.results18, go_sem, c21, c11]) rfl ⟨rfl, by repeat (first | (with_reducible exact b0 _) | (with_reducible refine bs ?_ (by simp) _) | (with_reducible refine ba ?_ _) | (with_reducible refine Below.drew ?_) | (with_reducible refine bt ?_ hb2) | (with_reducible refine bt ?_ hb1))⟩

set_option maxHeartbeats 400000 in
theorem bounds_c (tg : Bool) (b t a p y : Int) (n : Int) (w : World) (ht : U32 t) (ha : U32 a) (hn : U32 n) :
    Calls Tryd.prog 16 #[.agg #[.bool tg, .int .u32 b, .int .u32 t, .int .u32 a, .int .u16 p, .int .u16 y], .int .u32 n] w fun e w' =>
      e = .returned (.agg #[.bool (tg && ((y == 0) && hasB b t a n)), .int .u32 (a), .int .u32 ((a + n) % 4294967296), .int .u32 (a), .int .u16 (p), .int .u16 (y)]) ∧ Below w.heap.size w w' := by
  rcases Bool.eq_false_or_eq_true (y == 0) with g | g
  · go_enter Tryd.func16, Tryd.ntmps16
    go_wp2_with (first | (go_at_call 41; refine (may0_c _ _ _ _ _ _ _).mono ?_; rintro e w1 ⟨rfl, hb1⟩; obtain ⟨c10, f10, z10⟩ := bc hb1 (n := w.heap.size) (by first | assumption | (simp; done) | (simp; omega)); obtain ⟨c11, f11, z11⟩ := bc hb1 (n := w.heap.size + 1) (by first | assumption | (simp; done) | (simp; omega))) | (go_at_call 22; refine (has_c _ _ _ _ _ _ _ _ _ ht ha hn).mono ?_; rintro e w3 ⟨rfl, hb3⟩; obtain ⟨c30, f30, z30⟩ := bc hb3 (n := w.heap.size) (by first | assumption | (simp; done) | (simp; omega)); obtain ⟨c31, f31, z31⟩ := bc hb3 (n := w.heap.size + 1) (by first | assumption | (simp; done) | (simp; omega))) | (go_at_call 40; refine (kept_c _ _ _ _ _ _ _ _).mono ?_; rintro e w2 ⟨rfl, hb2⟩; obtain ⟨c20, f20, z20⟩ := bc hb2 (n := w.heap.size) (by first | assumption | (simp; done) | (simp; omega)); obtain ⟨c21, f21, z21⟩ := bc hb2 (n := w.heap.size + 1) (by first | assumption | (simp; done) | (simp; omega))))
    rw [g]
    refine bodyPost_ret (v := .agg #[.bool (tg && (true && hasB b t a n)), .int .u32 (a), .int .u32 ((a + n) % 4294967296), .int .u32 (a), .int .u16 (p), .int .u16 (y)]) (by simp [results, Tryd.results16, go_sem, c21, c11, c31]) rfl ⟨rfl, by repeat (first | (with_reducible exact b0 _) | (with_reducible refine bs ?_ (by simp) _) | (with_reducible refine ba ?_ _) | (with_reducible refine Below.drew ?_) | (with_reducible refine bt ?_ hb2) | (with_reducible refine bt ?_ hb1) | (with_reducible refine bt ?_ hb3))⟩
  · go_enter Tryd.func16, Tryd.ntmps16
    go_wp2_with (first | (go_at_call 41; refine (may0_c _ _ _ _ _ _ _).mono ?_; rintro e w1 ⟨rfl, hb1⟩; obtain ⟨c10, f10, z10⟩ := bc hb1 (n := w.heap.size) (by first | assumption | (simp; done) | (simp; omega)); obtain ⟨c11, f11, z11⟩ := bc hb1 (n := w.heap.size + 1) (by first | assumption | (simp; done) | (simp; omega))) | (go_at_call 22; refine (has_c _ _ _ _ _ _ _ _ _ ht ha hn).mono ?_; rintro e w3 ⟨rfl, hb3⟩; obtain ⟨c30, f30, z30⟩ := bc hb3 (n := w.heap.size) (by first | assumption | (simp; done) | (simp; omega)); obtain ⟨c31, f31, z31⟩ := bc hb3 (n := w.heap.size + 1) (by first | assumption | (simp; done) | (simp; omega))) | (go_at_call 40; refine (kept_c _ _ _ _ _ _ _ _).mono ?_; rintro e w2 ⟨rfl, hb2⟩; obtain ⟨c20, f20, z20⟩ := bc hb2 (n := w.heap.size) (by first | assumption | (simp; done) | (simp; omega)); obtain ⟨c21, f21, z21⟩ := bc hb2 (n := w.heap.size + 1) (by first | assumption | (simp; done) | (simp; omega))))
    rw [g]
    refine bodyPost_ret (v := .agg #[.bool (tg && (false && hasB b t a n)), .int .u32 (a), .int .u32 ((a + n) % 4294967296), .int .u32 (a), .int .u16 (p), .int .u16 (y)]) (by simp [results, Tryd.results16, go_sem, c21, c11]) rfl ⟨rfl, by repeat (first | (with_reducible exact b0 _) | (with_reducible refine bs ?_ (by simp) _) | (with_reducible refine ba ?_ _) | (with_reducible refine Below.drew ?_) | (with_reducible refine bt ?_ hb2) | (with_reducible refine bt ?_ hb1))⟩

end Go.Proofs.YtfhmkmbdfeoegaaDoor
